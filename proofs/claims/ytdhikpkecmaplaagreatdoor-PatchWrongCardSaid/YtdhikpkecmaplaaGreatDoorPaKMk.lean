/- The program's parser: what within hands to opened, walked. -/
import Derived.Test.YtdhikpkecmaplaaGreatDoorPaHMk
set_option linter.unusedSimpArgs false
set_option linter.unusedVariables false
set_option maxRecDepth 100000
set_option maxHeartbeats 4000000
namespace Go.Proofs.YtdhikpkecmaplaaGreatDoor
open Go.RowKit

def zbs (p : Nat) : Value := .func (.func 130) #[.pointer (some ⟨p, 0, none⟩)] #[]
theorem zlv (l:List Tok) (E:Nat->Nat->Nat->PR Ex) (o:Nat) (stop:List UInt8) (xs:List Ex) (i:Nat):za0 l i stop=(zav l E o stop 0 xs i).map (fun _=>())/\∀ y j,zav l E o stop 0 xs i=.ok y j->y=xs:=by
 rw [zav];unfold za0;by_cases hs2:isS l i stop=true
 ·rw [if_neg (by rw [hs2];decide),if_pos hs2];exact ⟨rfl,fun y j e=>by cases e;rfl⟩
 ·rw [if_pos (by simpa using hs2),if_neg hs2];exact ⟨rfl,fun y j e=>by cases e⟩
theorem ziZ {w:World} {p gp bq bp gl bs many:Nat} {v:Value} {l:List Tok} {i o:Nat} {stop:List UInt8} (h:PSt w p v l i (o+1)) (hE:PEnv l) (ho:o < 200) (E:Nat->Nat->Nat->PR Ex)
  (hq:OwnV w bq 261 [.slice (some ⟨gp,0,none⟩) many many]) (hp:OwnV w bp 122 [.pointer (some ⟨p,0,none⟩)]) (hl:OwnV w gl 182 [.slice none 0 0]) (hs:OwnV w bs 9 [.string (bstr stop)]) (hg:OwnV w gp 225 (List.replicate many (zbs p)))
  (n1:bq≠p) (n2:bp≠p) (n3:gl≠p) (n4:bs≠p) (n5:gp≠p) (n6:bq≠gl) (n7:bp≠gl) (n8:bs≠gl) (n9:gp≠gl) (hvl:∀ b,v.ownBlock=some b->b≠gl) (hm2:many<=2) (hm0:0 < many)
  (hX:∀ i' W,i<=i'->PSt W p v l i' (o+1)->Calls Tryz.prog 130 #[.pointer (some ⟨p,0,none⟩)] W (RdE l p v (o+1) W (ExN W.heap.size) (E i' (o+1) 1)))
  (hmon:∀ i' x m,E i' (o+1) 1=.ok x m->i' < m) :
  Calls Tryz.prog 169 #[.pointer (some ⟨bq,0,none⟩),.pointer (some ⟨bp,0,none⟩),.pointer (some ⟨gl,0,none⟩),.pointer (some ⟨bs,0,none⟩)] w (OpE l p v (o+1) (fun b=>b=p∨b=gl) w (XsBox w.heap.size gl) (zav l E o stop many [] i)):=by
 have hlt:=h.lt;have hglt:=hl.lt;have hv:=zao h;have Hq:=zh hq;have Hp:=zh hp;have Hl:=zh hl;have Hs:=zh hs;have Hg:=zh hg;have H:=zh h;have HX:=zh hX;have Hmon:=zh hmon;obtain ⟨final,hfin⟩:∃ r,zav l E o stop many [] i=r:=⟨_,rfl⟩;have Hf:=zh hfin;rw [hfin];have q0:=hq.cell (i:=0) rfl;clear h hq hp hl hs hg hX hfin hmon;go_enter Tryz.func169,Tryz.ntmps169
 go_wp2_with fail
 go_loopg [4,5,8,9,10,11,12,13,14,15,16,17,18,19,20,21,22,23,24] (many) (fun g _ _ t8 _ _ _ _ _ _ _ _ _ _ _ _ _ _ _ _ wr=>∃ (k i':Nat) (u:Value) (xs:List Ex) (cs:List Value),g=many - k/\k<=many/\i<=i'/\xs.length=k/\t8=.int .i64 k/\Hid (PSt wr p v l i' (o+1))/\Hid (OwnV wr gl 182 [u])/\Hid (wr.ownsRow w.heap.size 193 4 u k cs)/\Hid (ExsC wr (fun b=>w.heap.size<=b/\u.ownBlock≠some b) xs cs)/\Hid (zav l E o stop (many - k) xs i'=final)/\Hid (Only (fun b=>b=p∨b=gl) w wr))
 case atStart=>exact ⟨0,i,.slice none 0 0,[],[],rfl,by omega,zr _,rfl,rfl,H,Hl,zh (World.ownsRow_nil _ _ _ _),zh .nil,Hf,zh (Only.refl _ _)⟩
 case round =>
  clear H Hl Hf q0;obtain ⟨k,i',u,xs,cs,rfl,hkm,hii,hxs,rfl,HP,HL,HR,HXs,Hf,HT⟩:=hrel;have hsz0:=HT.out.size;have hkm2:(k:Int)<=2:=by omega
  by_cases hk:k=many
  · -- znZ the loop: need(end)
   subst hk;have hc:¬ ((k:Int) < (k:Int)):=by omega
   have p0:=(HT.out.own Hp.out (by simp [n2,n7])).cell (i:=0) rfl;have s0:=(HT.out.own Hs.out (by simp [n4,n8])).cell (i:=0) rfl;have HN:=zh (zcv HP.out hE stop);have hf0:=zlv l E o stop xs i';rw [show zav l E o stop 0 xs i'=final from by rw [<- Hf.out,Nat.sub_self]] at hf0;rw [hf0.1] at HN;have Hf1:=zh hf0.2;clear hf0 Hf;go_wp2_with fail
   go_at_call 135;refine HN.out.mono ?_;intro e4 w4 he4;clear HN
   cases final with
   | err a c =>
    obtain ⟨he4,hT4⟩:=he4;unfold Bad at he4;subst he4;have HT4:=zh hT4;clear hT4;go_wp2_with fail
    exact ⟨rfl,rfl,HT.out.trans (HT4.out.mono fun _ _ e=>.inl e)⟩
   | ok y j =>
    obtain ⟨u4,rfl,rfl,hP4,hT4⟩:=he4;obtain rfl:=Hf1.out y j rfl;have HP4:=zh hP4;have HT4:=zh hT4;clear hP4 hT4;go_wp2_with fail
    refine bodyPost_ret (results_none rfl _ _ _) rfl ⟨rfl,⟨u,HT4.out.own HL.out n3,?_⟩,HP4.out,HT.out.trans (HT4.out.mono fun _ _ e=>.inl e)⟩;exact XsV.only (W:=wr) ⟨cs,by rw [hxs];exact HR.out,HXs.out⟩ HT4.out (fun b e=>by cases e;exact hlt)
  ·have hc:(k:Int) < (many:Int):=by omega
   have hk0:(0:Int)<=(k:Int):=by omega
   have hkz:¬ (k:Int) < 0:=by omega
   have hgk:wr.cell? ⟨gp,k,none⟩=some (zbs p):=(HT.out.own Hg.out (by simp [n5,n9])).cell (i:=k) (by rw [List.getElem?_replicate,if_pos (by omega)]);have p0:=(HT.out.own Hp.out (by simp [n2,n7])).cell (i:=0) rfl;have hgl2:=(HT.out.own Hg.out (by simp [n5,n9])).lt

   obtain ⟨mm,hmm⟩:∃ mm,many - k=mm+1:=⟨many - k - 1,by omega⟩
   have Hf1:Hid ((xs=[]->(E i' (o+1) 1).andThen (fun x j=>zav l E o stop mm [x] j)=final)/\(xs≠[]->isS l i' [44]=false->final=.err i' 120)/\(xs≠[]->isS l i' [44]=true->(E (i'+1) (o+1) 1).andThen (fun x j=>zav l E o stop mm (xs++[x]) j)=final)):=zh (by
    rw [<- Hf.out,hmm,zav]
    refine ⟨fun e=>by rw [if_pos e],fun e h2=>by rw [if_neg e,if_pos h2],fun e h2=>by rw [if_neg e,if_neg (by rw [h2];decide)]⟩)
   clear Hf;obtain hk1 | hk1:k=0∨0 < k:=by omega
   ·have hkp:¬ (0:Int) < (k:Int):=by omega
    have Hf2:Hid ((E i' (o+1) 1).andThen (fun x j=>zav l E o stop mm (xs++[x]) j)=final):=zh (by
     have hxe:xs=[]:=List.eq_nil_of_length_eq_zero (by omega);rw [<- Hf1.out.1 hxe,hxe]
     rfl)
    clear Hf1;have hgk0:wr.cell? ⟨gp,0,none⟩=some (zbs p):=by rw [<- hgk,hk1]
    go_upto_region 5 with (fail)
    have HP1:=HP;have HL1:=HL;have HR1:=HR;have HX1:=HXs;have HT1:=HT;clear HP HL HR HXs HT hgk hgk0 p0 hk1;have HC:Hid (∀ W,Below wr.heap.size wr W->Calls Tryz.prog 130 #[.pointer (some ⟨p,0,none⟩)] W (RdE l p v (o+1) W (ExN W.heap.size) (E i' (o+1) 1))):=zh (fun W hb=>HX.out i' W (by omega) (HP1.out.below hb));have hmn:=Hmon.out i';generalize E i' (o+1) 1=R at HC Hf2 hmn;have l0:=HL1.out.cell (i:=0) rfl;obtain ⟨ua,cap,rfl,-,-⟩:=Sl.form (Sl.of_own HR1.out);unfold zbs
    cases R with
    | err a c =>
     have Hf3:Hid (.err a c=final):=Hf2;clear hmn hkm2 hk hc hk0 hkz hkm hmm hxs hkp;refine zdi [0,0,5,0,3,2,2,2,2] (fun b w'=>Below wr.heap.size wr w'/\(b=false->w'=wr.drew)) (by kernel_rfl) (by kernel_rfl) ⟨(Below.refl _ _).drew,fun _=>rfl⟩ ?_;try simp only [Act.put,zs1,zs3,zs2]
     apply stepsDie2.val
     ·rintro b w' hE;have HE:=zh hE;have l0':=Below.keep hE.1 l0;clear hE;try simp only [Act.put,zs1,zs3,zs2]
      go_wp2;exact ⟨rfl,HE.out⟩
     try simp only [Act.put,zs1,zs3,zs2]
     apply stepsDie2.val
     ·rintro b w' hE;have HE:=zh hE;clear hE;try simp only [Act.put,zs1,zs3,zs2]
      go_wp2;exact ⟨rfl,HE.out⟩
     try simp only [Act.put,zs1,zs3,zs2]
     apply stepsDie2.dies
     ·rintro b w' hE;have HE:=zh hE;clear hE;try simp only [Act.put,zs1,zs3,zs2]
      go_wp2_with fail
      go_at_call 130;refine (HC.out _ HE.out.1).mono ?_;rintro e5 w5 ⟨he5,hT5⟩;unfold Bad at he5;subst he5;exact fun aa haa=>⟨haa,by rw [<- Hf3.out];exact ⟨rfl,HT1.out.trans ((Only.of_below HE.out.1).trans (hT5.mono fun _ _ e=>.inl e))⟩⟩
     try simp only [Act.put,zs1,zs3,zs2]
     apply stepsDie2.val
     ·rintro b w' hE;have HE:=zh hE;clear hE;try simp only [Act.put,zs1,zs3,zs2]
      go_wp2;exact ⟨rfl,HE.out⟩
     try simp only [Act.put,zs1,zs3,zs2]
     apply stepsDie2.mem
     ·rintro w' ⟨-,hE0⟩;obtain rfl:=hE0 rfl;try simp only [Act.put,zs1,zs3,zs2]
      go_wp2;have hba:Below wr.heap.size wr (wr.alloc (.cells #[.int .u8 0,.int .i64 0,.string { data:=#[] },.slice none 0 0] 193)).drew:=((Below.refl _ _).alloc (zr _) _).drew;first | exact ⟨rfl,hba⟩ | exact ⟨rfl,hba,fun h=>by cases h⟩
     apply stepsDie2.skip;apply stepsDie2.skip;apply stepsDie2.skip;apply stepsDie2.skip
     exact stepsDie2.done
    | ok x j2 =>
     have hj12:=hmn x j2 rfl;obtain ⟨op5,n5',name5,args5⟩:=x;have Hf3:Hid (zav l E o stop mm (xs++[.mk op5 n5' name5 args5]) j2=final):=Hf2;clear hmn Hf2;have hglk:gl < wr.heap.size:=HL1.out.lt;have hkk:(k:Int) < (k:Int)+1:=by omega
     have Hxs:=zh hxs;have Hk:=zh (show many - k=mm+1/\k < many from ⟨hmm,by omega⟩);clear hkm2 hk hc hkz hkm hmm hxs hkp;go_region_law (first | (refine zaR rfl (.tmp 17) (.tmp 21) 182 rfl hRA zbx Tryz.underlying182 rfl (by decide) (by simp [Act.eval,Act.put]) hSA (by simp [Act.eval,Act.put]) zd1 (by have:=Hk.out.2;unfold maxLen;omega) (by have:=Hk.out.2;omega) (by first | exact hsz5 | (simp;omega)) ?_;intro v6 w6 hown6 hg6 hb6 hat6;have hat6':=hat6;obtain ⟨g6,cap6,rfl,hmg6⟩:=zcd hown6;have hL6:OwnV w6 gl 182 [.slice ua k cap]:=OwnV.grown (by first | exact hL5 | exact hL5.alloc _) hg6 (fun e=>by have:=(hR5.lt gl e.symm).1;omega);have l6:=hL6.cell (i:=0) rfl;have lf6:=hL6.free;have f0:=hown6.frozenAt (k * 4);have f1:=hown6.frozenAt (k * 4+1);have f2:=hown6.frozenAt (k * 4+2);have f3:=hown6.frozenAt (k * 4+3);obtain ⟨c0,c1,c2,c3⟩:=zez hown6;have hne6:¬ g6=gl:=(by omega);have hne6':¬ gl=g6:=(by omega)) | (refine zaR rfl (.tmp 17) (.tmp 21) 182 rfl hR5 zbx Tryz.underlying182 rfl (by decide) (by simp [Act.eval,Act.put]) hSB (by simp [Act.eval,Act.put]) zd1 (by have:=Hk.out.2;unfold maxLen;omega) (by have:=Hk.out.2;omega) (by first | exact hsz5 | (simp;omega)) ?_;intro v6 w6 hown6 hg6 hb6 hat6;have hat6':=hat6;obtain ⟨g6,cap6,rfl,hmg6⟩:=zcd hown6;have hL6:OwnV w6 gl 182 [.slice ua k cap]:=OwnV.grown (by first | exact hL5 | exact hL5.alloc _) hg6 (fun e=>by have:=(hR5.lt gl e.symm).1;omega);have l6:=hL6.cell (i:=0) rfl;have lf6:=hL6.free;have f0:=hown6.frozenAt (k * 4);have f1:=hown6.frozenAt (k * 4+1);have f2:=hown6.frozenAt (k * 4+2);have f3:=hown6.frozenAt (k * 4+3);obtain ⟨c0,c1,c2,c3⟩:=zez hown6;have hne6:¬ g6=gl:=(by omega);have hne6':¬ gl=g6:=(by omega)) | (go_simp;refine (HC.out _ (by first | exact (Below.refl _ _).drew | exact (Below.refl _ _).drew.alloc (zr _) _ | exact ((Below.refl _ _).alloc (zr _) _).drew)).mono ?_;rintro e5 w5 ⟨u5,rfl,⟨cs5,rfl,hX5⟩,hP5,hT5⟩;obtain ⟨aa5,cp5,rfl⟩:=hX5.form1;have hR5:w5.ownsRow w.heap.size 193 4 (.slice ua k cap) k cs:=Only.row hT5 (by first | exact HR1.out | exact HR1.out.alloc _) (fun g hg e=>by have:=(HR1.out.lt g hg).1;omega);have hL5:OwnV w5 gl 182 [.slice ua k cap]:=Only.own hT5 (by first | exact HL1.out | exact HL1.out.alloc _) n3;have l5:=hL5.cell (i:=0) rfl;have l5a:=(hL5.alloc (.cells #[.int .u8 0,.int .i64 0,.string { data:=#[] },.slice none 0 0] 193)).cell (i:=0) rfl;have hRA:(w5.alloc (.cells #[.int .u8 0,.int .i64 0,.string { data:=#[] },.slice none 0 0] 193)).ownsRow w.heap.size 193 4 (.slice ua k cap) k cs:=hR5.alloc _;have hSA:Sl (w5.alloc (.cells #[.int .u8 0,.int .i64 0,.string { data:=#[] },.slice none 0 0] 193)) 4 1 zeroE (.slice (some ⟨w5.heap.size,0,none⟩) 1 1):=zcw (OwnV.new w5 193 zeroE) rfl (zr _) (by decide);have hsz5:w.heap.size<=w5.heap.size:=(Nat.le_trans hsz0 (by first | exact hT5.size | (have:=hT5.size;simp at this;omega)));(first | have hSB:Sl w5 4 1 zeroE (.slice (some ⟨wr.heap.size,0,none⟩) 1 1):=zcw (g:=wr.heap.size) (e:=193) (Only.own hT5 (OwnV.new wr.drew 193 zeroE) (by omega)) rfl (zr _) (by decide) | skip)))
     all_goals
      have hrw5:Turns p wr w5:=by first | exact (Turns.below (Below.refl _ _).drew).trans hT5 | exact (Turns.below ((Below.refl _ _).drew.alloc (zr _) _)).trans hT5 | exact (Turns.below ((Below.refl _ _).alloc (zr _) _).drew).trans hT5
      have hX5':ExsC w5 (fun b=>wr.heap.size<=b) [.mk op5 n5' name5 args5] [.int .u8 op5,.int .i64 n5',.string (bstr name5),.slice aa5 args5.length cp5]:=hX5.weak fun b _ h=>(by first | exact h | exact (show wr.heap.size<=b from Nat.le_trans (by simp) h))
      first | (obtain ⟨W7,hW7⟩:∃ W7,W7=(((((w6.setCell ⟨g6,k * 4,none⟩ (.int .u8 op5)).setCell ⟨g6,k * 4+1,none⟩ (.int .i64 n5')).setCell ⟨g6,k * 4+2,none⟩ (.string (bstr name5))).setCell ⟨g6,k * 4+3,none⟩ (.slice aa5 args5.length cp5)).setCell ⟨gl,0,none⟩ (.slice (some ⟨g6,0,none⟩) (k+1) cap6)):=⟨_,rfl⟩;rw [<- hW7];have hst:=zdj (W7:=W7) HT1.out hlt hglt n3 hv hvl HR1.out HX1.out hrw5 hP5 hX5' hL5 (by first | exact Below.refl _ _ | exact (Below.refl _ _).alloc (zr _) _) hg6 hat6' hown6 (.inl hW7);clear hW7) | (obtain ⟨W7,hW7⟩:∃ W7,W7=(((((w6.setCell ⟨gl,0,none⟩ (.slice (some ⟨g6,0,none⟩) (k+1) cap6)).setCell ⟨g6,k * 4,none⟩ (.int .u8 op5)).setCell ⟨g6,k * 4+1,none⟩ (.int .i64 n5')).setCell ⟨g6,k * 4+2,none⟩ (.string (bstr name5))).setCell ⟨g6,k * 4+3,none⟩ (.slice aa5 args5.length cp5)):=⟨_,rfl⟩;rw [<- hW7];have hst:=zdj (W7:=W7) HT1.out hlt hglt n3 hv hvl HR1.out HX1.out hrw5 hP5 hX5' hL5 (by first | exact Below.refl _ _ | exact (Below.refl _ _).alloc (zr _) _) hg6 hat6' hown6 (.inr hW7);clear hW7)
      have Hst:=zh hst;have hjl:i<=j2:=by omega
      have Hk2:=zh hkk;clear hst hrw5 hX5 hX5' hP5 hT5 hL5 hR5 hRA hSA hL6 hat6 hat6' hg6 hb6 l5 l5a l6 lf6 f0 f1 f2 f3 c0 c1 c2 c3 hown6 hsz5;have hwr:IntKind.i64.wrap ((k:Int)+1)=((k+1:Nat):Int):=by have:=Hk.out.2;rw [IntWalk.i64_in _ (by omega)];rfl
      go_wp2_with fail
      go_roundg (many - (k+1))
      case measure=>have:=Hk.out;omega
      case rel =>
       obtain ⟨r1,r2,r3,r4,r5⟩:=Hst.out;exact ⟨k+1,j2,_,xs++[.mk op5 n5' name5 args5],_,rfl,by have:=Hk.out;omega,hjl,by have:=Hxs.out;rw [List.length_append,this];rfl,by first | rfl | (rw [<- hwr];rfl),zh r1,zh r2,zh r3,zh r4,zh (by have e:many - (k+1)=mm:=(by have:=Hk.out;omega);rw [e];exact Hf3.out),zh r5⟩
   ·have hkp:(0:Int) < (k:Int):=by omega
    have hxn:xs≠[]:=fun e=>by rw [e] at hxs;simp at hxs;omega
    have Hf2:Hid ((za0 l i' [44]).andThen (fun _ j1=>(E j1 (o+1) 1).andThen (fun x j=>zav l E o stop mm (xs++[x]) j))=final):=zh (by
     unfold za0;by_cases h44:isS l i' [44]=true
     ·rw [if_neg (by rw [h44];decide)];exact Hf1.out.2.2 hxn h44
     ·rw [if_pos (by simpa using h44)];exact (Hf1.out.2.1 hxn (by simpa using h44)).symm)
    have HN:=zh (zcv HP.out hE [44])
    have hnx:∀ y j,za0 l i' [44]=.ok y j->i'<=j:=by
     unfold za0;intro y j e;split at e
     ·cases e
     ·cases e;omega
    generalize za0 l i' [44]=R0 at *
    clear Hf1;go_wp2_with fail
    go_at_call 135;refine HN.out.mono ?_;intro e4 w4 he4;clear HN
    cases R0 with
    | err a c =>
     obtain ⟨he4,hT4⟩:=he4;unfold Bad at he4;subst he4;have HT4:=zh hT4;clear hT4;have Hf3:Hid (.err a c=final):=Hf2;go_wp2_with fail
     refine ⟨rfl,?_⟩;rw [<- Hf3.out]
     exact ⟨rfl,HT.out.trans (HT4.out.mono fun _ _ e=>.inl e)⟩
    | ok y j =>
     obtain ⟨u4,rfl,rfl,hP4,hT4⟩:=he4;have hij:=hnx y j rfl;replace Hf2:Hid ((E j (o+1) 1).andThen (fun x j=>zav l E o stop mm (xs++[x]) j)=final):=Hf2;go_upto_region 5 with (fail)
     have HP1:=zh hP4;have HL1:=zh (hT4.own HL.out n3);have HR1:=zh (hT4.row HR.out (fun g hg e=>by have:=(HR.out.lt g hg).1;omega));have HX1:=zh (HXs.out.grown (Turns.grown (p:=p) hT4) (fun b e h=>by cases e;omega));have HT1:=zh (HT.out.trans (hT4.mono (fun _ _ e=>.inl e)):Only (fun b=>b=p∨b=gl) w w4);have hsz4:w.heap.size<=w4.heap.size:=HT1.out.size;clear HP HL HR HXs HT hT4 hP4 hgk p0 hk1 hxn;have HC:Hid (∀ W,Below w4.heap.size w4 W->Calls Tryz.prog 130 #[.pointer (some ⟨p,0,none⟩)] W (RdE l p v (o+1) W (ExN W.heap.size) (E j (o+1) 1))):=zh (fun W hb=>HX.out j W (by omega) (HP1.out.below hb));have hmn:=Hmon.out j;generalize E j (o+1) 1=R at HC Hf2 hmn;have l0:=HL1.out.cell (i:=0) rfl;obtain ⟨ua,cap,rfl,-,-⟩:=Sl.form (Sl.of_own HR1.out);unfold zbs
     cases R with
     | err a c =>
      have Hf3:Hid (.err a c=final):=Hf2;clear hmn hkm2 hk hc hk0 hkz hkm hmm hxs hkp;refine zdi [0,0,5,0,3,2,2,2,2] (fun b w'=>Below w4.heap.size w4 w'/\(b=false->w'=w4.drew)) (by kernel_rfl) (by kernel_rfl) ⟨(Below.refl _ _).drew,fun _=>rfl⟩ ?_;try simp only [Act.put,zs1,zs3,zs2]
      apply stepsDie2.val
      ·rintro b w' hE;have HE:=zh hE;have l0':=Below.keep hE.1 l0;clear hE;try simp only [Act.put,zs1,zs3,zs2]
       go_wp2;exact ⟨rfl,HE.out⟩
      try simp only [Act.put,zs1,zs3,zs2]
      apply stepsDie2.val
      ·rintro b w' hE;have HE:=zh hE;clear hE;try simp only [Act.put,zs1,zs3,zs2]
       go_wp2;exact ⟨rfl,HE.out⟩
      try simp only [Act.put,zs1,zs3,zs2]
      apply stepsDie2.dies
      ·rintro b w' hE;have HE:=zh hE;clear hE;try simp only [Act.put,zs1,zs3,zs2]
       go_wp2_with fail
       go_at_call 130;refine (HC.out _ HE.out.1).mono ?_;rintro e5 w5 ⟨he5,hT5⟩;unfold Bad at he5;subst he5;exact fun aa haa=>⟨haa,by rw [<- Hf3.out];exact ⟨rfl,HT1.out.trans ((Only.of_below HE.out.1).trans (hT5.mono fun _ _ e=>.inl e))⟩⟩
      try simp only [Act.put,zs1,zs3,zs2]
      apply stepsDie2.val
      ·rintro b w' hE;have HE:=zh hE;clear hE;try simp only [Act.put,zs1,zs3,zs2]
       go_wp2;exact ⟨rfl,HE.out⟩
      try simp only [Act.put,zs1,zs3,zs2]
      apply stepsDie2.mem
      ·rintro w' ⟨-,hE0⟩;obtain rfl:=hE0 rfl;try simp only [Act.put,zs1,zs3,zs2]
       go_wp2;have hba:Below w4.heap.size w4 (w4.alloc (.cells #[.int .u8 0,.int .i64 0,.string { data:=#[] },.slice none 0 0] 193)).drew:=((Below.refl _ _).alloc (zr _) _).drew;first | exact ⟨rfl,hba⟩ | exact ⟨rfl,hba,fun h=>by cases h⟩
      apply stepsDie2.skip;apply stepsDie2.skip;apply stepsDie2.skip;apply stepsDie2.skip
      exact stepsDie2.done
     | ok x j2 =>
      have hj12:=hmn x j2 rfl;obtain ⟨op5,n5',name5,args5⟩:=x;have Hf3:Hid (zav l E o stop mm (xs++[.mk op5 n5' name5 args5]) j2=final):=Hf2;clear hmn Hf2;have hglk:gl < w4.heap.size:=HL1.out.lt;have hkk:(k:Int) < (k:Int)+1:=by omega
      have Hxs:=zh hxs;have Hk:=zh (show many - k=mm+1/\k < many from ⟨hmm,by omega⟩);clear hkm2 hk hc hkz hkm hmm hxs hkp;go_region_law (first | (refine zaR rfl (.tmp 17) (.tmp 21) 182 rfl hRA zbx Tryz.underlying182 rfl (by decide) (by simp [Act.eval,Act.put]) hSA (by simp [Act.eval,Act.put]) zd1 (by have:=Hk.out.2;unfold maxLen;omega) (by have:=Hk.out.2;omega) (by first | exact hsz5 | (simp;omega)) ?_;intro v6 w6 hown6 hg6 hb6 hat6;have hat6':=hat6;obtain ⟨g6,cap6,rfl,hmg6⟩:=zcd hown6;have hL6:OwnV w6 gl 182 [.slice ua k cap]:=OwnV.grown (by first | exact hL5 | exact hL5.alloc _) hg6 (fun e=>by have:=(hR5.lt gl e.symm).1;omega);have l6:=hL6.cell (i:=0) rfl;have lf6:=hL6.free;have f0:=hown6.frozenAt (k * 4);have f1:=hown6.frozenAt (k * 4+1);have f2:=hown6.frozenAt (k * 4+2);have f3:=hown6.frozenAt (k * 4+3);obtain ⟨c0,c1,c2,c3⟩:=zez hown6;have hne6:¬ g6=gl:=(by omega);have hne6':¬ gl=g6:=(by omega)) | (refine zaR rfl (.tmp 17) (.tmp 21) 182 rfl hR5 zbx Tryz.underlying182 rfl (by decide) (by simp [Act.eval,Act.put]) hSB (by simp [Act.eval,Act.put]) zd1 (by have:=Hk.out.2;unfold maxLen;omega) (by have:=Hk.out.2;omega) (by first | exact hsz5 | (simp;omega)) ?_;intro v6 w6 hown6 hg6 hb6 hat6;have hat6':=hat6;obtain ⟨g6,cap6,rfl,hmg6⟩:=zcd hown6;have hL6:OwnV w6 gl 182 [.slice ua k cap]:=OwnV.grown (by first | exact hL5 | exact hL5.alloc _) hg6 (fun e=>by have:=(hR5.lt gl e.symm).1;omega);have l6:=hL6.cell (i:=0) rfl;have lf6:=hL6.free;have f0:=hown6.frozenAt (k * 4);have f1:=hown6.frozenAt (k * 4+1);have f2:=hown6.frozenAt (k * 4+2);have f3:=hown6.frozenAt (k * 4+3);obtain ⟨c0,c1,c2,c3⟩:=zez hown6;have hne6:¬ g6=gl:=(by omega);have hne6':¬ gl=g6:=(by omega)) | (go_simp;refine (HC.out _ (by first | exact (Below.refl _ _).drew | exact (Below.refl _ _).drew.alloc (zr _) _ | exact ((Below.refl _ _).alloc (zr _) _).drew)).mono ?_;rintro e5 w5 ⟨u5,rfl,⟨cs5,rfl,hX5⟩,hP5,hT5⟩;obtain ⟨aa5,cp5,rfl⟩:=hX5.form1;have hR5:w5.ownsRow w.heap.size 193 4 (.slice ua k cap) k cs:=Only.row hT5 (by first | exact HR1.out | exact HR1.out.alloc _) (fun g hg e=>by have:=(HR1.out.lt g hg).1;omega);have hL5:OwnV w5 gl 182 [.slice ua k cap]:=Only.own hT5 (by first | exact HL1.out | exact HL1.out.alloc _) n3;have l5:=hL5.cell (i:=0) rfl;have l5a:=(hL5.alloc (.cells #[.int .u8 0,.int .i64 0,.string { data:=#[] },.slice none 0 0] 193)).cell (i:=0) rfl;have hRA:(w5.alloc (.cells #[.int .u8 0,.int .i64 0,.string { data:=#[] },.slice none 0 0] 193)).ownsRow w.heap.size 193 4 (.slice ua k cap) k cs:=hR5.alloc _;have hSA:Sl (w5.alloc (.cells #[.int .u8 0,.int .i64 0,.string { data:=#[] },.slice none 0 0] 193)) 4 1 zeroE (.slice (some ⟨w5.heap.size,0,none⟩) 1 1):=zcw (OwnV.new w5 193 zeroE) rfl (zr _) (by decide);have hsz5:w.heap.size<=w5.heap.size:=(Nat.le_trans hsz4 (by first | exact hT5.size | (have:=hT5.size;simp at this;omega)));(first | have hSB:Sl w5 4 1 zeroE (.slice (some ⟨w4.heap.size,0,none⟩) 1 1):=zcw (g:=w4.heap.size) (e:=193) (Only.own hT5 (OwnV.new w4.drew 193 zeroE) (by omega)) rfl (zr _) (by decide) | skip)))
      all_goals
       have hrw5:Turns p w4 w5:=by first | exact (Turns.below (Below.refl _ _).drew).trans hT5 | exact (Turns.below ((Below.refl _ _).drew.alloc (zr _) _)).trans hT5 | exact (Turns.below ((Below.refl _ _).alloc (zr _) _).drew).trans hT5
       have hX5':ExsC w5 (fun b=>w4.heap.size<=b) [.mk op5 n5' name5 args5] [.int .u8 op5,.int .i64 n5',.string (bstr name5),.slice aa5 args5.length cp5]:=hX5.weak fun b _ h=>(by first | exact h | exact (show w4.heap.size<=b from Nat.le_trans (by simp) h))
       first | (obtain ⟨W7,hW7⟩:∃ W7,W7=(((((w6.setCell ⟨g6,k * 4,none⟩ (.int .u8 op5)).setCell ⟨g6,k * 4+1,none⟩ (.int .i64 n5')).setCell ⟨g6,k * 4+2,none⟩ (.string (bstr name5))).setCell ⟨g6,k * 4+3,none⟩ (.slice aa5 args5.length cp5)).setCell ⟨gl,0,none⟩ (.slice (some ⟨g6,0,none⟩) (k+1) cap6)):=⟨_,rfl⟩;rw [<- hW7];have hst:=zdj (W7:=W7) HT1.out hlt hglt n3 hv hvl HR1.out HX1.out hrw5 hP5 hX5' hL5 (by first | exact Below.refl _ _ | exact (Below.refl _ _).alloc (zr _) _) hg6 hat6' hown6 (.inl hW7);clear hW7) | (obtain ⟨W7,hW7⟩:∃ W7,W7=(((((w6.setCell ⟨gl,0,none⟩ (.slice (some ⟨g6,0,none⟩) (k+1) cap6)).setCell ⟨g6,k * 4,none⟩ (.int .u8 op5)).setCell ⟨g6,k * 4+1,none⟩ (.int .i64 n5')).setCell ⟨g6,k * 4+2,none⟩ (.string (bstr name5))).setCell ⟨g6,k * 4+3,none⟩ (.slice aa5 args5.length cp5)):=⟨_,rfl⟩;rw [<- hW7];have hst:=zdj (W7:=W7) HT1.out hlt hglt n3 hv hvl HR1.out HX1.out hrw5 hP5 hX5' hL5 (by first | exact Below.refl _ _ | exact (Below.refl _ _).alloc (zr _) _) hg6 hat6' hown6 (.inr hW7);clear hW7)
       have Hst:=zh hst;have hjl:i<=j2:=by omega
       have Hk2:=zh hkk;clear hst hrw5 hX5 hX5' hP5 hT5 hL5 hR5 hRA hSA hL6 hat6 hat6' hg6 hb6 l5 l5a l6 lf6 f0 f1 f2 f3 c0 c1 c2 c3 hown6 hsz5;have hwr:IntKind.i64.wrap ((k:Int)+1)=((k+1:Nat):Int):=by have:=Hk.out.2;rw [IntWalk.i64_in _ (by omega)];rfl
       go_wp2_with fail
       go_roundg (many - (k+1))
       case measure=>have:=Hk.out;omega
       case rel =>
        obtain ⟨r1,r2,r3,r4,r5⟩:=Hst.out;exact ⟨k+1,j2,_,xs++[.mk op5 n5' name5 args5],_,rfl,by have:=Hk.out;omega,hjl,by have:=Hxs.out;rw [List.length_append,this];rfl,by first | rfl | (rw [<- hwr];rfl),zh r1,zh r2,zh r3,zh r4,zh (by have e:many - (k+1)=mm:=(by have:=Hk.out;omega);rw [e];exact Hf3.out),zh r5⟩
theorem zgL (caps:Array Value) (W:World):(callFunc 169 caps).run Tryz.prog W=.ok (.enter 169 caps) W:=(enters_of (P:=Tryz.prog) Tryz.func169 (by kernel_rfl) rfl) caps W
theorem zce {w:World} {p gp many:Nat} {v:Value} {l:List Tok} {i o:Nat} {start stop:List UInt8} (h:PSt w p v l i o) (hE:PEnv l) (ho:o<=300) (E:Nat->Nat->Nat->PR Ex)
  (hg:OwnV w gp 225 (List.replicate many (zbs p))) (n5:gp≠p) (hm2:many<=2) (hm0:0 < many)
  (hX:∀ i' W,i < i'->o < 200->PSt W p v l i' (o+1)->Calls Tryz.prog 130 #[.pointer (some ⟨p,0,none⟩)] W (RdE l p v (o+1) W (ExN W.heap.size) (E i' (o+1) 1)))
  (hmon:∀ i' x m,E i' (o+1) 1=.ok x m->i' < m) :
  Calls Tryz.prog 129 #[.pointer (some ⟨p,0,none⟩),.string (bstr start),.string (bstr stop),.slice (some ⟨gp,0,none⟩) many many] w (RdE l p v o w (XsV w.heap.size) (zad l E i o start stop many)):=by
 have hlt:=h.lt;have hglt:=hg.lt;have hv:=zao h;have hmf:=zmf Tryz.prog
 obtain ⟨W1,hW1,hb1,hP1,hS1,hQ1,hL1,hsz⟩:∃ W1,W1=(((w.alloc (.cells #[.pointer (some ⟨p,0,none⟩)] 122)).alloc (.cells #[.string (bstr stop)] 9)).alloc (.cells #[.slice (some ⟨gp,0,none⟩) many many] 261)).alloc (.cells #[.slice none 0 0] 182)/\Below w.heap.size w W1/\OwnV W1 w.heap.size 122 [.pointer (some ⟨p,0,none⟩)]/\OwnV W1 (w.heap.size+1) 9 [.string (bstr stop)]/\OwnV W1 (w.heap.size+1+1) 261 [.slice (some ⟨gp,0,none⟩) many many]/\OwnV W1 (w.heap.size+1+1+1) 182 [.slice none 0 0]/\W1.heap.size=w.heap.size+4:=
  ⟨_,rfl,((((Below.refl _ _).alloc (zr _) _).alloc (by simp) _).alloc (by simp;omega) _).alloc (by simp;omega) _,(((OwnV.new _ _ _).alloc _).alloc _).alloc _,((za6 _ _ _ (by simp)).alloc _).alloc _,(za6 _ _ _ (by simp)).alloc _,za6 _ _ _ (by simp),by simp⟩
 have a0:=hP1.cell (i:=0) rfl;have H1:=h.below hb1;have hG1:=hg.below hb1 (zr _)
 have HC:=zh (zdz (S:=fun b=>b=p∨b=w.heap.size+1+1+1) H1 hE ho start 169 #[.pointer (some ⟨w.heap.size+1+1,0,none⟩),.pointer (some ⟨w.heap.size,0,none⟩),.pointer (some ⟨w.heap.size+1+1+1,0,none⟩),.pointer (some ⟨w.heap.size+1,0,none⟩)] (.inl rfl) (XsBox W1.heap.size (w.heap.size+1+1+1)) (fun W W' x hx ht=>hx.turns ht (by omega) (by omega)) (zav l E o stop many [] (i+1)) (zgL _)
  (fun his ho2 W hT hP=>by
   have hWs:=hT.size;have:=ziZ hP hE ho2 E (hT.own hQ1 (by omega)) (hT.own hP1 (by omega)) (hT.own hL1 (by omega)) (hT.own hS1 (by omega)) (hT.own hG1 (by omega)) (by omega) (by omega) (by omega) (by omega) (by omega) (by omega) (by omega) (by omega) (by omega) (fun b e=>by have:=hv b e;omega) hm2 hm0 (fun i' W' hi' hP'=>hX i' W' (by omega) ho2 hP') hmon;refine this.mono fun e w' he=>?_
   generalize zav l E o stop many [] (i+1)=R at *
   cases R with
   | err a c=>exact he
   | ok xs j =>
    obtain ⟨e1,⟨u,hO,hXs⟩,e3,e4⟩:=he
    exact ⟨e1,⟨u,hO,hXs.low hWs⟩,e3,e4⟩))
 have hR:zad l E i o start stop many=(zay l i start o).andThen (fun _ _=>zav l E o stop many [] (i+1)):=by
  unfold zad zay;split
  ·rfl
  ·split <;> rfl
 rw [hR]
 generalize ((zay l i start o).andThen (fun _ _=>zav l E o stop many [] (i+1)))=R at *
 have HW1:=zh hW1;have Hb1:=zh hb1;have Hsz:=zh hsz;clear hW1 hb1 hP1 hS1 hQ1 hL1 hsz H1 hG1 h hg hX hmon hR;go_enter Tryz.func129,Tryz.ntmps129
 go_upto_region 2 with (fail)
 rw [<- HW1.out];go_wp2_with fail
 go_at_call 168;refine HC.out.mono ?_;intro e4 w4 he4;clear HC
 cases R with
 | err a c =>
  obtain ⟨he4,hT4⟩:=he4;unfold Bad at he4;subst he4;have HT4:=zh hT4;clear hT4;go_wp2_with fail
  exact ⟨rfl,rfl,(Only.of_below (S:=fun b=>b=p) Hb1.out).transNew HT4.out (fun b e=>by
   rcases e with e | e
   ·exact .inl e
   ·exact .inr (by omega))⟩
 | ok x j =>
  obtain ⟨rfl,⟨u,hO,hXs⟩,hP4,hT4⟩:=he4;have x0:=hO.cell (i:=0) rfl;have HXs:=zh hXs;have HP4:=zh hP4;have HT4:=zh hT4;clear hXs hP4 hT4 hO;go_wp2_with fail
  refine bodyPost_ret (v:=u) (by simp [results,Tryz.results129,go_sem]) rfl ⟨_,rfl,HXs.out.low (by have:=Hsz.out;omega),HP4.out,?_⟩
  exact (Only.of_below (S:=fun b=>b=p) Hb1.out).transNew HT4.out (fun b e=>by
   rcases e with e | e
   ·exact .inl e
   ·exact .inr (by omega))
end Go.Proofs.YtdhikpkecmaplaaGreatDoor
