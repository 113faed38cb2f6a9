/- The reference parser's inside, walked. -/
import Derived.Test.YtdeneckmoejcfaaRParAZs
set_option linter.unusedSimpArgs false
set_option linter.unusedVariables false
set_option maxRecDepth 100000
namespace Go.Proofs.Ytdeneckmoejcfaa
open Go.RowKit

theorem zbx:(Try.prog.info? 65).map (fun i=>(i.zero,i.size,i.bytes))=some (some (.agg #[.int .u8 0,.int .i64 0,.string ByteArray.empty,.slice none 0 0]),4,56):=by kernel_rfl
theorem zcz (l:List Tok) (E:Nat->Nat->Nat->PR Ex) (v:Value) (i o many:Nat) (s s':List UInt8) (w:World) (hE:ExprC l E i) (hT:Toks w l v) (hG:Good l) (hi:i < l.length) (hm:l.length<=4611686018427387904) (ho:o<=300) (h0:0 < many) (h2:many<=2) :
  Calls Try.prog 78 #[v,.int .i64 i,.int .i64 o,.string (bstr s),.string (bstr s'),.int .i64 many] w fun e w'=>ExsE l i w w' e (zad l E i o s s' many)/\Below w.heap.size w w':=by
 have HEn:=zh (zd8 l v i s o w hT hi hm);have HS:Hid (zad l E i o s s' many=(zay l i s o).andThen fun _ j=>zav l E o s' many [] j):=zh rfl;generalize zad l E i o s s' many=final at HS ⊢
 cases hen:zay l i s o with
 | err a c =>
  have Hf:Hid (final=.err a c):=zh (by rw [HS.out,hen];rfl)
  have hac:a=i/\(c=120∨c=121):=by
   unfold zay at hen;split at hen
   ·cases hen;exact ⟨rfl,.inl rfl⟩
   ·split at hen
    ·cases hen;exact ⟨rfl,.inr rfl⟩
    ·cases hen
  obtain ⟨rfl,hc⟩:=hac;have hc0:(c != 0)=true:=by rcases hc with rfl | rfl <;> rfl
  rw [hen] at HEn;unfold zcE at HEn;have Hc:=zh hc;clear hen hc;go_enter Try.func78,Try.ntmps78
  go_wp2_with fail
  go_at_call 94;refine HEn.out.mono ?_;rintro e1 w2 ⟨rfl,rfl⟩;go_wp2_with fail
  exact yE (v:=.tuple #[.slice none 0 0,.int .i64 a,.int .i64 c]) (by simp [results,Try.results78,go_sem]) rfl ⟨by rw [Hf.out];exact ⟨rfl,Hc.out,hi⟩,yR _ _⟩
 | ok x j =>
  have hj:j=i+1/\isS l i s=true/\o < 200:=by
   unfold zay at hen;split at hen
   ·cases hen
   ·rename_i h1
    split at hen
    ·cases hen
    ·cases hen;exact ⟨rfl,by simpa using h1,by omega⟩
  obtain ⟨rfl,his,ho2⟩:=hj;have hi1:=hG.is_next hi his;have Hf:Hid (final=zav l E o s' (many - 0) [] (i+1)):=zh (by rw [HS.out,hen];rfl);rw [hen] at HEn;unfold zcE at HEn;have HT:=zh hT;obtain ⟨ta,tcap,rfl,_,_⟩:=Sl.form hT;clear hen his hT HS;go_enter Try.func78,Try.ntmps78
  go_wp2_with fail
  go_at_call 94;refine HEn.out.mono ?_;rintro e1 w2 ⟨rfl,rfl⟩;go_wp2_with fail
  go_loopw [1,12,13,14,16,17,18,19,20,33,34,35,36,37,38,39,40,41,42,43,44,45,46,47,48,49,50,51,52,53,54,55,56,57,58,59,60,61,62,63,64] (fun t1 _ _ _ t16 t17 _ _ _ _ _ _ _ _ _ _ _ _ _ _ _ _ _ _ _ _ _ _ _ _ _ _ _ _ _ _ _ _ _ _ _ wr=>∃ (k at':Nat) (xs:List Ex) (cs:List Value),k<=many/\xs.length=k/\i < at'/\at' < l.length/\t17=.int .i64 k/\t1=.int .i64 at'/\wr.ownsRow w.heap.size 65 4 t16 k cs/\Hid (ExsC wr (fun g=>w.heap.size<=g/\t16.ownBlock≠some g) xs cs)/\Hid (final=zav l E o s' (many - k) xs at')/\Hid (Below w.heap.size w wr)) (fun _ _ _ _ _ t17 _ _ _ _ _ _ _ _ _ _ _ _ _ _ _ _ _ _ _ _ _ _ _ _ _ _ _ _ _ _ _ _ _ _ _ _=>many - (intOf t17).toNat)
  case atStart=>exact ⟨0,i+1,[],[],by omega,rfl,by omega,hi1,rfl,by first | rfl | go_num,World.ownsRow_nil _ _ _ _,zh .nil,zh Hf.out,zh (yR _ _)⟩
  case round =>
   obtain ⟨k,at',xs,cs,hk,hxs,hia,hal,rfl,rfl,hown,HX,Hk,Hb⟩:=hrel;by_cases hlt:k < many
   ·have hlt1:(k:Int) < many:=by omega
    have HTr:Hid (Toks wr l (.slice ta l.length tcap)):=zh (Sl.below (by omega) HT.out Hb.out (zr _));rcases Nat.eq_zero_or_pos k with h0k | h0k
    ·have hk0:¬ 0 < k:=by omega
     have hk0':¬ (k:Int) > 0:=by omega
     have HK:Hid (final=(E at' (o+1) 1).andThen fun x j=>zav l E o s' (many - (k+1)) (xs++[x]) j):=zh (by
      have hn:xs=[]:=List.eq_nil_of_length_eq_zero (by omega);have hm1:many - k=(many - (k+1))+1:=by omega
      rw [Hk.out,hm1,zav,yP hn,hn]
      rfl)
     go_wp2_with fail
     have HE:=zh (hE (at') (o+1) 1 _ wr (by omega) (by omega) (by omega) (by omega) HTr.out);go_at_call 95;refine HE.out.mono ?_;rintro e1 w2 ⟨he1,hb2⟩;have Hb2:=zh hb2;clear hb2
     cases hEr:E (at') (o+1) 1 with
     | err a c =>
      rw [hEr] at he1;obtain ⟨op0,n0,nm0,ad0,m0,cp0,rfl,hc,hal2⟩:=he1;have Hf2:Hid (final=.err a c):=zh (by rw [HK.out,hEr];rfl);have hc0:(c != 0)=true:=by rcases hc with rfl | rfl <;> rfl
      have Hc:=zh hc;clear hc hEr;have hs2:w.heap.size<=w2.heap.size:=yT Hb.out.size Hb2.out.size;go_wp2_with fail
      exact yE (v:=.tuple #[.slice none 0 0,.int .i64 a,.int .i64 c]) (by simp [results,Try.results78,go_sem]) rfl ⟨by rw [Hf2.out];exact ⟨rfl,Hc.out,hal2⟩,(Hb.out.trans (Hb2.out.mono Hb.out.size)).alloc hs2 _⟩
     | ok x j2 =>
      rw [hEr] at he1;obtain ⟨v2,rfl,hX2,hj2,hj3⟩:=he1;have Hf2:Hid (final=zav l E o s' (many - (k+1)) (xs++[x]) j2):=zh (by rw [HK.out,hEr];rfl);clear hEr;obtain ⟨cs2,rfl,hX2⟩:=hX2
      cases hX2 with
      | cons g1 g2 g3 g4 =>
      cases g4;rename_i op n name args va ca
      obtain ⟨aa,acap,rfl,hca1,hca2⟩:=Sl.form g1;have HX2:=zh (ExsC.cons (op:=op) (n:=n) (name:=name) g1 g2 g3 ExsC.nil);clear g1 g2 g3;have hs2:w.heap.size<=w2.heap.size:=yT Hb.out.size Hb2.out.size;have hown2:=(zbu hown Hb2.out (zr _)).alloc (.cells #[.int .u8 op,.int .i64 n,.string (bstr name),.slice aa args.length acap] 65);have hbw:=(Hb.out.trans (Hb2.out.mono Hb.out.size)).alloc hs2 (.cells #[.int .u8 op,.int .i64 n,.string (bstr name),.slice aa args.length acap] 65);have Hbw:=zh hbw;clear hbw;go_wp2_with (at_builtin;refine zbj rfl (.tmp 60) (.tmp 62) 57 rfl hown2 zbx Try.underlying57 rfl (by decide) rfl 1 1 (by show Value.slice (some ⟨w2.heap.size+1,0,none⟩) 1 1=_;simp) rfl rfl (by unfold maxLen;omega) (by omega) Hbw.out.size ?_;intro v' w3 hown3 hg3 hb4 hat4)
      go_roundw
      case rel=>exact ⟨k+1,j2,xs++[.mk op n name args],cs++[.int .u8 op,.int .i64 n,.string (bstr name),.slice aa args.length acap],by omega,by rw [yA];simp [hxs],by omega,hj3,by go_num,rfl,hown3,zh (zfV hown HX.out Hb2.out HX2.out Hb.out.size ((yR _ _).alloc (zr _) _) hg3 hat4),zh Hf2.out,zh (Hbw.out.trans hb4)⟩
      case measure=>simp [intOf];omega
    ·have hk0':(k:Int) > 0:=by omega
     have HI:=zh (ze8 l _ at' [44] wr HTr.out hal)
     have HM:Hid (final=if isS l at' [44]=false then .err at' 120 else (E (at'+1) (o+1) 1).andThen fun x j=>zav l E o s' (many - (k+1)) (xs++[x]) j):=zh (by
      have hn:¬ xs=[]:=by intro h;rw [h] at hxs;simp at hxs;omega
      have hm1:many - k=(many - (k+1))+1:=by omega
      rw [Hk.out,hm1,zav,yN hn])
     obtain ⟨q,hq,hq2⟩:∃ q:Bool,isS l at' [44]=q/\(q=true->at'+1 < l.length):=⟨_,rfl,hG.is_next hal⟩;rw [hq] at HI HM;clear hq;cases q
     ·have Hf2:Hid (final=.err at' 120):=zh (by rw [HM.out,yP rfl]);go_wp2_with fail
      go_at_call 80;refine HI.out.mono ?_;rintro e1 w2 ⟨rfl,rfl⟩;go_wp2_with fail
      exact yE (v:=.tuple #[.slice none 0 0,.int .i64 at',.int .i64 120]) (by simp [results,Try.results78,go_sem]) rfl ⟨by rw [Hf2.out];exact ⟨rfl,.inl rfl,hal⟩,Hb.out⟩
     ·have hal1:=hq2 rfl;have HK:Hid (final=(E (at'+1) (o+1) 1).andThen fun x j=>zav l E o s' (many - (k+1)) (xs++[x]) j):=zh (by rw [HM.out,yN (by decide)]);clear HM hq2;go_wp2_with fail
      go_at_call 80;refine HI.out.mono ?_;rintro e1 w2 ⟨rfl,rfl⟩;go_wp2_with fail
      have HE:=zh (hE (at'+1) (o+1) 1 _ wr (by omega) (by omega) (by omega) (by omega) HTr.out);go_at_call 95;refine HE.out.mono ?_;rintro e1 w2 ⟨he1,hb2⟩;have Hb2:=zh hb2;clear hb2
      cases hEr:E (at'+1) (o+1) 1 with
      | err a c =>
       rw [hEr] at he1;obtain ⟨op0,n0,nm0,ad0,m0,cp0,rfl,hc,hal2⟩:=he1;have Hf2:Hid (final=.err a c):=zh (by rw [HK.out,hEr];rfl);have hc0:(c != 0)=true:=by rcases hc with rfl | rfl <;> rfl
       have Hc:=zh hc;clear hc hEr;have hs2:w.heap.size<=w2.heap.size:=yT Hb.out.size Hb2.out.size;go_wp2_with fail
       exact yE (v:=.tuple #[.slice none 0 0,.int .i64 a,.int .i64 c]) (by simp [results,Try.results78,go_sem]) rfl ⟨by rw [Hf2.out];exact ⟨rfl,Hc.out,hal2⟩,(Hb.out.trans (Hb2.out.mono Hb.out.size)).alloc hs2 _⟩
      | ok x j2 =>
       rw [hEr] at he1;obtain ⟨v2,rfl,hX2,hj2,hj3⟩:=he1;have Hf2:Hid (final=zav l E o s' (many - (k+1)) (xs++[x]) j2):=zh (by rw [HK.out,hEr];rfl);clear hEr;obtain ⟨cs2,rfl,hX2⟩:=hX2
       cases hX2 with
       | cons g1 g2 g3 g4 =>
       cases g4;rename_i op n name args va ca
       obtain ⟨aa,acap,rfl,hca1,hca2⟩:=Sl.form g1;have HX2:=zh (ExsC.cons (op:=op) (n:=n) (name:=name) g1 g2 g3 ExsC.nil);clear g1 g2 g3;have hs2:w.heap.size<=w2.heap.size:=yT Hb.out.size Hb2.out.size;have hown2:=(zbu hown Hb2.out (zr _)).alloc (.cells #[.int .u8 op,.int .i64 n,.string (bstr name),.slice aa args.length acap] 65);have hbw:=(Hb.out.trans (Hb2.out.mono Hb.out.size)).alloc hs2 (.cells #[.int .u8 op,.int .i64 n,.string (bstr name),.slice aa args.length acap] 65);have Hbw:=zh hbw;clear hbw;go_wp2_with (at_builtin;refine zbj rfl (.tmp 60) (.tmp 62) 57 rfl hown2 zbx Try.underlying57 rfl (by decide) rfl 1 1 (by show Value.slice (some ⟨w2.heap.size+1,0,none⟩) 1 1=_;simp) rfl rfl (by unfold maxLen;omega) (by omega) Hbw.out.size ?_;intro v' w3 hown3 hg3 hb4 hat4)
       go_roundw
       case rel=>exact ⟨k+1,j2,xs++[.mk op n name args],cs++[.int .u8 op,.int .i64 n,.string (bstr name),.slice aa args.length acap],by omega,by rw [yA];simp [hxs],by omega,hj3,by go_num,rfl,hown3,zh (zfV hown HX.out Hb2.out HX2.out Hb.out.size ((yR _ _).alloc (zr _) _) hg3 hat4),zh Hf2.out,zh (Hbw.out.trans hb4)⟩
       case measure=>simp [intOf];omega
   ·obtain rfl:k=many:=by omega
    have hlt1:¬ (k:Int) < k:=by omega
    have HTr:Hid (Toks wr l (.slice ta l.length tcap)):=zh (Sl.below (by omega) HT.out Hb.out (zr _));have HI:=zh (ze8 l _ at' s' wr HTr.out hal);have Hf2:Hid (final=if isS l at' s'=true then .ok xs (at'+1) else .err at' 120):=zh (by rw [Hk.out,Nat.sub_self,zav]);have HX2:=HX;have Hown:Hid (wr.ownsRow w.heap.size 65 4 u16 xs.length cs):=zh (by rw [hxs];exact hown);have hnx:isS l at' s'=true->at'+1 < l.length:=hG.is_next hal
    generalize isS l at' s'=q at *
    clear hown hxs HX Hk Hf;cases q
    ·have Hf3:Hid (final=.err at' 120):=zh (by rw [Hf2.out,yN (by decide)]);go_wp2_with fail
     go_at_call 80;refine HI.out.mono ?_;rintro e1 w2 ⟨rfl,rfl⟩;go_wp2_with fail
     exact yE (v:=.tuple #[.slice none 0 0,.int .i64 at',.int .i64 120]) (by simp [results,Try.results78,go_sem]) rfl ⟨by rw [Hf3.out];exact ⟨rfl,.inl rfl,hal⟩,Hb.out⟩
    ·have Hf3:Hid (final=.ok xs (at'+1)):=zh (by rw [Hf2.out,yP rfl]);have hnx2:=hnx rfl;go_wp2_with fail
     go_at_call 80;refine HI.out.mono ?_;rintro e1 w2 ⟨rfl,rfl⟩;go_wp2_with fail
     exact yE (v:=.tuple #[u16,.int .i64 ((at':Int)+1),.int .i64 0]) (by simp [results,Try.results78,go_sem]) rfl ⟨by rw [Hf3.out];exact ⟨_,rfl,⟨cs,Hown.out,HX2.out⟩,by omega,hnx2⟩,Hb.out⟩
theorem ExsC.set {w:World} {P:Nat->Prop} {xs:List Ex} {cs:List Value} (h:ExsC w P xs cs) {b o:Nat} {v:Value} (hP:¬ P b):ExsC (w.setCell ⟨b,o,none⟩ v) P xs cs:=
 h.grown (⟨rfl,rfl,rfl,by have:=((yR 0 w).setCell (p:=⟨b,o,none⟩) (Nat.zero_le _) v).size;exact this,fun k _ hne=>Below.heap_setCell w _ v k (fun e=>hne (by rw [e]))⟩:w.grownBy (w.setCell ⟨b,o,none⟩ v) (some b)) (fun g e=>by cases e;exact hP)
theorem zji (l:List Tok) (E:Nat->Nat->Nat->PR Ex) (v:Value) (i o:Nat) (w:World) (hT:Toks w l v) (hG:Good l) (hi:i < l.length) (hm:l.length<=4611686018427387904) (hk:(zaa l i).kind=2) :
  Calls Try.prog 114 #[v,.int .i64 i,.int .i64 o] w fun e w'=>zb4 l i w w' e (zah l E i o)/\Below w.heap.size w w':=by
 have hf:zah l E i o=.ok (.mk 1 (zaa l i).n [] []) (i+1):=by unfold zah;rw [yP hk]
 rw [hf];have hn:=hG.next hi (by rw [hk];decide);obtain ⟨a,cap,rfl,hc1,hc2⟩:=Sl.form hT;obtain ⟨b,off,rfl,c0,c1,c2,c3,c4⟩:=zaF hT hi;rw [hk] at c0;have hi1:(i:Int) < l.length:=by omega
 have hi2:(i:Int)<=4611686018427387904:=by omega
 have lt1:b < w.heap.size:=World.block_lt_of_cell? w _ c0;have ne1:¬ b=w.heap.size:=by omega
 generalize (zaa l i).n=N at *
 clear hf hk hG;go_enter Try.func114,Try.ntmps114
 go_wp2_with fail
 exact yE (v:=.tuple #[.agg #[.int .u8 1,.int .i64 N,.string { data:=#[] },.slice none 0 0],.int .i64 ((i:Int)+1),.int .i64 0]) (by simp [results,Try.results114,go_sem]) rfl ⟨⟨_,rfl,zcx,by omega,hn⟩,((yR _ _).alloc (zr _) _).alloc (by simp) _⟩
theorem opened (w:World) (X Y:List Value) (tX tY:TypeId):∃ W0,W0=(w.alloc (.cells X.toArray tX)).alloc (.cells Y.toArray tY)/\Below w.heap.size w W0/\OwnV W0 w.heap.size tX X/\OwnV W0 (w.heap.size+1) tY Y/\w.heap.size+2<=W0.heap.size:=by
 refine ⟨_,rfl,((yR _ _).alloc (zr _) _).alloc (by simp) _,(OwnV.new w tX X).alloc _,?_,by simp⟩;have:=OwnV.new (w.alloc (.cells X.toArray tX)) tY Y;simpa using this
def zeroE : List Value := [.int .u8 0, .int .i64 0, .string { data := #[] }, .slice none 0 0]
theorem zjj (l:List Tok) (E:Nat->Nat->Nat->PR Ex) (v:Value) (i o:Nat) (w:World) (hE:ExprC l E i) (hT:Toks w l v) (hG:Good l) (hi:i < l.length) (hm:l.length<=4611686018427387904) (ho:o<=300) (hk:((zaa l i).kind == 2)=false) (hp:isS l i [40]=true) :
  Calls Try.prog 114 #[v,.int .i64 i,.int .i64 o] w fun e w'=>zb4 l i w w' e (zah l E i o)/\Below w.heap.size w w':=by
 have hf:zah l E i o=(zad l E i o [40] [41] 1).andThen fun xs j=>match xs with
  | x :: _=>.ok x j
  | []=>.err j 0:=by unfold zah;rw [yN (by simpa using hk),yP hp];rfl
 have HI:Hid (∀ w',Below w.heap.size w w'->Calls Try.prog 80 #[v,.int .i64 i,.string { data:=#[40] }] w' fun e w''=>e=.returned (.bool true)/\w'=w''):=zh (fun (w':World) (hb:Below w.heap.size w w')=>by
  have:=ze8 l v i [40] w' (Sl.below (by omega) hT hb (zr _)) hi;rw [hp] at this
  exact this)
 have HN:Hid (∀ w',Below w.heap.size w w'->Calls Try.prog 78 #[v,.int .i64 i,.int .i64 o,.string { data:=#[40] },.string { data:=#[41] },.int .i64 1] w' fun e w''=>ExsE l i w' w'' e (zad l E i o [40] [41] 1)/\Below w'.heap.size w' w''):=zh (fun (w':World) (hb:Below w.heap.size w w')=>zcz l E v i o 1 [40] [41] w' hE (Sl.below (by omega) hT hb (zr _)) hG hi hm ho (by omega) (by omega));have Hlen:Hid (∀ ys j,zad l E i o [40] [41] 1=.ok ys j->ys.length=1):=zh (fun ys j h=>zdC h);obtain ⟨a,cap,rfl,hc1,hc2⟩:=Sl.form hT;obtain ⟨b,off,rfl,c0,c1,c2,c3,c4⟩:=zaF hT hi;have hi1:(i:Int) < l.length:=by omega
 have hi2:(i:Int)<=4611686018427387904:=by omega
 have lt1:b < w.heap.size:=World.block_lt_of_cell? w _ c0;have ne1:¬ b=w.heap.size:=by omega
 generalize zad l E i o [40] [41] 1=R at *
 rw [hf];clear hf hp hG hE hT
 generalize zaa l i=T at *
 go_enter Try.func114,Try.ntmps114
 go_wp2_with fail
 obtain ⟨W0,hW0,hb0,hBx,hTk,hsz⟩:=opened w zeroE (Tok.cells T) 65 108;simp only [zeroE,Tok.cells] at hW0 hBx hTk;rw [<- hW0];clear hW0 c0 c1 c2 c3 c4 lt1 ne1 hTk hk;have HBx:=zh hBx;have Hb0:=zh hb0;clear hBx hb0;go_at_call 80;refine (HI.out _ Hb0.out).mono ?_;rintro e1 w1 ⟨rfl,rfl⟩;go_wp2_with fail
 go_at_call 78;refine (HN.out _ Hb0.out).mono ?_;rintro e2 w2 ⟨he2,hb2⟩;have hBx2:=HBx.out.below hb2 (zr _);have Hb2:=zh (Hb0.out.trans (hb2.mono Hb0.out.size));obtain ⟨x0,x1,x2,x3⟩:=yc4 hBx2;have f0:=hBx2.free;clear hBx2 hb2
 cases R with
 | err a c =>
  obtain ⟨rfl,hc,hal⟩:=he2;have hc0:(c != 0)=true:=by rcases hc with rfl | rfl <;> rfl
  have Hc:=zh hc;clear hc;go_wp2_with fail
  refine yE (v:=.tuple #[.agg #[.int .u8 0,.int .i64 0,.string { data:=#[] },.slice none 0 0],.int .i64 a,.int .i64 c]) (by simp [results,Try.results114,go_sem,x0,x1,x2,x3]) rfl ⟨⟨_,_,_,_,_,_,rfl,Hc.out,hal⟩,?_⟩
  exact (((Hb2.out.setCell (zr _) _).setCell (zr _) _).setCell (zr _) _).setCell (zr _) _
 | ok xs j =>
  obtain ⟨v2,rfl,⟨cs,hown,hX⟩,hij,hjl⟩:=he2;replace hX:=hX.weak1;have hl1:=Hlen.out xs j rfl;rw [hl1] at hown;obtain ⟨a2,cap2,rfl,hc3,hc4⟩:=Sl.form (Sl.of_own hown);obtain ⟨b2,off2,rfl,-,hcell⟩:=Sl.at (by omega) (Sl.of_own hown) (by omega)
  obtain ⟨x,rfl⟩:∃ x,xs=[x]:=by
   match xs,hl1 with
   | [x],_=>exact ⟨x,rfl⟩
  obtain ⟨op,n,name,args,aa,acap,rfl,rfl⟩:=hX.one;have y0:=hcell 0 (by omega);have y1:=hcell 1 (by omega);have y2:=hcell 2 (by omega);have y3:=hcell 3 (by omega);simp only [Nat.add_zero] at y0;have hbe:w.heap.size+2<=b2:=yT hsz (zck hown b2 rfl);have HX:=zh hX;clear hX hown hcell hl1;go_wp2_with fail
  refine yE (v:=.tuple #[.agg #[.int .u8 op,.int .i64 n,.string (bstr name),.slice aa args.length acap],.int .i64 j,.int .i64 0]) (by simp [results,Try.results114,go_sem,x0,x1,x2,x3]) rfl ⟨⟨_,rfl,⟨_,rfl,?_⟩,hij,hjl⟩,(((Hb2.out.setCell (zr _) _).setCell (zr _) _).setCell (zr _) _).setCell (zr _) _⟩;have hP:¬ W0.heap.size<=w.heap.size:=by omega
  exact ((((HX.out.set hP).set hP).set hP).set hP).weak fun g _ h=>yT (by omega) h
theorem zal (l:List UInt8) (s:List UInt8):((bstr l).toList == s)=decide (l=s):=by
 rw [Bool.eq_iff_iff,beq_iff_eq,yQ,ByteArray.toList_eq,zdn]
theorem zbO {l:List Tok} {v:Value} {i:Nat} {s:List UInt8} {w:World} (hT:Toks w l v) (hi:i < l.length) {q:Bool} (hp:isS l i s=q):Hid (∀ w',Below w.heap.size w w'->Calls Try.prog 80 #[v,.int .i64 i,.string (bstr s)] w' fun e w''=>e=.returned (.bool q)/\w'=w''):=
 zh (fun (w':World) (hb:Below w.heap.size w w')=>by
  have:=ze8 l v i s w' (Sl.below (by omega) hT hb (zr _)) hi;rw [hp] at this
  exact this)
theorem zjk (l:List Tok) (E:Nat->Nat->Nat->PR Ex) (v:Value) (i o:Nat) (w:World) (hT:Toks w l v) (hi:i < l.length) (hm:l.length<=4611686018427387904) (hk:((zaa l i).kind == 2)=false) (hk1:((zaa l i).kind != 1)=true) (hp:isS l i [40]=false) :
  Calls Try.prog 114 #[v,.int .i64 i,.int .i64 o] w fun e w'=>zb4 l i w w' e (zah l E i o)/\Below w.heap.size w w':=by
 have hf:zah l E i o=.err i 120:=by unfold zah;rw [yN (by simpa using hk),yN (by rw [hp];decide),yP (by simpa using hk1)]
 rw [hf];have HI:Hid (∀ w',Below w.heap.size w w'->Calls Try.prog 80 #[v,.int .i64 i,.string { data:=#[40] }] w' fun e w''=>e=.returned (.bool false)/\w'=w''):=zbO hT hi hp;obtain ⟨a,cap,rfl,hc1,hc2⟩:=Sl.form hT;obtain ⟨b,off,rfl,c0,c1,c2,c3,c4⟩:=zaF hT hi;have hi1:(i:Int) < l.length:=by omega
 have hi2:(i:Int)<=4611686018427387904:=by omega
 have lt1:b < w.heap.size:=World.block_lt_of_cell? w _ c0;have ne1:¬ b=w.heap.size:=by omega
 clear hf hp hT
 generalize zaa l i=T at *
 go_enter Try.func114,Try.ntmps114
 go_wp2_with fail
 obtain ⟨W0,hW0,hb0,hBx,hTk,hsz⟩:=opened w zeroE (Tok.cells T) 65 108;simp only [zeroE,Tok.cells] at hW0 hBx hTk;rw [<- hW0];clear hW0 c0 c1 c2 c3 c4 lt1 ne1 hk;have Hb0:=zh hb0;have t0:=hTk.cell (i:=0) rfl;obtain ⟨x0,x1,x2,x3⟩:=yc4 hBx;have f0:=hBx.free;clear hBx hb0 hTk;go_at_call 80;refine (HI.out _ Hb0.out).mono ?_;rintro e1 w1 ⟨rfl,rfl⟩;go_wp2_with fail
 refine yE (v:=.tuple #[.agg #[.int .u8 0,.int .i64 0,.string { data:=#[] },.slice none 0 0],.int .i64 i,.int .i64 120]) (by simp [results,Try.results114,go_sem,x0,x1,x2,x3]) rfl ⟨⟨_,_,_,_,_,_,rfl,.inl rfl,hi⟩,?_⟩;exact (((Hb0.out.setCell (zr _) _).setCell (zr _) _).setCell (zr _) _).setCell (zr _) _
theorem ziG (l:List Tok) (E:Nat->Nat->Nat->PR Ex) (v:Value) (i o:Nat) (w:World) (hE:ExprC l E i) (hT:Toks w l v) (hG:Good l) (hi:i < l.length) (hm:l.length<=4611686018427387904) (ho:o<=300) (hk:(zaa l i).kind=1) (hp:isS l i [40]=false) (hK:0 < zap (zaa l i).text) :
  Calls Try.prog 114 #[v,.int .i64 i,.int .i64 o] w fun e w'=>zb4 l i w w' e (zah l E i o)/\Below w.heap.size w w':=by
 have hf:zah l E i o=(zad l E (i+1) o [91] [93] 1).map (.mk 3 (zap (zaa l i).text) []):=by
  unfold zah;rw [yN (by rw [hk];decide),yN (by rw [hp];decide),yN (by rw [hk];decide),yP hK]
 have hn:=hG.next hi (by rw [hk];decide);have HI:Hid (∀ w',Below w.heap.size w w'->Calls Try.prog 80 #[v,.int .i64 i,.string { data:=#[40] }] w' fun e w''=>e=.returned (.bool false)/\w'=w''):=zbO hT hi hp;have HN:Hid (∀ w',Below w.heap.size w w'->Calls Try.prog 78 #[v,.int .i64 ((i:Int)+1),.int .i64 o,.string { data:=#[91] },.string { data:=#[93] },.int .i64 1] w' fun e w''=>ExsE l (i+1) w' w'' e (zad l E (i+1) o [91] [93] 1)/\Below w'.heap.size w' w''):=zh (fun (w':World) (hb:Below w.heap.size w w')=>zcz l E v (i+1) o 1 [91] [93] w' (hE.mono (by omega)) (Sl.below (by omega) hT hb (zr _)) hG hn hm ho (by omega) (by omega));have HK:Hid (∀ w:World,_):=zh (fun w:World=>zb6 (zaa l i).text w);have hk10:=zdg (zaa l i).text;obtain ⟨a,cap,rfl,hc1,hc2⟩:=Sl.form hT;obtain ⟨b,off,rfl,c0,c1,c2,c3,c4⟩:=zaF hT hi;have hi1:(i:Int) < l.length:=by omega
 have hi2:(i:Int)<=4611686018427387904:=by omega
 have lt1:b < w.heap.size:=World.block_lt_of_cell? w _ c0;have ne1:¬ b=w.heap.size:=by omega
 rw [hk] at c0
 generalize zad l E (i+1) o [91] [93] 1=R at *
 rw [hf];clear hf hp hG hE hT hk
 generalize (zaa l i).text=S at *
 generalize (zaa l i).n=N at *
 generalize (zaa l i).line=L at *
 generalize (zaa l i).col=C at *
 generalize zap S=K at *
 have hK2:(K:Int) > 0:=by omega
 go_enter Try.func114,Try.ntmps114
 go_wp2_with fail
 obtain ⟨W0,hW0,hb0,hBx,hTk,hsz⟩:=opened w zeroE (Tok.cells ⟨1,S,N,L,C⟩) 65 108;simp only [zeroE,Tok.cells] at hW0 hBx hTk;rw [<- hW0];clear hW0 c0 c1 c2 c3 c4 lt1 ne1;have Hb0:=zh hb0;have HBx:=zh hBx;have HTk:=zh hTk;obtain ⟨t0,t1⟩:=yc2 hTk;clear hBx hb0 hTk;go_at_call 80;refine (HI.out _ Hb0.out).mono ?_;rintro e1 w1 ⟨rfl,rfl⟩;go_wp2_with fail
 go_at_call 77;refine (HK.out _).mono ?_;rintro e2 w2 ⟨rfl,hb2⟩;have Hb2:=zh (Hb0.out.trans (hb2.mono Hb0.out.size));have HBx2:=zh (HBx.out.below hb2 (zr _));have HTk2:=zh (HTk.out.below hb2 (zr _));have hsz2:=yT hsz hb2.size;clear hb2 t0 t1 HBx HTk;go_wp2_with fail
 go_at_call 78;refine (HN.out _ Hb2.out).mono ?_;rintro e3 w3 ⟨he3,hb3⟩;have Hb3:=zh (Hb2.out.trans (hb3.mono Hb2.out.size));have HBx3:=zh (HBx2.out.below hb3 (zr _));have t1:=(HTk2.out.below hb3 (zr _)).cell (i:=1) rfl;clear hb3 HBx2 HTk2
 cases R with
 | err a c =>
  obtain ⟨rfl,hc,hal⟩:=he3;have Hc:=zh hc;clear hc;go_wp2_with fail
  go_at_call 77;refine (HK.out _).mono ?_;rintro e4 w4 ⟨rfl,hb4⟩;have hBx:=HBx3.out.below hb4 (zr _);obtain ⟨x0,x1,x2,x3⟩:=yc4 hBx;have f0:=hBx.free;have Hb4:=zh (Hb3.out.trans (hb4.mono Hb3.out.size));clear hBx hb4 t1;go_wp2_with fail
  refine yE (v:=.tuple #[.agg #[.int .u8 3,.int .i64 K,.string { data:=#[] },.slice none 0 0],.int .i64 a,.int .i64 c]) (by simp [results,Try.results114,go_sem,x0,x1,x2,x3]) rfl ⟨⟨_,_,_,_,_,_,rfl,Hc.out,hal⟩,?_⟩
  exact (((Hb4.out.setCell (zr _) _).setCell (zr _) _).setCell (zr _) _).setCell (zr _) _
 | ok xs j =>
  obtain ⟨v2,rfl,⟨cs,hown,hX⟩,hij,hjl⟩:=he3;replace hX:=hX.weak1;obtain ⟨a2,cap2,rfl,hc3,hc4⟩:=Sl.form (Sl.of_own hown);have HX:=zh hX;have Hown:=zh hown;clear hX hown;go_wp2_with fail
  go_at_call 77;refine (HK.out _).mono ?_;rintro e4 w4 ⟨rfl,hb4⟩;have hBx:=HBx3.out.below hb4 (zr _);obtain ⟨x0,x1,x2,x3⟩:=yc4 hBx;have f0:=hBx.free;have Hb4:=zh (Hb3.out.trans (hb4.mono Hb3.out.size));have Hc4:=zh hb4;clear hBx hb4 t1;go_wp2_with fail
  refine yE (v:=.tuple #[.agg #[.int .u8 3,.int .i64 K,.string { data:=#[] },.slice a2 xs.length cap2],.int .i64 j,.int .i64 0]) (by simp [results,Try.results114,go_sem,x0,x1,x2,x3]) rfl ⟨⟨_,rfl,⟨_,rfl,?_⟩,by omega,hjl⟩,(((Hb4.out.setCell (zr _) _).setCell (zr _) _).setCell (zr _) _).setCell (zr _) _⟩;have hP:¬ w.heap.size+2<=w.heap.size:=by omega
  have h1:ExsC w4 (fun g=>w.heap.size+2<=g) [.mk 3 K [] xs] [.int .u8 3,.int .i64 K,.string (bstr []),.slice a2 xs.length cap2]:=by
   have:=ExsC.cons (op:=3) (n:=(K:Int)) (name:=[]) (Sl.of_own Hown.out) (.inr fun g hg=>yT hsz2 (zck Hown.out g hg)) (HX.out.weak fun g _ h=>yT hsz2 h) ExsC.nil;exact this.under Hc4.out (zr _)
  exact ((((h1.set hP).set hP).set hP).set hP).weak fun g _ h=>by omega
end Go.Proofs.Ytdeneckmoejcfaa
