/- workers.Valid of a setup that is right, walked. -/
import Derived.Test.YtdhikpkecmaplaaGreatDoorBookMSk
import Derived.Test.YtdhikpkecmaplaaGreatDoorPSoundSk
import Derived.Test.YtdhikpkecmaplaaGreatDoorPtStMk
set_option linter.unusedSimpArgs false
set_option linter.unusedVariables false
set_option maxRecDepth 100000
set_option maxHeartbeats 2000000
namespace Go.Proofs.YtdhikpkecmaplaaGreatDoor
open Go.RowKit

theorem prgs_at {B:Nat} {w:World} {ps:List ProgS} {a:Option Addr} {n cap:Nat} (h:PrgsV B w ps (.slice a n cap)) {j:Nat} (hj:j < ps.length) :
  ∃ b off,a=some ⟨b,off,none⟩/\∃ (ac:Option Addr) (cc:Nat),w.cell? ⟨b,off+j * 4,none⟩=some (.slice ac ps[j].code.length cc)/\w.cell? ⟨b,off+j * 4+1,none⟩=some (.int .i64 ps[j].locals)/\w.cell? ⟨b,off+j * 4+2,none⟩=some (.int .u32 (w32 ps[j].reads))/\w.cell? ⟨b,off+j * 4+3,none⟩=some (.int .u32 (w32 ps[j].writes))/\SlC w ps[j].code (.slice ac ps[j].code.length cc):=by
 obtain ⟨xs,rfl,h2,h3⟩:=h;have hjl:j < xs.length:=by simpa using hj
 obtain ⟨b,off,e,-,hc⟩:=Sl.at (by omega) (Sl.of_own h2) (Nat.lt_of_le_of_lt (Nat.zero_le _) hjl);have f:=zeW zqf 4 (fun _=>rfl) xs j hjl;have f0:=f 0 (by omega);have f1:=f 1 (by omega);have f2:=f 2 (by omega);have f3:=f 3 (by omega);have d0:=hc (j * 4) (by omega);have d1:=hc (j * 4+1) (by omega);have d2:=hc (j * 4+2) (by omega);have d3:=hc (j * 4+3) (by omega);rw [Nat.add_zero] at f0;have hs:=Sl.of_own (h3 xs[j] (List.getElem_mem hjl));obtain ⟨ac,cc,e2,-,-⟩:=Sl.form hs;simp only [List.getElem_map];rw [<- Nat.add_assoc] at d1 d2 d3;refine ⟨b,off,e,ac,cc,?_,d1.trans f1,d2.trans f2,d3.trans f3,by rw [<- e2];exact hs⟩;rw [<- e2];exact d0.trans f0
theorem wkvalid_any {w:World} {ys:List Sys} {ps:List ProgS} {us ul:Value} {seed fuel:Int} {B:Nat} (hS:Syss w ys us) (hok:∀ y ∈ ys,y.ok) (hP:PrgsV B w ps ul) (hv:zop ys=true) (hl:ps.length<=16) (hf:0<=fuel/\fuel<=10000) (hs:∀ p ∈ ps,SoundP p/\p.code.length<=1000000) (hy:∀ y ∈ ys,0<=y.pg/\∃ p,ps[y.pg.toNat]? = some p/\zn9 p.reads p.writes y=true) :
  Calls Tryz.prog 23 #[.agg #[us,ul,.int .u64 seed,.int .i64 fuel]] w (zbe true w):=by
 obtain ⟨ay,cy,rfl,hcy1,hcy2⟩:=hS.form;obtain ⟨ap,cp,rfl⟩:=hP.len;obtain ⟨W0,hW0,hb0,hX,-⟩:=box1 w [.slice ay ys.length cy,.slice ap ps.length cp,.int .u64 seed,.int .i64 fuel] 49;have HY:Hid (Syss W0 ys (.slice ay ys.length cy)):=zh (Syss.below hS hb0 (zr _));have HP:Hid (PrgsV B W0 ps (.slice ap ps.length cp)):=zh (hP.below hb0);have HV:=zh (zsv ys _ W0 HY.out hok);rw [hv] at HV;have HX:=zh hX;have HW0:=zh hW0;have Hb0:=zh hb0;have Hs:=zh hs;have Hy:=zh hy;obtain ⟨hf0,hf1⟩:=hf;have hfl:¬ fuel < 0:=by omega
 have hfg:¬ fuel > 10000:=by omega
 have hpl:¬ (ps.length:Int) > 16:=by omega
 have x0:=hX.cell (i:=0) rfl;clear hS hok hP hv hs hy hW0 hb0 hX;go_enter Tryz.func23,Tryz.ntmps23
 go_upto_region 1 with (fail)
 rw [<- HW0.out];go_wp2_with fail
 go_at_call 64;refine HV.out.mono ?_;rintro e1 w1 ⟨rfl,hb⟩;have Hb1:=zh hb;have x1:=(HX.out.below hb (zr _)).cell (i:=1) rfl;have x3:=(HX.out.below hb (zr _)).cell (i:=3) rfl;clear hb x0 HV;go_wp2_with fail
 clear hfl hfg hpl x3 hf0 hf1;go_loopw [2,4,31,32,33,34,35,36,37,38] (fun _ _ t31 _ _ _ _ _ _ _ wr=>∃ k:Nat,k<=ps.length/\t31=.int .i64 k/\Hid (Below W0.heap.size W0 wr)) (fun _ _ t31 _ _ _ _ _ _ _ _=>ps.length - (intOf t31).toNat)
 case atStart=>exact ⟨0,by omega,by first | rfl | go_num,Hb1⟩
 case round =>
  obtain ⟨k,hk,rfl,HL⟩:=hrel;by_cases hkl:k < ps.length
  ·have hki:(k:Int) < (ps.length:Int):=by omega
   have hcl:(ps.length:Int)<=16:=by omega
   obtain ⟨g1,o1,rfl,ac,cc,c0,c1,c2,c3,hcd⟩:=prgs_at (HP.out.below HL.out) hkl;obtain ⟨hso,hcl2⟩:=Hs.out _ (List.getElem_mem hkl)
   generalize ps[k]=P at *
   have HSo:=zh (fun W (h:Below wr.heap.size wr W)=>psound_any P _ W (SlC.below hcd h) hcl2);have HSp:=zh hso;unfold zow at HSo;obtain ⟨W2,hW2,hb2,hZ,-⟩:=box1 wr [.slice ac P.code.length cc,.int .i64 P.locals,.int .u32 (w32 P.reads),.int .u32 (w32 P.writes)] 59;have HW2:=zh hW2;have Hb2:=zh hb2;obtain ⟨z0,z1,z2,z3⟩:=yc4 hZ;clear hW2 hb2 hZ hcd hso;go_upto_region 6 with (fail)
   rw [<- HW2.out];clear c0 c1 c2 c3;go_wp2_with fail
   go_at_call 65;refine (HSo.out _ Hb2.out).mono ?_;rintro e3 w3 ⟨q,rfl,hq,hb3⟩;obtain rfl:q=true:=hq.2 HSp.out;have HL3:=zh ((HL.out.trans (Hb2.out.mono HL.out.size)).trans (hb3.mono (Nat.le_trans HL.out.size Hb2.out.size)));clear hb3 hq z0 z1 z2 z3 HSo;go_wp2_with fail
   go_roundw
   case rel=>exact ⟨k+1,by omega,by go_num,HL3⟩
   case measure=>simp [intOf];omega
  ·have hki:¬ (k:Int) < (ps.length:Int):=by omega
   have x0:=(HX.out.below HL.out (zr _)).cell (i:=0) rfl;clear x1 Hb1 hk hkl;go_wp2_with fail
   go_loopw [2,6,7,42,43,44,45,46,47,48,49,50,51,52,53,54,55,56,57,58,59,60,61,62,63,64,65,66,67,68,69,70,71,72,73,74,75] (fun _ _ _ t42 _ _ _ _ _ _ _ _ _ _ _ _ _ _ _ _ _ _ _ _ _ _ _ _ _ _ _ _ _ _ _ _ _ wr=>∃ k:Nat,k<=ys.length/\t42=.int .i64 k/\Hid (Below W0.heap.size W0 wr)) (fun _ _ _ t42 _ _ _ _ _ _ _ _ _ _ _ _ _ _ _ _ _ _ _ _ _ _ _ _ _ _ _ _ _ _ _ _ _ _=>ys.length - (intOf t42).toNat)
   case atStart=>exact ⟨0,by omega,by first | rfl | go_num,HL⟩
   case round =>
    clear HL x0 hki;obtain ⟨k,hk,rfl,HL⟩:=hrel;by_cases hkl:k < ys.length
    ·have hki:(k:Int) < (ys.length:Int):=by omega
     obtain ⟨g1,o1,rfl,hg1,hc1⟩:=(Syss.below HY.out HL.out (zr _)).at hkl;obtain ⟨c0,c1,c2,c3⟩:=hc1 k hkl;obtain ⟨hy0,P,hy1,hy2⟩:=Hy.out _ (List.getElem_mem hkl);have hyl:=(List.getElem?_eq_some_iff.1 hy1).1;obtain ⟨g2,o2,rfl,ac,cc,d0,d1,d2,d3,-⟩:=prgs_at (HP.out.below HL.out) hyl;rw [(List.getElem?_eq_some_iff.1 hy1).2] at d0 d1 d2 d3;have x1:=(HX.out.below HL.out (zr _)).cell (i:=1) rfl;clear hc1 hy1
     generalize ys[k]=y at *
     obtain ⟨nm,rd,wm,pg⟩:=y;obtain ⟨cd,lc,rp,wp⟩:=P
     simp only at *
     obtain ⟨gN,hgN⟩:∃ gN:Nat,pg=gN:=⟨pg.toNat,by omega⟩;subst hgN
     simp only [Int.toNat_natCast] at *
     have hgl:(gN:Int) < (ps.length:Int):=by omega
     have hgn:¬ (gN:Int) >= (ps.length:Int):=by omega
     have h1:=zoE rd wm;have h2:=zoA rp (rd ||| wm);have h3:=zoA wp wm
     have hfz:w32 (rp &&& ~~~(rd ||| wm))=0/\w32 (wp &&& ~~~wm)=0:=by
      unfold zn9 at hy2;rw [Bool.and_eq_true,beq_iff_eq,beq_iff_eq] at hy2;exact ⟨(zoD _).2 hy2.1,(zoD _).2 hy2.2⟩
     rw [hfz.1] at h2;rw [hfz.2] at h3;obtain ⟨W2,hW2,hb2,hZ,-⟩:=box1 wr [.string nm,.int .u32 (w32 rd),.int .u32 (w32 wm),.int .i64 gN] 61;have HW2:=zh hW2;obtain ⟨z0,z1,z2,z3⟩:=yc4 hZ;have x1':=Below.keep hb2 x1;have d0':=Below.keep hb2 d0;have d1':=Below.keep hb2 d1;have d2':=Below.keep hb2 d2;have d3':=Below.keep hb2 d3;obtain ⟨W3,hW3,hb3,hV,-⟩:=box1 W2 [.slice ac cd.length cc,.int .i64 lc,.int .u32 (w32 rp),.int .u32 (w32 wp)] 59;have HW3:=zh hW3;have v2:=hV.cell (i:=2) rfl;have v3:=hV.cell (i:=3) rfl;have u1:=Below.keep hb3 z1;have u2:=Below.keep hb3 z2;have HL3:=zh ((HL.out.trans (hb2.mono HL.out.size)).trans (hb3.mono (Nat.le_trans HL.out.size hb2.size)));clear hW2 hb2 hZ hW3 hb3 hV hy2 hfz;go_upto_region 12 with (fail)
     rw [<- HW2.out];clear c0 c1 c2 c3 x1 d0 d1 d2 d3;go_upto_region 15 with (fail)
     rw [<- HW3.out];clear z0 z1 z2 z3 x1' d0' d1' d2' d3';go_wp2_with fail
     go_roundw
     case rel=>exact ⟨k+1,by omega,by go_num,HL3⟩
     case measure=>simp [intOf];omega
    ·have hki:¬ (k:Int) < (ys.length:Int):=by omega
     go_wp2_with fail
     go_ret;exact ⟨rfl,Hb0.out.trans (HL.out.mono Hb0.out.size)⟩

theorem erase_valid {base:Nat->Bool} {R:Int->List UInt8->Bool} {b:Bk} {q:Pt->Bool} (h:VB base R b):VB base R { b with pend:=b.pend.eraseP q }:=by
 have hs:(b.pend.eraseP q).Sublist b.pend:=List.eraseP_sublist;exact ⟨h.lo,h.hi,h.sys,h.many,Nat.le_trans hs.length_le h.room,h.scr,fun x hx=>h.pend.1 x (hs.subset hx),h.pend.2.sublist hs⟩
theorem withdraw_valid {base:Nat->Bool} {R:Int->List UInt8->Bool} {b c:Bk} {p:Pt} {x:Int} (h:withdrawB base R b p=(some c,x)):VB base R c/\c={ b with pend:=b.pend.eraseP fun x=>x.same p }:=by
 unfold withdrawB at h;split at h
 ·cases h
 ·rename_i h1
  split at h
  ·cases h
  ·cases h;have hv:VB base R b:=valid_iff.1 (by cases hb:znM base R b with | true=>rfl | false=>exact absurd hb h1);exact ⟨erase_valid hv,rfl⟩
theorem advance_valid {base:Nat->Bool} {R:Int->List UInt8->Bool} {b c:Bk} {t x:Int} {l:List Pt} (h:zoe base R b t=(some (c,l),x)):VB base R c/\c=advB t b/\l=upTo t b.pend/\b.tick<=t/\VB base R b:=by
 unfold zoe at h;split at h
 ·cases h
 ·rename_i h1
  split at h
  ·cases h
  ·rename_i h2
   cases h;have hv:VB base R b:=valid_iff.1 (by cases hb:znM base R b with | true=>rfl | false=>exact absurd (.inl hb) h1);exact ⟨adv_valid hv (by omega) (by omega),rfl,rfl,by omega,hv⟩
theorem comp_len {l:List St} {p:ProgS} (hc:zol l=.ok p):p.code.length<=1000000:=by
 unfold zol at hc;split at hc
 ·cases hr:znQ [] l with
  | err k=>rw [hr] at hc;cases hc
  | ok r =>
   rw [hr] at hc;unfold CR.andThen at hc;simp only at hc;split at hc
   ·cases hc
   ·cases hc;simp only;omega
 ·cases hc
theorem comp_code {l:List St} {k:Int} (hc:zol l=.err k):k≠0:=by
 unfold zol at hc;split at hc
 ·cases hr:znQ [] l with
  | err k =>
   have:=zoT _ _ _ hr;rw [hr] at hc;cases hc
   omega
  | ok r =>
   rw [hr] at hc;unfold CR.andThen at hc;simp only at hc;split at hc
   ·cases hc;decide
   ·cases hc
 ·cases hc;decide
theorem press_small (s:List UInt8):(znC s).prog.code.length<=1000000:=by
 cases hp:zbg s with
 | err a b c=>rw [zpI hp];exact Nat.zero_le _
 | ok l =>
  cases hc:zol l with
  | err k=>rw [zpW hp hc];exact Nat.zero_le _
  | ok p=>rw [zpX hp hc];exact comp_len hc
theorem sys_range {ys:List Sys} {n:Nat} (h:znI ys n=true):∀ y ∈ ys,0<=y.pg/\y.pg < n:=by
 unfold znI at h;rw [Bool.and_eq_true] at h;obtain ⟨h1,h2⟩:=h;intro y hy
 have h3:y.pg < n:=by
  rcases Int.lt_or_le y.pg n with e | e
  ·exact e
  ·exfalso;have:(ys.any fun y=>decide ((n:Int)<=y.pg))=true:=List.any_eq_true.2 ⟨y,hy,by simpa using e⟩;rw [this] at h2;cases h2
 unfold zop at h1;simp only [Bool.and_eq_true,decide_eq_true_eq,List.all_eq_true] at h1;have h4:=h1.2.1 y hy;unfold okY at h4;simp only [Bool.and_eq_true,decide_eq_true_eq] at h4;exact ⟨h4.2.2.2.2.1,h3⟩
theorem safe_set {ys:List Sys} {b:Bk} (h:VB (znI ys) (rOf (errE ys)) b):(∀ y ∈ ys,0<=y.pg/\∃ p,(b.scr.map fun s=>(znC s).prog)[y.pg.toNat]? = some p/\zn9 p.reads p.writes y=true)/\(∀ p ∈ b.scr.map (fun s=>(znC s).prog),SoundP p/\p.code.length<=1000000):=by
 have key:∀ (i:Nat) (x:List UInt8),b.scr[i]? = some x->(znC x).e=0/\zpb ys (znC x).prog i=true:=by
  intro i x hx;have h1:=h.scr i x hx;unfold rOf at h1;have h2:errE ys i x=0:=by simpa using h1
  have h3:=zqo h2;refine ⟨h3,?_⟩;unfold errE at h2;rw [if_neg (by rw [h3];exact fun e=>e rfl)] at h2
  cases hf:zpb ys (znC x).prog i with
  | true=>rfl
  | false=>rw [hf] at h2;cases h2
 constructor
 ·intro y hy;obtain ⟨h1,h2⟩:=sys_range h.sys y hy;refine ⟨h1,?_⟩;have hlt:y.pg.toNat < b.scr.length:=by omega
  have hx:=List.getElem?_eq_getElem hlt;refine ⟨(znC b.scr[y.pg.toNat]).prog,by rw [List.getElem?_map,hx];rfl,?_⟩;have h3:=(key _ _ hx).2;unfold zpb at h3
  cases hf:zn9 (znC b.scr[y.pg.toNat]).prog.reads (znC b.scr[y.pg.toNat]).prog.writes y with
  | true=>rfl
  | false =>
   exfalso;have:(ys.any fun z=>z.pg == ((y.pg.toNat:Nat):Int) && !zn9 (znC b.scr[y.pg.toNat]).prog.reads (znC b.scr[y.pg.toNat]).prog.writes z)=true:=List.any_eq_true.2 ⟨y,hy,by rw [hf,Bool.and_eq_true,beq_iff_eq];exact ⟨by omega,rfl⟩⟩;rw [this] at h3;cases h3
 ·intro p hp;obtain ⟨s,hs,rfl⟩:=List.mem_map.1 hp;refine ⟨?_,press_small s⟩;obtain ⟨i,hi,e⟩:=List.getElem_of_mem hs;obtain ⟨h1,-⟩:=key i s (by rw [List.getElem?_eq_getElem hi,e])
  cases hp:zbg s with
  | err a b c=>rw [zpI hp] at h1;exact absurd h1 (zgi hp)
  | ok l =>
   cases hc:zol l with
   | err k =>
    rw [zpW hp hc] at h1;have h1':k=0:=h1
    exact absurd h1' (comp_code hc)
   | ok P=>rw [zpX hp hc];exact comp_sound hc
end Go.Proofs.YtdhikpkecmaplaaGreatDoor
