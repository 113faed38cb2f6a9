/- The statement PatchChecks, walked. -/
import Derived.Test.YtdhikpkecmaplaaGreatDoorAwSMk
import Derived.Test.YtdhikpkecmaplaaGreatDoorPtRgCk
import Derived.Test.YtdhikpkecmaplaaGreatDoorPtSmCk
set_option linter.unusedSimpArgs false
set_option linter.unusedVariables false
set_option maxRecDepth 100000
set_option maxHeartbeats 3000000
namespace Go.Proofs.YtdhikpkecmaplaaGreatDoor
open Go.RowKit

def chkB (E : Int -> List UInt8 -> Int) (b : Bk) (p : Pt) : Int × Bool :=
  if 1073741824 < p.tick then (2, false) else if p.tick <= b.tick then (400, false) else if p.slot < 0 ∨ (b.scr.length : Int) <= p.slot then (6, false)
  else if E p.slot p.src ≠ 0 then (E p.slot p.src, true) else if (b.pend.any fun x => x.same p) = true then (402, false) else if 32 <= b.pend.length then (4, false) else (0, false)
theorem chk_sub {base:Nat->Bool} {E:Int->List UInt8->Int} {b:Bk} {p:Pt} {x:Int} {q:Bool} (hv:znM base (rOf E) b=true) (h:chkB E b p=(x,q)):znO base E b p=(none,q,x)∨(∃ c,znO base E b p=(some c,q,x))/\q=false/\x=0:=by
 unfold chkB at h;unfold znO;by_cases h1:1073741824 < p.tick
 ·rw [if_pos h1] at h;rw [if_pos (.inr h1)];cases h;exact .inl rfl
 rw [if_neg h1] at h;rw [if_neg (by rw [hv];simp [h1])];by_cases h2:p.tick<=b.tick
 ·rw [if_pos h2] at h ⊢;cases h;exact .inl rfl
 rw [if_neg h2] at h ⊢;by_cases h3:p.slot < 0∨(b.scr.length:Int)<=p.slot
 ·rw [if_pos h3] at h ⊢;cases h;exact .inl rfl
 rw [if_neg h3] at h ⊢;by_cases h4:E p.slot p.src≠0
 ·rw [if_pos h4] at h ⊢;cases h;exact .inl rfl
 rw [if_neg h4] at h ⊢;by_cases h5:(b.pend.any fun x=>x.same p)=true
 ·rw [if_pos h5] at h ⊢;cases h;exact .inl rfl
 rw [if_neg h5] at h ⊢;by_cases h6:32<=b.pend.length
 ·rw [if_pos h6] at h ⊢;cases h;exact .inl rfl
 rw [if_neg h6] at h ⊢;cases h;exact .inr ⟨⟨_,rfl⟩,rfl,rfl⟩
def SubG (S : ScS) (x : Int) (q : Bool) (e : Ending) : Prop := ∃ t a1 n1 c1 a2 n2 c2 a3 n3 c3, e = .returned (.tuple #[.agg #[.int .i64 t, .slice a1 n1 c1, .slice a2 n2 c2, .slice a3 n3 c3], .agg #[.int .i64 (cond q S.line 0), .int .i64 (cond q S.col 0)], .int .i64 x])
theorem sub_gen {w:World} {ys:List Sys} {b:Bk} {p:Pt} {vs vc vp:Value} (hG:Glob w) (hOk:BkOk ys b) (hp:p.src.length<=9223372036854775807) (hB:BkIn w.heap.size w ys b vs vc vp) {x:Int} {q:Bool} (hv:znM (znI ys) (rOf (errE ys)) b=true) (h:chkB (errE ys) b p=(x,q)) :
  Calls Tryz.prog 18 #[.agg #[.int .i64 b.tick,vs,vc,vp],.agg #[.int .i64 p.tick,.int .i64 p.slot,.string (bstr p.src)]] w fun e w'=>SubG (znC p.src) x q e/\Below w.heap.size w w':=by
 refine (zpw hG hOk hp hB).mono ?_;rcases chk_sub hv h with h1 | ⟨⟨c,h1⟩,rfl,rfl⟩
 ·rw [h1];rintro e w' ⟨⟨rfl,-⟩,hb⟩;exact ⟨⟨_,_,_,_,_,_,_,_,_,_,rfl⟩,hb⟩
 ·rw [h1];rintro e w' ⟨⟨us,uc,up,rfl,ho⟩,hb⟩;obtain ⟨a1,c1,rfl,-,-⟩:=Sl.form (Sl.of_own ho.sys);obtain ⟨a2,c2,rfl,-,-⟩:=Sl.form (Sl.of_own ho.scr);obtain ⟨a3,c3,rfl,-,-⟩:=Sl.form (Sl.of_own ho.pend);exact ⟨⟨_,_,_,_,_,_,_,_,_,_,rfl⟩,hb⟩
def ParG (s : List UInt8) (w' : World) (e : Ending) : Prop := ∃ a n c ln co f xs, e = .returned (.tuple #[.slice a n c, .int .i64 ln, .int .i64 co, .int .i64 f]) /\ SsL w' w'.heap.size xs (.slice a n c) /\ okSs xs /\ szSs xs <= 100000 /\ (f ≠ 0 -> znC s = ⟨zqz, ln, co, f⟩) /\ (f = 0 -> zbg s = .ok xs)
theorem par_gen {w:World} (hG:Glob w) (s:List UInt8) (hs:s.length<=9223372036854775807):Calls Tryz.prog 27 #[.string (bstr s)] w fun e w'=>ParG s w' e/\Below w.heap.size w w':=by
 refine (zbP hG (bstr s) (by rw [zcQ];exact hs)).mono ?_;rw [show (bstr s).data.toList=s by unfold bstr;simp];rintro e w' ⟨he,hb⟩;refine ⟨?_,hb⟩
 cases hp:zbg s with
 | err a c d =>
  rw [hp] at he;obtain ⟨rfl,h0⟩:=he
  exact ⟨none,0,0,a,c,d,[],rfl,⟨[],⟨none,0,rfl,zr _,by decide,rfl,by simp⟩,.inl rfl,.nil⟩,trivial,by simp [szSs],fun _=>zpI hp,fun h=>absurd h h0⟩
 | ok l =>
  rw [hp] at he;obtain ⟨v,rfl,cs,hR,hT⟩:=he;obtain ⟨hok,hsz⟩:=zq8 hp;have hL:SsL w' w'.heap.size l v:=zeM ⟨cs,hR,hT⟩;obtain ⟨a,c,rfl,-,-⟩:=hL.form;exact ⟨a,_,c,0,0,0,l,rfl,hL,hok,hsz,fun h=>absurd rfl h,fun _=>hp⟩
def CmpG (xs : List St) (e : Ending) : Prop := ∃ (P : ProgS) (a : Option Addr) (n c : Nat) (g : Int), e = .returned (.tuple #[.agg #[.slice a n c, .int .i64 P.locals, .int .u32 (w32 P.reads), .int .u32 (w32 P.writes)], .int .i64 g]) /\ (g = 0 /\ zol xs = .ok P ∨ g ≠ 0 /\ zol xs = .err g)
theorem cmp_gen {w:World} {xs:List St} {v:Value} (hok:okSs xs) (hsz:szSs xs<=100000) (hL:SsL w w.heap.size xs v):Calls Tryz.prog 33 #[v] w fun e w'=>CmpG xs e/\Below w.heap.size w w':=by
 refine (zrX xs v w w.heap.size hok hsz hL (zr _)).mono ?_;rintro e w' ⟨he,hb⟩;refine ⟨?_,hb⟩
 cases hp:zol xs with
 | ok P =>
  rw [hp] at he;obtain ⟨v,rfl,ho⟩:=he;obtain ⟨a,c,rfl,-,-⟩:=Sl.form (Sl.of_own ho)
  exact ⟨P,a,_,c,0,rfl,.inl ⟨rfl,hp⟩⟩
 | err k =>
  rw [hp] at he;obtain ⟨rfl,h0⟩:=he;exact ⟨zqz,none,0,0,k,rfl,.inr ⟨by omega,hp⟩⟩
theorem allt_step {α:Type} {f:α->Bool} {l:List α} {k:Nat} (h:k < l.length):(l.take (k+1)).all f=((l.take k).all f && f l[k]):=by
 rw [List.take_add_one,List.getElem?_eq_getElem h,List.all_append];simp
def fitK (p : Pt) (r m : BitVec 32) (y : Sys) : Bool := y.pg != p.slot || zn9 r m y
def freeK (p : Pt) (x : Pt) : Bool := !x.same p
theorem fit_all {ys:List Sys} {p:Pt} {P:ProgS} {q:Bool} (h:(ys.take ys.length).all (fitK p P.reads P.writes)=q):zpb ys P p.slot=q:=by
 rw [<- h,List.take_length];unfold zpb fitK;rw [List.not_any_eq_all_not];congr
 funext y
 rw [Bool.not_and,Bool.not_not];rfl
theorem free_all {l:List Pt} {p:Pt} {q:Bool} (h:(l.take l.length).all (freeK p)=q):(l.any fun x=>x.same p) = !q:=by
 rw [<- h,List.take_length];unfold freeK;rw [List.not_all_eq_any_not];simp
theorem fit_no {p:Pt} {r m:BitVec 32} {y:Sys} (h:y.pg≠p.slot):fitK p r m y=true:=by unfold fitK;simp [h]
theorem fit_at {p:Pt} {r m:BitVec 32} {y:Sys} (h:y.pg=p.slot):fitK p r m y=zn9 r m y:=by unfold fitK;simp [h]
theorem free_no {p x:Pt} (h:¬ (x.tick=p.tick/\x.slot=p.slot)):freeK p x=true:=by
 unfold freeK;cases hs:x.same p
 ·rfl
 ·exact absurd (Pt.same_iff.1 hs) h
theorem free_at {p x:Pt} (h:x.tick=p.tick) (h2:x.slot=p.slot):freeK p x=false:=by
 unfold freeK;rw [Pt.same_iff.2 ⟨h,h2⟩];rfl
theorem chk_max {E:Int->List UInt8->Int} {b:Bk} {p:Pt} {x:Int} {q:Bool} (h:chkB E b p=(x,q)) (h1:p.tick > 1073741824):x=2:=by
 unfold chkB at h;rw [if_pos h1] at h;exact (congrArg Prod.fst h).symm
theorem chk_late {E:Int->List UInt8->Int} {b:Bk} {p:Pt} {x:Int} {q:Bool} (h:chkB E b p=(x,q)) (h1:¬ p.tick > 1073741824) (h2:p.tick<=b.tick):x=400:=by
 unfold chkB at h;rw [if_neg h1,if_pos h2] at h;exact (congrArg Prod.fst h).symm
theorem chk_slot {E:Int->List UInt8->Int} {b:Bk} {p:Pt} {x:Int} {q:Bool} (h:chkB E b p=(x,q)) (h1:¬ p.tick > 1073741824) (h2:¬ p.tick<=b.tick) (h3:¬ (0<=p.slot/\p.slot < (b.scr.length:Int))):x=6:=by
 unfold chkB at h;rw [if_neg h1,if_neg h2,if_pos (by omega)] at h;exact (congrArg Prod.fst h).symm
theorem chk_src {E:Int->List UInt8->Int} {b:Bk} {p:Pt} {x:Int} {q:Bool} (h:chkB E b p=(x,q)) (h1:¬ p.tick > 1073741824) (h2:¬ p.tick<=b.tick) (h3:0<=p.slot/\p.slot < (b.scr.length:Int)) (h4:E p.slot p.src≠0):x=E p.slot p.src/\q=true:=by
 unfold chkB at h;rw [if_neg h1,if_neg h2,if_neg (by omega),if_pos h4] at h;cases h;exact ⟨rfl,rfl⟩
theorem chk_rest {E:Int->List UInt8->Int} {b:Bk} {p:Pt} {x:Int} {q:Bool} (h:chkB E b p=(x,q)) (h1:¬ p.tick > 1073741824) (h2:¬ p.tick<=b.tick) (h3:0<=p.slot/\p.slot < (b.scr.length:Int)) (h4:E p.slot p.src=0) :
  x=if (b.pend.any fun x=>x.same p)=true then 402 else if 32<=b.pend.length then 4 else 0:=by
 have h5:¬ (p.slot < 0∨(b.scr.length:Int)<=p.slot):=by omega
 have h6:¬ E p.slot p.src≠0:=fun k=>k h4
 unfold chkB at h;simp only [if_neg h1,if_neg h2,if_neg h5,if_neg h6] at h;have h9:_=x:=congrArg Prod.fst h;rw [<- h9];split
 ·rfl
 ·split <;> rfl
theorem chk_bad {E:Int->List UInt8->Int} {b:Bk} {p:Pt} {x:Int} {q zm zl z0 z1:Bool} (h:chkB E b p=(x,q)) (hm:decide (1073741824 < p.tick)=zm) (hl:decide (p.tick<=b.tick)=zl) (h0:decide (0<=p.slot)=z0) (h1:decide (p.slot < (b.scr.length:Int))=z1)
  (hb:(zm || zl || !z0 || !z1)=true):¬ x=0:=by
 subst hm hl h0 h1;simp only [Bool.or_eq_true,decide_eq_true_eq,Bool.not_eq_true',decide_eq_false_iff_not] at hb;by_cases k1:p.tick > 1073741824
 ·rw [chk_max h k1];decide
 by_cases k2:p.tick<=b.tick
 ·rw [chk_late h k1 k2];decide
 rw [chk_slot h k1 k2 (by omega)];decide
theorem chk_bad6 {E:Int->List UInt8->Int} {b:Bk} {p:Pt} {x:Int} {q zm zl z0 z1:Bool} (h:chkB E b p=(x,q)) (hm:decide (1073741824 < p.tick)=zm) (hl:decide (p.tick<=b.tick)=zl) (h0:decide (0<=p.slot)=z0) (h1:decide (p.slot < (b.scr.length:Int))=z1)
  (hb:(zm || zl || !z0 || !z1)=true):(x != 6)=(zm || zl):=by
 subst hm hl h0 h1;simp only [Bool.or_eq_true,decide_eq_true_eq,Bool.not_eq_true',decide_eq_false_iff_not] at hb;by_cases k1:p.tick > 1073741824
 ·rw [chk_max h k1,decide_eq_true (show 1073741824 < p.tick from k1)];rfl
 by_cases k2:p.tick<=b.tick
 ·rw [chk_late h k1 k2,decide_eq_true k2,Bool.or_true];rfl
 rw [chk_slot h k1 k2 (by omega),decide_eq_false (show ¬ 1073741824 < p.tick from k1),decide_eq_false k2];rfl
theorem chk_good {ys:List Sys} {b:Bk} {p:Pt} {x L C f pl pc g:Int} {q q6 q7:Bool} {xs:List St} {P:ProgS} (h:chkB (errE ys) b p=(x,q)) (hm:decide (1073741824 < p.tick)=false) (hl:decide (p.tick<=b.tick)=false) (h0:decide (0<=p.slot)=true) (h1:decide (p.slot < (b.scr.length:Int))=true)
  (hL:cond q (znC p.src).line 0=L) (hC:cond q (znC p.src).col 0=C) (hf1:f≠0->znC p.src=⟨zqz,pl,pc,f⟩) (hf2:f=0->zbg p.src=.ok xs) (hg:g=0/\zol xs=.ok P∨g≠0/\zol xs=.err g) (hfit:zpb ys P p.slot=q6) (hfree:(b.pend.any fun x=>x.same p) = !q7) (hv:znM (znI ys) (rOf (errE ys)) b=true) :
  (f≠0/\x=f/\L=pl/\C=pc)∨f=0/\(g≠0/\x=g∨g=0/\(q6=false/\x=401∨q6=true/\(q7=false/\x=402∨q7=true/\(x=4/\(b.pend.length:Int)=32∨x=0/\¬ (b.pend.length:Int)=32)))):=by
 have k1:¬ p.tick > 1073741824:=by simpa using hm
 have k2:¬ p.tick<=b.tick:=by simpa using hl
 have k3:0<=p.slot/\p.slot < (b.scr.length:Int):=⟨by simpa using h0,by simpa using h1⟩;have hroom:=(valid_iff.1 hv).room;by_cases hf:f=0
 ·refine .inr ⟨hf,?_⟩;have hp:=hf2 hf;rcases hg with ⟨hg,hc⟩ | ⟨hg,hc⟩
  ·refine .inr ⟨hg,?_⟩;have hpr:=zpX hp hc;have he:errE ys p.slot p.src=if q6=false then 401 else 0:=by unfold errE;rw [hpr,<- hfit];rfl
   cases q6 with
   | false=>exact .inl ⟨rfl,by rw [(chk_src h k1 k2 k3 (by rw [he];decide)).1,he];rfl⟩
   | true =>
    refine .inr ⟨rfl,?_⟩;have hx:=chk_rest h k1 k2 k3 (by rw [he];rfl)
    cases q7 with
    | false=>exact .inl ⟨rfl,by rw [hx,hfree];rfl⟩
    | true =>
     refine .inr ⟨rfl,?_⟩;rw [hfree,if_neg (by decide)] at hx;by_cases h9:32<=b.pend.length
     ·rw [if_pos h9] at hx;exact .inl ⟨hx,by omega⟩
     ·rw [if_neg h9] at hx;exact .inr ⟨hx,by omega⟩
  ·refine .inl ⟨hg,?_⟩;have hpr:=zpW hp hc;have he:errE ys p.slot p.src=g:=by unfold errE;rw [hpr,if_pos hg]
   rw [(chk_src h k1 k2 k3 (by rw [he];exact hg)).1,he]
 ·have hpr:=hf1 hf;have he:errE ys p.slot p.src=f:=by unfold errE;rw [hpr,if_pos hf]
  obtain ⟨e1,e2⟩:=chk_src h k1 k2 k3 (by rw [he];exact hf);subst e2;exact .inl ⟨hf,by rw [e1,he],by rw [<- hL,hpr];rfl,by rw [<- hC,hpr];rfl⟩
theorem patchChecks_any {w:World} {ys:List Sys} {b:Bk} {p:Pt} {vs vc vp:Value} (hG:Glob w) (hOk:BkOk ys b) (hB:BkIn w.heap.size w ys b vs vc vp) (hp:okI p.tick/\okI p.slot/\p.src.length<=9223372036854775807):Calls Tryz.prog 7 #[bkV b vs vc vp,p.val] w (zbe true w):=by
 obtain ⟨ay,cy,rfl,-,-⟩:=hB.sys.form;obtain ⟨ac,cc,rfl,-,-⟩:=hB.scr.form;obtain ⟨ap,cp,rfl,-,-⟩:=hB.pend.form;obtain ⟨hp1,hp2,hp3⟩:=hp;have HG:Hid (∀ W,Below w.heap.size w W->Glob W):=zh (fun W hb=>hG.below hb hG.size);have HB:Hid (∀ W,Below w.heap.size w W->BkIn W.heap.size W ys b (.slice ay ys.length cy) (.slice ac b.scr.length cc) (.slice ap b.pend.length cp)):=zh (fun W hb=>(hB.below hb).mono hb.size);have Hok:=zh hOk;have Hp3:=zh hp3;have HSm:Hid (∀ W,Below w.heap.size w W->Calls Tryz.prog 14 #[.agg #[.int .i64 b.tick,.slice ay ys.length cy,.slice ac b.scr.length cc,.slice ap b.pend.length cp]] W fun e w'=>SmallE ys.length b.scr.length b.pend.length e/\Below W.heap.size W w'):=zh (fun W hb=>small_any (zr _) (HB.out W hb) hOk);have HVl:Hid (∀ W,Below w.heap.size w W->Calls Tryz.prog 15 #[.agg #[.int .i64 b.tick,.slice ay ys.length cy,.slice ac b.scr.length cc,.slice ap b.pend.length cp]] W (zbe (znM (znI ys) (rOf (errE ys)) b) W)):=zh (fun W hb=>zri (HG.out W hb) hOk (HB.out W hb));have HSz:Hid ((bstr p.src).size=p.src.length):=zh (zcQ _);have hsz1:((bstr p.src).size:Int)<=9223372036854775807:=by rw [HSz.out];omega
 obtain ⟨W0,hW0,hb0,hX,hY,hs0⟩:=zqb w [.int .i64 b.tick,.slice ay ys.length cy,.slice ac b.scr.length cc,.slice ap b.pend.length cp] [.int .i64 p.tick,.int .i64 p.slot,.string (bstr p.src)] 26 32;have HAw:=zh (zqE (HG.out W0 hb0));have HW0:=zh hW0;have HX:=zh hX;have HY:=zh hY;have Hb0:=zh hb0;unfold bkV Pt.val;clear hG hOk hB hW0 hX hY hb0 hs0 hp3;go_enter Tryz.func7,Tryz.ntmps7
 go_upto_region 1 with (fail)
 rw [<- HW0.out];go_wp2_with fail
 go_at_call 13;refine HAw.out.mono ?_;rintro e1 w1 ⟨rfl,hb⟩;have Hb1:=zh (Hb0.out.trans (hb.mono Hb0.out.size));have HX:=zh (HX.out.below hb (zr _));have HY:=zh (HY.out.below hb (zr _));clear hb Hb0;obtain ⟨x0,x1,x2,x3⟩:=yc4 HX.out;obtain ⟨y0,y1,y2⟩:=yc3 HY.out;go_wp2_with fail
 refine (HSm.out _ Hb1.out).mono ?_;rintro e2 w2 ⟨⟨q,rfl,hq⟩,hb⟩;have Hb2:=zh (Hb1.out.trans (hb.mono Hb1.out.size));have HX:=zh (HX.out.below hb (zr _));have HY:=zh (HY.out.below hb (zr _));clear hb Hb1 x0 x1 x2 x3 y0 y1 y2;obtain ⟨x0,x1,x2,x3⟩:=yc4 HX.out;obtain ⟨y0,y1,y2⟩:=yc3 HY.out
 cases q with
 | false =>
  go_wp2_with fail
  go_ret
  exact ⟨rfl,Hb2.out⟩
 | true =>
 obtain ⟨hq1,hq2,hq3⟩:=hq rfl;clear hq;by_cases hlong:((bstr p.src).size:Int) > 1000
 ·go_wp2_with fail
  go_ret;exact ⟨rfl,Hb2.out⟩
 go_wp2_with fail
 refine (HVl.out _ Hb2.out).mono ?_;rintro e3 w3 ⟨rfl,hb⟩;have Hb3:=zh (Hb2.out.trans (hb.mono Hb2.out.size));have HX:=zh (HX.out.below hb (zr _));have HY:=zh (HY.out.below hb (zr _));clear hb Hb2 x0 x1 x2 x3 y0 y1 y2;obtain ⟨x0,x1,x2,x3⟩:=yc4 HX.out;obtain ⟨y0,y1,y2⟩:=yc3 HY.out;obtain ⟨q,hq⟩:∃ q,znM (znI ys) (rOf (errE ys)) b=q:=⟨_,rfl⟩;rw [hq]
 cases q with
 | false =>
  go_wp2_with fail
  go_ret
  exact ⟨rfl,Hb3.out⟩
 | true =>
 have HV:=zh hq;clear hq;have HX0lt3:w.heap.size+2<=w3.heap.size:=by have:=HY.out.lt;omega
 obtain ⟨⟨x,q⟩,hx⟩:∃ r,chkB (errE ys) b p=r:=⟨_,rfl⟩;have HC:=zh hx;clear hx;go_wp2_with fail
 refine (sub_gen (HG.out _ Hb3.out) Hok.out Hp3.out (HB.out _ Hb3.out) HV.out HC.out).mono ?_;rintro e4 w4 ⟨⟨t4,a1,n1,c1,a2,n2,c2,a3,n3,c3,rfl⟩,hb⟩;obtain ⟨L,hL⟩:∃ z,cond q (znC p.src).line 0=z:=⟨_,rfl⟩;obtain ⟨C,hC⟩:∃ z,cond q (znC p.src).col 0=z:=⟨_,rfl⟩;rw [hL,hC];have HL:=zh hL;have HCo:=zh hC;clear hL hC;obtain ⟨W4,hW,hb2,hU,hP,hs⟩:=zqb w4 [.int .i64 t4,.slice a1 n1 c1,.slice a2 n2 c2,.slice a3 n3 c3] [.int .i64 L,.int .i64 C] 26 38;have HW4:=zh hW;have Hb4:=zh ((Hb3.out.trans (hb.mono Hb3.out.size)).trans (hb2.mono (Nat.le_trans Hb3.out.size hb.size)));have HX:=zh ((HX.out.below hb (zr _)).below hb2 (zr _));have HY:=zh ((HY.out.below hb (zr _)).below hb2 (zr _));have HP:=zh hP;have hs4:w4.heap.size+2<=W4.heap.size:=by omega
 have hlt4:w.heap.size+2<=w4.heap.size:=by have:=hb.size;have:=HX0lt3;omega
 clear hW hb hb2 hU hP hs x0 x1 x2 x3 y0 y1 y2 Hb3;go_upto_region 6 with (fail)
 rw [<- HW4.out];have y2:=HY.out.cell (i:=2) rfl;go_wp2_with fail
 refine (par_gen (HG.out _ Hb4.out) p.src Hp3.out).mono ?_;rintro e5 w5 ⟨⟨la,ln,lc,pl,pc,f,xs,rfl,hL5,hok5,hsz5,hf1,hf2⟩,hb⟩;have Hb5:=zh (Hb4.out.trans (hb.mono Hb4.out.size));have HX:=zh (HX.out.below hb (zr _));have HY:=zh (HY.out.below hb (zr _));have HP:=zh (HP.out.below hb (zr _));have HCm:=zh (cmp_gen hok5 hsz5 hL5);have Hf1:=zh hf1;have Hf2:=zh hf2;have hs5:w4.heap.size+2<=w5.heap.size:=Nat.le_trans hs4 hb.size;clear hb hL5 hok5 hsz5 hf1 hf2 y2 Hb4;go_wp2_with fail
 refine HCm.out.mono ?_;rintro e6 w6 ⟨⟨P,va,vn,vc,g,rfl,hg⟩,hb⟩;obtain ⟨W6,hW,hb2,hQ,hs⟩:=box1 w6 [.slice va vn vc,.int .i64 P.locals,.int .u32 (w32 P.reads),.int .u32 (w32 P.writes)] 59;have HW6:=zh hW;have Hb6:=zh ((Hb5.out.trans (hb.mono Hb5.out.size)).trans (hb2.mono (Nat.le_trans Hb5.out.size hb.size)));have HX:=zh ((HX.out.below hb (zr _)).below hb2 (zr _));have HY:=zh ((HY.out.below hb (zr _)).below hb2 (zr _));have HP:=zh ((HP.out.below hb (zr _)).below hb2 (zr _));have HQ:=zh hQ;have Hg:=zh hg;clear hW hb hb2 hQ hs Hb5 HCm hg;go_upto_region 8 with (fail)
 rw [<- HW6.out];go_wp2_with fail
 have HFt:=zh (fun (y:Sys) W=>zoR P y (.slice va vn vc) W ⟨_,_,_,rfl⟩);unfold zow at HFt;go_loopw [14,16,56,57,58,59,60,61,62,63,64,65,66,67,68,69,70,71,72,73,74,75,76,77,78,79,80,81,82,83] (fun t14 t16 _ _ _ _ _ _ _ _ _ _ _ _ _ _ _ _ _ _ _ _ _ _ _ _ _ _ _ _ wr=>∃ (k:Nat) (q:Bool),k<=ys.length/\t16=.int .i64 k/\t14=.bool q/\Hid (Below W6.heap.size W6 wr)/\Hid ((ys.take k).all (fitK p P.reads P.writes)=q)) (fun _ t16 _ _ _ _ _ _ _ _ _ _ _ _ _ _ _ _ _ _ _ _ _ _ _ _ _ _ _ _ _=>ys.length - (intOf t16).toNat)
 case atStart=>exact ⟨0,true,by omega,by first | rfl | go_num,rfl,zh (Below.refl _ _),zh rfl⟩
 case round =>
  obtain ⟨k,q6,hk,rfl,rfl,HL6,HK⟩:=hrel;have Hb7:=zh (Hb6.out.trans (HL6.out.mono Hb6.out.size));have x1:=(HX.out.below HL6.out (zr _)).cell (i:=1) rfl;have y1:=(HY.out.below HL6.out (zr _)).cell (i:=1) rfl;by_cases hkl:k < ys.length
  ·have hki:(k:Int) < (ys.length:Int):=by omega
   have hcl:(ys.length:Int)<=9223372036854775807:=by omega
   have Hst:=zh (allt_step (f:=fitK p P.reads P.writes) hkl);rw [HK.out] at Hst
   cases q6 with
   | false =>
    go_wp2_with fail
    refine wp_region_tailh 21 (fun w'=>Below wr.heap.size wr w') (by kernel_rfl) (by kernel_rfl) ((Below.refl _ _).drew) ?_;simp only [List.take_succ_cons,List.take_zero,List.drop_succ_cons,List.drop_zero]
    repeat
     try simp only [Act.put,zs1,zs3,zs2]
     apply stepsSeq.cons
     ·intro w' hb1;have Hb1':=zh hb1;have x1':=Below.keep hb1 x1;have y1':=Below.keep hb1 y1;simp only [Act.put,zs1,zs3,zs2];go_wp2_with (fail)
      first | exact ⟨rfl,Hb1'.out⟩ | exact ⟨rfl,Hb1'.out.trans (hb2.mono Hb1'.out.size)⟩
    try simp only [Act.put,zs1,zs3,zs2]
    refine stepsSeq.nil ?_;intro w' hb1;have HL7:=zh (HL6.out.trans (hb1.mono HL6.out.size));go_wp2_with fail
    go_roundw
    case rel=>exact ⟨k+1,false,by omega,by go_num,rfl,HL7,zh Hst.out⟩
    case measure=>simp [intOf];omega
   | true =>
   obtain ⟨g1,o1,rfl,hg1,hc1⟩:=(Syss.below (HB.out _ Hb6.out).sys HL6.out (zr _)).at hkl;have c:=hc1 k hkl;obtain ⟨c0,c1,c2,c3⟩:=c;clear hc1;obtain ⟨z0,z1,z2,z3⟩:=yc4 (HQ.out.below HL6.out (zr _));by_cases hsl:(ys[k]).pg=p.slot
   ·have HFk:=zh (fun W=>HFt.out ys[k] W);unfold Sys.val at HFk;have Hfi:=zh (fit_at (r:=P.reads) (m:=P.writes) hsl);obtain ⟨fq,hfq⟩:∃ z,zn9 P.reads P.writes ys[k]=z:=⟨_,rfl⟩;rw [hfq] at Hfi HFk;rw [Hfi.out] at Hst;rw [hsl] at HFk c3;clear hsl
    generalize ys[k]=yk at *
    go_wp2_with fail
    refine wp_region_tailh 21 (fun w'=>Below wr.heap.size wr w') (by kernel_rfl) (by kernel_rfl) ((Below.refl _ _).drew) ?_;simp only [List.take_succ_cons,List.take_zero,List.drop_succ_cons,List.drop_zero]
    repeat
     try simp only [Act.put,zs1,zs3,zs2]
     apply stepsSeq.cons
     ·intro w' hb1;have Hb1':=zh hb1;have x1':=Below.keep hb1 x1;have y1':=Below.keep hb1 y1;have c0':=Below.keep hb1 c0;have c1':=Below.keep hb1 c1;have c2':=Below.keep hb1 c2;have c3':=Below.keep hb1 c3;have z0':=Below.keep hb1 z0;have z1':=Below.keep hb1 z1;have z2':=Below.keep hb1 z2;have z3':=Below.keep hb1 z3;simp only [Act.put,zs1,zs3,zs2];go_wp2_with (go_at_call 26;refine (HFk.out _).mono ?_;rintro e2 w2 ⟨rfl,hb2⟩)
      first | exact ⟨rfl,Hb1'.out⟩ | exact ⟨rfl,Hb1'.out.trans (hb2.mono Hb1'.out.size)⟩
    try simp only [Act.put,zs1,zs3,zs2]
    refine stepsSeq.nil ?_;intro w' hb1;have HL7:=zh (HL6.out.trans (hb1.mono HL6.out.size));go_wp2_with fail
    go_roundw
    case rel=>exact ⟨k+1,fq,by omega,by go_num,rfl,HL7,zh Hst.out⟩
    case measure=>simp [intOf];omega
   ·have Hfi:=zh (fit_no (r:=P.reads) (m:=P.writes) hsl);rw [Hfi.out] at Hst
    generalize ys[k]=yk at *
    go_wp2_with fail
    refine wp_region_tailh 21 (fun w'=>Below wr.heap.size wr w') (by kernel_rfl) (by kernel_rfl) ((Below.refl _ _).drew) ?_;simp only [List.take_succ_cons,List.take_zero,List.drop_succ_cons,List.drop_zero]
    repeat
     try simp only [Act.put,zs1,zs3,zs2]
     apply stepsSeq.cons
     ·intro w' hb1;have Hb1':=zh hb1;have x1':=Below.keep hb1 x1;have y1':=Below.keep hb1 y1;have c0':=Below.keep hb1 c0;have c1':=Below.keep hb1 c1;have c2':=Below.keep hb1 c2;have c3':=Below.keep hb1 c3;have z0':=Below.keep hb1 z0;have z1':=Below.keep hb1 z1;have z2':=Below.keep hb1 z2;have z3':=Below.keep hb1 z3;simp only [Act.put,zs1,zs3,zs2];go_wp2_with (fail)
      first | exact ⟨rfl,Hb1'.out⟩ | exact ⟨rfl,Hb1'.out.trans (hb2.mono Hb1'.out.size)⟩
    try simp only [Act.put,zs1,zs3,zs2]
    refine stepsSeq.nil ?_;intro w' hb1;have HL7:=zh (HL6.out.trans (hb1.mono HL6.out.size));go_wp2_with fail
    go_roundw
    case rel=>exact ⟨k+1,true,by omega,by go_num,rfl,HL7,zh Hst.out⟩
    case measure=>simp [intOf];omega
  ·have hki:¬ (k:Int) < (ys.length:Int):=by omega
   have hke:k=ys.length:=by omega
   have HFit:=zh (fit_all (hke ▸ HK.out));clear hke HK hk hkl;go_wp2_with fail
   go_loopw [15,17,84,85,86,87,88,89,90,91,92,93,94,95,96,97,98,99,100,101,102,103,104,105,106,107,108,109,110,111,112,113] (fun t15 t17 _ _ _ _ _ _ _ _ _ _ _ _ _ _ _ _ _ _ _ _ _ _ _ _ _ _ _ _ _ _ wr=>∃ (k:Nat) (q:Bool),k<=b.pend.length/\t17=.int .i64 k/\t15=.bool q/\Hid (Below W6.heap.size W6 wr)/\Hid ((b.pend.take k).all (freeK p)=q)) (fun _ t17 _ _ _ _ _ _ _ _ _ _ _ _ _ _ _ _ _ _ _ _ _ _ _ _ _ _ _ _ _ _ _=>b.pend.length - (intOf t17).toNat)
   case atStart=>exact ⟨0,true,by omega,by first | rfl | go_num,rfl,HL6,zh rfl⟩
   case round =>
    clear hki x1 y1 Hb7 HL6;obtain ⟨k,q7,hk,rfl,rfl,HL6,HK⟩:=hrel;have Hb7:=zh (Hb6.out.trans (HL6.out.mono Hb6.out.size));have x3:=(HX.out.below HL6.out (zr _)).cell (i:=3) rfl;obtain ⟨y0,y1⟩:=yc2 (HY.out.below HL6.out (zr _));by_cases hkl:k < b.pend.length
    ·have hki:(k:Int) < (b.pend.length:Int):=by omega
     have hcl:(b.pend.length:Int)<=9223372036854775807:=by omega
     have Hst:=zh (allt_step (f:=freeK p) hkl);rw [HK.out] at Hst
     cases q7 with
     | false =>
      go_wp2_with fail
      refine wp_region_tailh 23 (fun w'=>Below wr.heap.size wr w') (by kernel_rfl) (by kernel_rfl) ((Below.refl _ _).drew) ?_;simp only [List.take_succ_cons,List.take_zero,List.drop_succ_cons,List.drop_zero]
      repeat
       try simp only [Act.put,zs1,zs3,zs2]
       apply stepsSeq.cons
       ·intro w' hb1;have Hb1':=zh hb1;have x3':=Below.keep hb1 x3;have y0':=Below.keep hb1 y0;have y1':=Below.keep hb1 y1;simp only [Act.put,zs1,zs3,zs2];go_wp2_with (fail)
        first | exact ⟨rfl,Hb1'.out⟩ | exact ⟨rfl,Hb1'.out.trans (hb2.mono Hb1'.out.size)⟩
      try simp only [Act.put,zs1,zs3,zs2]
      refine stepsSeq.nil ?_;intro w' hb1;have HL7:=zh (HL6.out.trans (hb1.mono HL6.out.size));go_wp2_with fail
      go_roundw
      case rel=>exact ⟨k+1,false,by omega,by go_num,rfl,HL7,zh Hst.out⟩
      case measure=>simp [intOf];omega
     | true =>
     obtain ⟨g1,o1,rfl,hg1,hc1⟩:=((HB.out _ Hb6.out).pend.below HL6.out (zr _)).at (by omega);obtain ⟨c0,c1,c2⟩:=hc1 k hkl;clear hc1;by_cases hs1:(b.pend[k]).tick=p.tick
     ·by_cases hs2:(b.pend[k]).slot=p.slot
      ·have Hfi:=zh (free_at hs1 hs2);rw [Hfi.out] at Hst;rw [hs1] at c0;rw [hs2] at c1;clear hs1 hs2
       generalize b.pend[k]=xk at *
       go_wp2_with fail
       refine wp_region_tailh 23 (fun w'=>Below wr.heap.size wr w') (by kernel_rfl) (by kernel_rfl) ((Below.refl _ _).drew) ?_;simp only [List.take_succ_cons,List.take_zero,List.drop_succ_cons,List.drop_zero]
       repeat
        try simp only [Act.put,zs1,zs3,zs2]
        apply stepsSeq.cons
        ·intro w' hb1;have Hb1':=zh hb1;have x3':=Below.keep hb1 x3;have y0':=Below.keep hb1 y0;have y1':=Below.keep hb1 y1;have c0':=Below.keep hb1 c0;have c1':=Below.keep hb1 c1;simp only [Act.put,zs1,zs3,zs2];go_wp2_with (fail)
         first | exact ⟨rfl,Hb1'.out⟩ | exact ⟨rfl,Hb1'.out.trans (hb2.mono Hb1'.out.size)⟩
       try simp only [Act.put,zs1,zs3,zs2]
       refine stepsSeq.nil ?_;intro w' hb1;have HL7:=zh (HL6.out.trans (hb1.mono HL6.out.size));go_wp2_with fail
       go_roundw
       case rel=>exact ⟨k+1,false,by omega,by go_num,rfl,HL7,zh Hst.out⟩
       case measure=>simp [intOf];omega
      ·have Hfi:=zh (free_no (x:=b.pend[k]) (p:=p) (fun h=>hs2 h.2));rw [Hfi.out] at Hst;rw [hs1] at c0;clear hs1
       generalize b.pend[k]=xk at *
       go_wp2_with fail
       refine wp_region_tailh 23 (fun w'=>Below wr.heap.size wr w') (by kernel_rfl) (by kernel_rfl) ((Below.refl _ _).drew) ?_;simp only [List.take_succ_cons,List.take_zero,List.drop_succ_cons,List.drop_zero]
       repeat
        try simp only [Act.put,zs1,zs3,zs2]
        apply stepsSeq.cons
        ·intro w' hb1;have Hb1':=zh hb1;have x3':=Below.keep hb1 x3;have y0':=Below.keep hb1 y0;have y1':=Below.keep hb1 y1;have c0':=Below.keep hb1 c0;have c1':=Below.keep hb1 c1;simp only [Act.put,zs1,zs3,zs2];go_wp2_with (fail)
         first | exact ⟨rfl,Hb1'.out⟩ | exact ⟨rfl,Hb1'.out.trans (hb2.mono Hb1'.out.size)⟩
       try simp only [Act.put,zs1,zs3,zs2]
       refine stepsSeq.nil ?_;intro w' hb1;have HL7:=zh (HL6.out.trans (hb1.mono HL6.out.size));go_wp2_with fail
       go_roundw
       case rel=>exact ⟨k+1,true,by omega,by go_num,by first | rfl | simp [hs2],HL7,zh Hst.out⟩
       case measure=>simp [intOf];omega
     ·have Hfi:=zh (free_no (x:=b.pend[k]) (p:=p) (fun h=>hs1 h.1));rw [Hfi.out] at Hst
      generalize b.pend[k]=xk at *
      go_wp2_with fail
      refine wp_region_tailh 23 (fun w'=>Below wr.heap.size wr w') (by kernel_rfl) (by kernel_rfl) ((Below.refl _ _).drew) ?_;simp only [List.take_succ_cons,List.take_zero,List.drop_succ_cons,List.drop_zero]
      repeat
       try simp only [Act.put,zs1,zs3,zs2]
       apply stepsSeq.cons
       ·intro w' hb1;have Hb1':=zh hb1;have x3':=Below.keep hb1 x3;have y0':=Below.keep hb1 y0;have y1':=Below.keep hb1 y1;have c0':=Below.keep hb1 c0;have c1':=Below.keep hb1 c1;simp only [Act.put,zs1,zs3,zs2];go_wp2_with (fail)
        first | exact ⟨rfl,Hb1'.out⟩ | exact ⟨rfl,Hb1'.out.trans (hb2.mono Hb1'.out.size)⟩
      try simp only [Act.put,zs1,zs3,zs2]
      refine stepsSeq.nil ?_;intro w' hb1;have HL7:=zh (HL6.out.trans (hb1.mono HL6.out.size));go_wp2_with fail
      go_roundw
      case rel=>exact ⟨k+1,true,by omega,by go_num,rfl,HL7,zh Hst.out⟩
      case measure=>simp [intOf];omega
    ·have hki:¬ (k:Int) < (b.pend.length:Int):=by omega
     have hke:k=b.pend.length:=by omega
     have HFree:=zh (free_all (hke ▸ HK.out));have x0:=(HX.out.below HL6.out (zr _)).cell (i:=0) rfl;have x2:=(HX.out.below HL6.out (zr _)).cell (i:=2) rfl;clear hke HK hk hkl;go_wp2_with fail
     clear hki;obtain ⟨z0,hz0⟩:∃ z,decide (0<=p.slot)=z:=⟨_,rfl⟩;obtain ⟨z1,hz1⟩:∃ z,decide (p.slot < (b.scr.length:Int))=z:=⟨_,rfl⟩;obtain ⟨zl,hzl⟩:∃ z,decide (p.tick<=b.tick)=z:=⟨_,rfl⟩;obtain ⟨zm,hzm⟩:∃ z,decide (1073741824 < p.tick)=z:=⟨_,rfl⟩;have HB1:=zh (chk_bad HC.out hzm hzl hz0 hz1);by_cases hbd:(zm || zl || !z0 || !z1)=true
     ·have hx0:¬ x=0:=HB1.out hbd;have hx6:=chk_bad6 HC.out hzm hzl hz0 hz1 hbd;cases zm <;> cases zl <;> cases z0 <;> cases z1
      all_goals first | (exfalso;revert hbd;decide) | skip
      all_goals
       clear hbd;first | change (x != 6)=true at hx6 | change (x != 6)=false at hx6
       refine zac (fun w'=>Below wr.heap.size wr w') (by kernel_rfl) (by kernel_rfl) ((Below.refl _ _).drew) ?_
       repeat
        try simp only [Act.put,zs1,zs3,zs2]
        apply stepsSeq.cons
        ·intro w' hb1;have Hb1':=zh hb1;have x0':=Below.keep hb1 x0;have x2':=Below.keep hb1 x2;have x3':=Below.keep hb1 x3;have y0':=Below.keep hb1 y0;have y1':=Below.keep hb1 y1;simp only [Act.put,zs1,zs3,zs2];go_wp2_with (fail)
         first | exact ⟨rfl,Hb1'.out⟩ | exact ⟨rfl,Hb1'.out.trans (hb2.mono Hb1'.out.size)⟩
       try simp only [Act.put,zs1,zs3,zs2]
       refine stepsSeq.nil ?_;intro w' hb1;have y0:=Below.keep hb1 y0;have HL7:=zh (Hb7.out.trans (hb1.mono Hb7.out.size));clear hb1;go_wp2_with fail
       go_ret;refine ⟨?_,HL7.out⟩;first | rfl | (simp [hx0];done)
     ·obtain ⟨rfl,rfl,rfl,rfl⟩:zm=false/\zl=false/\z0=true/\z1=true:=by revert hbd;cases zm <;> cases zl <;> cases z0 <;> cases z1 <;> decide
      clear hbd;refine zac (fun w'=>Below wr.heap.size wr w') (by kernel_rfl) (by kernel_rfl) ((Below.refl _ _).drew) ?_
      repeat
       try simp only [Act.put,zs1,zs3,zs2]
       apply stepsSeq.cons
       ·intro w' hb1;have Hb1':=zh hb1;have x0':=Below.keep hb1 x0;have x2':=Below.keep hb1 x2;have x3':=Below.keep hb1 x3;have y0':=Below.keep hb1 y0;have y1':=Below.keep hb1 y1;simp only [Act.put,zs1,zs3,zs2];go_wp2_with (fail)
        first | exact ⟨rfl,Hb1'.out⟩ | exact ⟨rfl,Hb1'.out.trans (hb2.mono Hb1'.out.size)⟩
      try simp only [Act.put,zs1,zs3,zs2]
      refine stepsSeq.nil ?_;intro w' hb1;have x3:=Below.keep hb1 x3;have y0:=Below.keep hb1 y0;have HL7:=zh (Hb7.out.trans (hb1.mono Hb7.out.size));obtain ⟨p0,p1⟩:=yc2 (HP.out.below (HL6.out.trans (hb1.mono HL6.out.size)) (zr _));clear hb1;rcases chk_good HC.out hzm hzl hz0 hz1 HL.out HCo.out Hf1.out Hf2.out Hg.out HFit.out HFree.out HV.out with ⟨hf,hx,hL,hC⟩ | ⟨hf,hr⟩
      ·subst hx hL hC;have hfb:(x != 0)=true:=by simpa using hf
       go_wp2_with fail
       go_ret;refine ⟨?_,HL7.out⟩;first | rfl | (simp;done)
      ·rcases hr with ⟨hg,hx⟩ | ⟨hg,hr⟩
       ·subst hx;have hgb:(x != 0)=true:=by simpa using hg
        go_wp2_with fail
        go_ret;refine ⟨?_,HL7.out⟩;first | rfl | (simp;done)
       ·rcases hr with ⟨rfl,hx⟩ | ⟨rfl,hr⟩
        ·go_wp2_with fail
         go_ret;refine ⟨?_,HL7.out⟩;first | rfl | (simp [hx];done)
        ·rcases hr with ⟨rfl,hx⟩ | ⟨rfl,hr⟩
         ·go_wp2_with fail
          go_ret;refine ⟨?_,HL7.out⟩;first | rfl | (simp [hx];done)
         ·rcases hr with ⟨hx,hn⟩ | ⟨hx,hn⟩
          ·have hx4:(x == 4)=true:=by rw [hx];rfl
           have hx0:(x == 0)=false:=by rw [hx];rfl
           have hn4:((b.pend.length:Int) == 32)=true:=by rw [hn];rfl
           clear hx hn;go_wp2_with fail
           go_ret;refine ⟨?_,HL7.out⟩;first | rfl | (simp [hx4,hn4];done)
          ·have hx4:(x == 4)=false:=by rw [hx];rfl
           have hx0:(x == 0)=true:=by rw [hx];rfl
           have hn4:((b.pend.length:Int) == 32)=false:=by simpa using hn
           clear hx hn;go_wp2_with fail
           go_ret;refine ⟨?_,HL7.out⟩;first | rfl | (simp [hx4,hx0,hn4];done)
end Go.Proofs.YtdhikpkecmaplaaGreatDoor
