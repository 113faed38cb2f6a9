/- The program's translator in memory; its small methods, walked. -/
import Derived.Test.YtdeneckmoejcfaaRCodeZs
import Derived.Outline
import Derived.Laws.OwnMore
set_option linter.unusedSimpArgs false
set_option linter.unusedVariables false
set_option maxRecDepth 100000
set_option maxHeartbeats 2000000
namespace Go.Proofs.Ytdeneckmoejcfaa
open Go.RowKit

def strT (s : List UInt8) : Value := .string (bstr s)
structure TrC (w : World) (t B : Nat) (vc vn : Value) (s : TS) : Prop where
  blk : OwnV w t 78 [vc, .int .i64 s.locals, .int .u32 0, .int .u32 0, vn, .int .i64 s.e]
  code : w.ownsRow B 35 2 vc s.code.length (znH s.code)
  names : w.ownsRow B 9 1 vn s.names.length (s.names.map strT)
  tB : B <= t
  tc : vc.ownBlock ≠ some t
  tn : vn.ownBlock ≠ some t
  cn : ∀ g, vc.ownBlock = some g -> vn.ownBlock ≠ some g
def TrS (t : Nat) (vc vn : Value) (k : Nat) : Prop := k = t ∨ vc.ownBlock = some k ∨ vn.ownBlock = some k
structure TrF (t : Nat) (vc vn : Value) (w : World) (vc' vn' : Value) (w' : World) : Prop where
  only : Only (TrS t vc vn) w w'
  next : ∀ k, TrS t vc' vn' k -> TrS t vc vn k ∨ w.heap.size <= k
theorem TrF.refl (t:Nat) (vc vn:Value) (w:World):TrF t vc vn w vc vn w:=⟨Only.refl _ _,fun _ h=>.inl h⟩
theorem TrF.trans {t:Nat} {vc vn vc1 vn1 vc2 vn2:Value} {a b c:World} (h:TrF t vc vn a vc1 vn1 b) (k:TrF t vc1 vn1 b vc2 vn2 c):TrF t vc vn a vc2 vn2 c:=
 ⟨h.only.transNew k.only h.next,fun i hi=>by
  rcases k.next i hi with h1 | h1
  ·exact h.next i h1
  ·exact .inr (yT h.only.size h1)⟩
theorem TrF.drew {t:Nat} {vc vn vc1 vn1:Value} {a b:World} (h:TrF t vc vn a vc1 vn1 b) (n:Nat):TrF t vc vn a vc1 vn1 (b.drewN n):=⟨h.only.drewN n,h.next⟩
theorem TrF.of_below (t:Nat) (vc vn:Value) {w w':World} (h:Below w.heap.size w w'):TrF t vc vn w vc vn w':=⟨Only.of_below h,fun _ h=>.inl h⟩
theorem TrC.lt {w:World} {t B:Nat} {vc vn:Value} {s:TS} (h:TrC w t B vc vn s) {k:Nat} (hk:TrS t vc vn k):B<=k/\k < w.heap.size:=by
 rcases hk with rfl | hk | hk
 ·exact ⟨h.tB,h.blk.lt⟩
 ·exact h.code.lt k hk
 ·exact h.names.lt k hk
theorem TrF.below {w w':World} {t B:Nat} {vc vn vc' vn':Value} {s:TS} (h:TrC w t B vc vn s) (k:TrF t vc vn w vc' vn' w') (hB:B<=w.heap.size):Below B w w':=k.only.below (fun _ hk=>(h.lt hk).1) hB
theorem TrF.size {t:Nat} {vc vn vc' vn':Value} {w w':World} (k:TrF t vc vn w vc' vn' w'):w.heap.size<=w'.heap.size:=k.only.size
theorem TrF.own {t:Nat} {vc vn vc' vn':Value} {w w':World} (k:TrF t vc vn w vc' vn' w') {g:Nat} {e:TypeId} {vs:List Value} (h:OwnV w g e vs) (hn:¬ TrS t vc vn g):OwnV w' g e vs/\¬ TrS t vc' vn' g:=
 ⟨k.only.own h hn,fun hg=>by
  rcases k.next g hg with h1 | h1
  ·exact hn h1
  ·have:=h.lt;omega⟩
theorem TrC.not {w:World} {t B:Nat} {vc vn:Value} {s:TS} (h:TrC w t B vc vn s) {g:Nat} (hg:w.heap.size<=g):¬ TrS t vc vn g:=fun hk=>by have:=(h.lt hk).2;omega
theorem TrC.grown {w w':World} {t B:Nat} {vc vn:Value} {s:TS} (h:TrC w t B vc vn s) (hb:Below w.heap.size w w'):TrC w' t B vc vn s:=
 ⟨h.blk.below hb (zr _),zbu h.code hb (zr _),zbu h.names hb (zr _),h.tB,h.tc,h.tn,h.cn⟩
theorem TrC.drew {w:World} {t B:Nat} {vc vn:Value} {s:TS} (h:TrC w t B vc vn s) (n:Nat):TrC (w.drewN n) t B vc vn s:=h.grown ⟨rfl,rfl,rfl,zr _,fun _ _=>rfl⟩
def TrP (w : World) (t B : Nat) (vc vn : Value) (s' : TS) (r : Value) (e : Ending) (w' : World) : Prop :=
  e = .returned r /\ ∃ vc' vn', TrC w' t B vc' vn' s' /\ TrF t vc vn w vc' vn' w'
theorem zsk:(Try.prog.info? 35).map (fun i=>(i.zero,i.size,i.bytes))=some (some (.agg #[.int .u8 0,.int .i64 0]),2,16):=by kernel_rfl
theorem zsl:(Try.prog.info? 9).map (fun i=>(i.zero,i.size,i.bytes))=some (some (.string ⟨#[]⟩),1,16):=by kernel_rfl
theorem zn3 {w w':World} {row:Option Nat} (hg:w.grownBy w' row) {base:Nat} {e:TypeId} {sz:Nat} {v:Value} {n:Nat} {xs:List Value} (h:w.ownsRow base e sz v n xs) (hn:∀ g,v.ownBlock=some g->row≠some g):w'.ownsRow base e sz v n xs:=
 (Only.of_grown (S:=fun k=>row=some k) hg (fun g hr=>hr)).row h (fun g hg' hr=>hn g hg' hr)
theorem TrC.pushed {w w1:World} {t B:Nat} {vc vn v':Value} {s:TS} (h:TrC w t B vc vn s) (op a:Int) (hown:w1.ownsRow B 35 2 v' (s.code.length+1) (znH s.code++[.int .u8 op,.int .i64 a])) (hg:w.grownBy w1 vc.ownBlock) (hat:v'.ownBlock=vc.ownBlock∨∃ g,v'.ownBlock=some g/\w.heap.size<=g) :
  TrC (w1.setCell ⟨t,0,none⟩ v') t B v' vn (s.put op a)/\TrF t vc vn w v' vn (w1.setCell ⟨t,0,none⟩ v'):=by
 have ht:=h.blk.lt
 have htc:v'.ownBlock≠some t:=by
  rcases hat with e | ⟨g,e,hge⟩
  ·rw [e];exact h.tc
  ·rw [e];intro e2;cases e2;omega
 have hb1:OwnV w1 t 78 [vc,.int .i64 s.locals,.int .u32 0,.int .u32 0,vn,.int .i64 s.e]:=h.blk.grown hg (fun e=>h.tc e.symm);have hn1:=zn3 hg h.names (fun g hg' e=>h.cn g e hg')
 have hcn:∀ g,v'.ownBlock=some g->vn.ownBlock≠some g:=by
  intro g e;rcases hat with e1 | ⟨g',e1,hge⟩
  ·exact h.cn g (e1 ▸ e)
  ·intro e2;rw [e1] at e;cases e;have:=(h.names.lt g e2).2;omega
 refine ⟨⟨hb1.set 0 v',?_,zdB hn1 (fun g hg' e=>by subst e;exact h.tn hg') _ _,h.tB,htc,h.tn,hcn⟩,?_,?_⟩
 ·have e:znH (s.put op a).code=znH s.code++[.int .u8 op,.int .i64 a]:=by rw [TS.put_code,zrL];rfl
  have el:(s.put op a).code.length=s.code.length+1:=by simp [TS.put_code]
  rw [e,el];exact zdB hown (fun g hg' e=>by subst e;exact htc hg') _ _
 ·exact (Only.of_grown hg (fun g hr=>.inr (.inl hr))).setIn (.inl rfl) _
 ·intro k hk;rcases hk with rfl | hk | hk
  ·exact .inl (.inl rfl)
  ·rcases hat with e1 | ⟨g',e1,hge⟩
   ·exact .inl (.inr (.inl (e1 ▸ hk)))
   ·rw [e1] at hk;cases hk;exact .inr hge
  ·exact .inl (.inr (.inr hk))
theorem znS (op a:Int) (w:World) (t B:Nat) (vc vn:Value) (s:TS) (h:TrC w t B vc vn s) (hB:B<=w.heap.size) (hl:s.code.length<=1000000) :
  Calls Try.prog 86 #[.pointer (some ⟨t,0,none⟩),.int .u8 op,.int .i64 a] w (TrP w t B vc vn (s.put op a) (.tuple #[])):=by
 obtain ⟨ac,capc,rfl,_,_⟩:=Sl.form (Sl.of_own h.code);obtain ⟨an,capn,rfl,_,_⟩:=Sl.form (Sl.of_own h.names);have H:=zh h;have x0:=h.blk.cell (i:=0) rfl;have xf:=h.blk.free;have hcode:=h.code;clear h;go_enter Try.func86,Try.ntmps86
 go_wp2_with (at_builtin;refine zbj rfl (.tmp 11) (.tmp 15) 26 rfl hcode zsk Try.underlying26 rfl (by decide) rfl 1 1 rfl rfl rfl (by unfold maxLen;omega) (by omega) hB ?_;intro v' w1 hown1 hg1 hb1 hat1;obtain ⟨a1,cap1,rfl,_,_⟩:=Sl.form (Sl.of_own hown1);obtain ⟨c1,c2⟩:=H.out.pushed op a hown1 hg1 hat1;have hfz:=(H.out.blk.grown hg1 (fun e=>H.out.tc e.symm)).free;have xc1:=(H.out.blk.grown hg1 (fun e=>H.out.tc e.symm)).cell (i:=0) rfl;have C1:=zh c1;have C2:=zh c2;clear c1 c2)
 exact yE (results_none rfl _ _ _) rfl ⟨rfl,_,_,C1.out,C2.out⟩

theorem TrC.setE {w:World} {t B:Nat} {vc vn:Value} {s:TS} (h:TrC w t B vc vn s) (k:Int):TrC (w.setCell ⟨t,5,none⟩ (.int .i64 k)) t B vc vn { s with e:=k }/\TrF t vc vn w vc vn (w.setCell ⟨t,5,none⟩ (.int .i64 k)):=
 ⟨⟨h.blk.set 5 _,zdB h.code (fun g hg e=>by subst e;exact h.tc hg) _ _,zdB h.names (fun g hg e=>by subst e;exact h.tn hg) _ _,h.tB,h.tc,h.tn,h.cn⟩,(Only.refl _ _).setIn (.inl rfl) _,fun _ hk=>.inl hk⟩
theorem zpy (k:Int) (w:World) (t B:Nat) (vc vn:Value) (s:TS) (h:TrC w t B vc vn s) :
  Calls Try.prog 42 #[.pointer (some ⟨t,0,none⟩),.int .i64 k] w (TrP w t B vc vn (s.fail k) (.tuple #[])):=by
 have H:=zh h;have x0:=h.blk.cell (i:=5) rfl;have xf:=h.blk.free;clear h;obtain ⟨q,hq⟩:∃ q:Bool,(s.e == 0)=q:=⟨_,rfl⟩;cases q
 ·have Hs:Hid (s.fail k=s):=zh (by unfold TS.fail;rw [yN (by simpa using hq)]);go_enter Try.func42,Try.ntmps42
  go_wp2_with fail
  exact yE (results_none rfl _ _ _) rfl ⟨rfl,_,_,by rw [Hs.out];exact H.out,TrF.refl _ _ _ _⟩
 ·have Hs:Hid (s.fail k={ s with e:=k }):=zh (by unfold TS.fail;rw [yP (by simpa using hq)]);go_enter Try.func42,Try.ntmps42
  go_wp2_with fail
  exact yE (results_none rfl _ _ _) rfl ⟨rfl,_,_,by rw [Hs.out];exact (H.out.setE k).1,(H.out.setE k).2⟩
def LaterP (w : World) (t B : Nat) (vc vn : Value) (s' : TS) (k : Nat) (e : Ending) (w' : World) : Prop :=
  ∃ b1 b2, e = .returned (.func (.func 106) #[] #[.pointer (some ⟨b1, 0, none⟩), .pointer (some ⟨b2, 0, none⟩)]) /\ OwnV w' b1 76 [.pointer (some ⟨t, 0, none⟩)] /\ OwnV w' b2 3 [.int .i64 k] /\
    ∃ vc' vn', TrC w' t B vc' vn' s' /\ TrF t vc vn w vc' vn' w' /\ ¬ TrS t vc' vn' b1 /\ ¬ TrS t vc' vn' b2
theorem zoU (op:Int) (w:World) (t B:Nat) (vc vn:Value) (s:TS) (h:TrC w t B vc vn s) (hB:B<=w.heap.size) (hl:s.code.length<=1000000) :
  Calls Try.prog 89 #[.pointer (some ⟨t,0,none⟩),.int .u8 op] w (LaterP w t B vc vn (s.put op 0) s.code.length):=by
 obtain ⟨ac,capc,rfl,_,_⟩:=Sl.form (Sl.of_own h.code);obtain ⟨W1,hW1,hX1,hb1⟩:∃ W1,W1=w.alloc (.cells #[.pointer (some ⟨t,0,none⟩)] 76)/\OwnV W1 w.heap.size 76 [.pointer (some ⟨t,0,none⟩)]/\Below w.heap.size w W1:=⟨_,rfl,OwnV.new _ _ _,(yR _ _).alloc (zr _) _⟩;obtain ⟨W2,hW2,hX2,hb2⟩:∃ W2,W2=W1.alloc (.cells #[.int .i64 s.code.length] 3)/\OwnV W2 W1.heap.size 3 [.int .i64 s.code.length]/\Below W1.heap.size W1 W2:=⟨_,rfl,OwnV.new _ _ _,(yR _ _).alloc (zr _) _⟩;have HW1:=zh hW1;have HW2:=zh hW2;have h1:=h.grown hb1;have h2:=h1.grown hb2;have x0:=h1.blk.cell (i:=0) rfl;have y0:=hX1.cell (i:=0) rfl;have z0:=h2.blk.cell (i:=0) rfl;have z1:=(hX1.below hb2 (zr _)).cell (i:=0) rfl;have hs1:=hb1.size;have hs2:=hb2.size;have N1:=zh (h.not (g:=w.heap.size) (zr _));have N2:=zh (h.not (g:=W1.heap.size) hs1);have HP:=zh (znS op 0 W2 t B _ vn s h2 (by omega) hl);have HX1:=zh (hX1.below hb2 (zr _));have HX2:=zh hX2;have HF:=zh ((TrF.of_below t (.slice ac s.code.length capc) vn hb1).trans (TrF.of_below t _ vn hb2));clear h h1 h2 hb1 hb2 hX1 hX2 hW1 hW2;go_enter Try.func89,Try.ntmps89
 go_upto_region 1 with (fail)
 rw [<- HW1.out];go_upto_region 2 with (fail)
 rw [<- HW2.out];go_wp2_with fail
 refine HP.out.mono ?_;rintro e3 w3 ⟨rfl,vc',vn',hT3,hF3⟩;have HO1:=zh (hF3.own HX1.out N1.out);have HO2:=zh (hF3.own HX2.out N2.out);have HT3:=zh hT3;have HF3:=zh (HF.out.trans hF3);clear hT3 hF3;go_wp2_with fail
 go_ret;exact ⟨_,_,rfl,HO1.out.1,HO2.out.1,_,_,HT3.out,HF3.out,HO1.out.2,HO2.out.2⟩
theorem TrC.patched {w:World} {t B:Nat} {vc vn:Value} {s:TS} (h:TrC w t B vc vn s) {k:Nat} (hk:k < s.code.length) {g:Nat} (hg:vc.ownBlock=some g) :
  TrC (w.setCell ⟨g,k * 2+1,none⟩ (.int .i64 s.code.length)) t B vc vn (s.patch k)/\TrF t vc vn w vc vn (w.setCell ⟨g,k * 2+1,none⟩ (.int .i64 s.code.length)):=by
 have hcs:(znH s.code).set (k * 2+1) (.int .i64 s.code.length)=znH (s.patch k).code:=by
  show _=znH (setA s.code k s.code.length);generalize (s.code.length:Int)=x
  generalize s.code=c at *
  unfold setA
  induction c generalizing k with
  | nil=>simp at hk
  | cons i c ih =>
   cases k with
   | zero=>rfl
   | succ k =>
    rw [List.modify_succ_cons];show (i.cells++znH c).set ((k+1) * 2+1) _=i.cells++znH (c.modify k _);rw [<- ih (by simpa using hk),List.set_append_right _ _ (by simp [InsS.cells];omega)];congr 2
    simp [InsS.cells];omega
 have hlen:(s.patch k).code.length=s.code.length:=zoi _ _ _;have hgt:g≠t:=fun e=>h.tc (by rw [hg,e])
 refine ⟨⟨h.blk.set_ne (fun e=>hgt e.symm) _,?_,zdB h.names (fun b hb e=>h.cn g hg (by rw [hb,e])) _ _,h.tB,h.tc,h.tn,h.cn⟩,(Only.refl _ _).setIn (.inr (.inl hg)) _,fun _ hk=>.inl hk⟩;rw [hlen,<- hcs]
 obtain ⟨cap,rfl⟩:∃ cap,vc=.slice (some ⟨g,0,none⟩) s.code.length cap:=by
  rcases h.code.2 with ⟨rfl,-⟩ | ⟨g',cap,cur,rfl,-⟩
  ·cases hg
  ·cases hg;exact ⟨_,rfl⟩
 exact (h.code.stored _ _).1
theorem zoy (b1 b2 k:Nat) (w:World) (t B:Nat) (vc vn:Value) (s:TS) (h:TrC w t B vc vn s) (hk:k < s.code.length) (hl:s.code.length<=1000000) (h1:OwnV w b1 76 [.pointer (some ⟨t,0,none⟩)]) (h2:OwnV w b2 3 [.int .i64 k]) :
  Calls Try.prog 106 #[.pointer (some ⟨b1,0,none⟩),.pointer (some ⟨b2,0,none⟩)] w (TrP w t B vc vn (s.patch k) (.tuple #[])):=by
 obtain ⟨g,cap,hv⟩:∃ g cap,vc=.slice (some ⟨g,0,none⟩) s.code.length cap:=by
  rcases h.code.2 with ⟨-,h0⟩ | ⟨g',cap,cur,hv,-⟩
  ·omega
  ·exact ⟨g',cap,hv⟩
 subst hv;have x0:=h.blk.cell (i:=0) rfl;have y0:=h1.cell (i:=0) rfl;have z0:=h2.cell (i:=0) rfl;have hfz:=h.code.frozenAt;have hki:(k:Int) < (s.code.length:Int):=by omega
 have hki0:(0:Int)<=(k:Int):=by omega
 obtain ⟨v0,hv0⟩:∃ v0,w.cell? ⟨g,k * 2+1,none⟩=some v0:=by
  rw [h.code.cellAt _ (by omega)];exact ⟨_,yD (by rw [zpx];omega)⟩
 have HP:=zh (fun nq=>(h.drew nq).patched hk (g:=g) rfl);have HF:=zh (fun nq=>(TrF.refl t (.slice (some ⟨g,0,none⟩) s.code.length cap) vn w).drew nq);clear h h1 h2;go_enter Try.func106,Try.ntmps106
 go_wp2_with fail
 refine zaW 14 (DrewOf _) (by kernel_rfl) (by kernel_rfl) (DrewOf.start _) ?_;simp only [List.take_succ_cons,List.take_zero,List.drop_succ_cons,List.drop_zero]
 repeat
  try simp only [Act.put,zs1,zs3,zs2]
  apply stepsSeq.cons
  ·rintro w' ⟨nq,rfl⟩;simp only [Act.put,zs1,zs3,zs2];go_wp2_with (fail)
   first | exact ⟨rfl,nq,rfl⟩ | exact ⟨rfl,nq,(World.drewN_drewN _ _ _).symm⟩ | exact ⟨rfl,nq,by simp⟩
 try simp only [Act.put,zs1,zs3,zs2]
 refine stepsSeq.nil ?_;rintro w' ⟨nq,rfl⟩;go_wp2_with fail
 exact yE (results_none rfl _ _ _) rfl ⟨rfl,_,_,(HP.out _).1,(HF.out _).trans (HP.out _).2⟩

theorem TrC.strs {w:World} {t B:Nat} {vc vn:Value} {s:TS} (h:TrC w t B vc vn s):Strs w s.names vn:=Sl.of_own h.names
theorem zqS (name:List UInt8) (w:World) (t B:Nat) (vc vn:Value) (s:TS) (h:TrC w t B vc vn s) (hl:s.names.length<=1000000) :
  Calls Try.prog 88 #[.pointer (some ⟨t,0,none⟩),.string (bstr name)] w (TrP w t B vc vn (s.slot name) (.int .i64 ((zai name s.names 0:Int) - 1))):=by
 have HI:=zh (zgy s.names name vn w h.strs hl);have HF:=zh (zpy 131 w t B vc vn s h);have H:=zh h;have x4:=h.blk.cell (i:=4) rfl;clear h;have Hs:Hid (s.slot name=if zai name s.names 0=0 then s.fail 131 else s):=zh rfl
 generalize zai name s.names 0=p at *
 generalize s.slot name=s' at *
 go_enter Try.func88,Try.ntmps88
 by_cases hp:p=0
 ·have hp1:(p:Int) - 1 < 0:=by omega
  have Hs2:Hid (s'=s.fail 131):=zh (by rw [Hs.out,yP hp]);clear Hs hp;go_wp2_with fail
  go_at_call 105;refine HI.out.mono ?_;rintro e1 w1 ⟨rfl,rfl⟩;go_wp2_with fail
  refine HF.out.mono ?_;rintro e1 w1 ⟨rfl,vc',vn',hT,hF⟩;have HT:=zh hT;have HF2:=zh hF;clear hT hF;go_wp2_with fail
  go_ret;exact ⟨rfl,_,_,by rw [Hs2.out];exact HT.out,HF2.out⟩
 ·have hp1:¬ (p:Int) - 1 < 0:=by omega
  have hp2:(0:Int)<=(p:Int) - 1:=by omega
  have Hs2:Hid (s'=s):=zh (by rw [Hs.out,yN hp]);clear Hs hp;go_wp2_with fail
  go_at_call 105;refine HI.out.mono ?_;rintro e1 w1 ⟨rfl,rfl⟩;go_wp2_with fail
  go_ret;exact ⟨rfl,_,_,by rw [Hs2.out];exact H.out,TrF.refl _ _ _ _⟩
theorem TrC.named {w w1:World} {t B:Nat} {vc vn v':Value} {s:TS} (h:TrC w t B vc vn s) (name:List UInt8) (hown:w1.ownsRow B 9 1 v' (s.names.length+1) (s.names.map strT++[strT name])) (hg:w.grownBy w1 vn.ownBlock) (hat:v'.ownBlock=vn.ownBlock∨∃ g,v'.ownBlock=some g/\w.heap.size<=g) :
  TrC (w1.setCell ⟨t,4,none⟩ v') t B vc v' { s with names:=s.names++[name] }/\TrF t vc vn w vc v' (w1.setCell ⟨t,4,none⟩ v'):=by
 have ht:=h.blk.lt
 have htn:v'.ownBlock≠some t:=by
  rcases hat with e | ⟨g,e,hge⟩
  ·rw [e];exact h.tn
  ·rw [e];intro e2;cases e2;omega
 have hb1:OwnV w1 t 78 [vc,.int .i64 s.locals,.int .u32 0,.int .u32 0,vn,.int .i64 s.e]:=h.blk.grown hg (fun e=>h.tn e.symm);have hn1:=zn3 hg h.code (fun g hg' e=>h.cn g hg' e)
 have hcn:∀ g,vc.ownBlock=some g->v'.ownBlock≠some g:=by
  intro g e;rcases hat with e1 | ⟨g',e1,hge⟩
  ·rw [e1];exact h.cn g e
  ·intro e2;rw [e1] at e2;cases e2;have:=(h.code.lt g e).2;omega
 refine ⟨⟨hb1.set 4 v',zdB hn1 (fun g hg' e=>by subst e;exact h.tc hg') _ _,?_,h.tB,h.tc,htn,hcn⟩,?_,?_⟩
 ·rw [yA,List.map_append];exact zdB hown (fun g hg' e=>by subst e;exact htn hg') _ _
 ·exact (Only.of_grown hg (fun g hr=>.inr (.inr hr))).setIn (.inl rfl) _
 ·intro k hk;rcases hk with rfl | hk | hk
  ·exact .inl (.inl rfl)
  ·exact .inl (.inr (.inl hk))
  ·rcases hat with e1 | ⟨g',e1,hge⟩
   ·exact .inl (.inr (.inr (e1 ▸ hk)))
   ·rw [e1] at hk;cases hk;exact .inr hge
theorem TrC.setL {w:World} {t B:Nat} {vc vn:Value} {s:TS} (h:TrC w t B vc vn s) (k:Nat):TrC (w.setCell ⟨t,1,none⟩ (.int .i64 k)) t B vc vn { s with locals:=k }/\TrF t vc vn w vc vn (w.setCell ⟨t,1,none⟩ (.int .i64 k)):=
 ⟨⟨h.blk.set 1 _,zdB h.code (fun g hg e=>by subst e;exact h.tc hg) _ _,zdB h.names (fun g hg e=>by subst e;exact h.tn hg) _ _,h.tB,h.tc,h.tn,h.cn⟩,(Only.refl _ _).setIn (.inl rfl) _,fun _ hk=>.inl hk⟩
theorem TrC.setLx {w:World} {t B:Nat} {vc vn:Value} {s:TS} (h:TrC w t B vc vn s) (k:Nat) (x:Int) (hx:x=(k:Int)):TrC (w.setCell ⟨t,1,none⟩ (.int .i64 x)) t B vc vn { s with locals:=k }/\TrF t vc vn w vc vn (w.setCell ⟨t,1,none⟩ (.int .i64 x)):=by
 rw [hx];exact h.setL k
theorem zth (name:List UInt8) (w0 w:World) (t B:Nat) (vc0 vn0 vc vn:Value) (s:TS) (h0:TrF t vc0 vn0 w0 vc vn w) (h:TrC w t B vc vn s) (hB:B<=w.heap.size) (hl:s.names.length<=1000000) (hlo:s.locals<=2000000) :
    Calls Try.prog 87 #[.pointer (some ⟨t,0,none⟩),.string (bstr name)] w (TrP w0 t B vc0 vn0 (s.letN name) (.int .i64 s.names.length)):=by
  obtain ⟨ac,capc,rfl,_,_⟩:=Sl.form (Sl.of_own h.code)
  obtain ⟨an,capn,rfl,_,_⟩:=Sl.form (Sl.of_own h.names)
  have HC:=zh (zhA s.names name _ w h.strs hl)
  have HF:=zh (zpy 132 w t B _ _ s h)
  have HT:=zh h
  have H0:=zh h0
  have x4:=h.blk.cell (i:=4) rfl
  clear h h0
  obtain ⟨s1,hs1⟩:∃ s1,s1=s.letE name:=⟨_,rfl⟩
  obtain ⟨s2,hs2⟩:∃ s2,s2=s1.letM:=⟨_,rfl⟩
  have Hn1:Hid (s1.names=s.names/\s1.locals=s.locals):=zh (by rw [hs1];exact (TS.letE_parts _ _).2)
  have Hn2:Hid (s2.names=s.names/\s2.locals=s.locals):=zh (by rw [hs2,(TS.letM_parts _).2.1,(TS.letM_parts _).2.2];exact Hn1.out)
  have Hr:Hid (s.letN name={ s2 with names:=s2.names++[name],locals:=max s2.locals (s2.names.length+1) }):=zh (by rw [hs2,hs1];rfl)
  have Hs1:Hid (s1=if zai name s.names 0≠0 then s.fail 132 else s):=zh hs1
  have Hs2:Hid (s2=if 32<=s1.names.length then s1.fail 5 else s1):=zh hs2
  obtain ⟨q,hq⟩:∃ q,decide (zai name s.names 0≠0)=q:=⟨_,rfl⟩
  have Hq:Hid (decide (zai name s.names 0≠0)=q):=zh hq
  rw [hq] at HC
  clear hq hs1 hs2
  go_enter Try.func87,Try.ntmps87
  go_wp2_with fail
  go_at_call 104
  refine HC.out.mono ?_
  rintro e1 w1 ⟨rfl,rfl⟩
  clear HC
  cases q
  case' false => have HT1 : Hid (TrC w t B (.slice ac s.code.length capc) (.slice an s.names.length capn) s1) := zh (by rw [Hs1.out, yN (by simpa using Hq.out)]; exact HT.out)
                 clear HF HT
  case' true =>
    go_wp2_with fail
    refine HF.out.mono ?_
    rintro e1 w ⟨rfl,vc,vn,hT,hF⟩
    have HT1:Hid (TrC w t B vc vn s1):=zh (by rw [Hs1.out,yP (by simpa using Hq.out)];exact hT)
    replace H0:=zh (H0.out.trans hF)
    replace hB:=yT hB hF.size
    clear HF HT hT hF x4
    obtain ⟨ac,capc,rfl,_,_⟩:=Sl.form (Sl.of_own HT1.out.code)
    obtain ⟨an,capn,hvn,_,_⟩:=Sl.form (Sl.of_own HT1.out.names)
    rw [Hn1.out.1] at hvn
    subst hvn
  all_goals
    clear Hs1 Hq
    replace x4:=HT1.out.blk.cell (i:=4) rfl
    have HF:=zh (zpy 5 w t B _ _ s1 HT1.out)
    by_cases hm:32<=s.names.length
    case' neg =>
      have HT2:Hid (TrC w t B _ _ s2):=zh (by rw [Hs2.out,yN (by rw [Hn1.out.1];exact hm)];exact HT1.out)
      have hmi:¬ (s.names.length:Int) >= 32:=by omega
      clear HF HT1 Hs2 Hn1
      go_upto_region 5 with (fail)
    case' pos =>
      have hmi:(s.names.length:Int) >= 32:=by omega
      go_upto_region 4 with (fail)
      go_wp2_with fail
      refine HF.out.mono ?_
      rintro e1 w ⟨rfl,vc,vn,hT,hF⟩
      have HT2:Hid (TrC w t B vc vn s2):=zh (by rw [Hs2.out,yP (by rw [Hn1.out.1];exact hm)];exact hT)
      replace H0:=zh (H0.out.trans hF)
      replace hB:=yT hB hF.size
      clear HF HT1 hT hF x4 Hn1 Hs2
      obtain ⟨ac,capc,rfl,_,_⟩:=Sl.form (Sl.of_own HT2.out.code)
      obtain ⟨an,capn,hvn,_,_⟩:=Sl.form (Sl.of_own HT2.out.names)
      rw [Hn2.out.1] at hvn
      subst hvn
      go_upto_region 5 with (fail)
  all_goals
    have hnm:=HT2.out.names
    replace x4:=HT2.out.blk.cell (i:=4) rfl
    have xf:=HT2.out.blk.free
    have hl2:s2.names.length<=1000000:=by rw [Hn2.out.1];exact hl
    have hlo2:s2.locals<=2000000:=by rw [Hn2.out.2];exact hlo
    go_wp2_with (at_builtin;refine zbj rfl (.tmp 25) (.tmp 27) 53 rfl hnm zsl Try.underlying53 rfl (by decide) rfl 1 1 rfl rfl rfl (by unfold maxLen;omega) (by omega) hB ?_;intro v' w1 hown1 hg1 hb1 hat1;obtain ⟨a1,cap1,rfl,hc1,hc2⟩:=Sl.form (Sl.of_own hown1);have hN:=HT2.out.named name hown1 hg1 hat1;have xf1:=(HT2.out.blk.grown hg1 (fun e=>HT2.out.tn e.symm)).free;have x41:=(HT2.out.blk.grown hg1 (fun e=>HT2.out.tn e.symm)).cell (i:=4) rfl;have HN:=zh hN;clear hN hown1 hg1 hb1 hat1 hnm)
    have x41:=HN.out.1.blk.cell (i:=4) rfl
    have x11:(w1.setCell ⟨t,4,none⟩ (.slice a1 (s2.names.length+1) cap1)).cell? ⟨t,1,none⟩=some (.int .i64 s2.locals):=HN.out.1.blk.cell (i:=1) rfl
    have xf2:=HN.out.1.blk.free
    obtain ⟨W5,hW5⟩:∃ W5,W5=w1.setCell ⟨t,4,none⟩ (.slice a1 (s2.names.length+1) cap1):=⟨_,rfl⟩
    rw [<- hW5] at x41 x11 xf2 HN ⊢
    clear hW5
    by_cases hmx:s2.locals < s2.names.length+1
    case' pos =>
      obtain ⟨L,hL⟩:∃ L,L=s2.names.length+1:=⟨_,rfl⟩
      have hL2:L=max s2.locals (s2.names.length+1):=by omega
      have hmi1:(s2.locals:Int) < (s2.names.length:Int)+1:=by omega
    case' neg =>
      obtain ⟨L,hL⟩:∃ L,L=s2.locals:=⟨_,rfl⟩
      have hL2:L=max s2.locals (s2.names.length+1):=by omega
      have hmi2:(s2.names.length:Int)+1<=(s2.locals:Int):=by omega
    all_goals
      have HP:=zh (fun (nq:Nat) (x:Int) (hx:x=(L:Int))=>(HN.out.1.drew nq).setLx L x hx)
      have HF5:=zh (fun nq=>H0.out.trans (HN.out.2.drew nq))
      have HL:=zh hL
      have HL2:=zh hL2
      clear hL2 hL
      refine zaW 15 (DrewOf _) (by kernel_rfl) (by kernel_rfl) (DrewOf.start _) ?_
      simp only [List.take_succ_cons,List.take_zero,List.drop_succ_cons,List.drop_zero]
      repeat
        try simp only [Act.put,zs1,zs3,zs2]
        apply stepsSeq.cons
        · rintro w' ⟨nq,rfl⟩
          simp only [Act.put,zs1,zs3,zs2]
          go_wp2_with (fail)
          first | exact ⟨rfl,nq,rfl⟩ | exact ⟨rfl,nq,(World.drewN_drewN _ _ _).symm⟩ | exact ⟨rfl,nq,by simp⟩
      try simp only [Act.put,zs1,zs3,zs2]
      refine stepsSeq.nil ?_
      rintro w' ⟨nq,rfl⟩
      go_wp2_with fail
      go_ret
      refine ⟨?_,_,_,?_,(HF5.out _).trans (HP.out _ _ ?_).2⟩
      rotate_right
      · have:=HL.out;omega
      · first | rfl | (rw [Hn2.out.1];rfl) | (rw [Hn2.out.1];congr 1;congr 1;omega)
      · rw [Hr.out,<- HL2.out];exact (HP.out _ _ (by have:=HL.out;omega)).1
theorem ztK (name:List UInt8) (w:World) (t B:Nat) (vc vn:Value) (s:TS) (h:TrC w t B vc vn s) (hB:B<=w.heap.size) (hl:s.names.length<=1000000) (hlo:s.locals<=2000000) :
  Calls Try.prog 87 #[.pointer (some ⟨t,0,none⟩),.string (bstr name)] w (TrP w t B vc vn (s.letN name) (.int .i64 s.names.length)):=
 zth name w w t B vc vn vc vn s (TrF.refl _ _ _ _) h hB hl hlo
end Go.Proofs.Ytdeneckmoejcfaa
