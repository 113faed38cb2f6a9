/- The tokens of a source are an environment of the parser. Plain mathematics. -/
import Derived.Test.YtoaojdobjinhfaaGreatDoorJoinMC
import Derived.Test.YtoaojdobjinhfaaGreatDoorPLexC
import Derived.Test.YtoaojdobjinhfaaGreatDoorPaEC
import Derived.Test.YtoaojdobjinhfaaGreatDoorRParRC
import Derived.Recover
import Derived.Defers
import Derived.RegionTactic
set_option linter.unusedSimpArgs false
set_option linter.unusedVariables false
set_option maxRecDepth 100000
set_option maxHeartbeats 4000000
namespace Go.Proofs.YtoaojdobjinhfaaGreatDoor
theorem zgu:∀ x ∈ signWords,∀ b r,x=b :: r→zaH b=false∧zaG b=false:=by
 intro x hx b r e;simp only [signWords,List.mem_cons,List.mem_nil_iff,or_false] at hx;rcases hx with rfl | rfl | rfl | rfl | rfl | rfl | rfl | rfl | rfl | rfl | rfl | rfl | rfl <;> (cases e;decide)
theorem zhc {bs:List UInt8} {l:List Tok} (h:lexS bs=.ok l):∃ us l' c',l=us++[endT l' c']∧∀ t ∈ us,TokOk t:=by
 rw [zcO] at h;split at h
 ·cases h
 ·exact zga _ _ (zr _) _ _ _ h
theorem zfQ {bs:List UInt8} {l:List Tok} (h:lexS bs=.ok l):PEnv l:=by
 refine ⟨ziD h,ziK h,?_⟩;intro i hk ht;obtain ⟨us,l',c',rfl,hu⟩:=zhc h;rcases Nat.lt_or_ge i us.length with hi | hi
 ·have e:zaa (us++[endT l' c']) i=us[i]:=by
   unfold zaa;rw [List.getD_eq_getElem?_getD,List.getElem?_append_left hi,List.getElem?_eq_getElem hi];rfl
  rw [e] at hk ht ⊢;have hok:=hu _ (List.getElem_mem hi)
  generalize us[i]=t at *
  cases hok with
  | word h1 _ _=>have:=(zgu _ ht _ _ rfl).1;rw [h1] at this;cases this
  | number _ h1 _ _=>have:=(zgu _ ht _ _ rfl).2;rw [h1] at this;cases this
  | sign _ _ _=>rfl
 ·exfalso;apply hk;unfold zaa;rw [List.getD_eq_getElem?_getD,List.getElem?_append_right hi]
  cases i - us.length with
  | zero=>rfl
  | succ n=>rfl
open Go.RowKit

theorem zni (p q r:Value) (w:World) :
  CallsD Tryz.prog 88 #[p,q,r] .returning w fun e u' w'=>e=.returned (.tuple #[])∧u'=.returning∧w'=w:=by
 refine callsD_of_wpS Tryz.func88 rfl fun c₀ cs hu=>?_
 apply wpS_seq;apply wpS_region;simp [wpOpsS,go_sem,recoverD,hu,Tryz.ntmps88,Exit.thenS];apply wpS_seq;apply wpS_region;simp [wpOpsS,go_sem,Exit.thenS];refine wpS_cond (t:=false) (by simp [Act.eval,Array.replicate]) ?_;simp only [Bool.false_eq_true,if_false];refine wpS_of_wp (wp_skip ?_);cases c₀;simp_all [bodyPostS,results,Tryz.results88]
theorem ze6 {w:World} {b0 b1 b2:Nat} {x y z:Int} (h0:OwnV w b0 3 [.int .i64 x]) (h1:OwnV w b1 3 [.int .i64 y]) (h2:OwnV w b2 35 [.int .i64 z]) (n1:b0≠b1) (n2:b0≠b2) (n3:b1≠b2) (a b c:Int) (older:List PanicEntry) :
  CallsD Tryz.prog 88 #[.pointer (some ⟨b0,0,none⟩),.pointer (some ⟨b1,0,none⟩),.pointer (some ⟨b2,0,none⟩)] (.panicking ({ v:=.iface 113 (.agg #[.int .i64 a,.int .i64 b,.int .i64 c]),recovered:=false } :: older)) w fun e u' w' =>
   e=.returned (.tuple #[])∧u'=.panicking ({ v:=.iface 113 (.agg #[.int .i64 a,.int .i64 b,.int .i64 c]),recovered:=true } :: older)∧OwnV w' b0 3 [.int .i64 a]∧OwnV w' b1 3 [.int .i64 b]∧OwnV w' b2 35 [.int .i64 c]∧Only (fun k=>k=b0∨k=b1∨k=b2) w w':=by
 have hta:∀ (v:Value) (u:World),(Instr.typeAssert (.iface 113 v) 20 113 true).run Tryz.prog u=.ok (.tuple #[v,.bool true]) u:=by
  intro v u;unfold Instr.typeAssert;simp [go_sem,Tryz.underlying113]
 refine callsD_of_wpS Tryz.func88 rfl fun c₀ cs hu=>?_
 apply wpS_seq;apply wpS_region;simp [wpOpsS,go_sem,recoverD,hu,Tryz.ntmps88,Exit.thenS];apply wpS_seq;apply wpS_region;simp [wpOpsS,go_sem,Exit.thenS];refine wpS_cond (t:=true) (by simp [Act.eval,Array.replicate]) ?_;simp only [if_true];apply wpS_seq;apply wpS_region;simp [wpOpsS,go_sem,Exit.thenS,hta];apply wpS_seq;apply wpS_seq;apply wpS_region;simp [wpOpsS,go_sem,Exit.thenS];refine wpS_cond (t:=false) (by simp [Act.eval,Array.replicate]) ?_;simp only [Bool.false_eq_true,if_false];refine wpS_of_wp (wp_skip ?_);simp only [Exit.thenS];refine wpS_of_wp ?_;have x0:=h0.cell (i:=0) rfl;have x1:=h1.cell (i:=0) rfl;have x2:=h2.cell (i:=0) rfl;have f0:=h0.free;have f1:=h1.free;have f2:=h2.free;have l0:=h0.lt;have l1:=h1.lt;have l2:=h2.lt;go_region
 all_goals
  simp only [bodyPostS];refine ⟨by first | rfl | trivial,_,by first | rfl | trivial,.tuple #[],results_none rfl _ _ _,by first | rfl | trivial,by first | rfl | trivial,?_⟩;exact ⟨OwnV.drew ((((h0.set 0 _).set_ne n1 _).set_ne n2 _).alloc _),OwnV.drew ((((h1.set_ne (fun e=>n1 e.symm) _).set 0 _).set_ne n3 _).alloc _),OwnV.drew ((((h2.set_ne (fun e=>n2 e.symm) _).set_ne (fun e=>n3 e.symm) _).set 0 _).alloc _),(((((Only.refl _ w).setCell (.inr (.inl rfl)) _).setCell (.inr (.inr (.inl rfl))) _).setCell (.inr (.inr (.inr rfl))) _).alloc _).drew⟩
inductive RR (α : Type) where
  | ok (x : α)
  | err (line col code : Int)
def zeD {α : Type} (l : List Tok) : PR α → RR α
  | .err i c => .err (zaa l i).line (zaa l i).col c
  | .ok x j => if (zaa l j).kind = 4 then .ok x else .err (zaa l j).line (zaa l j).col 120
theorem ze7 {α:Type} {l:List Tok} {x:α} {j:Nat} (h:(zaa l j).kind=4):zeD l (.ok x j)=.ok x:=by
 show (if (zaa l j).kind=4 then RR.ok x else .err (zaa l j).line (zaa l j).col 120)=_;rw [if_pos h]
theorem zfR {α:Type} {l:List Tok} {x:α} {j:Nat} (h:(zaa l j).kind≠4):zeD l (.ok x j)=.err (zaa l j).line (zaa l j).col 120:=by
 show (if (zaa l j).kind=4 then RR.ok x else .err (zaa l j).line (zaa l j).col 120)=_;rw [if_neg h]
def zko {α : Type} (R : List Tok → PR α) : LexR → RR α
  | .err a b c => .err a b c
  | .ok l => zeD l (R l)
def zdp {α : Type} (bs : List UInt8) (R : List Tok → PR α) : RR α := zko R (lexS bs)
def ReadE {α : Type} (S : Nat → Prop) (w : World) (X : World → α → Prop) (r : RR α) (e : Ending) (w' : World) : Prop :=
  match r with
  | .ok x => e = .returned (.tuple #[.int .i64 0, .int .i64 0, .int .i64 0]) ∧ X w' x ∧ Only S w w'
  | .err a b c => e = .returned (.tuple #[.int .i64 a, .int .i64 b, .int .i64 c]) ∧ Only S w w'
theorem znj (w:World) (X Y Z:List Value) (tX tY tZ:TypeId):∃ W0,W0=((w.alloc (.cells X.toArray tX)).alloc (.cells Y.toArray tY)).alloc (.cells Z.toArray tZ)∧Below w.heap.size w W0∧OwnV W0 w.heap.size tX X∧OwnV W0 (w.heap.size+1) tY Y∧OwnV W0 (w.heap.size+1+1) tZ Z∧W0.heap.size=w.heap.size+3:=
 ⟨_,rfl,(((Below.refl _ _).alloc (zr _) _).alloc (by simp) _).alloc (by simp;omega) _,((OwnV.new _ _ _).alloc _).alloc _,(za6 _ _ _ (by simp)).alloc _,za6 _ _ _ (by simp),by simp⟩
theorem znk {bs:List UInt8} {l:List Tok} (h:lexS bs=.ok l):0 < l.length:=by
 obtain ⟨us,a,b,rfl,-⟩:=zhc h;simp
theorem zeE {w:World} {b g off:Nat} {e:TypeId} {n k:Int} (h:OwnV w g e [.int .i64 n]) (hc:w.cell? ⟨b,off,none⟩=some (.int .u8 k)):b≠g:=by
 rintro rfl;unfold OwnV at h;simp [World.cell?,h] at hc;cases off <;> simp_all
theorem zhd {α:Type} {w:World} (hG:Glob w) (s:ByteArray) (hs:s.size≤9223372036854775807) (k gl:Nat) (S:Nat→Prop) (hS:∀ b,S b→b < w.heap.size) (X:World→α→Prop) (R:List Tok→PR α)
  (hX:∀ W W' x,X W x→Only (fun b=>w.heap.size≤b∧b < w.heap.size+3) W W'→X W' x)
  (hk:∀ args W,(callFunc k args).run Tryz.prog W=.ok (.enter k args) W)
  (hF:∀ l p v W,lexS s.data.toList=.ok l→Below w.heap.size w W→w.heap.size+3≤p→PSt W p v l 0 0→Calls Tryz.prog k #[.pointer (some ⟨p,0,none⟩),.pointer (some ⟨gl,0,none⟩)] W (OpE l p v 0 (fun b=>b=p∨S b) W X (R l))) :
  Calls Tryz.prog 58 #[.string s,.func (.func k) #[] #[.pointer (some ⟨gl,0,none⟩)]] w (ReadE S w X (zdp s.data.toList R)):=by
 obtain ⟨W0,hW0,hb0,hA0,hB0,hC0,hsz⟩:=znj w [.int .i64 0] [.int .i64 0] [.int .i64 0] 3 3 35;have hmf:=zmf Tryz.prog
 have hgl:=hG.size;have HL:=zh (zm6 s W0 hs (hG.below hb0 hgl));have HW0:=zh hW0;have Hb0:=zh hb0;have HA0:=zh hA0;have HB0:=zh hB0;have HC0:=zh hC0;have HF:=zh hF;have hlc:∀ a b e,lexS s.data.toList=.err a b e→e≠0:=fun a b e h=>zd9 h
 have hpe:∀ l,lexS s.data.toList=.ok l→PEnv l∧0 < l.length:=fun l h=>⟨zfQ h,znk h⟩
 unfold zdp;clear hW0 hb0 hA0 hB0 hC0 hF hG
 generalize lexS s.data.toList=LR at *
 cases LR with
 | err a b c =>
  have hc:¬ c=0:=hlc a b c rfl;have hc0:(c != 0)=true:=by simpa using hc
  clear hlc hpe HF hc;unfold zko;go_enter_defers Tryz.func58,Tryz.ntmps58
  go_upto_region 1 with (fail)
  rw [← HW0.out];go_wp2_with fail
  go_at_call 36;refine HL.out.mono ?_;rintro e1 w1 ⟨rfl,hb1⟩;have hA1:=HA0.out.below hb1 (zr _);have hB1:=HB0.out.below hb1 (zr _);have hC1:=HC0.out.below hb1 (zr _);have a0:=hA1.cell (i:=0) rfl;have b0:=hB1.cell (i:=0) rfl;have c0:=hC1.cell (i:=0) rfl;have af:=hA1.free;have bf:=hB1.free;have cf:=hC1.free;have Hb1:=zh (Hb0.out.trans (hb1.mono Hb0.out.size))
  obtain ⟨W2,hW2,hA2,hB2,hC2,hT2⟩:∃ W2,W2=((w1.setCell ⟨w.heap.size,0,none⟩ (.int .i64 a)).setCell ⟨w.heap.size+1,0,none⟩ (.int .i64 b)).setCell ⟨w.heap.size+1+1,0,none⟩ (.int .i64 c)∧OwnV W2 w.heap.size 3 [.int .i64 a]∧OwnV W2 (w.heap.size+1) 3 [.int .i64 b]∧OwnV W2 (w.heap.size+1+1) 35 [.int .i64 c]∧Only S w W2:=
   ⟨_,rfl,((hA1.set 0 _).set_ne (by omega) _).set_ne (by omega) _,((hB1.set_ne (by omega) _).set 0 _).set_ne (by omega) _,((hC1.set_ne (by omega) _).set_ne (by omega) _).set 0 _,(((Only.of_below Hb1.out).setNew (zr _) _).setNew (by omega) _).setNew (by omega) _⟩
  have HW2:=zh hW2;have HA2:=zh hA2;have HB2:=zh hB2;have HC2:=zh hC2;have HT2:=zh hT2;clear hb1 hA1 hB1 hC1 hW2 hA2 hB2 hC2 hT2;go_upto_region 2 with (fail)
  rw [← HW2.out];clear a0 b0 c0 af bf cf;have a0:=HA2.out.cell (i:=0) rfl;have b0:=HB2.out.cell (i:=0) rfl;have c0:=HC2.out.cell (i:=0) rfl;have af:=HA2.out.free;have bf:=HB2.out.free;have cf:=HC2.out.free;go_upto_region 3 with (fail)
  go_region
  obtain ⟨W3,hW3,hA3,hB3,hC3,hT3⟩:∃ W3,W3=(((W2.setCell ⟨w.heap.size,0,none⟩ (.int .i64 a)).setCell ⟨w.heap.size+1,0,none⟩ (.int .i64 b)).setCell ⟨w.heap.size+1+1,0,none⟩ (.int .i64 c)).drew∧OwnV W3 w.heap.size 3 [.int .i64 a]∧OwnV W3 (w.heap.size+1) 3 [.int .i64 b]∧OwnV W3 (w.heap.size+1+1) 35 [.int .i64 c]∧Only S w W3:=
   ⟨_,rfl,OwnV.drew (((HA2.out.set 0 _).set_ne (by omega) _).set_ne (by omega) _),OwnV.drew (((HB2.out.set_ne (by omega) _).set 0 _).set_ne (by omega) _),OwnV.drew (((HC2.out.set_ne (by omega) _).set_ne (by omega) _).set 0 _),(((HT2.out.setNew (zr _) _).setNew (by omega) _).setNew (by omega) _).drew⟩
  rw [← hW3];have y0:=hA3.cell (i:=0) rfl;have y1:=hB3.cell (i:=0) rfl;have y2:=hC3.cell (i:=0) rfl;have HT3:=zh hT3;clear hW3 hA3 hB3 hC3 hT3 a0 b0 c0 af bf cf;go_wp2_with fail
  exact ⟨.tuple #[.int .i64 a,.int .i64 b,.int .i64 c],by simp [results,Tryz.results58,go_sem,y0,y1,y2],rfl,HT3.out⟩
 | ok l =>
  obtain ⟨hE,hl0⟩:=hpe l rfl;have HE:=zh hE;clear hlc hpe hE;unfold zko;go_enter_defers Tryz.func58,Tryz.ntmps58
  go_upto_region 1 with (fail)
  rw [← HW0.out];go_wp2_with fail
  go_at_call 36;refine HL.out.mono ?_;rintro e1 w1 ⟨⟨r,rfl,hT1⟩,hb1⟩;obtain ⟨ra,rcap,rfl,-,-⟩:=Sl.form hT1;have hs1:=hb1.size;have hA1:=HA0.out.below hb1 (zr _);have hB1:=HB0.out.below hb1 (zr _);have hC1:=HC0.out.below hb1 (zr _);have a0:=hA1.cell (i:=0) rfl;have b0:=hB1.cell (i:=0) rfl;have c0:=hC1.cell (i:=0) rfl;have af:=hA1.free;have bf:=hB1.free;have cf:=hC1.free;have Hb1:=zh (Hb0.out.trans (hb1.mono Hb0.out.size))
  have hvr:∀ b,(Value.slice ra l.length rcap).ownBlock=some b→(b≠w.heap.size∧b≠w.heap.size+1∧b≠w.heap.size+1+1)∧b < w1.heap.size:=by
   intro b e;obtain ⟨b',off,hab,t0,-⟩:=zaF hT1 hl0;subst hab;cases e;exact ⟨⟨zeE hA1 t0,zeE hB1 t0,zeE hC1 t0⟩,World.block_lt_of_cell? _ _ t0⟩
  obtain ⟨W2,hW2,hA2,hB2,hC2,hT2,hb2⟩:∃ W2,W2=((w1.setCell ⟨w.heap.size,0,none⟩ (.int .i64 0)).setCell ⟨w.heap.size+1,0,none⟩ (.int .i64 0)).setCell ⟨w.heap.size+1+1,0,none⟩ (.int .i64 0)∧OwnV W2 w.heap.size 3 [.int .i64 0]∧OwnV W2 (w.heap.size+1) 3 [.int .i64 0]∧OwnV W2 (w.heap.size+1+1) 35 [.int .i64 0]∧Toks W2 l (.slice ra l.length rcap)∧Below w.heap.size w W2:=
   ⟨_,rfl,((hA1.set 0 _).set_ne (by omega) _).set_ne (by omega) _,((hB1.set_ne (by omega) _).set 0 _).set_ne (by omega) _,((hC1.set_ne (by omega) _).set_ne (by omega) _).set 0 _,
    Only.sl (S:=fun b=>b=w.heap.size∨b=w.heap.size+1∨b=w.heap.size+1+1) ((((Only.refl _ w1).setCell (.inr (.inl rfl)) _).setCell (.inr (.inr (.inl rfl))) _).setCell (.inr (.inr (.inr rfl))) _) hT1 (.inr fun g e h=>by have:=(hvr g e).1;omega),
    (((Hb1.out).setCell (zr _) _).setCell (by show w.heap.size≤w.heap.size+1;omega) _).setCell (by show w.heap.size≤w.heap.size+1+1;omega) _⟩
  have HW2:=zh hW2;have HA2:=zh hA2;have HB2:=zh hB2;have HC2:=zh hC2;have hs2:=hC2.lt;have hs12:w1.heap.size≤W2.heap.size:=by rw [hW2];simp
  obtain ⟨W3,hW3,hb3,hO3⟩:∃ W3,W3=W2.alloc (.cells #[.slice ra l.length rcap,.int .i64 0,.int .i64 0] 116)∧Below W2.heap.size W2 W3∧OwnV W3 W2.heap.size 116 [.slice ra l.length rcap,.int .i64 0,.int .i64 0]:=⟨_,rfl,(Below.refl _ _).alloc (zr _) _,OwnV.new _ _ _⟩;have hP3:PSt W3 W2.heap.size (.slice ra l.length rcap) l 0 0:=⟨hO3,Sl.below (by omega) hT2 hb3 (zr _),fun g e=>by have:=(hvr g e).2;omega,hl0⟩;have HC:=zh (HF.out l W2.heap.size _ W3 rfl (hb2.trans (hb3.mono hb2.size)) (by omega) hP3);have HA3:=zh (hA2.below hb3 (zr _));have HB3:=zh (hB2.below hb3 (zr _));have HC3:=zh (hC2.below hb3 (zr _));have Hb3:=zh (hb2.trans (hb3.mono hb2.size));have HW3:=zh hW3;have c2:=hC2.cell (i:=0) rfl;have hs3:=hO3.lt;have hp0:w.heap.size+3≤W2.heap.size:=by omega
  generalize hrl:R l=RL at *
  clear hb1 hA1 hB1 hC1 hW2 hA2 hB2 hC2 hT2 hb2 hW3 hb3 hO3 hP3 hT1 hrl HF HL hs2 hvr;go_upto_region 2 with (fail)
  rw [← HW2.out];clear a0 b0 c0 af bf cf;go_upto_region 6 with (fail)
  rw [← HW3.out];go_wp2_with fail
  refine HC.out.mono ?_;intro e4 w4 he4;clear HC c2;have f0:=zgk
  cases RL with
  | err i c =>
   obtain ⟨he4,hT4⟩:=he4;unfold Bad at he4;subst he4;have hs4:=hT4.size;have HA4:=zh (hT4.own HA3.out (fun e=>by rcases e with e | e;omega;have:=hS _ e;omega));have HB4:=zh (hT4.own HB3.out (fun e=>by rcases e with e | e;omega;have:=hS _ e;omega));have HC4:=zh (hT4.own HC3.out (fun e=>by rcases e with e | e;omega;have:=hS _ e;omega));have HT4:Hid (Only S w w4):=zh ((Only.of_below Hb3.out).transNew hT4 (fun b e=>e.elim (fun e=>.inr (by omega)) .inl));clear hT4;go_wp2_with fail
   refine leaves_cons (f:=88) (args:=#[.pointer (some ⟨w.heap.size,0,none⟩),.pointer (some ⟨w.heap.size+1,0,none⟩),.pointer (some ⟨w.heap.size+1+1,0,none⟩)]) (by simp) (by simp [go_sem]) ?_;refine (ze6 HA4.out HB4.out HC4.out (by omega) (by omega) (by omega) _ _ _ []).mono ?_;rintro e9 u9 w9 ⟨rfl,rfl,hA9,hB9,hC9,hT9⟩;have y0:=hA9.cell (i:=0) rfl;have y1:=hB9.cell (i:=0) rfl;have y2:=hC9.cell (i:=0) rfl;have hT:Only S w w9:=HT4.out.transNew hT9 (fun b e=>.inr (by rcases e with e | e | e <;> omega));clear hA9 hB9 hC9;simp only [settle,List.dropWhile_nil,Leaves];refine ⟨.tuple #[.int .i64 (zaa l i).line,.int .i64 (zaa l i).col,.int .i64 c],by simp [results,Tryz.results58,go_sem,y0,y1,y2],?_⟩
   exact ⟨rfl,hT⟩
  | ok x j =>
   obtain ⟨rfl,hX4,hP4,hT4⟩:=he4;have hs4:=hT4.size;have HA4:=zh (hT4.own HA3.out (fun e=>by rcases e with e | e;omega;have:=hS _ e;omega));have HB4:=zh (hT4.own HB3.out (fun e=>by rcases e with e | e;omega;have:=hS _ e;omega));have HC4:=zh (hT4.own HC3.out (fun e=>by rcases e with e | e;omega;have:=hS _ e;omega));have HT4:Hid (Only S w w4):=zh ((Only.of_below Hb3.out).transNew hT4 (fun b e=>e.elim (fun e=>.inr (by omega)) .inl));have HX4:=zh hX4;have HN:=zh (zaQ hP4 HE.out);have HFl:Hid (∀ w',Below w4.heap.size w4 w'→_):=zh (fun (w':World) (hb:Below w4.heap.size w4 w')=>zcl (hP4.below hb) HE.out 120);obtain ⟨q,hq⟩:∃ q,((zaa l j).kind != 4)=q:=⟨_,rfl⟩;have Hkd:Hid ((q=true→zeD l (.ok x j)=.err (zaa l j).line (zaa l j).col 120)∧(q=false→zeD l (.ok x j)=.ok x)):=zh ⟨fun e=>zfR (by rw [e] at hq;simpa using hq),fun e=>ze7 (by rw [e] at hq;simpa using hq)⟩;clear hX4 hP4 hT4;go_wp2_with fail
   go_at_call 89;refine HN.out.mono ?_;rintro e5 w5 ⟨rfl,hb5⟩;have HA5:=zh (HA4.out.below hb5 (zr _));have HB5:=zh (HB4.out.below hb5 (zr _));have HC5:=zh (HC4.out.below hb5 (zr _));have HT5:Hid (Only S w w5):=zh (HT4.out.trans (Only.of_below hb5));have HX5:=zh (hX _ _ _ HX4.out (Only.of_below hb5));have Hb5:=zh hb5;have hs5:=hb5.size;clear hb5 HN HA4 HB4 HC4 HT4 HX4
   cases q with
   | true =>
    go_wp2_with fail
    go_at_call 90;refine (HFl.out _ Hb5.out).mono ?_;rintro e6 w6 ⟨he6,hb6⟩;unfold Bad at he6;subst he6;have HA6:=zh (HA5.out.below hb6 (zr _));have HB6:=zh (HB5.out.below hb6 (zr _));have HC6:=zh (HC5.out.below hb6 (zr _));have HT6:Hid (Only S w w6):=zh (HT5.out.trans (Only.of_below hb6));clear hb6;go_wp2_with fail
    refine leaves_cons (f:=88) (args:=#[.pointer (some ⟨w.heap.size,0,none⟩),.pointer (some ⟨w.heap.size+1,0,none⟩),.pointer (some ⟨w.heap.size+1+1,0,none⟩)]) (by simp) (by simp [go_sem]) ?_;refine (ze6 HA6.out HB6.out HC6.out (by omega) (by omega) (by omega) _ _ _ []).mono ?_;rintro e9 u9 w9 ⟨rfl,rfl,hA9,hB9,hC9,hT9⟩;have y0:=hA9.cell (i:=0) rfl;have y1:=hB9.cell (i:=0) rfl;have y2:=hC9.cell (i:=0) rfl;have hT:Only S w w9:=HT6.out.transNew hT9 (fun b e=>.inr (by rcases e with e | e | e <;> omega));clear hA9 hB9 hC9;simp only [settle,List.dropWhile_nil,Leaves];refine ⟨.tuple #[.int .i64 (zaa l j).line,.int .i64 (zaa l j).col,.int .i64 120],by simp [results,Tryz.results58,go_sem,y0,y1,y2],?_⟩;rw [Hkd.out.1 trivial]
    exact ⟨rfl,hT⟩
   | false =>
    have a0:=HA5.out.cell (i:=0) rfl;have b0:=HB5.out.cell (i:=0) rfl;have c0:=HC5.out.cell (i:=0) rfl;have af:=HA5.out.free;have bf:=HB5.out.free;have cf:=HC5.out.free;go_wp2_with fail
    have hW:Only (fun b=>w.heap.size≤b∧b < w.heap.size+3) w5 (((w5.setCell ⟨w.heap.size,0,none⟩ (.int .i64 0)).setCell ⟨w.heap.size+1,0,none⟩ (.int .i64 0)).setCell ⟨w.heap.size+1+1,0,none⟩ (.int .i64 0)):=
     (((Only.refl _ w5).setCell (.inr ⟨by show w.heap.size≤w.heap.size;omega,by show w.heap.size < w.heap.size+3;omega⟩) _).setCell (.inr ⟨by show w.heap.size≤w.heap.size+1;omega,by show w.heap.size+1 < w.heap.size+3;omega⟩) _).setCell (.inr ⟨by show w.heap.size≤w.heap.size+1+1;omega,by show w.heap.size+1+1 < w.heap.size+3;omega⟩) _
    have y0:=(((HA5.out.set 0 (.int .i64 0)).set_ne (b:=w.heap.size+1) (o:=0) (by omega) (.int .i64 0)).set_ne (b:=w.heap.size+1+1) (o:=0) (by omega) (.int .i64 0)).cell (i:=0) rfl;have y1:=(((HB5.out.set_ne (b:=w.heap.size) (o:=0) (by omega) (.int .i64 0)).set 0 (.int .i64 0)).set_ne (b:=w.heap.size+1+1) (o:=0) (by omega) (.int .i64 0)).cell (i:=0) rfl;have y2:=(((HC5.out.set_ne (b:=w.heap.size) (o:=0) (by omega) (.int .i64 0)).set_ne (b:=w.heap.size+1) (o:=0) (by omega) (.int .i64 0)).set 0 (.int .i64 0)).cell (i:=0) rfl;refine leaves_cons (f:=88) (args:=#[.pointer (some ⟨w.heap.size,0,none⟩),.pointer (some ⟨w.heap.size+1,0,none⟩),.pointer (some ⟨w.heap.size+1+1,0,none⟩)]) (by simp) (by simp [go_sem]) ?_;refine (zni _ _ _ _).mono ?_;rintro e9 u9 w9 ⟨rfl,rfl,rfl⟩;simp only [settle,Leaves];refine ⟨.tuple #[.int .i64 0,.int .i64 0,.int .i64 0],by simp [results,Tryz.results58,go_sem,y0,y1,y2],?_⟩;rw [Hkd.out.2 trivial];exact ⟨rfl,hX _ _ _ HX5.out hW,HT5.out.transNew hW (fun b e=>.inr e.1)⟩
end Go.Proofs.YtoaojdobjinhfaaGreatDoor
