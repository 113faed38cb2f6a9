/- The tokens of a source are an environment of the parser. Plain mathematics. -/
import Derived.Test.YtdhikpkecmaplaaGreatDoorPLexMk
import Derived.Test.YtdhikpkecmaplaaGreatDoorPaAMk
import Derived.Test.YtdhikpkecmaplaaGreatDoorPtNMk
import Derived.Test.YtdhikpkecmaplaaGreatDoorRegion7Mk
import Derived.Recover
import Derived.Defers
import Derived.RegionTactic
import Derived.Deep.RegionWith
import Derived.LoopN
import Derived.KernelRfl
set_option linter.unusedSimpArgs false
set_option linter.unusedVariables false
set_option maxRecDepth 100000
set_option maxHeartbeats 4000000
namespace Go.Proofs.YtdhikpkecmaplaaGreatDoor
theorem zgu:∀ x ∈ signWords,∀ b r,x=b :: r->zaH b=false/\zaG b=false:=by
 intro x hx b r e;simp only [signWords,List.mem_cons,List.mem_nil_iff,or_false] at hx;rcases hx with rfl | rfl | rfl | rfl | rfl | rfl | rfl | rfl | rfl | rfl | rfl | rfl | rfl <;> (cases e;decide)
theorem zhc {bs:List UInt8} {l:List Tok} (h:lexS bs=.ok l):∃ us l' c',l=us++[endT l' c']/\∀ t ∈ us,TokOk t:=by
 rw [zcO] at h;split at h
 ·cases h
 ·exact zga _ _ (zr _) _ _ _ h
theorem zfQ {bs:List UInt8} {l:List Tok} (h:lexS bs=.ok l):PEnv l:=by
 refine ⟨ziD h,ziK h,?_⟩;intro i hk ht;obtain ⟨us,l',c',rfl,hu⟩:=zhc h;rcases Nat.lt_or_ge i us.length with hi | hi
 ·have e:zaa (us++[endT l' c']) i=us[i]:=by
   unfold zaa;rw [List.getD_eq_getElem?_getD,List.getElem?_append_left hi,yD hi];rfl
  rw [e] at hk ht ⊢;have hok:=hu _ (List.getElem_mem hi)
  generalize us[i]=t at *
  cases hok with
  | word h1 _ _=>have:=(zgu _ ht _ _ rfl).1;rw [h1] at this;cases this
  | number _ h1 _ _=>have:=(zgu _ ht _ _ rfl).2;rw [h1] at this;cases this
  | sign _ _ _=>rfl
 ·exfalso;apply hk;unfold zaa;rw [List.getD_eq_getElem?_getD,List.getElem?_append_right hi]
  cases i - us.length with
  | zero=>rfl
  | succ n=>rfl
open Go.RowKit

theorem zni (p q r:Value) (w:World) :
  CallsD Tryz.prog 104 #[p,q,r] .returning w fun e u' w'=>e=.returned (.tuple #[])/\u'=.returning/\w'=w:=by
 refine callsD_of_wpS Tryz.func104 rfl fun c₀ cs hu=>?_
 apply wpS_seq;apply wpS_region;simp [wpOpsS,go_sem,recoverD,hu,Tryz.ntmps104,Exit.thenS];apply wpS_seq;apply wpS_region;simp [wpOpsS,go_sem,Exit.thenS];refine wpS_cond (t:=false) (by simp [Act.eval,Array.replicate]) ?_;simp only [Bool.false_eq_true,if_false];refine wpS_of_wp (wp_skip ?_);cases c₀;simp_all [bodyPostS,results,Tryz.results104]
theorem ze6 {w:World} {b0 b1 b2:Nat} {x y z:Int} (h0:OwnV w b0 3 [.int .i64 x]) (h1:OwnV w b1 3 [.int .i64 y]) (h2:OwnV w b2 35 [.int .i64 z]) (n1:b0≠b1) (n2:b0≠b2) (n3:b1≠b2) (a b c:Int) (older:List PanicEntry) :
  CallsD Tryz.prog 104 #[.pointer (some ⟨b0,0,none⟩),.pointer (some ⟨b1,0,none⟩),.pointer (some ⟨b2,0,none⟩)] (.panicking ({ v:=.iface 175 (.agg #[.int .i64 a,.int .i64 b,.int .i64 c]),recovered:=false } :: older)) w fun e u' w' =>
   e=.returned (.tuple #[])/\u'=.panicking ({ v:=.iface 175 (.agg #[.int .i64 a,.int .i64 b,.int .i64 c]),recovered:=true } :: older)/\OwnV w' b0 3 [.int .i64 a]/\OwnV w' b1 3 [.int .i64 b]/\OwnV w' b2 35 [.int .i64 c]/\Only (fun k=>k=b0∨k=b1∨k=b2) w w':=by
 have hta:∀ (v:Value) (u:World),(Instr.typeAssert (.iface 175 v) 20 175 true).run Tryz.prog u=.ok (.tuple #[v,.bool true]) u:=by
  intro v u;unfold Instr.typeAssert;simp [go_sem,Tryz.underlying175]
 refine callsD_of_wpS Tryz.func104 rfl fun c₀ cs hu=>?_
 apply wpS_seq;apply wpS_region;simp [wpOpsS,go_sem,recoverD,hu,Tryz.ntmps104,Exit.thenS];apply wpS_seq;apply wpS_region;simp [wpOpsS,go_sem,Exit.thenS];refine wpS_cond (t:=true) (by simp [Act.eval,Array.replicate]) ?_;simp only [if_true];apply wpS_seq;apply wpS_region;simp [wpOpsS,go_sem,Exit.thenS,hta];apply wpS_seq;apply wpS_seq;apply wpS_region;simp [wpOpsS,go_sem,Exit.thenS];refine wpS_cond (t:=false) (by simp [Act.eval,Array.replicate]) ?_;simp only [Bool.false_eq_true,if_false];refine wpS_of_wp (wp_skip ?_);simp only [Exit.thenS];refine wpS_of_wp ?_;have x0:=h0.cell (i:=0) rfl;have x1:=h1.cell (i:=0) rfl;have x2:=h2.cell (i:=0) rfl;have f0:=h0.free;have f1:=h1.free;have f2:=h2.free;have l0:=h0.lt;have l1:=h1.lt;have l2:=h2.lt;go_region
 all_goals
  simp only [bodyPostS];refine ⟨by first | rfl | trivial,_,by first | rfl | trivial,.tuple #[],results_none rfl _ _ _,by first | rfl | trivial,by first | rfl | trivial,?_⟩;exact ⟨OwnV.drew ((((h0.set 0 _).set_ne n1 _).set_ne n2 _).alloc _),OwnV.drew ((((h1.set_ne (fun e=>n1 e.symm) _).set 0 _).set_ne n3 _).alloc _),OwnV.drew ((((h2.set_ne (fun e=>n2 e.symm) _).set_ne (fun e=>n3 e.symm) _).set 0 _).alloc _),(((((Only.refl _ w).setCell (.inr (.inl rfl)) _).setCell (.inr (.inr (.inl rfl))) _).setCell (.inr (.inr (.inr rfl))) _).alloc _).drew⟩
inductive RR (α : Type) where
  | ok (x : α)
  | err (line col code : Int)
def zeD {α : Type} (l : List Tok) : PR α -> RR α
  | .err i c => .err (zaa l i).line (zaa l i).col c
  | .ok x j => if (zaa l j).kind = 4 then .ok x else .err (zaa l j).line (zaa l j).col 120
theorem ze7 {α:Type} {l:List Tok} {x:α} {j:Nat} (h:(zaa l j).kind=4):zeD l (.ok x j)=.ok x:=by
 show (if (zaa l j).kind=4 then RR.ok x else .err (zaa l j).line (zaa l j).col 120)=_;rw [yP h]
theorem zfR {α:Type} {l:List Tok} {x:α} {j:Nat} (h:(zaa l j).kind≠4):zeD l (.ok x j)=.err (zaa l j).line (zaa l j).col 120:=by
 show (if (zaa l j).kind=4 then RR.ok x else .err (zaa l j).line (zaa l j).col 120)=_;rw [yN h]
def zko {α : Type} (R : List Tok -> PR α) : LexR -> RR α
  | .err a b c => .err a b c
  | .ok l => zeD l (R l)
def zdp {α : Type} (bs : List UInt8) (R : List Tok -> PR α) : RR α := zko R (lexS bs)
def ReadE {α : Type} (S : Nat -> Prop) (w : World) (X : World -> α -> Prop) (r : RR α) (e : Ending) (w' : World) : Prop :=
  match r with
  | .ok x => e = .returned (.tuple #[.int .i64 0, .int .i64 0, .int .i64 0]) /\ X w' x /\ Only S w w'
  | .err a b c => e = .returned (.tuple #[.int .i64 a, .int .i64 b, .int .i64 c]) /\ Only S w w'
theorem znj (w:World) (X Y Z:List Value) (tX tY tZ:TypeId):∃ W0,W0=((w.alloc (.cells X.toArray tX)).alloc (.cells Y.toArray tY)).alloc (.cells Z.toArray tZ)/\Below w.heap.size w W0/\OwnV W0 w.heap.size tX X/\OwnV W0 (w.heap.size+1) tY Y/\OwnV W0 (w.heap.size+1+1) tZ Z/\W0.heap.size=w.heap.size+3:=
 ⟨_,rfl,(((yR _ _).alloc (zr _) _).alloc (by simp) _).alloc (by simp;omega) _,((OwnV.new _ _ _).alloc _).alloc _,(za6 _ _ _ (by simp)).alloc _,za6 _ _ _ (by simp),by simp⟩
theorem znk {bs:List UInt8} {l:List Tok} (h:lexS bs=.ok l):0 < l.length:=by
 obtain ⟨us,a,b,rfl,-⟩:=zhc h;simp
theorem zeE {w:World} {b g off:Nat} {e:TypeId} {n k:Int} (h:OwnV w g e [.int .i64 n]) (hc:w.cell? ⟨b,off,none⟩=some (.int .u8 k)):b≠g:=by
 rintro rfl;unfold OwnV at h;simp [World.cell?,h] at hc;cases off <;> simp_all
theorem zhd {α:Type} {w:World} (hG:Glob w) (s:ByteArray) (hs:s.size<=9223372036854775807) (k gl:Nat) (S:Nat->Prop) (hS:∀ b,S b->b < w.heap.size) (X:World->α->Prop) (R:List Tok->PR α)
  (hX:∀ W W' x,X W x->Only (fun b=>w.heap.size<=b/\b < w.heap.size+3) W W'->X W' x)
  (hk:∀ args W,(callFunc k args).run Tryz.prog W=.ok (.enter k args) W)
  (hF:∀ l p v W,lexS s.data.toList=.ok l->Below w.heap.size w W->w.heap.size+3<=p->PSt W p v l 0 0->Calls Tryz.prog k #[.pointer (some ⟨p,0,none⟩),.pointer (some ⟨gl,0,none⟩)] W (OpE l p v 0 (fun b=>b=p∨S b) W X (R l))) :
  Calls Tryz.prog 66 #[.string s,.func (.func k) #[] #[.pointer (some ⟨gl,0,none⟩)]] w (ReadE S w X (zdp s.data.toList R)):=by
 obtain ⟨W0,hW0,hb0,hA0,hB0,hC0,hsz⟩:=znj w [.int .i64 0] [.int .i64 0] [.int .i64 0] 3 3 35;have hmf:=zmf Tryz.prog
 have hgl:=hG.size;have HL:=zh (zm6 s W0 hs (hG.below hb0 hgl));have HW0:=zh hW0;have Hb0:=zh hb0;have HA0:=zh hA0;have HB0:=zh hB0;have HC0:=zh hC0;have HF:=zh hF;have hlc:∀ a b e,lexS s.data.toList=.err a b e->e≠0:=fun a b e h=>zd9 h
 have hpe:∀ l,lexS s.data.toList=.ok l->PEnv l/\0 < l.length:=fun l h=>⟨zfQ h,znk h⟩
 unfold zdp;clear hW0 hb0 hA0 hB0 hC0 hF hG
 generalize lexS s.data.toList=LR at *
 cases LR with
 | err a b c =>
  have hc:¬ c=0:=hlc a b c rfl;have hc0:(c != 0)=true:=by simpa using hc
  clear hlc hpe HF hc;unfold zko;go_enter_defers Tryz.func66,Tryz.ntmps66
  go_upto_region 1 with (fail)
  rw [<- HW0.out];go_wp2_with fail
  go_at_call 103;refine HL.out.mono ?_;rintro e1 w1 ⟨rfl,hb1⟩;have hA1:=HA0.out.below hb1 (zr _);have hB1:=HB0.out.below hb1 (zr _);have hC1:=HC0.out.below hb1 (zr _);have a0:=hA1.cell (i:=0) rfl;have b0:=hB1.cell (i:=0) rfl;have c0:=hC1.cell (i:=0) rfl;have af:=hA1.free;have bf:=hB1.free;have cf:=hC1.free;have Hb1:=zh (Hb0.out.trans (hb1.mono Hb0.out.size))
  obtain ⟨W2,hW2,hA2,hB2,hC2,hT2⟩:∃ W2,W2=((w1.setCell ⟨w.heap.size,0,none⟩ (.int .i64 a)).setCell ⟨w.heap.size+1,0,none⟩ (.int .i64 b)).setCell ⟨w.heap.size+1+1,0,none⟩ (.int .i64 c)/\OwnV W2 w.heap.size 3 [.int .i64 a]/\OwnV W2 (w.heap.size+1) 3 [.int .i64 b]/\OwnV W2 (w.heap.size+1+1) 35 [.int .i64 c]/\Only S w W2:=
   ⟨_,rfl,((hA1.set 0 _).set_ne (by omega) _).set_ne (by omega) _,((hB1.set_ne (by omega) _).set 0 _).set_ne (by omega) _,((hC1.set_ne (by omega) _).set_ne (by omega) _).set 0 _,(((Only.of_below Hb1.out).setNew (zr _) _).setNew (by omega) _).setNew (by omega) _⟩
  have HW2:=zh hW2;have HA2:=zh hA2;have HB2:=zh hB2;have HC2:=zh hC2;have HT2:=zh hT2;clear hb1 hA1 hB1 hC1 hW2 hA2 hB2 hC2 hT2;go_upto_region 2 with (fail)
  rw [<- HW2.out];clear a0 b0 c0 af bf cf;have a0:=HA2.out.cell (i:=0) rfl;have b0:=HB2.out.cell (i:=0) rfl;have c0:=HC2.out.cell (i:=0) rfl;have af:=HA2.out.free;have bf:=HB2.out.free;have cf:=HC2.out.free;go_upto_region 3 with (fail)
  go_region
  obtain ⟨W3,hW3,hA3,hB3,hC3,hT3⟩:∃ W3,W3=(((W2.setCell ⟨w.heap.size,0,none⟩ (.int .i64 a)).setCell ⟨w.heap.size+1,0,none⟩ (.int .i64 b)).setCell ⟨w.heap.size+1+1,0,none⟩ (.int .i64 c)).drew/\OwnV W3 w.heap.size 3 [.int .i64 a]/\OwnV W3 (w.heap.size+1) 3 [.int .i64 b]/\OwnV W3 (w.heap.size+1+1) 35 [.int .i64 c]/\Only S w W3:=
   ⟨_,rfl,OwnV.drew (((HA2.out.set 0 _).set_ne (by omega) _).set_ne (by omega) _),OwnV.drew (((HB2.out.set_ne (by omega) _).set 0 _).set_ne (by omega) _),OwnV.drew (((HC2.out.set_ne (by omega) _).set_ne (by omega) _).set 0 _),(((HT2.out.setNew (zr _) _).setNew (by omega) _).setNew (by omega) _).drew⟩
  rw [<- hW3];have y0:=hA3.cell (i:=0) rfl;have y1:=hB3.cell (i:=0) rfl;have y2:=hC3.cell (i:=0) rfl;have HT3:=zh hT3;clear hW3 hA3 hB3 hC3 hT3 a0 b0 c0 af bf cf;go_wp2_with fail
  exact ⟨.tuple #[.int .i64 a,.int .i64 b,.int .i64 c],by simp [results,Tryz.results66,go_sem,y0,y1,y2],rfl,HT3.out⟩
 | ok l =>
  obtain ⟨hE,hl0⟩:=hpe l rfl;have HE:=zh hE;clear hlc hpe hE;unfold zko;go_enter_defers Tryz.func66,Tryz.ntmps66
  go_upto_region 1 with (fail)
  rw [<- HW0.out];go_wp2_with fail
  go_at_call 103;refine HL.out.mono ?_;rintro e1 w1 ⟨⟨r,rfl,hT1⟩,hb1⟩;obtain ⟨ra,rcap,rfl,-,-⟩:=Sl.form hT1;have hs1:=hb1.size;have hA1:=HA0.out.below hb1 (zr _);have hB1:=HB0.out.below hb1 (zr _);have hC1:=HC0.out.below hb1 (zr _);have a0:=hA1.cell (i:=0) rfl;have b0:=hB1.cell (i:=0) rfl;have c0:=hC1.cell (i:=0) rfl;have af:=hA1.free;have bf:=hB1.free;have cf:=hC1.free;have Hb1:=zh (Hb0.out.trans (hb1.mono Hb0.out.size))
  have hvr:∀ b,(Value.slice ra l.length rcap).ownBlock=some b->(b≠w.heap.size/\b≠w.heap.size+1/\b≠w.heap.size+1+1)/\b < w1.heap.size:=by
   intro b e;obtain ⟨b',off,hab,t0,-⟩:=zaF hT1 hl0;subst hab;cases e;exact ⟨⟨zeE hA1 t0,zeE hB1 t0,zeE hC1 t0⟩,World.block_lt_of_cell? _ _ t0⟩
  obtain ⟨W2,hW2,hA2,hB2,hC2,hT2,hb2⟩:∃ W2,W2=((w1.setCell ⟨w.heap.size,0,none⟩ (.int .i64 0)).setCell ⟨w.heap.size+1,0,none⟩ (.int .i64 0)).setCell ⟨w.heap.size+1+1,0,none⟩ (.int .i64 0)/\OwnV W2 w.heap.size 3 [.int .i64 0]/\OwnV W2 (w.heap.size+1) 3 [.int .i64 0]/\OwnV W2 (w.heap.size+1+1) 35 [.int .i64 0]/\Toks W2 l (.slice ra l.length rcap)/\Below w.heap.size w W2:=
   ⟨_,rfl,((hA1.set 0 _).set_ne (by omega) _).set_ne (by omega) _,((hB1.set_ne (by omega) _).set 0 _).set_ne (by omega) _,((hC1.set_ne (by omega) _).set_ne (by omega) _).set 0 _,
    Only.sl (S:=fun b=>b=w.heap.size∨b=w.heap.size+1∨b=w.heap.size+1+1) ((((Only.refl _ w1).setCell (.inr (.inl rfl)) _).setCell (.inr (.inr (.inl rfl))) _).setCell (.inr (.inr (.inr rfl))) _) hT1 (.inr fun g e h=>by have:=(hvr g e).1;omega),
    (((Hb1.out).setCell (zr _) _).setCell (by show w.heap.size<=w.heap.size+1;omega) _).setCell (by show w.heap.size<=w.heap.size+1+1;omega) _⟩
  have HW2:=zh hW2;have HA2:=zh hA2;have HB2:=zh hB2;have HC2:=zh hC2;have hs2:=hC2.lt;have hs12:w1.heap.size<=W2.heap.size:=by rw [hW2];simp
  obtain ⟨W3,hW3,hb3,hO3⟩:∃ W3,W3=W2.alloc (.cells #[.slice ra l.length rcap,.int .i64 0,.int .i64 0] 178)/\Below W2.heap.size W2 W3/\OwnV W3 W2.heap.size 178 [.slice ra l.length rcap,.int .i64 0,.int .i64 0]:=⟨_,rfl,(yR _ _).alloc (zr _) _,OwnV.new _ _ _⟩;have hP3:PSt W3 W2.heap.size (.slice ra l.length rcap) l 0 0:=⟨hO3,Sl.below (by omega) hT2 hb3 (zr _),fun g e=>by have:=(hvr g e).2;omega,hl0⟩;have HC:=zh (HF.out l W2.heap.size _ W3 rfl (hb2.trans (hb3.mono hb2.size)) (by omega) hP3);have HA3:=zh (hA2.below hb3 (zr _));have HB3:=zh (hB2.below hb3 (zr _));have HC3:=zh (hC2.below hb3 (zr _));have Hb3:=zh (hb2.trans (hb3.mono hb2.size));have HW3:=zh hW3;have c2:=hC2.cell (i:=0) rfl;have hs3:=hO3.lt;have hp0:w.heap.size+3<=W2.heap.size:=by omega
  generalize hrl:R l=RL at *
  clear hb1 hA1 hB1 hC1 hW2 hA2 hB2 hC2 hT2 hb2 hW3 hb3 hO3 hP3 hT1 hrl HF HL hs2 hvr;go_upto_region 2 with (fail)
  rw [<- HW2.out];clear a0 b0 c0 af bf cf;go_upto_region 6 with (fail)
  rw [<- HW3.out];go_wp2_with fail
  refine HC.out.mono ?_;intro e4 w4 he4;clear HC c2;have f0:=zgk
  cases RL with
  | err i c =>
   obtain ⟨he4,hT4⟩:=he4;unfold Bad at he4;subst he4;have hs4:=hT4.size;have HA4:=zh (hT4.own HA3.out (fun e=>by rcases e with e | e;omega;have:=hS _ e;omega));have HB4:=zh (hT4.own HB3.out (fun e=>by rcases e with e | e;omega;have:=hS _ e;omega));have HC4:=zh (hT4.own HC3.out (fun e=>by rcases e with e | e;omega;have:=hS _ e;omega));have HT4:Hid (Only S w w4):=zh ((Only.of_below Hb3.out).transNew hT4 (fun b e=>e.elim (fun e=>.inr (by omega)) .inl));clear hT4;go_wp2_with fail
   refine leaves_cons (f:=104) (args:=#[.pointer (some ⟨w.heap.size,0,none⟩),.pointer (some ⟨w.heap.size+1,0,none⟩),.pointer (some ⟨w.heap.size+1+1,0,none⟩)]) (by simp) (by simp [go_sem]) ?_;refine (ze6 HA4.out HB4.out HC4.out (by omega) (by omega) (by omega) _ _ _ []).mono ?_;rintro e9 u9 w9 ⟨rfl,rfl,hA9,hB9,hC9,hT9⟩;have y0:=hA9.cell (i:=0) rfl;have y1:=hB9.cell (i:=0) rfl;have y2:=hC9.cell (i:=0) rfl;have hT:Only S w w9:=HT4.out.transNew hT9 (fun b e=>.inr (by rcases e with e | e | e <;> omega));clear hA9 hB9 hC9;simp only [settle,List.dropWhile_nil,Leaves];refine ⟨.tuple #[.int .i64 (zaa l i).line,.int .i64 (zaa l i).col,.int .i64 c],by simp [results,Tryz.results66,go_sem,y0,y1,y2],?_⟩
   exact ⟨rfl,hT⟩
  | ok x j =>
   obtain ⟨rfl,hX4,hP4,hT4⟩:=he4;have hs4:=hT4.size;have HA4:=zh (hT4.own HA3.out (fun e=>by rcases e with e | e;omega;have:=hS _ e;omega));have HB4:=zh (hT4.own HB3.out (fun e=>by rcases e with e | e;omega;have:=hS _ e;omega));have HC4:=zh (hT4.own HC3.out (fun e=>by rcases e with e | e;omega;have:=hS _ e;omega));have HT4:Hid (Only S w w4):=zh ((Only.of_below Hb3.out).transNew hT4 (fun b e=>e.elim (fun e=>.inr (by omega)) .inl));have HX4:=zh hX4;have HN:=zh (zaQ hP4 HE.out);have HFl:Hid (∀ w',Below w4.heap.size w4 w'->_):=zh (fun (w':World) (hb:Below w4.heap.size w4 w')=>zcl (hP4.below hb) HE.out 120);obtain ⟨q,hq⟩:∃ q,((zaa l j).kind != 4)=q:=⟨_,rfl⟩;have Hkd:Hid ((q=true->zeD l (.ok x j)=.err (zaa l j).line (zaa l j).col 120)/\(q=false->zeD l (.ok x j)=.ok x)):=zh ⟨fun e=>zfR (by rw [e] at hq;simpa using hq),fun e=>ze7 (by rw [e] at hq;simpa using hq)⟩;clear hX4 hP4 hT4;go_wp2_with fail
   go_at_call 105;refine HN.out.mono ?_;rintro e5 w5 ⟨rfl,hb5⟩;have HA5:=zh (HA4.out.below hb5 (zr _));have HB5:=zh (HB4.out.below hb5 (zr _));have HC5:=zh (HC4.out.below hb5 (zr _));have HT5:Hid (Only S w w5):=zh (HT4.out.trans (Only.of_below hb5));have HX5:=zh (hX _ _ _ HX4.out (Only.of_below hb5));have Hb5:=zh hb5;have hs5:=hb5.size;clear hb5 HN HA4 HB4 HC4 HT4 HX4
   cases q with
   | true =>
    go_wp2_with fail
    go_at_call 106;refine (HFl.out _ Hb5.out).mono ?_;rintro e6 w6 ⟨he6,hb6⟩;unfold Bad at he6;subst he6;have HA6:=zh (HA5.out.below hb6 (zr _));have HB6:=zh (HB5.out.below hb6 (zr _));have HC6:=zh (HC5.out.below hb6 (zr _));have HT6:Hid (Only S w w6):=zh (HT5.out.trans (Only.of_below hb6));clear hb6;go_wp2_with fail
    refine leaves_cons (f:=104) (args:=#[.pointer (some ⟨w.heap.size,0,none⟩),.pointer (some ⟨w.heap.size+1,0,none⟩),.pointer (some ⟨w.heap.size+1+1,0,none⟩)]) (by simp) (by simp [go_sem]) ?_;refine (ze6 HA6.out HB6.out HC6.out (by omega) (by omega) (by omega) _ _ _ []).mono ?_;rintro e9 u9 w9 ⟨rfl,rfl,hA9,hB9,hC9,hT9⟩;have y0:=hA9.cell (i:=0) rfl;have y1:=hB9.cell (i:=0) rfl;have y2:=hC9.cell (i:=0) rfl;have hT:Only S w w9:=HT6.out.transNew hT9 (fun b e=>.inr (by rcases e with e | e | e <;> omega));clear hA9 hB9 hC9;simp only [settle,List.dropWhile_nil,Leaves];refine ⟨.tuple #[.int .i64 (zaa l j).line,.int .i64 (zaa l j).col,.int .i64 120],by simp [results,Tryz.results66,go_sem,y0,y1,y2],?_⟩;rw [Hkd.out.1 trivial]
    exact ⟨rfl,hT⟩
   | false =>
    have a0:=HA5.out.cell (i:=0) rfl;have b0:=HB5.out.cell (i:=0) rfl;have c0:=HC5.out.cell (i:=0) rfl;have af:=HA5.out.free;have bf:=HB5.out.free;have cf:=HC5.out.free;go_wp2_with fail
    have hW:Only (fun b=>w.heap.size<=b/\b < w.heap.size+3) w5 (((w5.setCell ⟨w.heap.size,0,none⟩ (.int .i64 0)).setCell ⟨w.heap.size+1,0,none⟩ (.int .i64 0)).setCell ⟨w.heap.size+1+1,0,none⟩ (.int .i64 0)):=
     (((Only.refl _ w5).setCell (.inr ⟨by show w.heap.size<=w.heap.size;omega,by show w.heap.size < w.heap.size+3;omega⟩) _).setCell (.inr ⟨by show w.heap.size<=w.heap.size+1;omega,by show w.heap.size+1 < w.heap.size+3;omega⟩) _).setCell (.inr ⟨by show w.heap.size<=w.heap.size+1+1;omega,by show w.heap.size+1+1 < w.heap.size+3;omega⟩) _
    have y0:=(((HA5.out.set 0 (.int .i64 0)).set_ne (b:=w.heap.size+1) (o:=0) (by omega) (.int .i64 0)).set_ne (b:=w.heap.size+1+1) (o:=0) (by omega) (.int .i64 0)).cell (i:=0) rfl;have y1:=(((HB5.out.set_ne (b:=w.heap.size) (o:=0) (by omega) (.int .i64 0)).set 0 (.int .i64 0)).set_ne (b:=w.heap.size+1+1) (o:=0) (by omega) (.int .i64 0)).cell (i:=0) rfl;have y2:=(((HC5.out.set_ne (b:=w.heap.size) (o:=0) (by omega) (.int .i64 0)).set_ne (b:=w.heap.size+1) (o:=0) (by omega) (.int .i64 0)).set 0 (.int .i64 0)).cell (i:=0) rfl;refine leaves_cons (f:=104) (args:=#[.pointer (some ⟨w.heap.size,0,none⟩),.pointer (some ⟨w.heap.size+1,0,none⟩),.pointer (some ⟨w.heap.size+1+1,0,none⟩)]) (by simp) (by simp [go_sem]) ?_;refine (zni _ _ _ _).mono ?_;rintro e9 u9 w9 ⟨rfl,rfl,rfl⟩;simp only [settle,Leaves];refine ⟨.tuple #[.int .i64 0,.int .i64 0,.int .i64 0],by simp [results,Tryz.results66,go_sem,y0,y1,y2],?_⟩;rw [Hkd.out.2 trivial];exact ⟨rfl,hX _ _ _ HX5.out hW,HT5.out.transNew hW (fun b e=>.inr e.1)⟩

def ExN (m : Nat) (W : World) (x : Ex) (u : Value) : Prop := ExV W (fun b => m <= b) x u
def ExBox (m gx : Nat) (W : World) (x : Ex) : Prop := ∃ cs, OwnV W gx 193 cs /\ ExsC W (fun b => m <= b /\ b ≠ gx) [x] cs
theorem Turns.alloc {p:Nat} {a b:World} (h:Turns p a b) (x:Obj):Turns p a (b.alloc x):=Only.alloc h x
theorem Turns.grown {p:Nat} {w w':World} (h:Turns p w w'):w.grownBy w' (some p):=⟨h.os,h.tape,h.output,h.size,fun k hk hne=>h.block k hk (fun e=>hne (by rw [e]))⟩
theorem ExN.turns {m p:Nat} {W W':World} {x:Ex} {u:Value} (h:ExN m W x u) (ht:Turns p W W') (hp:p < m):ExN m W' x u:=by
 obtain ⟨cs,e,hX⟩:=h;exact ⟨cs,e,hX.grown ht.grown (fun g e h=>by cases e;omega)⟩
theorem ExBox.turns {m gx p:Nat} {W W':World} {x:Ex} (h:ExBox m gx W x) (ht:Turns p W W') (hp:p < m) (hg:gx≠p):ExBox m gx W' x:=by
 obtain ⟨cs,hO,hX⟩:=h;exact ⟨cs,ht.own hO hg,hX.grown ht.grown (fun g e h=>by cases e;omega)⟩
theorem PSt.drew {w:World} {p:Nat} {v:Value} {l:List Tok} {i o:Nat} (h:PSt w p v l i o):PSt w.drew p v l i o:=h.below (yR _ _).drew
theorem ExsC.form1 {w:World} {P:Nat->Prop} {op n:Int} {name:List UInt8} {args:List Ex} {cs:List Value} (h:ExsC w P [.mk op n name args] cs):∃ aa cap,cs=[.int .u8 op,.int .i64 n,.string (bstr name),.slice aa args.length cap]:=by
 obtain ⟨op',n',name',args',aa,cap,e,rfl⟩:=h.one;cases e;exact ⟨aa,cap,rfl⟩
theorem zjD {w4:World} {m gx:Nat} {op:Int} {xs:List Ex} {cs:List Value} {c0 c1 c2 c3:Value} (hO:OwnV w4 gx 193 [c0,c1,c2,c3]) (hX:ExsC w4 (fun b=>m<=b/\b≠gx) xs cs) (hm:m<=w4.heap.size) (hl:xs.length<=1000) :
  ExBox m gx (((((w4.alloc (.cells cs.toArray 193)).setCell ⟨gx,0,none⟩ (.int .u8 op)).setCell ⟨gx,1,none⟩ (.int .i64 0)).setCell ⟨gx,2,none⟩ (.string { data:=#[] })).setCell ⟨gx,3,none⟩ (.slice (some ⟨w4.heap.size,0,none⟩) xs.length xs.length)) (.mk op 0 [] xs):=by
 have hlt:=hO.lt;have hb:Below w4.heap.size w4 (w4.alloc (.cells cs.toArray 193)):=(yR _ _).alloc (zr _) _;obtain ⟨W6,hW6,hX6,hg6⟩:=set4 (hO.alloc (.cells cs.toArray 193)) (.int .u8 op) (.int .i64 0) (.string { data:=#[] }) (.slice (some ⟨w4.heap.size,0,none⟩) xs.length xs.length);rw [<- hW6];exact ⟨_,hX6,zjJ hb (OwnV.new _ _ _) hX hm (by omega) hl hg6⟩
theorem ExBox.drew {m gx:Nat} {W:World} {x:Ex} (h:ExBox m gx W x):ExBox m gx W.drew x:=by
 obtain ⟨cs,hO,hX⟩:=h;exact ⟨cs,hO,hX.under (B:=W.heap.size) (yR _ _).drew (zr _)⟩
theorem zj6 {w:World} {p gs bp gx m:Nat} {v:Value} {l:List Tok} {o:Nat} {s:ByteArray} {op:Int} {c0 c1 c2 c3:Value} (hgs:OwnV w gs 272 [.string s,.int .u8 op]) (hbp:OwnV w bp 122 [.pointer (some ⟨p,0,none⟩)]) (hgx:OwnV w gx 193 [c0,c1,c2,c3])
  (hp:p < m) (hm:m<=w.heap.size) (h1:gs≠p) (h2:bp≠p) (h3:gx≠p) (h4:gs≠gx) (h5:bp≠gx) (h6:∀ b,v.ownBlock=some b->b≠gx) (R:PR Ex)
  (hU:∀ W,Below w.heap.size w W->Calls Tryz.prog 208 #[.pointer (some ⟨p,0,none⟩)] W (RdE l p v o W (ExN W.heap.size) R)) :
  Calls Tryz.prog 230 #[.pointer (some ⟨gs,0,none⟩),.pointer (some ⟨bp,0,none⟩),.pointer (some ⟨gx,0,none⟩)] w (OpE l p v o (fun b=>b=p∨b=gx) w (ExBox m gx) (R.map fun x=>.mk op 0 [] [x])):=by
 have x1:=hgs.cell (i:=1) rfl;have y0:=hbp.cell (i:=0) rfl;have HU:=zh hU;clear hU
 cases R with
 | err a c =>
  go_enter Tryz.func230,Tryz.ntmps230
  go_wp2_with fail
  refine zeL [0,0,0,1,2,2,2] (fun w'=>Below w.heap.size w w') (by kernel_rfl) (by kernel_rfl) ((yR _ _).drew) ?_;try simp only [Act.put,zs1,zs3,zs2]
  apply stepsDie.val
  ·intro w' hb1;have Hb1':=zh hb1;have x1':=Below.keep hb1 x1;have y0':=Below.keep hb1 y0;try simp only [Act.put,zs1,zs3,zs2]
   go_wp2;first | exact ⟨rfl,Hb1'.out⟩ | exact ⟨rfl,Hb1'.out.alloc Hb1'.out.size _⟩
  try simp only [Act.put,zs1,zs3,zs2]
  apply stepsDie.val
  ·intro w' hb1;have Hb1':=zh hb1;have x1':=Below.keep hb1 x1;have y0':=Below.keep hb1 y0;try simp only [Act.put,zs1,zs3,zs2]
   go_wp2;first | exact ⟨rfl,Hb1'.out⟩ | exact ⟨rfl,Hb1'.out.alloc Hb1'.out.size _⟩
  try simp only [Act.put,zs1,zs3,zs2]
  apply stepsDie.val
  ·intro w' hb1;have Hb1':=zh hb1;have x1':=Below.keep hb1 x1;have y0':=Below.keep hb1 y0;try simp only [Act.put,zs1,zs3,zs2]
   go_wp2;first | exact ⟨rfl,Hb1'.out⟩ | exact ⟨rfl,Hb1'.out.alloc Hb1'.out.size _⟩
  try simp only [Act.put,zs1,zs3,zs2]
  apply stepsDie.die
  ·intro w' hb1;have Hb1':=zh hb1;have x1':=Below.keep hb1 x1;have y0':=Below.keep hb1 y0;try simp only [Act.put,zs1,zs3,zs2]
   go_wp2_with fail
   (go_at_call 208;refine (HU.out _ Hb1'.out).mono ?_;rintro e4 w4 ⟨he4,hT4⟩;unfold Bad at he4;subst he4;exact fun a ha=>⟨ha,rfl,((Turns.below Hb1'.out).trans hT4).mono (fun _ _ e=>.inl e)⟩)
  apply stepsDie.skip;apply stepsDie.skip;apply stepsDie.skip
  exact stepsDie.done
 | ok x j =>
  obtain ⟨op2,n2,name2,args2⟩:=x;have HG:=zh hgx;have HS:=zh hgs;have HR:=zh hbp;clear hgx hgs hbp;go_enter Tryz.func230,Tryz.ntmps230
  go_wp2_with fail
  go_region_with ((go_at_call 208;refine (HU.out _ (yR _ _).drew).mono ?_;rintro e4 w4 ⟨u4,rfl,⟨cs4,rfl,hX4⟩,hP4,hT4⟩;obtain ⟨aa,acap,rfl⟩:=hX4.form1;have hT:=(Turns.below (p:=p) (yR w.heap.size w).drew).trans hT4;have hO4:=hT.own HG.out h3;have x1:=(hT.own HS.out h1).cell (i:=1) rfl;have y0:=(hT.own HR.out h2).cell (i:=0) rfl;have hOa:=hO4.alloc (.cells #[.int .u8 op2,.int .i64 n2,.string (bstr name2),.slice aa args2.length acap] 193);obtain ⟨z0,z1,z2,z3⟩:=yc4 hOa;have zf:=hOa.free;have l1:=(hT.own HS.out h1).lt))
  all_goals
   go_wp2_with fail
   have hsz:w.heap.size<=w4.heap.size:=hT.size;have hXw:ExsC w4 (fun b=>m<=b/\b≠gx) [.mk op2 n2 name2 args2] [.int .u8 op2,.int .i64 n2,.string (bstr name2),.slice aa args2.length acap]:=hX4.weak fun g _ h=>⟨yT hm h,fun e=>by have:=HG.out.lt;have h':w.heap.size<=g:=h;omega⟩
   refine yE (results_none rfl _ _ _) rfl ⟨rfl,?_,?_,?_⟩
   ·have hB:=zjD (op:=op) hO4 hXw (by omega) (by simp);exact hB
   ·exact hP4.only (S:=fun b=>b=gx) ((((((Turns.refl gx w4).alloc _).set _ _).set _ _).set _ _).set _ _) (fun e=>h3 e.symm) (fun b hb=>h6 b hb)
   ·exact ((((Only.alloc (hT.mono (fun _ _ e=>.inl e)) _).setCell (.inr (.inr rfl)) _).setCell (.inr (.inr rfl)) _).setCell (.inr (.inr rfl)) _).setCell (.inr (.inr rfl)) _
theorem zhp (caps:Array Value) (W:World):(callFunc 230 caps).run Tryz.prog W=.ok (.enter 230 caps) W:=(enters_of (P:=Tryz.prog) Tryz.func230 (by kernel_rfl) rfl) caps W
theorem zg6 {W:World} {p bs b0 gx m:Nat} {v:Value} {l:List Tok} {i o:Nat} (h:PSt W p v l i o) (hE:PEnv l) (ho:o<=300) (s:List UInt8) (op:Int) (hbs:OwnV W bs 272 [.string (bstr s),.int .u8 op]) (hb0:OwnV W b0 122 [.pointer (some ⟨p,0,none⟩)]) {c0 c1 c2 c3:Value} (hgx:OwnV W gx 193 [c0,c1,c2,c3])
  (hp:p < m) (hv:∀ b,v.ownBlock=some b->b < m) (m1:m<=bs) (m2:m<=b0) (m3:m<=gx) (n1:bs≠gx) (n2:b0≠gx) (R:PR Ex)
  (hU:isS l i s=true->o < 200->∀ W',PSt W' p v l (i+1) (o+1)->Calls Tryz.prog 208 #[.pointer (some ⟨p,0,none⟩)] W' (RdE l p v (o+1) W' (ExN W'.heap.size) R)) :
  Calls Tryz.prog 168 #[.pointer (some ⟨p,0,none⟩),.string (bstr s),.func (.func 230) #[] #[.pointer (some ⟨bs,0,none⟩),.pointer (some ⟨b0,0,none⟩),.pointer (some ⟨gx,0,none⟩)]] W
   (OpE l p v o (fun b=>b=p∨b=gx) W (ExBox m gx) ((zay l i s o).andThen fun _ _=>R.map fun x=>.mk op 0 [] [x])):=by
 refine zdz h hE ho s _ _ (fun b=>b=p∨b=gx) (.inl rfl) (ExBox m gx) (fun W W' x hx ht=>hx.turns ht hp (by omega)) _ (zhp _) ?_;intro hi ho2 W' ht hP;have hsz:=ht.size;have hlt:=hgx.lt;exact zj6 (ht.own hbs (by omega)) (ht.own hb0 (by omega)) (ht.own hgx (by omega)) hp (by omega) (by omega) (by omega) (by omega) n1 n2 (fun b hb=>by have:=hv b hb;omega) R (fun W'' hb=>hU hi ho2 W'' (hP.below hb))
theorem zao {w:World} {p:Nat} {v:Value} {l:List Tok} {i o:Nat} (h:PSt w p v l i o):∀ b,v.ownBlock=some b->b < w.heap.size:=by
 intro b hb;obtain ⟨a,cap,rfl,-,-⟩:=Sl.form h.toks;obtain ⟨b',off,rfl,c0,-⟩:=zaF h.toks h.here;cases hb;have:=World.block_lt_of_cell? w _ c0;exact this
theorem zj7 {l:List Tok} {p:Nat} {v:Value} (hE:PEnv l) (E:Nat->Nat->Nat->PR Ex):∀ (f i o:Nat) (w:World),l.length - i < f->o<=300->PSt w p v l i o ->
  (∀ j o' W,i<=j->o'<=300->PSt W p v l j o'->Calls Tryz.prog 231 #[.pointer (some ⟨p,0,none⟩)] W (RdE l p v o' W (ExN W.heap.size) (zah l E j o'))) ->
  Calls Tryz.prog 208 #[.pointer (some ⟨p,0,none⟩)] w (RdE l p v o w (ExN w.heap.size) (zas l E f i o)):=by
 intro f
 induction f with
 | zero=>intro i o w h;omega
 | succ f ih =>
 intro i o w hf ho h hO;have hp:=h.lt;have hv:=zao h;have hih:∀ W',PSt W' p v l (i+1) (o+1)->o < 200->Calls Tryz.prog 208 #[.pointer (some ⟨p,0,none⟩)] W' (RdE l p v (o+1) W' (ExN W'.heap.size) (zas l E f (i+1) (o+1))):=fun W' hP ho2=>ih (i+1) (o+1) W' (by have:=hP.here;omega) (by omega) hP (fun j o' W hj h1 h2=>hO j o' W (by omega) h1 h2)
 have HIH:=zh hih;obtain ⟨q1,hq1⟩:∃ q,isS l i [45]=q:=⟨_,rfl⟩;obtain ⟨q2,hq2⟩:∃ q,isS l i [33]=q:=⟨_,rfl⟩
 have hno:q1=true->q2=false:=by
  intro h1
  cases h2:q2 with
  | false=>rfl
  | true =>
   rw [h1] at hq1;rw [h2] at hq2;have e1:=(zcT hq1).2;rw [(zcT hq2).2] at e1;cases e1
 have HI1:Hid (∀ w',Below w.heap.size w w'->Calls Tryz.prog 173 #[.pointer (some ⟨p,0,none⟩),.string { data:=#[45] }] w' fun e w''=>e=.returned (.bool q1)/\Below w'.heap.size w' w''):=zh (fun (w':World) (hb:Below w.heap.size w w')=>by have:=zbo (h.below hb) hE [45];rw [hq1] at this;exact this);have HI2:Hid (∀ w',Below w.heap.size w w'->Calls Tryz.prog 173 #[.pointer (some ⟨p,0,none⟩),.string { data:=#[33] }] w' fun e w''=>e=.returned (.bool q2)/\Below w'.heap.size w' w''):=zh (fun (w':World) (hb:Below w.heap.size w w')=>by have:=zbo (h.below hb) hE [33];rw [hq2] at this;exact this);have H:=zh h;obtain ⟨W0,hW0,hb0,hA0,hB0,hs0⟩:=opened w [.pointer (some ⟨p,0,none⟩)] zeroE 122 193;obtain ⟨W1,hW1,hb1,hC1⟩:∃ W1,W1=W0.alloc (.cells #[.string { data:=#[45] },.int .u8 7,.string { data:=#[33] },.int .u8 8] 272)/\Below w.heap.size w W1/\OwnV W1 W0.heap.size 272 [.string { data:=#[45] },.int .u8 7,.string { data:=#[33] },.int .u8 8]:=⟨_,rfl,hb0.alloc hb0.size _,OwnV.new _ _ _⟩;have hA1:OwnV W1 w.heap.size 122 [.pointer (some ⟨p,0,none⟩)]:=by rw [hW1];exact hA0.alloc _
 have hB1:OwnV W1 (w.heap.size+1) 193 zeroE:=by rw [hW1];exact hB0.alloc _
 have hlt1:W0.heap.size < W1.heap.size:=hC1.lt;obtain ⟨W2,hW2,hb2,hD2⟩:∃ W2,W2=W1.alloc (.cells #[.string { data:=#[45] },.int .u8 7] 272)/\Below w.heap.size w W2/\OwnV W2 W1.heap.size 272 [.string { data:=#[45] },.int .u8 7]:=⟨_,rfl,hb1.alloc hb1.size _,OwnV.new _ _ _⟩;have hb12:Below W1.heap.size W1 W2:=by rw [hW2];exact (yR _ _).alloc (zr _) _
 have hA2:=hA1.below hb12 (zr _);have hB2:=hB1.below hb12 (zr _);have hC2:=hC1.below hb12 (zr _);have HA2:=zh hA2;have HB2:=zh hB2;have HC2:=zh hC2;have HD2:=zh hD2;obtain ⟨c10,c11⟩:=yc2 hC1;have a20:=hA2.cell (i:=0) rfl;have d20:=hD2.cell (i:=0) rfl;have HW0:=zh hW0;have HW1:=zh hW1;have HW2:=zh hW2;have Hb2:=zh hb2;have Hs0:=zh hs0;have Hlt1:=zh hlt1;simp only [zeroE] at HW0;clear hW0 hb0 hA0 hB0 hs0 hW1 hb1 hC1 hA1 hB1 hlt1 hW2 hb2 hD2 hb12 hA2 hB2 hC2 h hih ih;have hmf:=zmf Tryz.prog
 obtain ⟨final,hfin⟩:∃ r,zas l E (f+1) i o=r:=⟨_,rfl⟩;rw [hfin];rw [zas,hq1,hq2] at hfin;have HF:=zh hfin;clear hfin;go_enter Tryz.func208,Tryz.ntmps208
 go_upto_region 1 with (fail)
 rw [<- HW0.out];go_wp2_with fail
 rw [<- HW1.out];refine wp_loop_rounds 3 ?_;rw [rounds_succ];go_upto_region 4 with (fail)
 rw [<- HW2.out];go_wp2_with fail
 go_at_call 173;refine (HI1.out _ Hb2.out).mono ?_;rintro e3 w3 ⟨rfl,hb3⟩;have HAw3:=zh (HA2.out.below hb3 (zr _));have HBw3:=zh (HB2.out.below hb3 (zr _));have HCw3:=zh (HC2.out.below hb3 (zr _));have HDw3:=zh (HD2.out.below hb3 (zr _));have Hbw3:=zh (Hb2.out.trans (hb3.mono Hb2.out.size));have Hw3:=zh (H.out.below Hbw3.out);clear hb3 HA2 HB2 HD2 a20 d20 c10 c11 Hb2;have a30:=HAw3.out.cell (i:=0) rfl;have d30:=HDw3.out.cell (i:=0) rfl
 cases hq:q1 with
 | true =>
  have hn2:=hno hq;rw [hq] at HF hq1;rw [hn2] at HF;clear hq hno hn2
  have HRR:Hid ((zay l i [45] o).andThen (fun _ _=>(zas l E f (i+1) (o+1)).map fun x=>.mk 7 0 [] [x])=final):=zh (by
   rw [<- HF.out,zay,hq1,yN (by decide)];by_cases h2:200<=o
   ·rw [yP h2];simp [PR.andThen,h2]
   ·rw [yN h2];simp [PR.andThen,h2])
  have HOp:=zh (zg6 (W:=w3) (gx:=w.heap.size+1) (m:=w.heap.size) Hw3.out hE ho [45] 7 HDw3.out HAw3.out HBw3.out (H.out.lt) (zao H.out) (by have:=Hs0.out;have:=Hlt1.out; omega) (zr _) (by omega) (by have:=Hs0.out;have:=Hlt1.out; omega) (by omega) (zas l E f (i+1) (o+1)) (fun _ h2 W' hP=>HIH.out W' hP h2));rw [HRR.out] at HOp;go_wp2_with fail
  go_at_call 168;refine HOp.out.mono ?_;intro e5 w5 he5;clear HRR HOp HF HIH HI1 HI2 HC2
  cases final with
  | err a c =>
   obtain ⟨he5,hS5⟩:=he5;unfold Bad at he5;subst he5;have HS5:=zh hS5;clear hS5;go_wp2_with fail
   exact ⟨rfl,rfl,(Turns.below Hbw3.out).transNew HS5.out (fun k hk=>by rcases hk with rfl | rfl;exact .inl rfl;exact .inr (by omega))⟩
  | ok x j =>
   obtain ⟨rfl,⟨cs5,hO5,hX5⟩,hP5,hS5⟩:=he5;obtain ⟨op5,n5,name5,args5⟩:=x;obtain ⟨aa,acap,rfl⟩:=hX5.form1;obtain ⟨y0,y1,y2,y3⟩:=yc4 hO5;have yf:=hO5.free;have HX5:=zh hX5;have HP5:=zh hP5;have HS5:=zh hS5;clear hX5 hP5 hS5 hO5;go_wp2_with fail
   refine yE (v:=.agg #[.int .u8 op5,.int .i64 n5,.string (bstr name5),.slice aa args5.length acap]) (by simp [results,Tryz.results208,go_sem,y0,y1,y2,y3]) rfl ⟨_,rfl,⟨_,rfl,?_⟩,?_,?_⟩
   ·have hP:¬ (w.heap.size<=w.heap.size+1/\w.heap.size+1≠w.heap.size+1):=by omega
    exact ((((HX5.out.set hP).set hP).set hP).set hP).weak fun g _ h=>h.1
   ·have hlt:=H.out.lt;have hv':=zao H.out;exact HP5.out.only (S:=fun b=>b=w.heap.size+1) (((((Turns.refl (w.heap.size+1) w5).set _ _).set _ _).set _ _).set _ _) (by omega) (fun b hb=>by have:=hv' b hb;omega)
   ·exact (((((Turns.below Hbw3.out).transNew HS5.out (fun k hk=>by rcases hk with rfl | rfl;exact .inl rfl;exact .inr (by omega))).setNew (by omega) _).setNew (by omega) _).setNew (by omega) _).setNew (by omega) _
 | false =>
  rw [hq] at HF hq1;clear hq hno;have c32:=HCw3.out.cell (i:=2) rfl;have c33:=HCw3.out.cell (i:=3) rfl;obtain ⟨W4,hW4,hb4,hD4⟩:∃ W4,W4=w3.alloc (.cells #[.string { data:=#[33] },.int .u8 8] 272)/\Below w3.heap.size w3 W4/\OwnV W4 w3.heap.size 272 [.string { data:=#[33] },.int .u8 8]:=⟨_,rfl,(yR _ _).alloc (zr _) _,OwnV.new _ _ _⟩;have HA4:=zh (HAw3.out.below hb4 (zr _));have HB4:=zh (HBw3.out.below hb4 (zr _));have HC4:=zh (HCw3.out.below hb4 (zr _));have HD4:=zh hD4;have Hb4:=zh (Hbw3.out.trans (hb4.mono Hbw3.out.size));have Hlt3:Hid (W1.heap.size < w3.heap.size):=zh HDw3.out.lt;have HW4:=zh hW4;clear hW4 hb4 hD4;go_wp2_with fail
  rw [rounds_succ];go_upto_region 4 with (fail)
  rw [<- HW4.out];clear c32 c33 a30 d30;have a40:=HA4.out.cell (i:=0) rfl;have d40:=HD4.out.cell (i:=0) rfl;go_wp2_with fail
  go_at_call 173;refine (HI2.out _ Hb4.out).mono ?_;rintro e5 w5 ⟨rfl,hb5⟩;have HAw5:=zh (HA4.out.below hb5 (zr _));have HBw5:=zh (HB4.out.below hb5 (zr _));have HCw5:=zh (HC4.out.below hb5 (zr _));have HDw5:=zh (HD4.out.below hb5 (zr _));have Hbw5:=zh (Hb4.out.trans (hb5.mono Hb4.out.size));have Hw5:=zh (H.out.below Hbw5.out);clear hb5 HA4 HB4 HC4 HD4 a40 d40 Hb4 HAw3 HBw3 HCw3 HDw3 Hbw3 Hw3;have a50:=HAw5.out.cell (i:=0) rfl;have d50:=HDw5.out.cell (i:=0) rfl
  cases hq:q2 with
  | true =>
   rw [hq] at HF hq2;clear hq
   have HRR:Hid ((zay l i [33] o).andThen (fun _ _=>(zas l E f (i+1) (o+1)).map fun x=>.mk 8 0 [] [x])=final):=zh (by
    rw [<- HF.out,zay,hq2,yN (by decide)];by_cases h2:200<=o
    ·rw [yP h2];simp [PR.andThen,h2]
    ·rw [yN h2];simp [PR.andThen,h2])
   have HOp:=zh (zg6 (W:=w5) (gx:=w.heap.size+1) (m:=w.heap.size) Hw5.out hE ho [33] 8 HDw5.out HAw5.out HBw5.out (H.out.lt) (zao H.out) (by have:=Hs0.out;have:=Hlt1.out;have:=Hlt3.out;omega) (zr _) (by omega) (by have:=Hs0.out;have:=Hlt1.out;have:=Hlt3.out;omega) (by omega) (zas l E f (i+1) (o+1)) (fun _ h2 W' hP=>HIH.out W' hP h2));rw [HRR.out] at HOp;go_wp2_with fail
   go_at_call 168;refine HOp.out.mono ?_;intro e6 w6 he6;clear HRR HOp HF HIH HI1 HI2 HC2
   cases final with
   | err a c =>
    obtain ⟨he6,hS6⟩:=he6;unfold Bad at he6;subst he6;have HS6:=zh hS6;clear hS6;go_wp2_with fail
    exact ⟨rfl,rfl,(Turns.below Hbw5.out).transNew HS6.out (fun k hk=>by rcases hk with rfl | rfl;exact .inl rfl;exact .inr (by omega))⟩
   | ok x j =>
    obtain ⟨rfl,⟨cs6,hO6,hX6⟩,hP6,hS6⟩:=he6;obtain ⟨op6,n6,name6,args6⟩:=x;obtain ⟨aa,acap,rfl⟩:=hX6.form1;obtain ⟨y0,y1,y2,y3⟩:=yc4 hO6;have yf:=hO6.free;have HX6:=zh hX6;have HP6:=zh hP6;have HS6:=zh hS6;clear hX6 hP6 hS6 hO6;go_wp2_with fail
    refine yE (v:=.agg #[.int .u8 op6,.int .i64 n6,.string (bstr name6),.slice aa args6.length acap]) (by simp [results,Tryz.results208,go_sem,y0,y1,y2,y3]) rfl ⟨_,rfl,⟨_,rfl,?_⟩,?_,?_⟩
    ·have hP:¬ (w.heap.size<=w.heap.size+1/\w.heap.size+1≠w.heap.size+1):=by omega
     exact ((((HX6.out.set hP).set hP).set hP).set hP).weak fun g _ h=>h.1
    ·have hlt:=H.out.lt;have hv':=zao H.out;exact HP6.out.only (S:=fun b=>b=w.heap.size+1) (((((Turns.refl (w.heap.size+1) w6).set _ _).set _ _).set _ _).set _ _) (by omega) (fun b hb=>by have:=hv' b hb;omega)
    ·exact (((((Turns.below Hbw5.out).transNew HS6.out (fun k hk=>by rcases hk with rfl | rfl;exact .inl rfl;exact .inr (by omega))).setNew (by omega) _).setNew (by omega) _).setNew (by omega) _).setNew (by omega) _
  | false =>
   rw [hq] at HF hq2;clear hq;have HFF:Hid (zah l E i o=final):=zh HF.out;have HO:=zh (hO i o w5 (zr _) ho Hw5.out);rw [HFF.out] at HO;obtain ⟨b50,b51,b52,b53⟩:=yc4 HBw5.out;have bf:=HBw5.out.free;go_wp2_with fail
   rw [rounds_succ];go_wp2_with fail
   go_at_call 231;refine HO.out.mono ?_;intro e6 w6 he6;clear HFF HF HO HIH HI1 HI2 HC2
   cases final with
   | err a c =>
    obtain ⟨he6,hS6⟩:=he6;unfold Bad at he6;subst he6;have HS6:=zh hS6;clear hS6;go_wp2_with fail
    exact ⟨rfl,rfl,(Turns.below Hbw5.out).trans HS6.out⟩
   | ok x j =>
    obtain ⟨u,rfl,⟨cs6,rfl,hX6⟩,hP6,hS6⟩:=he6;obtain ⟨op6,n6,name6,args6⟩:=x;obtain ⟨aa,acap,rfl⟩:=hX6.form1;have hlt:=H.out.lt;have hO6:=hS6.own HBw5.out (by omega);obtain ⟨y0,y1,y2,y3⟩:=yc4 hO6;have yf:=hO6.free;have HX6:=zh hX6;have HP6:=zh hP6;have HS6:=zh hS6;have Hsz:=zh Hbw5.out.size;have Hlt5:=zh HBw5.out.lt;clear hX6 hP6 hS6 hO6 b50 b51 b52 b53 bf;go_wp2_with fail
    refine yE (v:=.agg #[.int .u8 op6,.int .i64 n6,.string (bstr name6),.slice aa args6.length acap]) (by simp [results,Tryz.results208,go_sem,y0,y1,y2,y3]) rfl ⟨_,rfl,⟨_,rfl,?_⟩,?_,?_⟩
    ·have hP:¬ (w5.heap.size<=w.heap.size+1):=by have:=Hlt5.out;omega
     exact ((((HX6.out.set hP).set hP).set hP).set hP).weak fun g _ h=>yT Hsz.out h
    ·have hv':=zao H.out;exact HP6.out.only (S:=fun b=>b=w.heap.size+1) (((((Turns.refl (w.heap.size+1) w6).set _ _).set _ _).set _ _).set _ _) (by omega) (fun b hb=>by have:=hv' b hb;omega)
    ·exact (((((Turns.below Hbw5.out).trans HS6.out).setNew (by omega) _).setNew (by omega) _).setNew (by omega) _).setNew (by omega) _
end Go.Proofs.YtdhikpkecmaplaaGreatDoor
