/- What Compile returns: the program of a list of statements, or an error. -/
import Derived.Test.YtdeneckmoejcfaaRCodeZs
set_option linter.unusedSimpArgs false
set_option linter.unusedVariables false
namespace Go.Proofs.Ytdeneckmoejcfaa
open Go.RowKit

structure ProgS where
  code : znA
  locals : Int
  reads : BitVec 32
  writes : BitVec 32
def zol (l : List St) : CR ProgS :=
  if zaJ 40 l = true then (znQ [] l).andThen fun r => if 4000 < r.1.length then .err 3 else .ok ⟨r.1, (r.2 : Int), znW 4 r.1, znW 5 r.1⟩ else .err 130
def zow (p : ProgS) (vc : Value) : Value := .agg #[vc, .int .i64 p.locals, .int .u32 (w32 p.reads), .int .u32 (w32 p.writes)]
def zpM : Value := .agg #[.slice none 0 0, .int .i64 0, .int .u32 0, .int .u32 0]
def ProgE (t : TypeId) (w w' : World) (e : Ending) : CR ProgS -> Prop
  | .ok p => ∃ v, e = .returned (.tuple #[zow p v, .int .i64 0]) /\ OwnC w' w.heap.size t v p.code
  | .err k => e = .returned (.tuple #[zpM, .int .i64 k]) /\ (k = 130 ∨ k = 131 ∨ k = 132 ∨ k = 5 ∨ k = 3)
def takesI (i : InsS) : Int := if i.op = 5 then 2 else if i.op = 9 then (if 10 <= i.a then 2 else 1) else if i.op = 3 ∨ i.op = 4 ∨ i.op = 8 ∨ i.op = 10 ∨ i.op = 12 ∨ i.op = 13 then 1 else 0
def addsI (i : InsS) : Int := if i.op = 1 ∨ i.op = 2 ∨ i.op = 4 ∨ i.op = 6 ∨ i.op = 7 ∨ i.op = 8 ∨ i.op = 9 ∨ i.op = 10 then 1 else 0
def behindI (i : InsS) (d : Int) : Int := d - takesI i + addsI i
def nextsI (k : Nat) (i : InsS) : List Nat := if i.op = 11 then [i.a.toNat] else if i.op = 12 ∨ i.op = 13 then [k + 1, i.a.toNat] else if i.op = 14 ∨ i.op = 15 then [] else [k + 1]
def fitI (i : InsS) (d : Int) : Prop := takesI i <= d /\ behindI i d <= 64
inductive ReachI (c : znA) : Nat -> Int -> Prop where
  | start : ReachI c 0 0
  | step {k : Nat} {d : Int} {to : Nat} (h : k < c.length) : ReachI c k d -> fitI c[k] d -> to ∈ nextsI k c[k] -> ReachI c to (behindI c[k] d)
structure Flow (c : znA) : Prop where
  fit : ∀ (k : Nat) (d : Int) (h : k < c.length), ReachI c k d -> fitI c[k] d
  one : ∀ (k : Nat) (d e : Int), ReachI c k d -> ReachI c k e -> d = e
  fin : ∀ d, ReachI c c.length d -> d <= 0
def rightI (n locals : Int) (i : InsS) : Prop :=
  if i.op = 1 then True else if i.op = 2 ∨ i.op = 3 then 0 <= i.a /\ i.a < locals else if i.op = 4 ∨ i.op = 5 then 1 <= i.a /\ i.a <= 10
  else if i.op = 9 then (7 <= i.a /\ i.a <= 20) ∨ (23 <= i.a /\ i.a <= 24) else if 11 <= i.op /\ i.op <= 13 then 0 <= i.a /\ i.a <= n
  else (i.op = 6 ∨ i.op = 7 ∨ i.op = 8 ∨ i.op = 10 ∨ i.op = 14 ∨ i.op = 15) /\ i.a = 0
instance (n locals : Int) (i : InsS) : Decidable (rightI n locals i) := by unfold rightI; infer_instance
structure Basic (p : ProgS) : Prop where
  len : p.code.length <= 4000
  loc : 0 <= p.locals /\ p.locals <= 32
  right : ∀ i ∈ p.code, rightI p.code.length p.locals i
  reads : znW 4 p.code = p.reads
  writes : znW 5 p.code = p.writes
structure SoundP (p : ProgS) : Prop where
  basic : Basic p
  flow : Flow p.code
theorem addsI_pos (i:InsS):0<=addsI i/\addsI i<=1:=by unfold addsI;split <;> omega
theorem takesI_pos (i:InsS):0<=takesI i/\takesI i<=2:=by
 unfold takesI;split
 ·omega
 ·split
  ·split <;> omega
  ·split <;> omega
theorem behind_pos {i:InsS} {d:Int} (h:fitI i d):0<=behindI i d:=by
 have:=addsI_pos i;have:=h.1;unfold behindI;omega
theorem right_op {n l:Int} {i:InsS} (h:rightI n l i):1<=i.op/\i.op<=15:=by
 unfold rightI at h;split at h
 ·omega
 ·split at h
  ·omega
  ·split at h
   ·omega
   ·split at h
    ·omega
    ·split at h
     ·omega
     ·omega
theorem right_jump {n l:Int} {i:InsS} (h:rightI n l i) (hj:11<=i.op/\i.op<=13):0<=i.a/\i.a<=n:=by
 unfold rightI at h;rw [yN (by omega),yN (by omega),yN (by omega),yN (by omega),yP hj] at h;exact h
theorem nexts_in {c:znA} {l:Int} (hr:∀ i ∈ c,rightI c.length l i) {k to:Nat} (hk:k < c.length) (h:to ∈ nextsI k c[k]):to<=c.length:=by
 have h1:=hr _ (List.getElem_mem hk);unfold nextsI at h;split at h
 ·have:=right_jump h1 (by omega);simp at h;omega
 ·split at h
  ·have:=right_jump h1 (by omega);simp at h;rcases h with h | h <;> omega
  ·split at h
   ·simp at h
   ·simp at h;omega
def Closed (c : znA) (D : Nat -> Int) (k : Nat) : Prop := ∀ h : k < c.length, 0 <= D k -> fitI c[k] (D k) /\ ∀ to ∈ nextsI k c[k], D to = behindI c[k] (D k)
theorem closed_reach {c:znA} {D:Nat->Int} (h0:D 0=0) (hc:∀ k,Closed c D k) {k:Nat} {d:Int} (h:ReachI c k d):D k=d/\0<=d:=by
 induction h with
 | start=>exact ⟨h0,Int.le_refl _⟩
 | step hk _ hf hn ih =>
  obtain ⟨e,hp⟩:=ih;have:=(hc _ hk (by omega)).2 _ hn;rw [e] at this;exact ⟨this,behind_pos hf⟩
theorem flow_closed {c:znA} {D:Nat->Int} (h0:D 0=0) (hr:0<=D c.length->ReachI c c.length (D c.length)) (hc:∀ k,Closed c D k):Flow c ↔ D c.length<=0:=by
 constructor
 ·intro h;by_cases hp:0<=D c.length
  ·exact h.fin _ (hr hp)
  ·omega
 ·intro h;refine ⟨fun k d hk hk2=>?_,fun k d e h1 h2=>?_,fun d h1=>?_⟩
  ·obtain ⟨e,hp⟩:=closed_reach h0 hc hk2;have:=(hc k hk (by omega)).1;rw [e] at this;exact this
  ·rw [<- (closed_reach h0 hc h1).1,<- (closed_reach h0 hc h2).1]
  ·rw [<- (closed_reach h0 hc h1).1];exact h
theorem reach_bd {c:znA} {k:Nat} {d:Int} (h:ReachI c k d):0<=d/\d<=64:=by
 cases h with
 | start=>omega
 | step _ _ hf _=>exact ⟨behind_pos hf,hf.2⟩
structure WInv (c : znA) (P : List Int) (todo : List Nat) (ex : Nat -> Prop) : Prop where
  len : P.length = c.length + 1
  reach : ∀ k, P.getD k 0 ≠ 0 -> ReachI c k (P.getD k 0 - 1)
  todos : ∀ t ∈ todo, t <= c.length /\ P.getD t 0 ≠ 0
  closed : ∀ k, ¬ ex k -> k ∉ todo -> Closed c (fun j => P.getD j 0 - 1) k
  zero : P.getD 0 0 = 1
theorem WInv.init (c:znA):WInv c ((List.replicate (c.length+1) (0:Int)).set 0 1) [0] (fun _=>False):=by
 have hg:∀ k,((List.replicate (c.length+1) (0:Int)).set 0 1).getD k 0=if k=0 then 1 else 0:=by
  intro k
  cases k with
  | zero=>rfl
  | succ k =>
   rw [List.getD_eq_getElem?_getD,List.replicate_succ,zs2,List.getElem?_cons_succ,List.getElem?_replicate];split <;> rfl
 refine ⟨by simp,fun k hk=>?_,fun t ht=>?_,fun k _ hk=>?_,hg 0⟩
 ·rw [hg] at hk ⊢;by_cases h0:k=0
  ·subst h0;exact ReachI.start
  ·rw [yN h0] at hk;exact absurd rfl hk
 ·simp at ht;subst ht;exact ⟨by omega,by rw [hg];decide⟩
 ·intro h hp;simp only at hp;rw [hg,yN (by simpa using hk)] at hp;omega
theorem WInv.val {c:znA} {P:List Int} {todo:List Nat} {ex:Nat->Prop} (h:WInv c P todo ex) (k:Nat):0<=P.getD k 0/\P.getD k 0<=65:=by
 by_cases h0:P.getD k 0=0
 ·omega
 ·have:=reach_bd (h.reach k h0);omega
theorem WInv.pop {c:znA} {P:List Int} {ts:List Nat} {t:Nat} (h:WInv c P (ts++[t]) (fun _=>False)):WInv c P ts (fun k=>k=t):=
 ⟨h.len,h.reach,fun x hx=>h.todos x (by simp [hx]),fun k hk hn=>h.closed k id (by simp [hn,hk]),h.zero⟩
theorem WInv.done {c:znA} {P:List Int} {ts:List Nat} {t:Nat} (h:WInv c P ts (fun k=>k=t)) (hc:Closed c (fun j=>P.getD j 0 - 1) t):WInv c P ts (fun _=>False):=
 ⟨h.len,h.reach,h.todos,fun k _ hn=>by
  by_cases e:k=t
  ·rw [e];exact hc
  ·exact h.closed k e hn,h.zero⟩
theorem WInv.last {c:znA} {P:List Int} {ts:List Nat} (h:WInv c P ts (fun k=>k=c.length)):WInv c P ts (fun _=>False):=h.done fun hl=>absurd hl (by omega)
theorem getD_set {P:List Int} {t:Nat} (v:Int) (ht:t < P.length) (k:Nat):(P.set t v).getD k 0=if k=t then v else P.getD k 0:=by
 rw [List.getD_eq_getElem?_getD,List.getElem?_set,List.getD_eq_getElem?_getD];by_cases e:t=k
 ·subst e;rw [yP rfl,yP rfl,yP ht];rfl
 ·rw [yN e,yN (fun h=>e h.symm)]
theorem WInv.push {c:znA} {P:List Int} {ts:List Nat} {ex:Nat->Prop} (h:WInv c P ts ex) {to:Nat} {d:Int} (hto:to<=c.length) (h0:P.getD to 0=0) (hr:ReachI c to d):WInv c (P.set to (d+1)) (ts++[to]) ex:=by
 have hlt:to < P.length:=by rw [h.len];omega
 have hd:=reach_bd hr;refine ⟨by rw [List.length_set];exact h.len,fun k hk=>?_,fun t ht=>?_,fun k hk hn=>?_,?_⟩
 ·rw [getD_set _ hlt] at hk ⊢;by_cases e:k=to
  ·subst e;rw [yP rfl];rw [show d+1 - 1=d by omega];exact hr
  ·rw [yN e] at hk ⊢;exact h.reach k hk
 ·rw [getD_set _ hlt];rcases List.mem_append.1 ht with ht | ht
  ·refine ⟨(h.todos t ht).1,?_⟩;split
   ·omega
   ·exact (h.todos t ht).2
  ·rw [List.mem_singleton] at ht;subst ht;exact ⟨hto,by rw [yP rfl];omega⟩
 ·have hnt:k ∉ ts:=fun e=>hn (by simp [e])
  have hkt:k≠to:=fun e=>hn (by simp [e])
  have hc:=h.closed k hk hnt;intro hkc hp;simp only at hp ⊢;rw [getD_set _ hlt,yN hkt] at hp ⊢;obtain ⟨a,b⟩:=hc hkc hp;refine ⟨a,fun x hx=>?_⟩;have hb:=b x hx;simp only at hb;rw [getD_set _ hlt];by_cases e:x=to
  ·subst e;rw [h0] at hb;have:=behind_pos a;simp only at this;omega
  ·rw [yN e];exact hb
 ·rw [getD_set _ hlt];by_cases e:0=to
  ·rw [<- e,h.zero] at h0;omega
  ·rw [yN e];exact h.zero
theorem zeros_set {P:List Int}:∀ {t:Nat} {v:Int},t < P.length->P.getD t 0=0->v≠0->(P.set t v).count 0+1=P.count 0:=by
 induction P with
 | nil=>intro t v ht;simp at ht
 | cons x P ih =>
  intro t v ht h0 hv
  cases t with
  | zero =>
   have hx:x=0:=h0;subst hx
   rw [zs2,List.count_cons_of_ne hv,List.count_cons_self]
  | succ t =>
   rw [zs3,List.count_cons,List.count_cons];have:=ih (t:=t) (v:=v) (by simpa using ht) (by simpa using h0) hv;omega
theorem WInv.result {c:znA} {P:List Int} (h:WInv c P [] (fun _=>False)):Flow c ↔ P.getD c.length 0<=1:=by
 have hD0:(fun j=>P.getD j 0 - 1) 0=0:=by simp only;rw [h.zero];rfl
 rw [flow_closed (D:=fun j=>P.getD j 0 - 1) hD0 (fun hp=>h.reach _ (by omega)) (fun k=>h.closed k id (by simp))];omega
theorem not_flow_fit {c:znA} {k:Nat} {d:Int} (hk:k < c.length) (hr:ReachI c k d) (h:¬ fitI c[k] d):¬ Flow c:=fun hf=>h (hf.fit k d hk hr)
theorem not_flow_one {c:znA} {k:Nat} {d e:Int} (h1:ReachI c k d) (h2:ReachI c k e) (h:d≠e):¬ Flow c:=fun hf=>h (hf.one k d e h1 h2)
end Go.Proofs.Ytdeneckmoejcfaa
