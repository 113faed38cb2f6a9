/- General facts on slices that are read, on memory that only grows, and on maps with integer keys: they are used by every later text; no condition. -/
import Derived.Test.YtdhikpkecmaplaaGreatDoorTransLMk
set_option linter.unusedSimpArgs false
set_option linter.unusedVariables false
namespace Go.Proofs.YtdhikpkecmaplaaGreatDoor
open Go.RowKit

theorem made_one (z:Value) (n:Nat) (hz:z.cells = #[z]):madeCells z.cells n=(List.replicate n z).toArray:=by
 apply Array.ext
 ·simp [madeCells]
 ·intro i h1 h2;simp [madeCells,hz,Nat.mod_one]
theorem zmY (n:Int) (name:List UInt8) (len:Nat):zbN 3 n name len=(decide (len=1) && (decide (name=[]) && decide (1<=n/\n<=10))):=by simp [zbN,zb9]
theorem zfo (op n:Int) (name:List UInt8) (le lb ll:Nat) (h:op=3):zbA op n name le lb ll=(decide (le=2) && (decide (name=[]) && (decide (1<=n/\n<=10) && (decide (lb=0) && decide (ll=0))))):=by
 unfold zbA zfg;rw [decide_eq_true (show 1<=op/\op<=7 by omega),if_pos h,if_neg (by omega),if_pos h,Bool.true_and];have e1:decide (lb=0∨op=4∨op=5)=decide (lb=0):=by rw [Bool.eq_iff_iff,decide_eq_true_eq,decide_eq_true_eq];omega
 have e2:decide (ll=0∨op=4)=decide (ll=0):=by rw [Bool.eq_iff_iff,decide_eq_true_eq,decide_eq_true_eq];omega
 rw [e1,e2]
theorem joinAll_acc:∀ (cs:List znA) (a:znA),jOk a->(∀ c ∈ cs,jOk c)->jOk (cs.foldl znB a)/\(cs.foldl znB a).length=a.length+zo5 cs:=by
 intro cs
 induction cs with
 | nil=>intro a ha _;exact ⟨ha,by simp [zo5]⟩
 | cons c r ih =>
  intro a ha hc;obtain ⟨h1,h2⟩:=ih (znB a c) (zpo ha (hc c (by simp))) (fun x hx=>hc x (by simp [hx]));refine ⟨h1,?_⟩;rw [List.foldl_cons,h2,znT];simp only [zo5,List.map_cons,List.foldr_cons];omega
theorem joinAll_ok {cs:List znA} (h:∀ c ∈ cs,jOk c):jOk (znJ cs)/\(znJ cs).length=zo5 cs:=by
 obtain ⟨h1,h2⟩:=joinAll_acc cs [] zrl h;exact ⟨h1,by rw [znJ,h2];simp⟩
theorem whileC_len (o b:znA):(zpC o b).length=o.length+b.length+2:=by
 unfold zpC;simp only [List.length_append,List.length_cons,zn8,List.length_nil];omega
theorem jOk_while {o b:znA} (ho:jOk o) (hb:jOk b):jOk (zpC o b):=by
 intro i hi hj;rw [whileC_len];unfold zpC at hi;rcases List.mem_append.1 hi with hi | hi
 ·have:=ho i hi hj;omega
 ·rcases List.mem_cons.1 hi with rfl | hi
  ·show 0<=(o.length:Int)+1+b.length+1/\(o.length:Int)+1+b.length+1<=_;omega
  ·rcases List.mem_append.1 hi with hi | hi
   ·exact zqh (k:=o.length+1) hb (by omega) i hi hj
   ·rw [List.mem_singleton] at hi;subst hi;show (0:Int)<=0/\(0:Int)<=_;omega
theorem ifC_len (o b e:znA) (el:Bool):(ifC o b e el).length<=o.length+b.length+e.length+2:=by
 unfold ifC;split <;>
 ·rw [znT];simp only [List.length_append,List.length_cons,zn8,List.length_nil];omega
theorem jOk_if {o b e:znA} {el:Bool} (ho:jOk o) (hb:jOk b) (he:jOk e):jOk (ifC o b e el):=by
 unfold ifC;split
 ·intro i hi hj;rw [znT];simp only [List.length_append,List.length_cons,zn8,List.length_nil];unfold znB at hi;simp only [List.length_append,List.length_cons,zn8,List.length_nil] at hi;rcases List.mem_append.1 hi with hi | hi
  ·rcases List.mem_append.1 hi with hi | hi
   ·have:=ho i hi hj;omega
   ·rcases List.mem_cons.1 hi with rfl | hi
    ·show 0<=(o.length:Int)+1+b.length+1/\(o.length:Int)+1+b.length+1<=_;omega
    ·rcases List.mem_append.1 hi with hi | hi
     ·exact zqh (k:=o.length+1) hb (by omega) i hi hj
     ·rw [List.mem_singleton] at hi;subst hi;show 0<=(o.length:Int)+1+b.length+1+e.length/\(o.length:Int)+1+b.length+1+e.length<=_;omega
  ·exact zqh he (by omega) i hi hj
 ·intro i hi hj;rw [znT];simp only [List.length_append,List.length_cons,zn8];unfold znB at hi;simp only [List.length_append,List.length_cons,zn8] at hi;rcases List.mem_append.1 hi with hi | hi
  ·rcases List.mem_append.1 hi with hi | hi
   ·have:=ho i hi hj;omega
   ·rcases List.mem_cons.1 hi with rfl | hi
    ·show 0<=(o.length:Int)+1+b.length/\(o.length:Int)+1+b.length<=_;omega
    ·exact zqh (k:=o.length+1) hb (by omega) i hi hj
  ·exact zqh he (by omega) i hi hj
mutual
theorem codeT_ok (ns:znU):∀ (x:St) (r:znA × Nat),zon ns x=.ok r->jOk r.1/\r.1.length<=4 * szS x/\r.2<=ns.length+szS x
 | .mk op n name es body els,r,h=>by
  unfold zon at h;rw [szS];obtain ⟨cs,h1,h2⟩:=CR.andThen_ok h;obtain ⟨a1,a2,_⟩:=zpA ns es cs h1;obtain ⟨b1,b2⟩:=joinAll_ok a1;have one:∀ i:InsS,zn5 i=false->jOk (znB (znJ cs) [i])/\(znB (znJ cs) [i]).length<=4 * (1+name.length / 30+szEs es+szSs body+szSs els):=fun i hi=>⟨zpo b1 (zo3 hi),by rw [znT,b2];simp only [List.length_singleton];omega⟩
  split at h2
  ·split at h2
   ·cases h2
   ·split at h2
    ·cases h2
    ·cases h2;exact ⟨(one _ rfl).1,(one _ rfl).2,by simp⟩
  ·split at h2
   ·split at h2
    ·cases h2
    ·cases h2;exact ⟨(one _ rfl).1,(one _ rfl).2,by simp⟩
   ·split at h2
    ·cases h2;exact ⟨(one _ rfl).1,(one _ rfl).2,by simp⟩
    ·split at h2
     ·cases h2;exact ⟨zo3 rfl,by simp;omega,by simp⟩
     ·split at h2
      ·cases h2;exact ⟨zo3 rfl,by simp;omega,by simp⟩
      ·obtain ⟨rb,h3,h4⟩:=CR.andThen_ok h2;obtain ⟨d1,d2,d3⟩:=codeL_ok ns body rb h3;split at h4
       ·cases h4;refine ⟨jOk_while b1 d1,?_,?_⟩
        ·show (zpC _ _).length<=_;rw [whileC_len,b2];omega
        ·show rb.2<=_;omega
       ·obtain ⟨ro,h5,h6⟩:=CR.andThen_ok h4;obtain ⟨f1,f2,f3⟩:=codeL_ok ns els ro h5;cases h6;refine ⟨jOk_if b1 d1 f1,?_,?_⟩
        ·have:=ifC_len (znJ cs) rb.1 ro.1 (decide (els≠[]));show (ifC _ _ _ _).length<=_;rw [b2] at this;omega
        ·show max rb.2 ro.2<=_;omega
theorem codeL_ok (ns:znU):∀ (l:List St) (r:znA × Nat),znQ ns l=.ok r->jOk r.1/\r.1.length<=4 * szSs l/\r.2<=ns.length+szSs l
 | [],r,h=>by
  unfold znQ at h;cases h
  exact ⟨zrl,by simp,by simp⟩
 | .mk op n name es body els :: l,r,h=>by
  unfold znQ at h;obtain ⟨c,h1,h2⟩:=CR.andThen_ok h;obtain ⟨c',h3,h4⟩:=CR.andThen_ok h2;obtain ⟨a1,a2,a3⟩:=codeT_ok ns (.mk op n name es body els) c h1;obtain ⟨b1,b2,b3⟩:=codeL_ok _ l c' h3;have hl:(if op=1 then ns++[name] else ns).length<=ns.length+1:=by split <;> simp
  have hp:=zrp (.mk op n name es body els);cases h4;rw [szSs];refine ⟨zpo a1 b1,?_,?_⟩
  ·show (znB _ _).length<=_;rw [znT];omega
  ·show max c.2 c'.2<=_;omega
end
def takesI (i : InsS) : Int := if i.op = 5 then 2 else if i.op = 9 then (if 10 <= i.a then 2 else 1) else if i.op = 3 ∨ i.op = 4 ∨ i.op = 8 ∨ i.op = 10 ∨ i.op = 12 ∨ i.op = 13 then 1 else 0
def addsI (i : InsS) : Int := if i.op = 1 ∨ i.op = 2 ∨ i.op = 4 ∨ i.op = 6 ∨ i.op = 7 ∨ i.op = 8 ∨ i.op = 9 ∨ i.op = 10 then 1 else 0
def behindI (i : InsS) (d : Int) : Int := d - takesI i + addsI i
def nextsI (k : Nat) (i : InsS) : List Nat := if i.op = 11 then [i.a.toNat] else if i.op = 12 ∨ i.op = 13 then [k + 1, i.a.toNat] else if i.op = 14 ∨ i.op = 15 then [] else [k + 1]
def fitI (i : InsS) (d : Int) : Prop := takesI i <= d /\ behindI i d <= 64
inductive ReachI (c : znA) : Nat -> Int -> Prop where
  | start : ReachI c 0 0
  | step {k : Nat} {d : Int} {to : Nat} (h : k < c.length) : ReachI c k d -> fitI c[k] d -> to ∈ nextsI k c[k] -> ReachI c to (behindI c[k] d)
structure Flow (c : znA) : Prop where
  fit : ∀ (k : Nat) (d : Int) (h : k < c.length), ReachI c k d -> fitI c[k] d
  one : ∀ (k : Nat) (d e : Int), ReachI c k d -> ReachI c k e -> d = e
  fin : ∀ d, ReachI c c.length d -> d <= 0
def rightI (n locals : Int) (i : InsS) : Prop :=
  if i.op = 1 then True else if i.op = 2 ∨ i.op = 3 then 0 <= i.a /\ i.a < locals else if i.op = 4 ∨ i.op = 5 then 1 <= i.a /\ i.a <= 10
  else if i.op = 9 then (7 <= i.a /\ i.a <= 20) ∨ (23 <= i.a /\ i.a <= 24) else if 11 <= i.op /\ i.op <= 13 then 0 <= i.a /\ i.a <= n
  else (i.op = 6 ∨ i.op = 7 ∨ i.op = 8 ∨ i.op = 10 ∨ i.op = 14 ∨ i.op = 15) /\ i.a = 0
instance (n locals : Int) (i : InsS) : Decidable (rightI n locals i) := by unfold rightI; infer_instance
structure Basic (p : ProgS) : Prop where
  len : p.code.length <= 4000
  loc : 0 <= p.locals /\ p.locals <= 32
  right : ∀ i ∈ p.code, rightI p.code.length p.locals i
  reads : znW 4 p.code = p.reads
  writes : znW 5 p.code = p.writes
structure SoundP (p : ProgS) : Prop where
  basic : Basic p
  flow : Flow p.code
theorem addsI_pos (i:InsS):0<=addsI i/\addsI i<=1:=by unfold addsI;split <;> omega
theorem takesI_pos (i:InsS):0<=takesI i/\takesI i<=2:=by
 unfold takesI;split
 ·omega
 ·split
  ·split <;> omega
  ·split <;> omega
theorem behind_pos {i:InsS} {d:Int} (h:fitI i d):0<=behindI i d:=by
 have:=addsI_pos i;have:=h.1;unfold behindI;omega
theorem right_op {n l:Int} {i:InsS} (h:rightI n l i):1<=i.op/\i.op<=15:=by
 unfold rightI at h;split at h
 ·omega
 ·split at h
  ·omega
  ·split at h
   ·omega
   ·split at h
    ·omega
    ·split at h
     ·omega
     ·omega
theorem right_jump {n l:Int} {i:InsS} (h:rightI n l i) (hj:11<=i.op/\i.op<=13):0<=i.a/\i.a<=n:=by
 unfold rightI at h;rw [if_neg (by omega),if_neg (by omega),if_neg (by omega),if_neg (by omega),if_pos hj] at h;exact h
theorem nexts_in {c:znA} {l:Int} (hr:∀ i ∈ c,rightI c.length l i) {k to:Nat} (hk:k < c.length) (h:to ∈ nextsI k c[k]):to<=c.length:=by
 have h1:=hr _ (List.getElem_mem hk);unfold nextsI at h;split at h
 ·have:=right_jump h1 (by omega);simp at h;omega
 ·split at h
  ·have:=right_jump h1 (by omega);simp at h;rcases h with h | h <;> omega
  ·split at h
   ·simp at h
   ·simp at h;omega
def Closed (c : znA) (D : Nat -> Int) (k : Nat) : Prop := ∀ h : k < c.length, 0 <= D k -> fitI c[k] (D k) /\ ∀ to ∈ nextsI k c[k], D to = behindI c[k] (D k)
theorem closed_reach {c:znA} {D:Nat->Int} (h0:D 0=0) (hc:∀ k,Closed c D k) {k:Nat} {d:Int} (h:ReachI c k d):D k=d/\0<=d:=by
 induction h with
 | start=>exact ⟨h0,Int.le_refl _⟩
 | step hk _ hf hn ih =>
  obtain ⟨e,hp⟩:=ih;have:=(hc _ hk (by omega)).2 _ hn;rw [e] at this;exact ⟨this,behind_pos hf⟩
theorem flow_closed {c:znA} {D:Nat->Int} (h0:D 0=0) (hr:0<=D c.length->ReachI c c.length (D c.length)) (hc:∀ k,Closed c D k):Flow c ↔ D c.length<=0:=by
 constructor
 ·intro h;by_cases hp:0<=D c.length
  ·exact h.fin _ (hr hp)
  ·omega
 ·intro h;refine ⟨fun k d hk hk2=>?_,fun k d e h1 h2=>?_,fun d h1=>?_⟩
  ·obtain ⟨e,hp⟩:=closed_reach h0 hc hk2;have:=(hc k hk (by omega)).1;rw [e] at this;exact this
  ·rw [<- (closed_reach h0 hc h1).1,<- (closed_reach h0 hc h2).1]
  ·rw [<- (closed_reach h0 hc h1).1];exact h
theorem reach_bd {c:znA} {k:Nat} {d:Int} (h:ReachI c k d):0<=d/\d<=64:=by
 cases h with
 | start=>omega
 | step _ _ hf _=>exact ⟨behind_pos hf,hf.2⟩
structure WInv (c : znA) (P : List Int) (todo : List Nat) (ex : Nat -> Prop) : Prop where
  len : P.length = c.length + 1
  reach : ∀ k, P.getD k 0 ≠ 0 -> ReachI c k (P.getD k 0 - 1)
  todos : ∀ t ∈ todo, t <= c.length /\ P.getD t 0 ≠ 0
  closed : ∀ k, ¬ ex k -> k ∉ todo -> Closed c (fun j => P.getD j 0 - 1) k
  zero : P.getD 0 0 = 1
theorem WInv.init (c:znA):WInv c ((List.replicate (c.length+1) (0:Int)).set 0 1) [0] (fun _=>False):=by
 have hg:∀ k,((List.replicate (c.length+1) (0:Int)).set 0 1).getD k 0=if k=0 then 1 else 0:=by
  intro k
  cases k with
  | zero=>rfl
  | succ k =>
   rw [List.getD_eq_getElem?_getD,List.replicate_succ,zs2,List.getElem?_cons_succ,List.getElem?_replicate];split <;> rfl
 refine ⟨by simp,fun k hk=>?_,fun t ht=>?_,fun k _ hk=>?_,hg 0⟩
 ·rw [hg] at hk ⊢;by_cases h0:k=0
  ·subst h0;exact ReachI.start
  ·rw [if_neg h0] at hk;exact absurd rfl hk
 ·simp at ht;subst ht;exact ⟨by omega,by rw [hg];decide⟩
 ·intro h hp;simp only at hp;rw [hg,if_neg (by simpa using hk)] at hp;omega
theorem WInv.val {c:znA} {P:List Int} {todo:List Nat} {ex:Nat->Prop} (h:WInv c P todo ex) (k:Nat):0<=P.getD k 0/\P.getD k 0<=65:=by
 by_cases h0:P.getD k 0=0
 ·omega
 ·have:=reach_bd (h.reach k h0);omega
theorem WInv.pop {c:znA} {P:List Int} {ts:List Nat} {t:Nat} (h:WInv c P (ts++[t]) (fun _=>False)):WInv c P ts (fun k=>k=t):=
 ⟨h.len,h.reach,fun x hx=>h.todos x (by simp [hx]),fun k hk hn=>h.closed k id (by simp [hn,hk]),h.zero⟩
theorem WInv.done {c:znA} {P:List Int} {ts:List Nat} {t:Nat} (h:WInv c P ts (fun k=>k=t)) (hc:Closed c (fun j=>P.getD j 0 - 1) t):WInv c P ts (fun _=>False):=
 ⟨h.len,h.reach,h.todos,fun k _ hn=>by
  by_cases e:k=t
  ·rw [e];exact hc
  ·exact h.closed k e hn,h.zero⟩
theorem WInv.last {c:znA} {P:List Int} {ts:List Nat} (h:WInv c P ts (fun k=>k=c.length)):WInv c P ts (fun _=>False):=h.done fun hl=>absurd hl (by omega)
theorem getD_set {P:List Int} {t:Nat} (v:Int) (ht:t < P.length) (k:Nat):(P.set t v).getD k 0=if k=t then v else P.getD k 0:=by
 rw [List.getD_eq_getElem?_getD,List.getElem?_set,List.getD_eq_getElem?_getD];by_cases e:t=k
 ·subst e;rw [if_pos rfl,if_pos rfl,if_pos ht];rfl
 ·rw [if_neg e,if_neg (fun h=>e h.symm)]
theorem WInv.push {c:znA} {P:List Int} {ts:List Nat} {ex:Nat->Prop} (h:WInv c P ts ex) {to:Nat} {d:Int} (hto:to<=c.length) (h0:P.getD to 0=0) (hr:ReachI c to d):WInv c (P.set to (d+1)) (ts++[to]) ex:=by
 have hlt:to < P.length:=by rw [h.len];omega
 have hd:=reach_bd hr;refine ⟨by rw [List.length_set];exact h.len,fun k hk=>?_,fun t ht=>?_,fun k hk hn=>?_,?_⟩
 ·rw [getD_set _ hlt] at hk ⊢;by_cases e:k=to
  ·subst e;rw [if_pos rfl];rw [show d+1 - 1=d by omega];exact hr
  ·rw [if_neg e] at hk ⊢;exact h.reach k hk
 ·rw [getD_set _ hlt];rcases List.mem_append.1 ht with ht | ht
  ·refine ⟨(h.todos t ht).1,?_⟩;split
   ·omega
   ·exact (h.todos t ht).2
  ·rw [List.mem_singleton] at ht;subst ht;exact ⟨hto,by rw [if_pos rfl];omega⟩
 ·have hnt:k ∉ ts:=fun e=>hn (by simp [e])
  have hkt:k≠to:=fun e=>hn (by simp [e])
  have hc:=h.closed k hk hnt;intro hkc hp;simp only at hp ⊢;rw [getD_set _ hlt,if_neg hkt] at hp ⊢;obtain ⟨a,b⟩:=hc hkc hp;refine ⟨a,fun x hx=>?_⟩;have hb:=b x hx;simp only at hb;rw [getD_set _ hlt];by_cases e:x=to
  ·subst e;rw [h0] at hb;have:=behind_pos a;simp only at this;omega
  ·rw [if_neg e];exact hb
 ·rw [getD_set _ hlt];by_cases e:0=to
  ·rw [<- e,h.zero] at h0;omega
  ·rw [if_neg e];exact h.zero
theorem zeros_set {P:List Int}:∀ {t:Nat} {v:Int},t < P.length->P.getD t 0=0->v≠0->(P.set t v).count 0+1=P.count 0:=by
 induction P with
 | nil=>intro t v ht;simp at ht
 | cons x P ih =>
  intro t v ht h0 hv
  cases t with
  | zero =>
   have hx:x=0:=h0;subst hx
   rw [zs2,List.count_cons_of_ne hv,List.count_cons_self]
  | succ t =>
   rw [zs3,List.count_cons,List.count_cons];have:=ih (t:=t) (v:=v) (by simpa using ht) (by simpa using h0) hv;omega
theorem WInv.result {c:znA} {P:List Int} (h:WInv c P [] (fun _=>False)):Flow c ↔ P.getD c.length 0<=1:=by
 have hD0:(fun j=>P.getD j 0 - 1) 0=0:=by simp only;rw [h.zero];rfl
 rw [flow_closed (D:=fun j=>P.getD j 0 - 1) hD0 (fun hp=>h.reach _ (by omega)) (fun k=>h.closed k id (by simp))];omega
theorem not_flow_fit {c:znA} {k:Nat} {d:Int} (hk:k < c.length) (hr:ReachI c k d) (h:¬ fitI c[k] d):¬ Flow c:=fun hf=>h (hf.fit k d hk hr)
theorem not_flow_one {c:znA} {k:Nat} {d e:Int} (h1:ReachI c k d) (h2:ReachI c k e) (h:d≠e):¬ Flow c:=fun hf=>h (hf.one k d e h1 h2)
def SegOk (c : znA) (f : Nat -> Int) : Prop := ∀ k (h : k < c.length), fitI c[k] (f k) /\ ∀ to ∈ nextsI k c[k], to <= c.length /\ f to = behindI c[k] (f k)
def Typed (c : znA) (D E : Int) : Prop := ∃ f : Nat -> Int, f 0 = D /\ f c.length = E /\ SegOk c f
theorem Typed.flow {c:znA} (h:Typed c 0 0):Flow c:=by
 obtain ⟨f,h0,h1,hs⟩:=h
 have key:∀ k d,ReachI c k d->f k=d/\k<=c.length:=by
  intro k d h
  induction h with
  | start=>exact ⟨h0,by omega⟩
  | step hk _ _ hn ih =>
   obtain ⟨a,b⟩:=(hs _ hk).2 _ hn;rw [ih.1] at b;exact ⟨b,a⟩
 refine ⟨fun k d hk h=>?_,fun k d e h1 h2=>?_,fun d h=>?_⟩
 ·have:=(hs k hk).1;rw [(key k d h).1] at this;exact this
 ·rw [<- (key k d h1).1,<- (key k e h2).1]
 ·have:=(key _ d h).1;omega
theorem takes_shift (m:Int) (i:InsS):takesI (znK m i)=takesI i:=by
 by_cases h:zn5 i=true
 ·rw [zoK h];unfold zn5 at h;rw [decide_eq_true_eq] at h;unfold takesI;simp only;rw [if_neg (by omega),if_neg (by omega),if_neg (show ¬ i.op=5 by omega),if_neg (show ¬ i.op=9 by omega)]
 ·rw [zqU (by simpa using h)]
theorem adds_shift (m:Int) (i:InsS):addsI (znK m i)=addsI i:=by unfold addsI;rw [zrU]
theorem behind_shift (m:Int) (i:InsS) (d:Int):behindI (znK m i) d=behindI i d:=by unfold behindI;rw [takes_shift,adds_shift]
theorem fit_shift (m:Int) (i:InsS) (d:Int):fitI (znK m i) d ↔ fitI i d:=by unfold fitI;rw [takes_shift,behind_shift]
theorem nexts_shift (m k:Nat) (i:InsS) (h:zn5 i=true->0<=i.a):nextsI (k+m) (znK m i)=(nextsI k i).map (· + m):=by
  by_cases hj:zn5 i=true
  · have ha:=h hj
    rw [zoK hj];unfold zn5 at hj;rw [decide_eq_true_eq] at hj;unfold nextsI;simp only;by_cases h11:i.op=11
    · rw [if_pos h11,if_pos h11];simp;omega
    · rw [if_neg h11,if_neg h11,if_pos (by omega),if_pos (by omega)];simp;omega
  · rw [zqU (by simpa using hj)]
    have h2:¬ (11<=i.op/\i.op<=13):=by unfold zn5 at hj;simpa using hj
    have h11:¬ i.op=11:=by omega
    have h12:¬ (i.op=12∨i.op=13):=by omega
    unfold nextsI;simp only [if_neg h11,if_neg h12];split
    · rfl
    · simp;omega
theorem Typed.nil (D:Int):Typed [] D D:=⟨fun _=>D,rfl,rfl,fun k h=>absurd h (by simp)⟩
theorem Typed.one {i:InsS} {D:Int} (h:fitI i D) (hn:nextsI 0 i=[1]):Typed [i] D (behindI i D):=by
 refine ⟨fun k=>if k=0 then D else behindI i D,rfl,rfl,fun k hk=>?_⟩;obtain rfl:k=0:=by simpa using hk
 refine ⟨h,fun to ht=>?_⟩;rw [show [i][0]=i from rfl,hn] at ht;simp at ht;subst ht;exact ⟨by simp,rfl⟩
theorem Typed.halt {i:InsS} {D E:Int} (h:fitI i D) (hn:nextsI 0 i=[]):Typed [i] D E:=by
 refine ⟨fun k=>if k=0 then D else E,rfl,rfl,fun k hk=>?_⟩;obtain rfl:k=0:=by simpa using hk
 refine ⟨h,fun to ht=>?_⟩;rw [show [i][0]=i from rfl,hn] at ht;simp at ht
theorem shiftC_get {m:Int} {c:znA} {k:Nat} (h:k < (znF m c).length):(znF m c)[k]=znK m (c[k]'(by rw [zn8] at h;exact h)):=by simp [znF]
theorem Typed.join {a b:znA} {D M E:Int} (ha:Typed a D M) (hb:Typed b M E) (jb:jOk b):Typed (znB a b) D E:=by
 obtain ⟨f,f0,f1,hf⟩:=ha;obtain ⟨g,g0,g1,hg⟩:=hb;refine ⟨fun k=>if k<=a.length then f k else g (k - a.length),?_,?_,fun k hk=>?_⟩
 ·simp [f0]
 ·simp only [znT];by_cases hb0:b.length=0
  ·rw [if_pos (by omega),hb0,Nat.add_zero,f1,<- g1,hb0,g0]
  ·rw [if_neg (by omega),Nat.add_sub_cancel_left,g1]
 ·rw [znT] at hk;by_cases hka:k < a.length
  ·have e:(znB a b)[k]'(by rw [znT];exact hk)=a[k]:=by unfold znB;rw [List.getElem_append_left hka]
   rw [e];dsimp only;rw [if_pos (by omega)];obtain ⟨p,q⟩:=hf k hka;refine ⟨p,fun to ht=>?_⟩;obtain ⟨q1,q2⟩:=q to ht;exact ⟨by rw [znT];omega,by rw [if_pos q1];exact q2⟩
  ·obtain ⟨j,rfl⟩:∃ j,k=j+a.length:=⟨k - a.length,by omega⟩;have hj:j < b.length:=by omega
   have e:(znB a b)[j+a.length]'(by rw [znT];exact hk)=znK a.length b[j]:=by
    unfold znB;rw [List.getElem_append_right (by omega),shiftC_get];congr 2
    omega
   have ev:∀ j',(if j'+a.length<=a.length then f (j'+a.length) else g (j'+a.length - a.length))=g j':=by
    intro j';by_cases h0:j'=0
    ·subst h0;rw [if_pos (by omega),Nat.zero_add,f1,g0]
    ·rw [if_neg (by omega),Nat.add_sub_cancel]
   rw [e];dsimp only;rw [ev];obtain ⟨p,q⟩:=hg j hj;refine ⟨(fit_shift _ _ _).2 p,fun to ht=>?_⟩;rw [nexts_shift _ _ _ (fun h=>(jb _ (List.getElem_mem hj) h).1)] at ht;obtain ⟨t,ht1,rfl⟩:=List.mem_map.1 ht;obtain ⟨q1,q2⟩:=q t ht1;exact ⟨by rw [znT];omega,by rw [ev,behind_shift];exact q2⟩
theorem typed_jump {i:InsS} {b r:znA} {D M N:Int} {fr:Nat->Int} {E:Int} (hi:fitI i D) (hbD:behindI i D=M) (hb:Typed b M N) (jb:jOk b)
  (hn:∀ to ∈ nextsI 0 i,to=1∨(b.length+1<=to/\to<=b.length+1+r.length/\fr (to - (b.length+1))=M)) (h0:fr 0=N) (hE:fr r.length=E)
  (hr:∀ k (h:k < r.length),fitI r[k] (fr k)/\∀ to ∈ nextsI (k+(b.length+1)) r[k],(to=0/\D=behindI r[k] (fr k))∨(b.length+1<=to/\to<=b.length+1+r.length/\fr (to - (b.length+1))=behindI r[k] (fr k))) :
  Typed (i :: (znF 1 b++r)) D E:=by
 obtain ⟨g,g0,g1,hg⟩:=hb;have hlen:(i :: (znF 1 b++r)).length=b.length+1+r.length:=by simp [zn8];omega
 refine ⟨fun k=>if k=0 then D else if k<=b.length then g (k - 1) else fr (k - (b.length+1)),rfl,?_,fun k hk=>?_⟩
 ·rw [hlen];dsimp only;rw [if_neg (by omega),if_neg (by omega),Nat.add_sub_cancel_left,hE]
 ·have hat:∀ j,b.length+1<=j->(if j=0 then D else if j<=b.length then g (j - 1) else fr (j - (b.length+1)))=fr (j - (b.length+1)):=fun j hj=>by rw [if_neg (by omega),if_neg (by omega)]
  have hag:∀ j,j<=b.length->(if j+1=0 then D else if j+1<=b.length then g (j+1 - 1) else fr (j+1 - (b.length+1)))=g j:=fun j hj=>by
   rw [if_neg (by omega)];by_cases h1:j+1<=b.length
   ·rw [if_pos h1,Nat.add_sub_cancel]
   ·rw [if_neg h1,show j+1 - (b.length+1)=0 from by omega,h0,<- g1];congr 1;omega
  cases k with
  | zero =>
   refine ⟨hi,fun to ht=>?_⟩;rcases hn to ht with rfl | ⟨a1,a2,a3⟩
   ·refine ⟨by rw [hlen];omega,?_⟩;have:=hag 0 (by omega);simp only at this ⊢;rw [this,g0];exact hbD.symm
   ·refine ⟨by rw [hlen];omega,?_⟩;simp only
    rw [hat to a1,a3];exact hbD.symm
  | succ j =>
   by_cases hj:j < b.length
   ·have e:(i :: (znF 1 b++r))[j+1]'hk=znK (1:Nat) b[j]:=by
     rw [List.getElem_cons_succ,List.getElem_append_left (by rw [zn8];exact hj),shiftC_get];rfl
    simp only;rw [e,hag j (by omega)];obtain ⟨p,q⟩:=hg j hj;refine ⟨(fit_shift _ _ _).2 p,fun to ht=>?_⟩;rw [nexts_shift _ _ _ (fun h=>(jb _ (List.getElem_mem hj) h).1)] at ht;obtain ⟨t,ht1,rfl⟩:=List.mem_map.1 ht;obtain ⟨q1,q2⟩:=q t ht1;exact ⟨by rw [hlen];omega,by rw [hag t q1,behind_shift];exact q2⟩
   ·obtain ⟨m,rfl⟩:∃ m,j=m+b.length:=⟨j - b.length,by omega⟩;have hm:m < r.length:=by rw [hlen] at hk;omega
    have e:(i :: (znF 1 b++r))[m+b.length+1]'hk=r[m]:=by
     rw [List.getElem_cons_succ,List.getElem_append_right (by rw [zn8];omega)];congr 1
     rw [zn8];omega
    simp only;rw [e,hat _ (by omega),show m+b.length+1 - (b.length+1)=m from by omega];obtain ⟨p,q⟩:=hr m hm;refine ⟨p,fun to ht=>?_⟩;rw [show m+b.length+1=m+(b.length+1) from by omega] at ht;rcases q to ht with ⟨rfl,a2⟩ | ⟨a1,a2,a3⟩
    ·exact ⟨by omega,a2⟩
    ·exact ⟨by rw [hlen];exact a2,by rw [hat to a1];exact a3⟩
theorem fit_of {i:InsS} {D t a:Int} (ht:takesI i=t) (ha:addsI i=a) (h1:t<=D) (h2:D - t+a<=64):fitI i D:=by
 unfold fitI behindI;rw [ht,ha];exact ⟨h1,h2⟩
theorem Typed.plain {i:InsS} {D E t a:Int} (ht:takesI i=t) (ha:addsI i=a) (hn:nextsI 0 i=[1]) (h1:t<=D) (h2:D - t+a<=64) (hE:E=D - t+a):Typed [i] D E:=by
 have h:=Typed.one (fit_of ht ha h1 h2) hn;unfold behindI at h;rw [ht,ha] at h;rw [hE];exact h
theorem typed_lazy {a b:znA} {op D:Int} (hop:op=21∨op=22) (hD:0<=D) (hD2:D+1<=64) (ha:Typed a D (D+1)) (hb:Typed b D (D+1)) (jb:jOk b):Typed (zo0 a b op) D (D+1):=by
 unfold zo0;have hj:zn5 ⟨12+op - 21,(b.length:Int)+3⟩=true:=by unfold zn5;rw [decide_eq_true_eq];show 11<=12+op - 21/\12+op - 21<=13;omega
 have ht:takesI ⟨12+op - 21,(b.length:Int)+3⟩=1:=by
  rcases hop with rfl | rfl <;> rfl
 have hadd:addsI ⟨12+op - 21,(b.length:Int)+3⟩=0:=by
  rcases hop with rfl | rfl <;> rfl
 have hnx:nextsI 0 ⟨12+op - 21,(b.length:Int)+3⟩=[1,b.length+3]:=by
  have h1:((b.length:Int)+3).toNat=b.length+3:=by omega
  rcases hop with rfl | rfl
  ·show [0+1,((b.length:Int)+3).toNat]=_;rw [h1]
  ·show [0+1,((b.length:Int)+3).toNat]=_;rw [h1]
 refine ha.join ?_ ?_
 ·refine typed_jump (i:=⟨12+op - 21,(b.length:Int)+3⟩) (r:=[⟨10,0⟩,⟨11,(b.length:Int)+4⟩,⟨1,op - 21⟩]) (D:=D+1) (M:=D) (N:=D+1) (fr:=fun k=>if k=2 then D else D+1) (E:=D+1) (fit_of ht hadd (by omega) (by omega)) (by unfold behindI;rw [ht,hadd];omega) hb jb ?_ rfl rfl ?_
  ·intro to h;rw [hnx] at h;simp at h;rcases h with rfl | rfl
   ·exact .inl rfl
   ·refine .inr ⟨by omega,by simp <;> omega,?_⟩;rw [show b.length+3 - (b.length+1)=2 from by omega];rfl
  ·intro k hk;have hk3:k=0∨k=1∨k=2:=by simp at hk;omega
   rcases hk3 with rfl | rfl | rfl
   ·refine ⟨fit_of (t:=1) (a:=1) rfl rfl (by show 1<=D+1;omega) (by show D+1 - 1+1<=64;omega),fun to h=>.inr ?_⟩;have h':to ∈ [0+(b.length+1)+1]:=h;simp at h';subst h';refine ⟨by omega,by simp <;> omega,?_⟩;rw [show b.length+1+1 - (b.length+1)=1 from by omega];show D+1=D+1 - 1+1;omega
   ·refine ⟨fit_of (t:=0) (a:=0) rfl rfl (by show 0<=D+1;omega) (by show D+1 - 0+0<=64;omega),fun to h=>.inr ?_⟩;have h':to ∈ [((b.length:Int)+4).toNat]:=h;rw [show ((b.length:Int)+4).toNat=b.length+4 from by omega] at h';simp at h';subst h';refine ⟨by omega,by simp <;> omega,?_⟩;rw [show b.length+4 - (b.length+1)=3 from by omega];show D+1=D+1 - 0+0;omega
   ·refine ⟨fit_of (t:=0) (a:=1) rfl rfl (by show 0<=D;omega) (by show D - 0+1<=64;omega),fun to h=>.inr ?_⟩;have h':to ∈ [2+(b.length+1)+1]:=h;simp at h';subst h';refine ⟨by omega,by simp <;> omega,?_⟩;rw [show 2+(b.length+1)+1 - (b.length+1)=3 from by omega];show D+1=D - 0+1;omega
 ·intro i hi hji;simp only [List.length_cons,List.length_append,zn8,List.length_nil];rcases List.mem_cons.1 hi with rfl | hi
  ·show 0<=(b.length:Int)+3/\(b.length:Int)+3<=_;omega
  ·rcases List.mem_append.1 hi with hi | hi
   ·exact zqh (k:=1) jb (by omega) i hi hji
   ·simp only [List.mem_cons,List.not_mem_nil,or_false] at hi;rcases hi with rfl | rfl | rfl
    ·cases hji
    ·show 0<=(b.length:Int)+4/\(b.length:Int)+4<=_;omega
    ·cases hji
theorem typed_over {b r:znA} {n:Int} {fr:Nat->Int} {E:Int} (hb:Typed b 0 0) (jb:jOk b) (hn:n=(b.length+1+r.length:Nat)) (h0:fr 0=0) (hE:fr r.length=E) (hE0:E=0)
  (hr:∀ k (h:k < r.length),fitI r[k] (fr k)/\∀ to ∈ nextsI (k+(b.length+1)) r[k],b.length+1<=to/\to<=b.length+1+r.length/\fr (to - (b.length+1))=behindI r[k] (fr k)) :
  Typed (⟨12,n⟩ :: (znF 1 b++r)) 1 0:=by
 subst hn hE0;refine typed_jump (i:=⟨12,_⟩) (D:=1) (M:=0) (N:=0) (fr:=fr) (E:=0) (fit_of (t:=1) (a:=0) rfl rfl (by omega) (by omega)) rfl hb jb ?_ h0 hE (fun k hk=>⟨(hr k hk).1,fun to ht=>.inr ((hr k hk).2 to ht)⟩);intro to ht;have h':to ∈ [0+1,(((b.length+1+r.length:Nat):Int)).toNat]:=ht;rw [Int.toNat_natCast] at h';simp at h';rcases h' with rfl | rfl
 ·exact .inl rfl
 ·refine .inr ⟨by omega,by omega,?_⟩;rw [Nat.add_sub_cancel_left];exact hE
theorem joinC_shift (o:znA) (i:InsS) (b r:znA) (h:zn5 i=true):znB o (i :: (znF 1 b++r))=o++(⟨i.op,i.a+o.length⟩ :: (znF (o.length+1) b++znF o.length r)):=by
 unfold znB;congr 1
 show znK _ i :: List.map _ _=_;rw [zoK h];congr 1
 show znF o.length (znF 1 b++r)=_;rw [zpp,zpj _ _ (o.length+1) (by omega)]
theorem typed_if {o b:znA} (ho:Typed o 0 1) (hb:Typed b 0 0) (jb:jOk b):Typed (ifC o b [] false) 0 0:=by
 have e:ifC o b [] false=znB o (⟨12,b.length+1⟩ :: (znF 1 b++[])):=by
  unfold ifC;rw [if_neg (by decide),zo1,joinC_shift _ _ _ _ rfl];congr 2
  ·congr 1;dsimp only;omega
  ·simp [znF]
 rw [e];refine ho.join (typed_over (r:=[]) (fr:=fun _=>0) hb jb (by simp) rfl rfl rfl (fun k hk=>absurd hk (by simp))) ?_;intro i hi hji;rw [List.append_nil] at hi;simp only [List.length_cons,List.length_append,zn8,List.length_nil];rcases List.mem_cons.1 hi with rfl | hi
 ·show 0<=(b.length:Int)+1/\(b.length:Int)+1<=_;omega
 ·exact zqh (k:=1) jb (by omega) i hi hji
theorem typed_else {o b e:znA} (ho:Typed o 0 1) (hb:Typed b 0 0) (jb:jOk b) (he:Typed e 0 0) (je:jOk e):Typed (ifC o b e true) 0 0:=by
 have eq:ifC o b e true=znB o (⟨12,b.length+2⟩ :: (znF 1 b++(⟨11,b.length+2+e.length⟩ :: znF (b.length+2) e))):=by
  unfold ifC;rw [if_pos rfl,joinC_shift _ _ _ _ rfl]
  conv=>lhs;rw [znB]
  have hl:((o++((⟨12,(o.length:Int)+1+b.length+1⟩:InsS) :: (znF (o.length+1) b++[(⟨11,(o.length:Int)+1+b.length+1+e.length⟩:InsS)]))).length:Int)=o.length+b.length+2:=by simp [zn8];omega
  rw [hl,List.append_assoc,List.cons_append,List.append_assoc];congr 2
  ·congr 1;dsimp only;omega
  ·congr 1
   show (⟨11,_⟩:InsS) :: znF _ e=znK _ (⟨11,_⟩:InsS) :: znF o.length (znF (b.length+2) e);rw [zoK rfl,zpj (b.length+2) o.length (o.length+b.length+2) (by omega)];congr 2
   dsimp only;omega
 rw [eq];obtain ⟨g,g0,g1,hg⟩:=he;refine ho.join (typed_jump (i:=⟨12,b.length+2⟩) (r:=⟨11,b.length+2+e.length⟩ :: znF (b.length+2) e) (D:=1) (M:=0) (N:=0) (fr:=fun k=>if k=0 then 0 else g (k - 1)) (E:=0) (fit_of (t:=1) (a:=0) rfl rfl (by omega) (by omega)) rfl hb jb ?_ rfl ?_ ?_) ?_
 ·intro to ht;have h':to ∈ [0+1,((b.length:Int)+2).toNat]:=ht;rw [show ((b.length:Int)+2).toNat=b.length+2 from by omega] at h';simp at h';rcases h' with rfl | rfl
  ·exact .inl rfl
  ·refine .inr ⟨by omega,by simp [zn8] <;> omega,?_⟩;rw [show b.length+2 - (b.length+1)=1 from by omega];exact g0
 ·show (if (znF (b.length+2) e).length+1=0 then (0:Int) else g ((znF (b.length+2) e).length+1 - 1))=0;rw [if_neg (by omega),Nat.add_sub_cancel,zn8,g1]
 ·intro k hk
  cases k with
  | zero =>
   refine ⟨fit_of (t:=0) (a:=0) rfl rfl (by show (0:Int)<=0;omega) (by show (0:Int) - 0+0<=64;omega),fun to ht=>.inr ?_⟩;have h':to ∈ [((b.length:Int)+2+e.length).toNat]:=ht;rw [show ((b.length:Int)+2+e.length).toNat=b.length+2+e.length from by omega] at h';simp at h';subst h';refine ⟨by omega,by simp [zn8];omega,?_⟩;rw [if_neg (by omega),show b.length+2+e.length - (b.length+1) - 1=e.length from by omega,g1]
   rfl
  | succ j =>
   have hj:j < e.length:=by simpa [zn8] using hk
   have e1:((⟨11,b.length+2+e.length⟩:InsS) :: znF (b.length+2) e)[j+1]'hk=znK ((b.length+2:Nat):Int) e[j]:=by
    rw [List.getElem_cons_succ,shiftC_get];rfl
   rw [e1,if_neg (by omega),Nat.add_sub_cancel];obtain ⟨p,q⟩:=hg j hj;refine ⟨(fit_shift _ _ _).2 p,fun to ht=>.inr ?_⟩;rw [show j+1+(b.length+1)=j+(b.length+2) from by omega,nexts_shift _ _ _ (fun h=>(je _ (List.getElem_mem hj) h).1)] at ht;obtain ⟨t,ht1,rfl⟩:=List.mem_map.1 ht;obtain ⟨q1,q2⟩:=q t ht1;refine ⟨by omega,by simp [zn8];omega,?_⟩;rw [if_neg (by omega),show t+(b.length+2) - (b.length+1) - 1=t from by omega,behind_shift];exact q2
 ·intro i hi hji;simp only [List.length_cons,List.length_append,zn8];rcases List.mem_cons.1 hi with rfl | hi
  ·show 0<=(b.length:Int)+2/\(b.length:Int)+2<=_;omega
  ·rcases List.mem_append.1 hi with hi | hi
   ·exact zqh (k:=1) jb (by omega) i hi hji
   ·rcases List.mem_cons.1 hi with rfl | hi
    ·show 0<=(b.length:Int)+2+e.length/\(b.length:Int)+2+e.length<=_;omega
    ·exact zqh (k:=b.length+2) je (by omega) i hi hji
theorem typed_while {o b:znA} (ho:Typed o 0 1) (hb:Typed b 0 0) (jb:jOk b):Typed (zpC o b) 0 0:=by
 obtain ⟨f,f0,f1,hf⟩:=ho;obtain ⟨g,g0,g1,hg⟩:=hb;have hlen:=whileC_len o b;unfold zpC at hlen ⊢;refine ⟨fun k=>if k<=o.length then f k else if k<=o.length+1+b.length then g (k - (o.length+1)) else 0,by simp [f0],?_,fun k hk=>?_⟩
 ·rw [hlen];dsimp only;rw [if_neg (by omega),if_neg (by omega)]
 ·have hat:∀ t,t<=b.length->(if t+(o.length+1)<=o.length then f (t+(o.length+1)) else if t+(o.length+1)<=o.length+1+b.length then g (t+(o.length+1) - (o.length+1)) else 0)=g t:=fun t ht=>by
   rw [if_neg (by omega),if_pos (by omega),Nat.add_sub_cancel]
  by_cases h1:k < o.length
  ·have e:(o++(⟨12,(o.length:Int)+1+b.length+1⟩ :: (znF (o.length+1) b++[⟨11,0⟩])))[k]'hk=o[k]:=by rw [List.getElem_append_left h1]
   rw [e];dsimp only;rw [if_pos (by omega)];obtain ⟨p,q⟩:=hf k h1;refine ⟨p,fun to ht=>?_⟩;obtain ⟨q1,q2⟩:=q to ht;exact ⟨by omega,by rw [if_pos q1];exact q2⟩
  ·by_cases h2:k=o.length
   ·subst h2;have e:(o++(⟨12,(o.length:Int)+1+b.length+1⟩ :: (znF (o.length+1) b++[⟨11,0⟩])))[o.length]'hk=⟨12,(o.length:Int)+1+b.length+1⟩:=by rw [List.getElem_append_right (by omega)];simp
    rw [e];dsimp only;rw [if_pos (by omega),f1];refine ⟨fit_of (t:=1) (a:=0) rfl rfl (by omega) (by omega),fun to ht=>?_⟩;have h':to ∈ [o.length+1,((o.length:Int)+1+b.length+1).toNat]:=ht;rw [show ((o.length:Int)+1+b.length+1).toNat=o.length+1+b.length+1 from by omega] at h';simp at h';rcases h' with rfl | rfl
    ·refine ⟨by omega,?_⟩;have:=hat 0 (by omega);rw [Nat.zero_add] at this;rw [this,g0];rfl
    ·refine ⟨by omega,?_⟩;rw [if_neg (by omega),if_neg (by omega)];rfl
   ·obtain ⟨j,rfl⟩:∃ j,k=j+(o.length+1):=⟨k - (o.length+1),by omega⟩;by_cases h3:j < b.length
    ·have e:(o++(⟨12,(o.length:Int)+1+b.length+1⟩ :: (znF (o.length+1) b++[⟨11,0⟩])))[j+(o.length+1)]'hk=znK ((o.length+1:Nat):Int) b[j]:=by
      rw [List.getElem_append_right (by omega)];simp only [show j+(o.length+1) - o.length=j+1 from by omega];rw [List.getElem_cons_succ,List.getElem_append_left (by rw [zn8];exact h3),shiftC_get];rfl
     rw [e];dsimp only;rw [hat j (by omega)];obtain ⟨p,q⟩:=hg j h3;refine ⟨(fit_shift _ _ _).2 p,fun to ht=>?_⟩;rw [nexts_shift _ _ _ (fun h=>(jb _ (List.getElem_mem h3) h).1)] at ht;obtain ⟨t,ht1,rfl⟩:=List.mem_map.1 ht;obtain ⟨q1,q2⟩:=q t ht1;exact ⟨by omega,by rw [hat t q1,behind_shift];exact q2⟩
    ·obtain rfl:j=b.length:=by omega
     have e:(o++(⟨12,(o.length:Int)+1+b.length+1⟩ :: (znF (o.length+1) b++[⟨11,0⟩])))[b.length+(o.length+1)]'hk=⟨11,0⟩:=by
      rw [List.getElem_append_right (by omega)];simp only [show b.length+(o.length+1) - o.length=b.length+1 from by omega];rw [List.getElem_cons_succ,List.getElem_append_right (by rw [zn8];omega)];simp [zn8]
     rw [e];dsimp only;rw [hat b.length (by omega),g1];refine ⟨fit_of (t:=0) (a:=0) rfl rfl (by omega) (by omega),fun to ht=>?_⟩;have h':to ∈ [0]:=ht;simp at h';subst h';exact ⟨by omega,by rw [if_pos (by omega),f0];rfl⟩
theorem Typed.last {c:znA} {D M E:Int} (h:Typed c D M) {i:InsS} {t a:Int} (ht:takesI i=t) (ha:addsI i=a) (hn:nextsI 0 i=[1]) (h1:t<=M) (h2:M - t+a<=64) (hE:E=M - t+a) (hj:zn5 i=false):Typed (znB c [i]) D E:=
 h.join (Typed.plain ht ha hn h1 h2 hE) (zo3 hj)
theorem do_takes (op:Int):takesI ⟨9,op⟩=if 10<=op then 2 else 1:=rfl
theorem typedEs (d:Nat) (ns:znU) (ih:∀ (x:Ex) (c:znA),zbd d x=true->znV ns x=.ok c->∀ D:Int,0<=D->D+d<=64->Typed c D (D+1)) :
  ∀ (xs:List Ex) (cs:List znA),(∀ x ∈ xs,zbd d x=true)->znG ns xs=.ok cs->∀ D:Int,0<=D->D+d+xs.length<=65->Typed (znJ cs) D (D+xs.length):=by
 intro xs
 induction xs with
 | nil =>
  intro cs _ h D _ _;rw [znG] at h;cases h;simp only [List.length_nil,Int.natCast_zero,Int.add_zero]
  exact Typed.nil D
 | cons x r ihr =>
  intro cs hf h D hD hd;rw [znG] at h;obtain ⟨c,h1,h2⟩:=CR.andThen_ok h;obtain ⟨cs',h3,h4⟩:=CR.andThen_ok h2;cases h4;rw [zqT];simp only [List.length_cons] at hd ⊢;have a:=ih x c (hf x (by simp)) h1 D hD (by omega);have b:=ihr cs' (fun y hy=>hf y (by simp [hy])) h3 (D+1) (by omega) (by omega);rw [show D+((r.length+1:Nat):Int)=D+1+r.length from by omega];exact a.join b (joinAll_ok (zpA ns r cs' h3).1).1
theorem typedE:∀ (d:Nat) (ns:znU) (x:Ex) (c:znA),zbd d x=true->znV ns x=.ok c->∀ D:Int,0<=D->D+d<=64->Typed c D (D+1):=by
 intro d
 induction d with
 | zero=>intro ns x c h;cases h
 | succ d ih =>
  intro ns x c h hc D hD hd;obtain ⟨op,n,name,args⟩:=x;rw [zbd,Bool.and_eq_true,List.all_eq_true] at h;obtain ⟨hh,hall⟩:=h
  have hl:args.length=zb9 op/\1<=op/\op<=24:=by
   unfold zbN at hh;rw [Bool.and_eq_true,Bool.and_eq_true,decide_eq_true_eq,decide_eq_true_eq] at hh;exact ⟨hh.2.1,hh.1⟩
  by_cases h1:op=1
  ·subst h1;rw [znV,if_pos rfl] at hc;cases hc;exact Typed.plain (t:=0) (a:=1) rfl rfl rfl (by omega) (by omega) (by omega)
  by_cases h2:op=2
  ·subst h2;rw [znV,if_neg h1,if_pos rfl] at hc;split at hc
   ·cases hc
   ·cases hc;exact Typed.plain (t:=0) (a:=1) rfl rfl rfl (by omega) (by omega) (by omega)
  by_cases h4:op=4
  ·subst h4;rw [znV,if_neg h1,if_neg h2,if_pos rfl] at hc;cases hc;exact Typed.plain (t:=0) (a:=1) rfl rfl rfl (by omega) (by omega) (by omega)
  by_cases h5:op=5
  ·subst h5;rw [znV,if_neg h1,if_neg h2,if_neg h4,if_pos rfl] at hc;cases hc;exact Typed.plain (t:=0) (a:=1) rfl rfl rfl (by omega) (by omega) (by omega)
  by_cases h21:op=21∨op=22
  ·have hm:zb9 op=2:=by unfold zb9;rw [if_neg (by omega)]
   match args,hl.1,hall,hc with
   | [a,b],_,hall,hc =>
    rw [zsh _ _ _ _ _ _ h21] at hc;obtain ⟨ca,e1,h3⟩:=CR.andThen_ok hc;obtain ⟨cb,e2,h6⟩:=CR.andThen_ok h3;cases h6
    exact typed_lazy h21 hD (by omega) (ih ns a ca (hall a (by simp)) e1 D hD (by omega)) (ih ns b cb (hall b (by simp)) e2 D hD (by omega)) (zsA ns b cb e2).1
   | [],e,_,_=>rw [hm] at e;cases e
   | [_],e,_,_=>rw [hm] at e;cases e
   | _ :: _ :: _ :: _,e,_,_=>rw [hm] at e;simp at e
  have hmany:args.length=1/\op < 10∨(args.length=2/\10<=op/\op≠21/\op≠22/\op≠3/\op≠6):=by
   rw [hl.1];unfold zb9;by_cases h10:op < 10
   ·rw [if_pos h10,if_neg (by omega)];exact .inl ⟨rfl,h10⟩
   ·rw [if_neg h10];exact .inr ⟨rfl,by omega⟩
  rw [zsi ns op n name args ⟨h1,h2,h4,h5⟩ (by omega)] at hc;obtain ⟨cs,e1,h3⟩:=CR.andThen_ok hc;cases h3;have hs:=typedEs d ns (ih ns) args cs hall e1 D hD (by omega);rcases hmany with ⟨hm,h10⟩ | ⟨hm,h10,-,-,h3,h6⟩
  ·rw [hm] at hs;by_cases h3:op=3
   ·rw [if_pos h3];exact hs.last (t:=1) (a:=1) rfl rfl rfl (by omega) (by omega) (by omega) rfl
   ·rw [if_neg h3];by_cases h6:op=6
    ·rw [if_pos h6];exact hs.last (t:=1) (a:=1) rfl rfl rfl (by omega) (by omega) (by omega) rfl
    ·rw [if_neg h6];exact hs.last (t:=1) (a:=1) (by rw [do_takes,if_neg (by omega)]) rfl rfl (by omega) (by omega) (by omega) rfl
  ·rw [hm] at hs;rw [if_neg h3,if_neg h6];exact hs.last (t:=2) (a:=1) (by rw [do_takes,if_pos h10]) rfl rfl (by omega) (by omega) (by omega) rfl
theorem typedT (d:Nat) (ih:∀ (ns:znU) (l:List St) (r:znA × Nat),zaJ d l=true->znQ ns l=.ok r->Typed r.1 0 0) (ns:znU) (op n:Int) (name:List UInt8) (es:List Ex) (body els:List St) (r:znA × Nat) (h:zh2 d (.mk op n name es body els)=true) (hc:zon ns (.mk op n name es body els)=.ok r):Typed r.1 0 0:=by
 unfold zh2 at h;simp only [Bool.and_eq_true] at h;obtain ⟨⟨hb,hl⟩,hh,hes⟩:=h;obtain ⟨hop,hle,hlb,hll⟩:=zpT hh;rw [zon] at hc;obtain ⟨cs,e1,h2⟩:=CR.andThen_ok hc
 have hs:es.length<=2->Typed (znJ cs) 0 es.length:=fun hl2=>by
  have:=typedEs 40 ns (typedE 40 ns) es cs (List.all_eq_true.1 hes) e1 0 (by omega) (by omega);rw [Int.zero_add] at this;exact this
 have h7:op=1∨op=2∨op=3∨op=4∨op=5∨op=6∨op=7:=by omega
 rcases h7 with rfl | rfl | rfl | rfl | rfl | rfl | rfl
 ·have hs1:=hs (by rw [hle];decide);rw [hle] at hs1;rw [if_pos rfl] at h2;split at h2
  ·cases h2
  ·split at h2
   ·cases h2
   ·cases h2;exact Typed.last hs1 (t:=1) (a:=0) rfl rfl rfl (by decide) (by decide) (by decide) rfl
 ·have hs1:=hs (by rw [hle];decide);rw [hle] at hs1;rw [if_neg (by decide),if_pos rfl] at h2;split at h2
  ·cases h2
  ·cases h2;exact Typed.last hs1 (t:=1) (a:=0) rfl rfl rfl (by decide) (by decide) (by decide) rfl
 ·have hs1:=hs (by rw [hle];decide);rw [hle] at hs1;rw [if_neg (by decide),if_neg (by decide),if_pos rfl] at h2;cases h2;exact Typed.last hs1 (t:=2) (a:=0) rfl rfl rfl (by decide) (by decide) (by decide) rfl
 ·have hs1:=hs (by rw [hle];decide);rw [hle] at hs1;rw [if_neg (by decide),if_neg (by decide),if_neg (by decide),if_neg (by decide),if_neg (by decide)] at h2;obtain ⟨b,e2,h3⟩:=CR.andThen_ok h2;rw [if_neg (by decide)] at h3;obtain ⟨o,e3,h4⟩:=CR.andThen_ok h3;cases h4;have tb:=ih ns body b hb e2;have jb:=(codeL_ok ns body b e2).1;by_cases hel:els=[]
  ·have ho:o.1=[]:=by rw [hel,znQ] at e3;cases e3;rfl
   show Typed (ifC (znJ cs) b.1 o.1 (decide (els≠[]))) 0 0;rw [ho,show decide (els≠[])=false from by simp [hel]];exact typed_if hs1 tb jb
  ·show Typed (ifC (znJ cs) b.1 o.1 (decide (els≠[]))) 0 0;rw [decide_eq_true hel];exact typed_else hs1 tb jb (ih ns els o hl e3) (codeL_ok ns els o e3).1
 ·have hs1:=hs (by rw [hle];decide);rw [hle] at hs1;rw [if_neg (by decide),if_neg (by decide),if_neg (by decide),if_neg (by decide),if_neg (by decide)] at h2;obtain ⟨b,e2,h3⟩:=CR.andThen_ok h2;rw [if_pos rfl] at h3;cases h3;exact typed_while hs1 (ih ns body b hb e2) (codeL_ok ns body b e2).1
 ·rw [if_neg (by decide),if_neg (by decide),if_neg (by decide),if_pos rfl] at h2;cases h2;exact Typed.halt (fit_of (t:=0) (a:=0) rfl rfl (by decide) (by decide)) rfl
 ·rw [if_neg (by decide),if_neg (by decide),if_neg (by decide),if_neg (by decide),if_pos rfl] at h2;cases h2;exact Typed.halt (fit_of (t:=0) (a:=0) rfl rfl (by decide) (by decide)) rfl
theorem typedL:∀ (d:Nat) (ns:znU) (l:List St) (r:znA × Nat),zaJ d l=true->znQ ns l=.ok r->Typed r.1 0 0:=by
 intro d
 induction d with
 | zero =>
  intro ns l r h hc
  have:l=[]:=by
   cases l with
   | nil=>rfl
   | cons x r=>cases h
  subst this;rw [znQ] at hc;cases hc
  exact Typed.nil 0
 | succ d ih =>
  intro ns l
  induction l generalizing ns with
  | nil=>intro r _ hc;rw [znQ] at hc;cases hc;exact Typed.nil 0
  | cons x l ihl =>
   intro r h hc;rw [zfn,List.all_cons,Bool.and_eq_true] at h;obtain ⟨op,n,name,es,body,els⟩:=x;rw [znQ] at hc;obtain ⟨c,e1,h2⟩:=CR.andThen_ok hc;obtain ⟨c',e2,h4⟩:=CR.andThen_ok h2;cases h4;exact (typedT d ih ns op n name es body els c h.1 e1).join (ihl _ c' (by rw [zfn];exact h.2) e2) (codeL_ok _ _ _ e2).1
def RightC (c : znA) (L : Int) : Prop := ∀ i ∈ c, zn5 i = false -> ∀ n, rightI n L i
theorem RightC.app {a b:znA} {L:Int} (ha:RightC a L) (hb:RightC b L):RightC (a++b) L:=fun i hi=>by
 rcases List.mem_append.1 hi with h | h
 ·exact ha i h
 ·exact hb i h
theorem RightC.shift {c:znA} {L:Int} (h:RightC c L) (m:Int):RightC (znF m c) L:=by
 intro i hi hj;unfold znF at hi;obtain ⟨x,hx,rfl⟩:=List.mem_map.1 hi;rw [zpO] at hj;rw [zqU hj];exact h x hx hj
theorem RightC.join {a b:znA} {L:Int} (ha:RightC a L) (hb:RightC b L):RightC (znB a b) L:=ha.app (hb.shift _)
theorem RightC.one {i:InsS} {L:Int} (h:zn5 i=false->∀ n,rightI n L i):RightC [i] L:=fun x hx hj=>by
 rw [List.mem_singleton] at hx;subst hx;exact h hj
theorem RightC.cons {i:InsS} {c:znA} {L:Int} (h:zn5 i=false->∀ n,rightI n L i) (hc:RightC c L):RightC (i :: c) L:=(RightC.one h).app hc
theorem RightC.nil (L:Int):RightC [] L:=fun i hi=>by simp at hi
theorem RightC.lazy {a b:znA} {op L:Int} (hop:op=21∨op=22) (ha:RightC a L) (hb:RightC b L):RightC (zo0 a b op) L:=by
 unfold zo0;refine ha.join (RightC.cons (fun hj=>?_) ((hb.shift 1).app (RightC.cons (fun _ n=>?_) (RightC.cons (fun hj=>by cases hj) (RightC.one fun _ n=>?_)))))
 ·rcases hop with rfl | rfl <;> cases hj
 ·exact ⟨by simp,rfl⟩
 ·exact trivial
theorem RightC.while {o b:znA} {L:Int} (ho:RightC o L) (hb:RightC b L):RightC (zpC o b) L:=
 ho.app (RightC.cons (fun hj=>by cases hj) ((hb.shift _).app (RightC.one fun hj=>by cases hj)))
theorem RightC.if {o b e:znA} {el:Bool} {L:Int} (ho:RightC o L) (hb:RightC b L) (he:RightC e L):RightC (ifC o b e el) L:=by
 unfold ifC;split
 ·exact (ho.app (RightC.cons (fun hj=>by cases hj) ((hb.shift _).app (RightC.one fun hj=>by cases hj)))).join he
 ·exact (ho.app (RightC.cons (fun hj=>by cases hj) (hb.shift _))).join he
theorem RightC.all {cs:List znA} {L:Int} (h:∀ c ∈ cs,RightC c L):RightC (znJ cs) L:=by
 induction cs with
 | nil=>exact RightC.nil L
 | cons c r ih=>rw [zqT];exact (h c (by simp)).join (ih fun x hx=>h x (by simp [hx]))
theorem place_len (s:List UInt8):∀ (l:znU) (k:Nat),zai s l k<=k+l.length:=by
 intro l
 induction l with
 | nil=>intro k;simp [zai]
 | cons x l ih =>
  intro k;unfold zai;split
  ·simp
  ·have:=ih (k+1);simp only [List.length_cons];omega
theorem right_slot {op:Int} (hop:op=2∨op=3) {a L:Int} (h0:0<=a) (h1:a < L) (n:Int):rightI n L ⟨op,a⟩:=by
 unfold rightI;rw [if_neg (by show ¬ op=1;omega),if_pos hop];exact ⟨h0,h1⟩
theorem right_comp {op:Int} (hop:op=4∨op=5) {a L:Int} (h:1<=a/\a<=10) (n:Int):rightI n L ⟨op,a⟩:=by
 unfold rightI;rw [if_neg (by show ¬ op=1;omega),if_neg (by show ¬ (op=2∨op=3);omega),if_pos hop];exact h
theorem rightEs (L:Int) (ns:znU) (p:Ex->Bool) (ih:∀ (x:Ex) (c:znA),p x=true->znV ns x=.ok c->RightC c L):∀ (xs:List Ex) (cs:List znA),(∀ x ∈ xs,p x=true)->znG ns xs=.ok cs->∀ c ∈ cs,RightC c L:=by
 intro xs
 induction xs with
 | nil=>intro cs _ h;rw [znG] at h;cases h;simp
 | cons x r ihr =>
  intro cs hf h;rw [znG] at h;obtain ⟨c,h1,h2⟩:=CR.andThen_ok h;obtain ⟨cs',h3,h4⟩:=CR.andThen_ok h2;cases h4;intro y hy;rcases List.mem_cons.1 hy with rfl | hy
  ·exact ih x y (hf x (by simp)) h1
  ·exact ihr cs' (fun z hz=>hf z (by simp [hz])) h3 y hy
theorem rightE (L:Int) (ns:znU) (hL:(ns.length:Int)<=L):∀ (d:Nat) (x:Ex) (c:znA),zbd d x=true->znV ns x=.ok c->RightC c L:=by
 intro d
 induction d with
 | zero=>intro x c h;cases h
 | succ d ih =>
  intro x c h hc;obtain ⟨op,n,name,args⟩:=x;rw [zbd,Bool.and_eq_true,List.all_eq_true] at h;obtain ⟨hh,hall⟩:=h
  have hl:args.length=zb9 op/\1<=op/\op<=24:=by
   unfold zbN at hh;rw [Bool.and_eq_true,Bool.and_eq_true,decide_eq_true_eq,decide_eq_true_eq] at hh;exact ⟨hh.2.1,hh.1⟩
  by_cases h1:op=1
  ·subst h1;rw [znV,if_pos rfl] at hc;cases hc;exact RightC.one fun _ n=>trivial
  by_cases h2:op=2
  ·subst h2;rw [znV,if_neg h1,if_pos rfl] at hc;split at hc
   ·cases hc
   ·cases hc;have:=place_len name ns 0;exact RightC.one fun _ n=>right_slot (.inl rfl) (by omega) (by omega) n
  by_cases h4:op=4
  ·subst h4;rw [znV,if_neg h1,if_neg h2,if_pos rfl] at hc;cases hc;exact RightC.one fun _ n=>⟨by simp,rfl⟩
  by_cases h5:op=5
  ·subst h5;rw [znV,if_neg h1,if_neg h2,if_neg h4,if_pos rfl] at hc;cases hc;exact RightC.one fun _ n=>⟨by simp,rfl⟩
  by_cases h21:op=21∨op=22
  ·have hm:zb9 op=2:=by unfold zb9;rw [if_neg (by omega)]
   match args,hl.1,hall,hc with
   | [a,b],_,hall,hc =>
    rw [zsh _ _ _ _ _ _ h21] at hc;obtain ⟨ca,e1,h3⟩:=CR.andThen_ok hc;obtain ⟨cb,e2,h6⟩:=CR.andThen_ok h3;cases h6
    exact RightC.lazy h21 (ih a ca (hall a (by simp)) e1) (ih b cb (hall b (by simp)) e2)
   | [],e,_,_=>rw [hm] at e;cases e
   | [_],e,_,_=>rw [hm] at e;cases e
   | _ :: _ :: _ :: _,e,_,_=>rw [hm] at e;simp at e
  have hmany:args.length=1∨(args.length=2/\op≠21/\op≠22/\op≠3/\op≠6):=by
   rw [hl.1];unfold zb9;by_cases h10:op < 10
   ·rw [if_pos h10,if_neg (by omega)];exact .inl rfl
   ·rw [if_neg h10];exact .inr ⟨rfl,by omega⟩
  rw [zsi ns op n name args ⟨h1,h2,h4,h5⟩ hmany] at hc;obtain ⟨cs,e1,h3⟩:=CR.andThen_ok hc;cases h3;have hs:=RightC.all (rightEs L ns (zbd d) ih args cs hall e1);by_cases h3:op=3
  ·subst h3;rw [if_pos rfl];rw [zmY,Bool.and_eq_true,Bool.and_eq_true,decide_eq_true_eq,decide_eq_true_eq,decide_eq_true_eq] at hh;exact hs.join (RightC.one fun _ m=>right_comp (.inl rfl) hh.2.2 m)
  ·rw [if_neg h3];by_cases h6:op=6
   ·rw [if_pos h6];exact hs.join (RightC.one fun _ m=>⟨by simp,rfl⟩)
   ·rw [if_neg h6];refine hs.join (RightC.one fun _ m=>?_);show (7<=op/\op<=20)∨(23<=op/\op<=24);omega
def LocOk (ns : znU) (r : znA × Nat) : Prop := (ns.length <= 32 -> r.2 <= 32) /\ ∀ L : Int, (r.2 : Int) <= L -> (ns.length : Int) <= L -> RightC r.1 L
theorem locT (d:Nat) (ih:∀ (ns:znU) (l:List St) (r:znA × Nat),zaJ d l=true->znQ ns l=.ok r->LocOk ns r) (ns:znU) (op n:Int) (name:List UInt8) (es:List Ex) (body els:List St) (r:znA × Nat) (h:zh2 d (.mk op n name es body els)=true) (hc:zon ns (.mk op n name es body els)=.ok r) :
  (ns.length<=32->r.2<=32)/\(op=1->ns.length < 32)/\∀ L:Int,(r.2:Int)<=L->((ns.length+if op=1 then 1 else 0:Nat):Int)<=L->RightC r.1 L:=by
 unfold zh2 at h;simp only [Bool.and_eq_true] at h;obtain ⟨⟨hb,hl⟩,hh,hes⟩:=h;obtain ⟨hop,hle,hlb,hll⟩:=zpT hh;rw [zon] at hc;obtain ⟨cs,e1,h2⟩:=CR.andThen_ok hc;have hs:∀ L:Int,(ns.length:Int)<=L->RightC (znJ cs) L:=fun L hL=>RightC.all (rightEs L ns (zbd 40) (rightE L ns hL 40) es cs (List.all_eq_true.1 hes) e1)
 have h7:op=1∨op=2∨op=3∨op=4∨op=5∨op=6∨op=7:=by omega
 rcases h7 with rfl | rfl | rfl | rfl | rfl | rfl | rfl
 ·rw [if_pos rfl] at h2;split at h2
  ·cases h2
  ·split at h2
   ·cases h2
   ·cases h2;refine ⟨fun _=>by simp,fun _=>by omega,fun L _ hL=>?_⟩;rw [if_pos rfl] at hL;exact (hs L (by omega)).join (RightC.one fun _ m=>right_slot (.inr rfl) (by omega) (by omega) m)
 ·rw [if_neg (by decide),if_pos rfl] at h2;split at h2
  ·cases h2
  ·cases h2;refine ⟨fun _=>by simp,fun e=>by omega,fun L _ hL=>?_⟩;rw [if_neg (by decide),Nat.add_zero] at hL;have:=place_len name ns 0;exact (hs L hL).join (RightC.one fun _ m=>right_slot (.inr rfl) (by omega) (by omega) m)
 ·rw [if_neg (by decide),if_neg (by decide),if_pos rfl] at h2;cases h2;rw [zfo _ _ _ _ _ _ rfl] at hh;simp only [Bool.and_eq_true,decide_eq_true_eq] at hh;refine ⟨fun _=>by simp,fun e=>by omega,fun L _ hL=>?_⟩;rw [if_neg (by decide),Nat.add_zero] at hL;exact (hs L hL).join (RightC.one fun _ m=>right_comp (.inr rfl) hh.2.2.1 m)
 ·rw [if_neg (by decide),if_neg (by decide),if_neg (by decide),if_neg (by decide),if_neg (by decide)] at h2;obtain ⟨b,e2,h3⟩:=CR.andThen_ok h2;rw [if_neg (by decide)] at h3;obtain ⟨o,e3,h4⟩:=CR.andThen_ok h3;cases h4;obtain ⟨b1,b2⟩:=ih ns body b hb e2;obtain ⟨o1,o2⟩:=ih ns els o hl e3;refine ⟨fun h=>by have:=b1 h;have:=o1 h;show max b.2 o.2<=32;omega,fun e=>by omega,fun L hm hL=>?_⟩;rw [if_neg (by decide),Nat.add_zero] at hL;have hm':((max b.2 o.2:Nat):Int)<=L:=hm;exact RightC.if (hs L hL) (b2 L (by omega) hL) (o2 L (by omega) hL)
 ·rw [if_neg (by decide),if_neg (by decide),if_neg (by decide),if_neg (by decide),if_neg (by decide)] at h2;obtain ⟨b,e2,h3⟩:=CR.andThen_ok h2;rw [if_pos rfl] at h3;cases h3;obtain ⟨b1,b2⟩:=ih ns body b hb e2;refine ⟨b1,fun e=>by omega,fun L hm hL=>?_⟩;rw [if_neg (by decide),Nat.add_zero] at hL;exact RightC.while (hs L hL) (b2 L hm hL)
 ·rw [if_neg (by decide),if_neg (by decide),if_neg (by decide),if_pos rfl] at h2;cases h2;exact ⟨fun _=>by simp,fun e=>by omega,fun L _ hL=>RightC.one fun _ m=>⟨by simp,rfl⟩⟩
 ·rw [if_neg (by decide),if_neg (by decide),if_neg (by decide),if_neg (by decide),if_pos rfl] at h2;cases h2;exact ⟨fun _=>by simp,fun e=>by omega,fun L _ hL=>RightC.one fun _ m=>⟨by simp,rfl⟩⟩
theorem locL:∀ (d:Nat) (ns:znU) (l:List St) (r:znA × Nat),zaJ d l=true->znQ ns l=.ok r->LocOk ns r:=by
 intro d
 induction d with
 | zero =>
  intro ns l r h hc
  have:l=[]:=by
   cases l with
   | nil=>rfl
   | cons x r=>cases h
  subst this;rw [znQ] at hc;cases hc
  exact ⟨id,fun L _ _=>RightC.nil L⟩
 | succ d ih =>
  intro ns l
  induction l generalizing ns with
  | nil=>intro r _ hc;rw [znQ] at hc;cases hc;exact ⟨id,fun L _ _=>RightC.nil L⟩
  | cons x l ihl =>
   intro r h hc;rw [zfn,List.all_cons,Bool.and_eq_true] at h;obtain ⟨op,n,name,es,body,els⟩:=x;rw [znQ] at hc;obtain ⟨c,e1,h2⟩:=CR.andThen_ok hc;obtain ⟨c',e2,h4⟩:=CR.andThen_ok h2;cases h4;obtain ⟨t1,t2,t3⟩:=locT d ih ns op n name es body els c h.1 e1;obtain ⟨l1,l2⟩:=ihl _ c' (by rw [zfn];exact h.2) e2;have hg:=zoV _ _ _ e2;have hlen:(if op=1 then ns++[name] else ns).length=ns.length+if op=1 then 1 else 0:=by split <;> simp
   rw [hlen] at hg l1;refine ⟨fun h32=>?_,fun L hm hL=>?_⟩
   ·have a:=t1 h32
    have b:c'.2<=32:=l1 (by
     by_cases e:op=1
     ·rw [if_pos e];have:=t2 e;omega
     ·rw [if_neg e];omega)
    show max c.2 c'.2<=32;omega
   ·have hm':((max c.2 c'.2:Nat):Int)<=L:=hm;exact (t3 L (by omega) (by omega)).join (l2 L (by omega) (by rw [hlen];omega))
theorem comp_sound {l:List St} {p:ProgS} (h:zol l=.ok p):SoundP p:=by
 unfold zol at h;split at h
 ·rename_i hr
  obtain ⟨r,h1,h2⟩:=CR.andThen_ok h;split at h2
  ·cases h2
  ·cases h2;obtain ⟨l1,l2⟩:=locL 40 [] l r hr h1;have hj:=(codeL_ok [] l r h1).1;have hl:=l1 (by simp);refine ⟨⟨by show r.1.length<=4000;omega,⟨by show (0:Int)<=(r.2:Int);omega,by show (r.2:Int)<=32;omega⟩,fun i hi=>?_,rfl,rfl⟩,(typedL 40 [] l r hr h1).flow⟩;by_cases hjb:zn5 i=true
   ·have ha:=hj i hi hjb;unfold zn5 at hjb;rw [decide_eq_true_eq] at hjb;unfold rightI;rw [if_neg (by omega),if_neg (by omega),if_neg (by omega),if_neg (by omega),if_pos hjb];exact ha
   ·exact l2 (r.2:Int) (Int.le_refl _) (by simp) i hi (by simpa using hjb) _
 ·cases h
end Go.Proofs.YtdhikpkecmaplaaGreatDoor
