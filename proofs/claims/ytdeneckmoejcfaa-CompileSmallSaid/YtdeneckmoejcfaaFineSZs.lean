/- Which trees can be written (P12.3), as functions. Plain mathematics. -/
import Derived.Test.YtdeneckmoejcfaaRParEZs
set_option linter.unusedSimpArgs false
set_option linter.unusedVariables false
namespace Go.Proofs.Ytdeneckmoejcfaa
def zb9 (op : Int) : Nat := if op < 10 then (if op = 1 ∨ op = 2 ∨ op = 4 ∨ op = 5 then 0 else 1) else 2
def zbN (op n : Int) (name : List UInt8) (len : Nat) : Bool :=
  decide (1 <= op /\ op <= 24) && (decide (len = zb9 op) && ((if op = 2 then zaP name else decide (name = [])) && (if op = 1 then decide (0 <= n) else if op = 3 then decide (1 <= n /\ n <= 10) else decide (n = 0))))
def zbd : Nat -> Ex -> Bool
  | 0, _ => false
  | d + 1, .mk op n name args => zbN op n name args.length && args.all (zbd d)
def zfg (op : Int) : Nat := if op = 3 then 2 else if 5 < op then 0 else 1
def zbA (op n : Int) (name : List UInt8) (le lb ll : Nat) : Bool :=
  decide (1 <= op /\ op <= 7) && (decide (le = zfg op) && ((if op <= 2 then zaP name else decide (name = [])) && ((if op = 3 then decide (1 <= n /\ n <= 10) else decide (n = 0)) && (decide (lb = 0 ∨ op = 4 ∨ op = 5) && decide (ll = 0 ∨ op = 4)))))
def zaJ : Nat -> List St -> Bool
  | 0, l => l.isEmpty
  | d + 1, l => l.all fun s => match s with
    | .mk op n name es body els => (zaJ d body && zaJ d els) && (zbA op n name es.length body.length els.length && es.all (zbd 40))
def zh2 (d : Nat) : St -> Bool
  | .mk op n name es body els => (zaJ d body && zaJ d els) && (zbA op n name es.length body.length els.length && es.all (zbd 40))
theorem zfn (d:Nat) (l:List St):zaJ (d+1) l=l.all (zh2 d):=by
 rw [zaJ];try rfl
theorem zmY (n:Int) (name:List UInt8) (len:Nat):zbN 3 n name len=(decide (len=1) && (decide (name=[]) && decide (1<=n/\n<=10))):=by simp [zbN,zb9]
theorem headE_G (op n:Int) (name:List UInt8) (len:Nat) (h:¬ (1<=op/\op<=24)):zbN op n name len=false:=by
 unfold zbN;rw [decide_eq_false h,Bool.false_and]
def zbH (op : Int) : Int := if 1 <= op /\ op <= 24 then (zb9 op : Int) else -1
theorem zl9:zaP []=false:=by decide +kernel
theorem zk2 (op n:Int) (name:List UInt8) (len:Nat):zbN op n name len=(decide (zbH op=(len:Int)) && (((op == 2) == decide (name≠[])) && ((decide (name=[]) || zaP name) && (if op=1 then decide (0<=n) else if op=3 then decide (1<=n/\n<=10) else decide (n=0))))):=by
 unfold zbN zbH;by_cases h:1<=op/\op<=24
 ·rw [decide_eq_true h,Bool.true_and,yP h]
  have e:decide ((zb9 op:Int)=(len:Int))=decide (len=zb9 op):=by
   rw [Bool.eq_iff_iff,yQ,yQ];omega
  rw [e];congr 1
  by_cases h2:op=2
  ·have e2:(op == 2)=true:=by simp [h2]
   rw [yP h2,e2];by_cases hn:name=[]
   ·rw [hn,zl9];simp
   ·simp [hn]
  ·have e2:(op == 2)=false:=by simp [h2]
   rw [yN h2,e2];by_cases hn:name=[]
   ·simp [hn]
   ·simp [hn]
 ·rw [decide_eq_false h,Bool.false_and,yN h,decide_eq_false (by omega),Bool.false_and]
theorem all_take {α:Type} {p:α->Bool} {l:List α} {k:Nat} {x:α} (h:l[k]? = some x) (h1:(l.take k).all p=true):(p x=true->(l.take (k+1)).all p=true)/\(p x=false->l.all p=false):=by
 obtain ⟨hlt,rfl⟩:=List.getElem?_eq_some_iff.1 h;constructor
 ·intro hp;rw [List.take_succ_eq_append_getElem hlt,List.all_append,h1];simp [hp]
 ·intro hp;rw [Bool.eq_false_iff];intro ha;rw [List.all_eq_true] at ha;rw [ha _ (List.getElem_mem hlt)] at hp;cases hp
theorem zfo (op n:Int) (name:List UInt8) (le lb ll:Nat) (h:op=3):zbA op n name le lb ll=(decide (le=2) && (decide (name=[]) && (decide (1<=n/\n<=10) && (decide (lb=0) && decide (ll=0))))):=by
 unfold zbA zfg;rw [decide_eq_true (show 1<=op/\op<=7 by omega),yP h,yN (by omega),yP h,Bool.true_and];have e1:decide (lb=0∨op=4∨op=5)=decide (lb=0):=by rw [Bool.eq_iff_iff,yQ,yQ];omega
 have e2:decide (ll=0∨op=4)=decide (ll=0):=by rw [Bool.eq_iff_iff,yQ,yQ];omega
 rw [e1,e2]
theorem zk3 (op n:Int) (name:List UInt8) (le lb ll:Nat) (h:¬ (1<=op/\op<=7)):zbA op n name le lb ll=false:=by
 unfold zbA;rw [decide_eq_false h,Bool.false_and]
open Go.RowKit

theorem str_nil {l:List UInt8}:(bstr l).toList=[] ↔ l=[]:=by
 have:=zal l [];rw [Bool.eq_iff_iff,beq_iff_eq,yQ] at this;exact this
def zbe (q : Bool) (w : World) (e : Ending) (w' : World) : Prop := e = .returned (.bool q) /\ Below w.heap.size w w'
structure InsS where
  op : Int
  a : Int
abbrev znU := List (List UInt8)
abbrev znA := List InsS
def zn5 (i : InsS) : Bool := decide (11 <= i.op /\ i.op <= 13)
def znK (k : Int) (i : InsS) : InsS := if zn5 i = true then ⟨i.op, i.a + k⟩ else i
def znF (k : Int) (c : znA) : znA := c.map (znK k)
def znB (a b : znA) : znA := a ++ znF a.length b
def zo0 (a b : znA) (op : Int) : znA := znB a (⟨12 + op - 21, b.length + 3⟩ :: (znF 1 b ++ [⟨10, 0⟩, ⟨11, b.length + 4⟩, ⟨1, op - 21⟩]))
inductive CR (α : Type) where
  | ok (x : α)
  | err (e : Int)
def CR.andThen {α β : Type} (r : CR α) (f : α -> CR β) : CR β :=
  match r with
  | .ok x => f x
  | .err e => .err e
def finE (op n : Int) : List znA -> CR znA
  | [a] => .ok (znB a [if op = 3 then ⟨4, n⟩ else if op = 6 then ⟨8, 0⟩ else ⟨9, op⟩])
  | [a, b] => .ok (if op = 21 ∨ op = 22 then zo0 a b op else znB (znB a b) [⟨9, op⟩])
  | _ => .ok []
mutual
def znV (ns : znU) : Ex -> CR znA
  | .mk op n name args =>
    if op = 1 then .ok [⟨1, n⟩]
    else if op = 2 then (if zai name ns 0 = 0 then .err 131 else .ok [⟨2, (zai name ns 0 : Int) - 1⟩])
    else if op = 4 then .ok [⟨6, 0⟩]
    else if op = 5 then .ok [⟨7, 0⟩]
    else (znG ns args).andThen fun cs => finE op n cs
def znG (ns : znU) : List Ex -> CR (List znA)
  | [] => .ok []
  | x :: r => (znV ns x).andThen fun c => (znG ns r).andThen fun cs => .ok (c :: cs)
end
def znJ (cs : List znA) : znA := cs.foldl znB []
def zpC (out b : znA) : znA := out ++ (⟨12, out.length + 1 + b.length + 1⟩ :: (znF (out.length + 1) b ++ [⟨11, 0⟩]))
def ifC (out b o : znA) (el : Bool) : znA :=
  if el = true then znB (out ++ (⟨12, out.length + 1 + b.length + 1⟩ :: (znF (out.length + 1) b ++ [⟨11, out.length + 1 + b.length + 1 + o.length⟩]))) o
  else znB (out ++ (⟨12, out.length + 1 + b.length⟩ :: znF (out.length + 1) b)) o
mutual
def zon (ns : znU) : St -> CR (znA × Nat)
  | .mk op n name es body els => (znG ns es).andThen fun cs =>
    if op = 1 then (if zai name ns 0 ≠ 0 then .err 132 else if 32 <= ns.length then .err 5 else .ok (znB (znJ cs) [⟨3, ns.length⟩], 0))
    else if op = 2 then (if zai name ns 0 = 0 then .err 131 else .ok (znB (znJ cs) [⟨3, (zai name ns 0 : Int) - 1⟩], 0))
    else if op = 3 then .ok (znB (znJ cs) [⟨5, n⟩], 0)
    else if op = 6 then .ok ([⟨14, 0⟩], 0)
    else if op = 7 then .ok ([⟨15, 0⟩], 0)
    else (znQ ns body).andThen fun b =>
      if op = 5 then .ok (zpC (znJ cs) b.1, b.2)
      else (znQ ns els).andThen fun o => .ok (ifC (znJ cs) b.1 o.1 (decide (els ≠ [])), max b.2 o.2)
def znQ (ns : znU) : List St -> CR (znA × Nat)
  | [] => .ok ([], ns.length)
  | .mk op n name es body els :: r => (zon ns (.mk op n name es body els)).andThen fun c => (znQ (if op = 1 then ns ++ [name] else ns) r).andThen fun c' => .ok (znB c.1 c'.1, max c.2 c'.2)
end
theorem zn8 (k:Int) (c:znA):(znF k c).length=c.length:=by simp [znF]
theorem znT (a b:znA):(znB a b).length=a.length+b.length:=by simp [znB,zn8]
theorem zrU (k:Int) (i:InsS):(znK k i).op=i.op:=by unfold znK;split <;> rfl
theorem zpO (k:Int) (i:InsS):zn5 (znK k i)=zn5 i:=by unfold zn5;rw [zrU]
theorem zp0 (k m:Int) (i:InsS):znK k (znK m i)=znK (m+k) i:=by
 have h:=zpO m i
 unfold znK at *
 by_cases hj:zn5 i=true
 ·simp only [hj,if_true] at h ⊢;rw [yP h,Int.add_assoc]
 ·simp only [hj] at h ⊢;simp [hj]
theorem zqZ (i:InsS):znK 0 i=i:=by
 unfold znK;split
 ·rw [Int.add_zero]
 ·rfl
theorem zp1 (k m:Int) (c:znA):znF k (znF m c)=znF (m+k) c:=by
 unfold znF;rw [List.map_map];congr 1
 funext i
 exact zp0 k m i
theorem zq0 (c:znA):znF 0 c=c:=by
 unfold znF;rw [show znK 0=id from funext zqZ,List.map_id]
theorem zpp (k:Int) (a b:znA):znF k (a++b)=znF k a++znF k b:=by simp [znF]
theorem zoQ (a:znA):znB [] a=a:=by
 unfold znB;exact zq0 a
theorem zo1 (a:znA):znB a []=a:=by simp [znB,znF]
theorem zof (a b c:znA):znB (znB a b) c=znB a (znB b c):=by
 unfold znB;rw [zpp,zp1,List.append_assoc,yA,zn8];congr 3
 omega
def jOk (c : znA) : Prop := ∀ i ∈ c, zn5 i = true -> 0 <= i.a /\ i.a <= c.length
theorem zqh {c:znA} {k m:Nat} (h:jOk c) (hm:c.length+k<=m):∀ i ∈ znF k c,zn5 i=true->0<=i.a/\i.a<=m:=by
 intro i hi hj;unfold znF at hi;obtain ⟨x,hx,rfl⟩:=List.mem_map.1 hi;rw [zpO] at hj;have:=h x hx hj;unfold znK;rw [yP hj];show 0<=x.a+k/\x.a+k<=m;omega
theorem zpo {a b:znA} (ha:jOk a) (hb:jOk b):jOk (znB a b):=by
 intro i hi hj;rw [znT];unfold znB at hi;rcases List.mem_append.1 hi with hi | hi
 ·have:=ha i hi hj;omega
 ·exact zqh hb (by omega) i hi hj
theorem zo3 {i:InsS} (h:zn5 i=false):jOk [i]:=by
 intro x hx hj;rw [List.mem_singleton] at hx;rw [hx,h] at hj;cases hj
theorem zrl:jOk []:=fun i hi=>by simp at hi
theorem zsz {a b:znA} {op:Int} (ha:jOk a) (hb:jOk b):jOk (zo0 a b op):=by
 refine zpo ha ?_;intro i hi hj;simp only [yB,yA,zn8,yL];rcases List.mem_cons.1 hi with rfl | hi
 ·show 0<=(b.length:Int)+3/\(b.length:Int)+3<=_;omega
 ·rcases List.mem_append.1 hi with hi | hi
  ·exact zqh (k:=1) hb (by omega) i hi hj
  ·simp only [List.mem_cons,List.not_mem_nil,or_false] at hi;rcases hi with rfl | rfl | rfl
   ·cases hj
   ·show 0<=(b.length:Int)+4/\(b.length:Int)+4<=_;omega
   ·cases hj
theorem zrT (a b:znA) (op:Int):(zo0 a b op).length=a.length+b.length+4:=by
 unfold zo0;rw [znT];simp only [yB,yA,zn8,yL];omega
def zo5 (cs : List znA) : Nat := (cs.map List.length).foldr (· + ·) 0
theorem zty {op n:Int} {cs:List znA} {c:znA} (h:finE op n cs=.ok c) (hcs:∀ x ∈ cs,jOk x):jOk c/\c.length<=zo5 cs+4:=by
 match cs,h,hcs with
 | [],h,_=>simp only [finE,CR.ok.injEq] at h;subst h;exact ⟨zrl,by simp⟩
 | [a],h,hcs =>
  simp only [finE,CR.ok.injEq] at h;subst h;refine ⟨zpo (hcs a (by simp)) (zo3 ?_),?_⟩
  ·split
   ·rfl
   ·split <;> rfl
  ·rw [znT];simp [zo5]
 | [a,b],h,hcs =>
  simp only [finE,CR.ok.injEq] at h;subst h;split
  ·exact ⟨zsz (hcs a (by simp)) (hcs b (by simp)),by rw [zrT];simp [zo5]⟩
  ·exact ⟨zpo (zpo (hcs a (by simp)) (hcs b (by simp))) (zo3 rfl),by rw [znT,znT];simp [zo5]⟩
 | a :: b :: c' :: r,h,_=>simp only [finE,CR.ok.injEq] at h;subst h;exact ⟨zrl,by simp⟩
theorem CR.andThen_ok {α β:Type} {r:CR α} {f:α->CR β} {y:β} (h:r.andThen f=.ok y):∃ x,r=.ok x/\f x=.ok y:=by
 cases r with
 | ok x=>exact ⟨x,rfl,h⟩
 | err e=>cases h
mutual
theorem zsA (ns:znU):∀ (x:Ex) (c:znA),znV ns x=.ok c->jOk c/\c.length<=4 * szE x
 | .mk op n name args,c,h=>by
  unfold znV at h;rw [szE];split at h
  ·cases h;exact ⟨zo3 rfl,by simp;omega⟩
  ·split at h
   ·split at h
    ·cases h
    ·cases h;exact ⟨zo3 rfl,by simp;omega⟩
   ·split at h
    ·cases h;exact ⟨zo3 rfl,by simp;omega⟩
    ·split at h
     ·cases h;exact ⟨zo3 rfl,by simp;omega⟩
     ·obtain ⟨cs,h1,h2⟩:=CR.andThen_ok h;obtain ⟨h3,h4,_⟩:=zpA ns args cs h1;obtain ⟨h5,h6⟩:=zty h2 h3;exact ⟨h5,by omega⟩
theorem zpA (ns:znU):∀ (xs:List Ex) (cs:List znA),znG ns xs=.ok cs->(∀ c ∈ cs,jOk c)/\zo5 cs<=4 * szEs xs/\cs.length=xs.length
 | [],cs,h=>by
  simp only [znG,CR.ok.injEq] at h;subst h
  exact ⟨by simp,by simp [zo5],rfl⟩
 | x :: r,cs,h=>by
  unfold znG at h;obtain ⟨c,h1,h2⟩:=CR.andThen_ok h;obtain ⟨cs',h3,h4⟩:=CR.andThen_ok h2;cases h4;obtain ⟨a1,a2⟩:=zsA ns x c h1;obtain ⟨b1,b2,b3⟩:=zpA ns r cs' h3;refine ⟨?_,?_,by simp [b3]⟩
  ·intro y hy;rcases List.mem_cons.1 hy with rfl | hy
   ·exact a1
   ·exact b1 y hy
  ·rw [szEs];show c.length+zo5 cs'<=_;omega
end
mutual
theorem zpB (ns:znU):∀ (x:Ex) (e:Int),znV ns x=.err e->e=131
 | .mk op n name args,e,h=>by
  unfold znV at h;split at h
  ·cases h
  ·split at h
   ·split at h
    ·cases h;rfl
    ·cases h
   ·split at h
    ·cases h
    ·split at h
     ·cases h
     ·cases hc:znG ns args with
      | ok cs =>
       rw [hc] at h
       match cs,h with
       | [],h=>cases h
       | [a],h=>cases h
       | [a,b],h=>cases h
       | a :: b :: c' :: r,h=>cases h
      | err e' =>
       rw [hc] at h;cases h;exact zoZ ns args e hc
theorem zoZ (ns:znU):∀ (xs:List Ex) (e:Int),znG ns xs=.err e->e=131
 | [],e,h=>by cases h
 | x :: r,e,h=>by
  unfold znG at h
  cases hc:znV ns x with
  | ok c =>
   rw [hc] at h
   cases hr:znG ns r with
   | ok cs=>rw [show (CR.ok c).andThen (fun c=>(znG ns r).andThen fun cs=>.ok (c :: cs))=(znG ns r).andThen fun cs=>.ok (c :: cs) from rfl,hr] at h;cases h
   | err e' =>
    rw [show (CR.ok c).andThen (fun c=>(znG ns r).andThen fun cs=>.ok (c :: cs))=(znG ns r).andThen fun cs=>.ok (c :: cs) from rfl,hr] at h;cases h
    exact zoZ ns r e hr
  | err e' =>
   rw [hc] at h;cases h;exact zpB ns x e hc
end
theorem joinAll_acc:∀ (cs:List znA) (a:znA),jOk a->(∀ c ∈ cs,jOk c)->jOk (cs.foldl znB a)/\(cs.foldl znB a).length=a.length+zo5 cs:=by
 intro cs
 induction cs with
 | nil=>intro a ha _;exact ⟨ha,by simp [zo5]⟩
 | cons c r ih =>
  intro a ha hc;obtain ⟨h1,h2⟩:=ih (znB a c) (zpo ha (hc c (by simp))) (fun x hx=>hc x (by simp [hx]));refine ⟨h1,?_⟩;rw [List.foldl_cons,h2,znT];simp only [zo5,List.map_cons,List.foldr_cons];omega
theorem joinAll_ok {cs:List znA} (h:∀ c ∈ cs,jOk c):jOk (znJ cs)/\(znJ cs).length=zo5 cs:=by
 obtain ⟨h1,h2⟩:=joinAll_acc cs [] zrl h;exact ⟨h1,by rw [znJ,h2];simp⟩
theorem whileC_len (o b:znA):(zpC o b).length=o.length+b.length+2:=by
 unfold zpC;simp only [yA,yB,zn8,yL];omega
theorem jOk_while {o b:znA} (ho:jOk o) (hb:jOk b):jOk (zpC o b):=by
 intro i hi hj;rw [whileC_len];unfold zpC at hi;rcases List.mem_append.1 hi with hi | hi
 ·have:=ho i hi hj;omega
 ·rcases List.mem_cons.1 hi with rfl | hi
  ·show 0<=(o.length:Int)+1+b.length+1/\(o.length:Int)+1+b.length+1<=_;omega
  ·rcases List.mem_append.1 hi with hi | hi
   ·exact zqh (k:=o.length+1) hb (by omega) i hi hj
   ·rw [List.mem_singleton] at hi;subst hi;show (0:Int)<=0/\(0:Int)<=_;omega
theorem ifC_len (o b e:znA) (el:Bool):(ifC o b e el).length<=o.length+b.length+e.length+2:=by
 unfold ifC;split <;>
 ·rw [znT];simp only [yA,yB,zn8,yL];omega
theorem jOk_if {o b e:znA} {el:Bool} (ho:jOk o) (hb:jOk b) (he:jOk e):jOk (ifC o b e el):=by
 unfold ifC;split
 ·intro i hi hj;rw [znT];simp only [yA,yB,zn8,yL];unfold znB at hi;simp only [yA,yB,zn8,yL] at hi;rcases List.mem_append.1 hi with hi | hi
  ·rcases List.mem_append.1 hi with hi | hi
   ·have:=ho i hi hj;omega
   ·rcases List.mem_cons.1 hi with rfl | hi
    ·show 0<=(o.length:Int)+1+b.length+1/\(o.length:Int)+1+b.length+1<=_;omega
    ·rcases List.mem_append.1 hi with hi | hi
     ·exact zqh (k:=o.length+1) hb (by omega) i hi hj
     ·rw [List.mem_singleton] at hi;subst hi;show 0<=(o.length:Int)+1+b.length+1+e.length/\(o.length:Int)+1+b.length+1+e.length<=_;omega
  ·exact zqh he (by omega) i hi hj
 ·intro i hi hj;rw [znT];simp only [yA,yB,zn8];unfold znB at hi;simp only [yA,yB,zn8] at hi;rcases List.mem_append.1 hi with hi | hi
  ·rcases List.mem_append.1 hi with hi | hi
   ·have:=ho i hi hj;omega
   ·rcases List.mem_cons.1 hi with rfl | hi
    ·show 0<=(o.length:Int)+1+b.length/\(o.length:Int)+1+b.length<=_;omega
    ·exact zqh (k:=o.length+1) hb (by omega) i hi hj
  ·exact zqh he (by omega) i hi hj
mutual
theorem codeT_ok (ns:znU):∀ (x:St) (r:znA × Nat),zon ns x=.ok r->jOk r.1/\r.1.length<=4 * szS x/\r.2<=ns.length+szS x
 | .mk op n name es body els,r,h=>by
  unfold zon at h;rw [szS];obtain ⟨cs,h1,h2⟩:=CR.andThen_ok h;obtain ⟨a1,a2,_⟩:=zpA ns es cs h1;obtain ⟨b1,b2⟩:=joinAll_ok a1;have one:∀ i:InsS,zn5 i=false->jOk (znB (znJ cs) [i])/\(znB (znJ cs) [i]).length<=4 * (1+name.length / 30+szEs es+szSs body+szSs els):=fun i hi=>⟨zpo b1 (zo3 hi),by rw [znT,b2];simp only [List.length_singleton];omega⟩
  split at h2
  ·split at h2
   ·cases h2
   ·split at h2
    ·cases h2
    ·cases h2;exact ⟨(one _ rfl).1,(one _ rfl).2,by simp⟩
  ·split at h2
   ·split at h2
    ·cases h2
    ·cases h2;exact ⟨(one _ rfl).1,(one _ rfl).2,by simp⟩
   ·split at h2
    ·cases h2;exact ⟨(one _ rfl).1,(one _ rfl).2,by simp⟩
    ·split at h2
     ·cases h2;exact ⟨zo3 rfl,by simp;omega,by simp⟩
     ·split at h2
      ·cases h2;exact ⟨zo3 rfl,by simp;omega,by simp⟩
      ·obtain ⟨rb,h3,h4⟩:=CR.andThen_ok h2;obtain ⟨d1,d2,d3⟩:=codeL_ok ns body rb h3;split at h4
       ·cases h4;refine ⟨jOk_while b1 d1,?_,?_⟩
        ·show (zpC _ _).length<=_;rw [whileC_len,b2];omega
        ·show rb.2<=_;omega
       ·obtain ⟨ro,h5,h6⟩:=CR.andThen_ok h4;obtain ⟨f1,f2,f3⟩:=codeL_ok ns els ro h5;cases h6;refine ⟨jOk_if b1 d1 f1,?_,?_⟩
        ·have:=ifC_len (znJ cs) rb.1 ro.1 (decide (els≠[]));show (ifC _ _ _ _).length<=_;rw [b2] at this;omega
        ·show max rb.2 ro.2<=_;omega
theorem codeL_ok (ns:znU):∀ (l:List St) (r:znA × Nat),znQ ns l=.ok r->jOk r.1/\r.1.length<=4 * szSs l/\r.2<=ns.length+szSs l
 | [],r,h=>by
  unfold znQ at h;cases h
  exact ⟨zrl,by simp,by simp⟩
 | .mk op n name es body els :: l,r,h=>by
  unfold znQ at h;obtain ⟨c,h1,h2⟩:=CR.andThen_ok h;obtain ⟨c',h3,h4⟩:=CR.andThen_ok h2;obtain ⟨a1,a2,a3⟩:=codeT_ok ns (.mk op n name es body els) c h1;obtain ⟨b1,b2,b3⟩:=codeL_ok _ l c' h3;have hl:(if op=1 then ns++[name] else ns).length<=ns.length+1:=by split <;> simp
  have hp:=zrp (.mk op n name es body els);cases h4;rw [szSs];refine ⟨zpo a1 b1,?_,?_⟩
  ·show (znB _ _).length<=_;rw [znT];omega
  ·show max c.2 c'.2<=_;omega
end
structure TS where
  code : znA
  names : znU
  locals : Nat
  e : Int
def TS.put (s : TS) (op a : Int) : TS := { s with code := s.code ++ [⟨op, a⟩] }
def TS.fail (s : TS) (k : Int) : TS := { s with e := if s.e = 0 then k else s.e }
def setA (c : znA) (k : Nat) (a : Int) : znA := c.modify k fun i => ⟨i.op, a⟩
def TS.patch (s : TS) (k : Nat) : TS := { s with code := setA s.code k s.code.length }
def TS.slot (s : TS) (name : List UInt8) : TS := if zai name s.names 0 = 0 then s.fail 131 else s
def TS.letE (s : TS) (name : List UInt8) : TS := if zai name s.names 0 ≠ 0 then s.fail 132 else s
def TS.letM (s : TS) : TS := if 32 <= s.names.length then s.fail 5 else s
def TS.letN (s : TS) (name : List UInt8) : TS :=
  let q := (s.letE name).letM
  { q with names := q.names ++ [name], locals := max q.locals (q.names.length + 1) }
def zoz (s1 s3 : TS) (v : Int) : TS := ((((s3.put 10 0).put 11 0).patch s1.code.length).put 1 v).patch (s3.put 10 0).code.length
def zoJ (fa fb : TS -> TS) (j v : Int) (s : TS) : TS := zoz (fa s) (fb ((fa s).put j 0)) v
mutual
def tE : Ex -> TS -> TS
  | .mk op n name args, s =>
    if op = 1 then s.put 1 n
    else if op = 2 then (s.slot name).put 2 ((zai name s.names 0 : Int) - 1)
    else if op = 4 then s.put 6 0
    else if op = 5 then s.put 7 0
    else if op = 21 then zqA args 12 0 s
    else if op = 22 then zqA args 13 1 s
    else if op = 3 then (tEs args s).put 4 n
    else if op = 6 then (tEs args s).put 8 0
    else (tEs args s).put 9 op
def tEs : List Ex -> TS -> TS
  | [], s => s
  | x :: r, s => tEs r (tE x s)
def zqA : List Ex -> Int -> Int -> TS -> TS
  | [a, b], j, v, s => zoJ (tE a) (tE b) j v s
  | _, _, _, s => s
end
def TS.back (s : TS) (n : Nat) : TS := { s with names := s.names.take n }
mutual
def tS : St -> TS -> TS
  | .mk op n name es body els, s =>
    if op = 1 then ((tEs es s).letN name).put 3 (tEs es s).names.length
    else if op = 2 then ((tEs es s).slot name).put 3 ((zai name (tEs es s).names 0 : Int) - 1)
    else if op = 3 then (tEs es s).put 5 n
    else if op = 4 then
      if els ≠ [] then (((tSs els ((((tSs body ((tEs es s).put 12 0)).back (tEs es s).names.length).put 11 0).patch (tEs es s).code.length)).back (tEs es s).names.length)).patch ((tSs body ((tEs es s).put 12 0)).code.length)
      else ((tSs body ((tEs es s).put 12 0)).back (tEs es s).names.length).patch (tEs es s).code.length
    else if op = 5 then (((tSs body ((tEs es s).put 12 0)).back (tEs es s).names.length).put 11 s.code.length).patch (tEs es s).code.length
    else if op = 6 then (tEs es s).put 14 0
    else if op = 7 then (tEs es s).put 15 0
    else tEs es s
def tSs : List St -> TS -> TS
  | [], s => s
  | x :: r, s => tSs r (tS x s)
end
theorem zoi (c:znA) (k:Nat) (a:Int):(setA c k a).length=c.length:=by simp [setA]
theorem zoM (x y:znA) (i:InsS) (a:Int) {k:Nat} (hk:k=x.length):setA (x++i :: y) k a=x++⟨i.op,a⟩ :: y:=by
 subst hk;unfold setA
 induction x with
 | nil=>rfl
 | cons z x ih=>simp only [List.cons_append,yB,List.modify_succ_cons,ih]
/-! the state's parts, znZ each step -/
theorem TS.put_code (s:TS) (op a:Int):(s.put op a).code=s.code++[⟨op,a⟩]:=rfl
theorem TS.slot_code (s:TS) (n:List UInt8):(s.slot n).code=s.code:=by unfold TS.slot;split <;> rfl
theorem TS.slot_names (s:TS) (n:List UInt8):(s.slot n).names=s.names:=by unfold TS.slot;split <;> rfl
theorem TS.slot_locals (s:TS) (n:List UInt8):(s.slot n).locals=s.locals:=by unfold TS.slot;split <;> rfl
theorem TS.letE_parts (s:TS) (n:List UInt8):(s.letE n).code=s.code/\(s.letE n).names=s.names/\(s.letE n).locals=s.locals:=by unfold TS.letE;split <;> exact ⟨rfl,rfl,rfl⟩
theorem TS.letM_parts (s:TS):s.letM.code=s.code/\s.letM.names=s.names/\s.letM.locals=s.locals:=by unfold TS.letM;split <;> exact ⟨rfl,rfl,rfl⟩
theorem TS.letN_code (s:TS) (n:List UInt8):(s.letN n).code=s.code:=by
 show ((s.letE n).letM).code=_;rw [(TS.letM_parts _).1,(TS.letE_parts _ _).1]
theorem TS.letN_names (s:TS) (n:List UInt8):(s.letN n).names=s.names++[n]:=by
 show ((s.letE n).letM).names++[n]=_;rw [(TS.letM_parts _).2.1,(TS.letE_parts _ _).2.1]
theorem TS.letN_locals (s:TS) (n:List UInt8):(s.letN n).locals=max s.locals (s.names.length+1):=by
 show max ((s.letE n).letM).locals (((s.letE n).letM).names.length+1)=_;rw [(TS.letM_parts _).2.1,(TS.letE_parts _ _).2.1,(TS.letM_parts _).2.2,(TS.letE_parts _ _).2.2]
theorem TS.fail_keep {s:TS} (h:s.e≠0) (k:Int):(s.fail k).e=s.e:=yN h
theorem TS.fail_new {s:TS} (h:s.e=0) (k:Int):(s.fail k).e=k:=yP h
theorem TS.slot_keep {s:TS} (h:s.e≠0) (n:List UInt8):(s.slot n).e=s.e:=by
 unfold TS.slot;split
 ·exact TS.fail_keep h _
 ·rfl
theorem TS.letN_e (s:TS) (n:List UInt8):(s.letN n).e=if s.e≠0 then s.e else if zai n s.names 0≠0 then 132 else if 32<=s.names.length then 5 else 0:=by
 show ((s.letE n).letM).e=_;by_cases he:s.e≠0
 ·rw [yP he];have h1:(s.letE n).e=s.e:=by unfold TS.letE;split;exact TS.fail_keep he _;rfl
  unfold TS.letM;split
  ·rw [TS.fail_keep (by rw [h1];exact he),h1]
  ·exact h1
 ·rw [yN he];have he0:s.e=0:=Decidable.not_not.1 he;by_cases hp:zai n s.names 0≠0
  ·rw [yP hp];have h1:(s.letE n).e=132:=by unfold TS.letE;rw [yP hp];exact TS.fail_new he0 _
   unfold TS.letM;split
   ·rw [TS.fail_keep (by rw [h1];decide),h1]
   ·exact h1
  ·rw [yN hp];have h1:s.letE n=s:=by unfold TS.letE;rw [yN hp]
   rw [h1];unfold TS.letM;by_cases hm:32<=s.names.length
   ·rw [yP hm,yP hm];exact TS.fail_new he0 _
   ·rw [yN hm,yN hm];exact he0
structure ExpT (s s' : TS) (z : Nat) (r : CR znA) : Prop where
  names : s'.names = s.names
  locals : s'.locals = s.locals
  le : s.code.length <= s'.code.length
  len : s'.code.length <= s.code.length + 4 * z
  keep : s.e ≠ 0 -> s'.e = s.e
  ok : s.e = 0 -> ∀ c, r = .ok c -> s'.e = 0 /\ s'.code = znB s.code c
  bad : s.e = 0 -> ∀ k, r = .err k -> s'.e = k
theorem zpe (a:znA) (i:InsS) (h:zn5 i=false):znB a [i]=a++[i]:=by
 unfold znB znF;rw [List.map_singleton,show znK a.length i=i from by unfold znK;rw [yN (by rw [h];decide)]]
theorem ExpT.one (s:TS) (op a:Int) (z:Nat) (hz:1<=z) (h:zn5 ⟨op,a⟩=false):ExpT s (s.put op a) z (.ok [⟨op,a⟩]):=
 ⟨rfl,rfl,by simp [TS.put_code],by simp [TS.put_code];omega,fun _=>rfl,fun he c hc=>⟨he,by cases hc;rw [zpe _ _ h];rfl⟩,fun _ k hk=>by cases hk⟩
structure ExpsT (s s' : TS) (z : Nat) (r : CR (List znA)) : Prop where
  names : s'.names = s.names
  locals : s'.locals = s.locals
  le : s.code.length <= s'.code.length
  len : s'.code.length <= s.code.length + 4 * z
  keep : s.e ≠ 0 -> s'.e = s.e
  ok : s.e = 0 -> ∀ cs, r = .ok cs -> s'.e = 0 /\ s'.code = znB s.code (znJ cs)
  bad : s.e = 0 -> ∀ k, r = .err k -> s'.e = k
theorem zrj (cs:List znA):∀ a:znA,cs.foldl znB a=znB a (znJ cs):=by
 induction cs with
 | nil=>intro a;simp [znJ,zo1]
 | cons c r ih =>
  intro a;rw [List.foldl_cons,ih];show _=znB a (List.foldl znB [] (c :: r));rw [List.foldl_cons,ih,zoQ,zof]
theorem zqT (c:znA) (cs:List znA):znJ (c :: cs)=znB c (znJ cs):=by
 show List.foldl znB [] (c :: cs)=_;rw [List.foldl_cons,zrj,zoQ]
theorem ExpsT.nil (s:TS):ExpsT s s 0 (.ok []):=
 ⟨rfl,rfl,zr _,by omega,fun _=>rfl,fun h cs hc=>⟨h,by cases hc;simp [znJ,zo1]⟩,fun _ k hk=>by cases hk⟩
theorem ExpsT.cons {s s1 s2:TS} {z1 z2:Nat} {r1:CR znA} {r2:CR (List znA)} (h:ExpT s s1 z1 r1) (k:ExpsT s1 s2 z2 r2) (he:∀ k,r1=.err k->k≠0):ExpsT s s2 (z1+z2) (r1.andThen fun c=>r2.andThen fun cs=>.ok (c :: cs)):=by
 refine ⟨k.names.trans h.names,k.locals.trans h.locals,yT h.le k.le,by have:=h.len;have:=k.len;omega,fun e=>?_,fun e cs hc=>?_,fun e j hj=>?_⟩
 ·have:=h.keep e;rw [k.keep (by rw [this];exact e),this]
 ·obtain ⟨c,rfl,h2⟩:=CR.andThen_ok hc;obtain ⟨cs',rfl,h4⟩:=CR.andThen_ok h2;cases h4;obtain ⟨a1,a2⟩:=h.ok e c rfl;obtain ⟨b1,b2⟩:=k.ok a1 cs' rfl;exact ⟨b1,by rw [b2,a2,zof,zqT]⟩
 ·cases r1 with
  | err k1 =>
   cases hj;have:=h.bad e j rfl
   rw [k.keep (by rw [this];exact he j rfl),this]
  | ok c =>
   cases r2 with
   | err k2=>cases hj;exact k.bad (h.ok e c rfl).1 j rfl
   | ok cs=>cases hj
theorem ExpsT.fin {s s1:TS} {z:Nat} {r:CR (List znA)} (h:ExpsT s s1 z r) (op a:Int) (hj:zn5 ⟨op,a⟩=false) {q:CR znA} (hq:q=r.andThen fun cs=>.ok (znB (znJ cs) [⟨op,a⟩])):ExpT s (s1.put op a) (1+z) q:=by
 subst hq;refine ⟨h.names,h.locals,by have:=h.le;simp [TS.put_code];omega,by have:=h.len;simp [TS.put_code];omega,h.keep,fun e c hc=>?_,fun e k hk=>?_⟩
 ·obtain ⟨cs,rfl,h2⟩:=CR.andThen_ok hc;cases h2;obtain ⟨a1,a2⟩:=h.ok e cs rfl;exact ⟨a1,by rw [TS.put_code,a2,<- zof,zpe _ _ hj]⟩
 ·cases r with
  | ok cs=>cases hk
  | err k1=>cases hk;exact h.bad e k rfl
theorem zoK {i:InsS} (h:zn5 i=true) (k:Int):znK k i=⟨i.op,i.a+k⟩:=by unfold znK;rw [yP h]
theorem zqU {i:InsS} (h:zn5 i=false) (k:Int):znK k i=i:=by unfold znK;rw [yN (by rw [h];decide)]
theorem zsn (C a b:znA) (op:Int) (hop:op=21∨op=22) :
  znB C (zo0 a b op)=znB C a++⟨12+op - 21,((znB C a).length+1+b.length+3 - 1:Nat)⟩ :: (znF ((znB C a).length+1:Nat) b++[⟨10,0⟩,⟨11,((znB C a).length+1+b.length+3:Nat)⟩,⟨1,op - 21⟩]):=by
 unfold zo0;rw [<- zof];generalize znB C a=D;unfold znB znF;rw [List.map_cons,List.map_append,List.map_map];have h12:zn5 ⟨12+op - 21,(b.length:Int)+3⟩=true:=by unfold zn5;rw [yQ];show 11<=12+op - 21/\12+op - 21<=13;omega
 rw [zoK h12];congr 1
 congr 1
 ·show (⟨12+op - 21,(b.length:Int)+3+D.length⟩:InsS)=_;congr 1
  omega
 ·congr 1
  ·congr 1
   funext i
   show znK _ (znK _ i)=_;rw [zp0];congr 1
   omega
  ·show [znK _ ⟨10,0⟩,znK _ ⟨11,(b.length:Int)+4⟩,znK _ ⟨1,op - 21⟩]=_;rw [zqU rfl,zoK rfl,zqU rfl];congr 2
   show (⟨11,(b.length:Int)+4+D.length⟩:InsS)=_;congr 1
   omega
theorem zti {s s1 s3:TS} {za zb:Nat} {ra rb:CR znA} {fa fb:TS->TS} (j v:Int) (op:Int) (hop:op=21∨op=22) (hj:j=12+op - 21) (hv:v=op - 21)
  (h1:fa s=s1) (h3:fb (s1.put j 0)=s3) (ha:ExpT s s1 za ra) (hb:ExpT (s1.put j 0) s3 zb rb) (hea:∀ k,ra=.err k->k≠0) :
  ExpT s (zoJ fa fb j v s) (1+(za+zb)) (ra.andThen fun a=>rb.andThen fun b=>.ok (zo0 a b op)):=by
 have hx:zoJ fa fb j v s=zoz s1 s3 v:=by unfold zoJ;rw [h1,h3]
 rw [hx]
 have hc:(zoz s1 s3 v).code=setA (setA (s3.code++[⟨10,0⟩,⟨11,0⟩]) s1.code.length (s3.code.length+2:Nat)++[⟨1,v⟩]) (s3.code.length+1) (s3.code.length+3:Nat):=by
  simp only [zoz,TS.patch,TS.put,yA,List.length_singleton,List.append_assoc,List.cons_append,List.nil_append,zoi,yB,yL]
 have he:(zoz s1 s3 v).e=s3.e:=rfl;have hn:(zoz s1 s3 v).names=s3.names:=rfl;have hl:(zoz s1 s3 v).locals=s3.locals:=rfl;have hlen:(zoz s1 s3 v).code.length=s3.code.length+3:=by rw [hc];simp [zoi]
 have p1:(s1.put j 0).code.length=s1.code.length+1:=by simp [TS.put_code]
 refine ⟨by rw [hn,hb.names];exact ha.names,by rw [hl,hb.locals];exact ha.locals,?_,?_,?_,?_,?_⟩
 ·have:=ha.le;have:=hb.le;omega
 ·have:=ha.len;have:=hb.len;omega
 ·intro e;have:=ha.keep e;rw [he,hb.keep (by show s1.e≠0;rw [this];exact e)];exact this
 ·intro e c hcc;obtain ⟨a,rfl,h2⟩:=CR.andThen_ok hcc;obtain ⟨b,rfl,h4⟩:=CR.andThen_ok h2;cases h4;obtain ⟨a1,a2⟩:=ha.ok e a rfl;obtain ⟨b1,b2⟩:=hb.ok a1 b rfl;refine ⟨he.trans b1,?_⟩;rw [hc,zsn _ _ _ _ hop,<- a2]
  have b3:s3.code=s1.code++⟨j,0⟩ :: znF (s1.code.length+1:Nat) b:=by
   rw [b2,znB,p1,TS.put_code];simp
  have hl3:s3.code.length=s1.code.length+1+b.length:=by rw [b3];simp [zn8];omega
  rw [hl3,b3,List.append_assoc,List.cons_append,zoM _ _ _ _ rfl];have e1:s1.code++(⟨j,((s1.code.length+1+b.length+2:Nat):Int)⟩:InsS) :: (znF (s1.code.length+1:Nat) b++[⟨10,0⟩,⟨11,0⟩])++[⟨1,v⟩]=(s1.code++(⟨j,((s1.code.length+1+b.length+2:Nat):Int)⟩:InsS) :: (znF (s1.code.length+1:Nat) b++[⟨10,0⟩]))++⟨11,0⟩ :: [⟨1,v⟩]:=by simp
  rw [e1,zoM _ _ _ _ (by simp [zn8];omega),hj,hv];simp
 ·intro e k hk;rw [he]
  cases ra with
  | err k1 =>
   cases hk;have:=ha.bad e k rfl
   rw [hb.keep (by show s1.e≠0;rw [this];exact hea k rfl)];exact this
  | ok a =>
   cases rb with
   | err k2=>cases hk;exact hb.bad (ha.ok e a rfl).1 k rfl
   | ok b=>cases hk
theorem zsh (ns:znU) (op n:Int) (name:List UInt8) (x y:Ex) (h:op=21∨op=22):znV ns (.mk op n name [x,y])=(znV ns x).andThen fun a=>(znV ns y).andThen fun b=>.ok (zo0 a b op):=by
 rw [znV,yN (by omega),yN (by omega),yN (by omega),yN (by omega),znG,znG]
 cases znV ns x with
 | err e=>rfl
 | ok a =>
  cases znV ns y with
  | err e=>rfl
  | ok b =>
   show finE op n [a,b]=.ok (zo0 a b op);simp only [finE];rw [yP h]
theorem fin_eq (op n:Int) (cs:List znA) (h:cs.length=1∨(cs.length=2/\op≠21/\op≠22/\op≠3/\op≠6)):finE op n cs=.ok (znB (znJ cs) [if op=3 then ⟨4,n⟩ else if op=6 then ⟨8,0⟩ else ⟨9,op⟩]):=by
 match cs,h with
 | [a],_=>simp only [finE,znJ,List.foldl_cons,List.foldl_nil,zoQ]
 | [a,b],h =>
  simp at h;simp only [finE,znJ,List.foldl_cons,List.foldl_nil,zoQ];rw [yN (by omega),yN h.2.2.1,yN h.2.2.2]
theorem zoY {α β:Type} {r:CR α} {f g:α->CR β} (h:∀ x,r=.ok x->f x=g x):r.andThen f=r.andThen g:=by
 cases r with
 | ok x=>exact h x rfl
 | err e=>rfl
theorem zsi (ns:znU) (op n:Int) (name:List UInt8) (args:List Ex) (h0:op≠1/\op≠2/\op≠4/\op≠5) (h:args.length=1∨(args.length=2/\op≠21/\op≠22/\op≠3/\op≠6)) :
  znV ns (.mk op n name args)=(znG ns args).andThen fun cs=>.ok (znB (znJ cs) [if op=3 then ⟨4,n⟩ else if op=6 then ⟨8,0⟩ else ⟨9,op⟩]):=by
 rw [znV,yN h0.1,yN h0.2.1,yN h0.2.2.1,yN h0.2.2.2];exact zoY fun cs hcs=>fin_eq op n cs (by rw [(zpA ns args cs hcs).2.2];exact h)
theorem zn6:∀ (xs:List Ex) (s:TS),(∀ x ∈ xs,∀ s:TS,ExpT s (tE x s) (szE x) (znV s.names x))->ExpsT s (tEs xs s) (szEs xs) (znG s.names xs):=by
 intro xs
 induction xs with
 | nil=>intro s _;rw [tEs,znG,szEs];exact ExpsT.nil s
 | cons x r ih =>
  intro s h;rw [tEs,znG,szEs];have h1:=h x (by simp) s;have h2:=ih (tE x s) (fun y hy=>h y (by simp [hy]));rw [h1.names] at h2;exact ExpsT.cons h1 h2 (fun k hk=>by have:=zpB _ _ _ hk;omega)
theorem zs8 (s:TS) (name:List UInt8) (op:Int) (hj:zn5 ⟨op,(zai name s.names 0:Int) - 1⟩=false) (z:Nat) (hz:1<=z) (r:CR znA) (hr:r=if zai name s.names 0=0 then .err 131 else .ok [⟨op,(zai name s.names 0:Int) - 1⟩]) :
  ExpT s ((s.slot name).put op ((zai name s.names 0:Int) - 1)) z r:=by
 subst hr;refine ⟨TS.slot_names _ _,TS.slot_locals _ _,by simp [TS.put_code,TS.slot_code],by simp [TS.put_code,TS.slot_code];omega,fun e=>TS.slot_keep e _,fun e c hc=>?_,fun e k hk=>?_⟩
 ·split at hc
  ·cases hc
  ·cases hc;have h1:s.slot name=s:=by unfold TS.slot;rw [yN ‹_›]
   rw [h1];exact ⟨e,by rw [zpe _ _ hj];rfl⟩
 ·split at hk
  ·cases hk;show (s.slot name).e=131;unfold TS.slot;rw [yP ‹_›];exact TS.fail_new e _
  ·cases hk
theorem zom:∀ (d:Nat) (x:Ex) (s:TS),zbd d x=true->ExpT s (tE x s) (szE x) (znV s.names x):=by
 intro d
 induction d with
 | zero=>intro x s h;cases h
 | succ d ih =>
  intro x s h;obtain ⟨op,n,name,args⟩:=x;rw [zbd,yC,List.all_eq_true] at h;obtain ⟨hh,hall⟩:=h
  have hl:args.length=zb9 op/\1<=op/\op<=24:=by
   unfold zbN at hh;rw [yC,yC,yQ,yQ] at hh;exact ⟨hh.2.1,hh.1⟩
  have hes:=zn6 args s (fun x hx s=>ih x s (hall x hx));rw [tE,szE];by_cases h1:op=1
  ·subst h1;rw [yP rfl,znV,yP rfl];exact ExpT.one s 1 n _ (by omega) rfl
  rw [yN h1];by_cases h2:op=2
  ·subst h2;rw [yP rfl];exact zs8 s name 2 rfl _ (by omega) _ (by rw [znV,yN h1,yP rfl])
  rw [yN h2];by_cases h4:op=4
  ·subst h4;rw [yP rfl,znV,yN h1,yN h2,yP rfl];exact ExpT.one s 6 0 _ (by omega) rfl
  rw [yN h4];by_cases h5:op=5
  ·subst h5;rw [yP rfl,znV,yN h1,yN h2,yN h4,yP rfl];exact ExpT.one s 7 0 _ (by omega) rfl
  rw [yN h5];have more:∀ {s':TS} {z z':Nat} {r:CR znA},ExpT s s' z r->z<=z'->ExpT s s' z' r:=fun hx hz=>⟨hx.names,hx.locals,hx.le,by have:=hx.len;omega,hx.keep,hx.ok,hx.bad⟩
  have two:(op=21∨op=22)->ExpT s (zqA args (12+op - 21) (op - 21) s) (1+name.length / 30+szEs args) (znV s.names (.mk op n name args)):=by
   intro hop;have hm:zb9 op=2:=by unfold zb9;rw [yN (by omega)]
   match args,hl.1,hall with
   | [a,b],_,hall =>
    rw [zsh _ _ _ _ _ _ hop,zqA];have ha:=ih a s (hall a (by simp));have hb:=ih b ((tE a s).put (12+op - 21) 0) (hall b (by simp));rw [show ((tE a s).put (12+op - 21) 0).names=s.names from ha.names] at hb
    exact more (zti (12+op - 21) (op - 21) op hop rfl rfl rfl rfl ha hb (fun k hk=>by have:=zpB _ _ _ hk;omega)) (by simp only [szEs];omega)
   | [],e,_=>rw [hm] at e;cases e
   | [_],e,_=>rw [hm] at e;cases e
   | _ :: _ :: _ :: _,e,_=>rw [hm] at e;simp at e
  by_cases h21:op=21
  ·subst h21;rw [yP rfl];exact two (.inl rfl)
  rw [yN h21];by_cases h22:op=22
  ·subst h22;rw [yP rfl];exact two (.inr rfl)
  rw [yN h22]
  have hmany:args.length=1∨(args.length=2/\op≠21/\op≠22/\op≠3/\op≠6):=by
   rw [hl.1];unfold zb9;by_cases h10:op < 10
   ·rw [yP h10,yN (by omega)];exact .inl rfl
   ·rw [yN h10];exact .inr ⟨rfl,by omega⟩
  have hcf:=zsi s.names op n name args ⟨h1,h2,h4,h5⟩ hmany;by_cases h3:op=3
  ·subst h3;rw [yP rfl];exact more (hes.fin 4 n rfl (by rw [hcf];rfl)) (by omega)
  rw [yN h3];by_cases h6:op=6
  ·subst h6;rw [yP rfl];exact more (hes.fin 8 0 rfl (by rw [hcf];rfl)) (by omega)
  rw [yN h6];exact more (hes.fin 9 op rfl (by rw [hcf,yN h3,yN h6])) (by omega)
structure LisT (s s' : TS) (z : Nat) (r : CR (znA × Nat)) : Prop where
  names : ∃ x, s'.names = s.names ++ x /\ x.length <= z
  inv : s.names.length <= s.locals -> s'.names.length <= s'.locals
  le : s.code.length <= s'.code.length
  len : s'.code.length <= s.code.length + 4 * z
  loc : s'.locals <= max s.locals (s.names.length + z)
  keep : s.e ≠ 0 -> s'.e = s.e
  ok : s.e = 0 -> s.names.length <= s.locals -> ∀ c, r = .ok c -> s'.e = 0 /\ s'.code = znB s.code c.1 /\ s'.locals = max s.locals c.2
  bad : s.e = 0 -> s.names.length <= s.locals -> ∀ k, r = .err k -> s'.e = k
structure StT (s s' : TS) (z : Nat) (mark : znU) (r : CR (znA × Nat)) : Prop where
  names : s'.names = s.names ++ mark
  inv : s.names.length <= s.locals -> s'.names.length <= s'.locals
  le : s.code.length <= s'.code.length
  len : s'.code.length <= s.code.length + 4 * z
  loc : s'.locals <= max s.locals (s.names.length + z)
  keep : s.e ≠ 0 -> s'.e = s.e
  ok : s.e = 0 -> s.names.length <= s.locals -> ∀ c, r = .ok c -> s'.e = 0 /\ s'.code = znB s.code c.1 /\ s'.locals = max s.locals (max c.2 (s.names.length + mark.length))
  bad : s.e = 0 -> s.names.length <= s.locals -> ∀ k, r = .err k -> s'.e = k
theorem zoV (ns:znU):∀ (l:List St) (r:znA × Nat),znQ ns l=.ok r->ns.length<=r.2:=by
 intro l
 induction l generalizing ns with
 | nil=>intro r h;rw [znQ] at h;cases h;exact zr _
 | cons x l ih =>
  intro r h;obtain ⟨op,n,name,es,body,els⟩:=x;rw [znQ] at h;obtain ⟨c,h1,h2⟩:=CR.andThen_ok h;obtain ⟨c',h3,h4⟩:=CR.andThen_ok h2;cases h4;have:=ih _ _ h3;have h5:ns.length<=(if op=1 then ns++[name] else ns).length:=by split <;> simp
  show ns.length<=max c.2 c'.2;omega
theorem LisT.nil (s:TS):LisT s s 0 (znQ s.names []):=by
 rw [znQ];exact ⟨⟨[],by simp,zr _⟩,id,zr _,by omega,by omega,fun _=>rfl,fun h hi c hc=>by cases hc;exact ⟨h,by rw [zo1],by show s.locals=max s.locals s.names.length;omega⟩,fun _ _ k hk=>by cases hk⟩
theorem LisT.cons {s s1 s2:TS} {z1 z2:Nat} {mark:znU} {r1 r2:CR (znA × Nat)} (h:StT s s1 z1 mark r1) (k:LisT s1 s2 z2 r2) (hz:mark.length<=z1) (he:∀ k,r1=.err k->k≠0) (hm:∀ c,r2=.ok c->s.names.length+mark.length<=c.2) :
  LisT s s2 (z1+z2) (r1.andThen fun c=>r2.andThen fun c'=>.ok (znB c.1 c'.1,max c.2 c'.2)):=by
 refine ⟨?_,fun hi=>k.inv (h.inv hi),yT h.le k.le,by have:=h.len;have:=k.len;omega,by have:=h.loc;have:=k.loc;rw [h.names,yA] at this;omega,fun e=>?_,fun e hi c hc=>?_,fun e hi j hj=>?_⟩
 ·obtain ⟨x,hx,hl⟩:=k.names;exact ⟨mark++x,by rw [hx,h.names,List.append_assoc],by simp;omega⟩
 ·have:=h.keep e;rw [k.keep (by rw [this];exact e),this]
 ·obtain ⟨c1,rfl,h2⟩:=CR.andThen_ok hc;obtain ⟨c2,rfl,h4⟩:=CR.andThen_ok h2;cases h4;obtain ⟨a1,a2,a3⟩:=h.ok e hi c1 rfl;obtain ⟨b1,b2,b3⟩:=k.ok a1 (h.inv hi) c2 rfl;refine ⟨b1,by rw [b2,a2,zof],?_⟩;have:=hm c2 rfl;rw [b3,a3];show max (max s.locals (max c1.2 (s.names.length+mark.length))) c2.2=max s.locals (max c1.2 c2.2);omega
 ·cases r1 with
  | err k1 =>
   cases hj;have:=h.bad e hi j rfl
   rw [k.keep (by rw [this];exact he j rfl),this]
  | ok c1 =>
   cases r2 with
   | err k2=>cases hj;exact k.bad (h.ok e hi c1 rfl).1 (h.inv hi) j rfl
   | ok c2=>cases hj
theorem TS.back_names {s s':TS} {x:znU} (h:s'.names=s.names++x):(s'.back s.names.length).names=s.names:=by
 show s'.names.take s.names.length=_;rw [h,List.take_left'];rfl
theorem LisT.block {s s':TS} {z:Nat} {r:CR (znA × Nat)} (h:LisT s s' z r) (hm:∀ c,r=.ok c->s.names.length<=c.2):StT s (s'.back s.names.length) z [] r:=by
 obtain ⟨x,hx,hl⟩:=h.names;have hn:=TS.back_names hx;refine ⟨by rw [hn,List.append_nil],fun hi=>?_,h.le,h.len,h.loc,h.keep,fun e hi c hc=>?_,h.bad⟩
 ·have h1:=h.inv hi;have h2:s.names.length<=s'.names.length:=by rw [hx];simp
  rw [hn];show s.names.length<=s'.locals;omega
 ·obtain ⟨a1,a2,a3⟩:=h.ok e hi c hc;refine ⟨a1,a2,?_⟩;have:=hm c hc;show s'.locals=max s.locals (max c.2 (s.names.length+0));omega
theorem StT.simple {s s1 s2:TS} {z:Nat} {r0:CR (List znA)} (h:ExpsT s s1 z r0) (op a:Int) (hj:zn5 ⟨op,a⟩=false) (hc:s2.code=s1.code) (mark:znU) (hn:s2.names=s1.names++mark) (hl:s2.locals=max s1.locals (if mark=[] then 0 else s1.names.length+mark.length)) (hm:mark.length<=1)
  (b:CR Int) (hk:s1.e≠0->s2.e=s1.e) (hb:s1.e=0->∀ x,b=.ok x->s2.e=0) (hbe:s1.e=0->∀ k,b=.err k->s2.e=k) {r:CR (znA × Nat)} (hr:r=r0.andThen fun cs=>b.andThen fun _=>.ok (znB (znJ cs) [⟨op,a⟩],0)) (he:∀ k,r0=.err k->k≠0) :
  StT s (s2.put op a) (1+z) mark r:=by
 subst hr;have hn1:=h.names;have hl1:=h.locals;refine ⟨?_,?_,?_,?_,?_,?_,?_,?_⟩;rotate_left 4
 ·show s2.locals<=_;rw [hl,hn1,hl1];by_cases hm0:mark=[]
  ·rw [yP hm0];omega
  ·rw [yN hm0];omega
 rotate_left 3
 ·show s2.names=_;rw [hn,hn1]
 ·intro hi;show s2.names.length<=s2.locals;rw [hn,hl,hn1,hl1,yA];by_cases hm0:mark=[]
  ·rw [yP hm0,hm0];simp;exact hi
  ·rw [yN hm0];omega
 ·have:=h.le;simp [TS.put_code,hc];omega
 ·have:=h.len;simp [TS.put_code,hc];omega
 ·intro e;have h1:=h.keep e;show s2.e=_;rw [hk (by rw [h1];exact e),h1]
 ·intro e hi c hcc;obtain ⟨cs,rfl,h2⟩:=CR.andThen_ok hcc;obtain ⟨x,rfl,h4⟩:=CR.andThen_ok h2;cases h4;obtain ⟨a1,a2⟩:=h.ok e cs rfl;refine ⟨hb a1 x rfl,by rw [TS.put_code,hc,a2,<- zof,zpe _ _ hj],?_⟩;show s2.locals=max s.locals (max 0 (s.names.length+mark.length));rw [hl,hn1,hl1];by_cases hm0:mark=[]
  ·rw [yP hm0,hm0];simp;omega
  ·rw [yN hm0];omega
 ·intro e hi k hkk;show s2.e=k
  cases r0 with
  | err k1 =>
   cases hkk;have:=h.bad e k rfl
   rw [hk (by rw [this];exact he k rfl),this]
  | ok cs =>
   cases b with
   | err k2=>cases hkk;exact hbe (h.ok e cs rfl).1 k rfl
   | ok x=>cases hkk
theorem zpi (S O:znA) (i:InsS) (b:znA) (h:zn5 i=true):znB S (O++i :: b)=znB S O++⟨i.op,i.a+S.length⟩ :: znF S.length b:=by
 unfold znB znF;rw [List.map_append,List.map_cons,zoK h,List.append_assoc]
theorem zpj (j k m:Int) (h:j+k=m) (b:znA):znF k (znF j b)=znF m b:=by rw [zp1,h]
theorem zrM (S O b:znA):znB S (zpC O b)=setA (znB (znB S O++[⟨12,0⟩]) b++[⟨11,S.length⟩]) (znB S O).length ((znB S O).length+1+b.length+1:Nat):=by
 have hl:(znB S O).length=S.length+O.length:=znT _ _;unfold zpC;rw [zpi S O ⟨12,_⟩ _ rfl,zpp,zpj _ _ (S.length+O.length+1:Nat) (by omega)];rw [show znF S.length [⟨11,0⟩]=[(⟨11,S.length⟩:InsS)] from by unfold znF;rw [List.map_singleton,zoK rfl,Int.zero_add]]
 have e:znB (znB S O++[⟨12,0⟩]) b=znB S O++⟨12,0⟩ :: znF (S.length+O.length+1:Nat) b:=by
  conv=>lhs;rw [znB]
  rw [yA,hl,List.append_assoc];rfl
 rw [e,List.append_assoc,List.cons_append,zoM _ _ _ _ rfl,hl];congr 2
 congr 1
 dsimp only;omega
theorem ztL (S O b:znA):znB S (ifC O b [] false)=setA (znB (znB S O++[⟨12,0⟩]) b) (znB S O).length ((znB S O).length+1+b.length:Nat):=by
 have hl:(znB S O).length=S.length+O.length:=znT _ _;unfold ifC;rw [yN (by decide),zo1,zpi S O ⟨12,_⟩ _ rfl,zpj _ _ (S.length+O.length+1:Nat) (by omega)]
 have e:znB (znB S O++[⟨12,0⟩]) b=znB S O++⟨12,0⟩ :: znF (S.length+O.length+1:Nat) b:=by
  conv=>lhs;rw [znB]
  rw [yA,hl,List.append_assoc];rfl
 rw [e,zoM _ _ _ _ rfl,hl];congr 2
 congr 1
 dsimp only;omega
theorem zso (S O b o:znA):znB S (ifC O b o true)=setA (znB (setA (znB (znB S O++[⟨12,0⟩]) b++[⟨11,0⟩]) (znB S O).length ((znB S O).length+1+b.length+1:Nat)) o) ((znB S O).length+1+b.length) ((znB S O).length+1+b.length+1+o.length:Nat):=by
 have hl:(znB S O).length=S.length+O.length:=znT _ _;unfold ifC;rw [yP rfl,<- zof,zpi S O ⟨12,_⟩ _ rfl,zpp,zpj _ _ (S.length+O.length+1:Nat) (by omega)]
 have e:znB (znB S O++[⟨12,0⟩]) b=znB S O++⟨12,0⟩ :: znF (S.length+O.length+1:Nat) b:=by
  conv=>lhs;rw [znB]
  rw [yA,hl,List.append_assoc];rfl
 rw [e,List.append_assoc,List.cons_append,zoM _ _ _ _ rfl,hl];rw [show znF S.length [⟨11,(O.length:Int)+1+b.length+1+o.length⟩]=[(⟨11,(O.length:Int)+1+b.length+1+o.length+S.length⟩:InsS)] from by unfold znF;rw [List.map_singleton,zoK rfl]];unfold znB;have e2:∀ (i j:InsS) (x:znA),S++znF S.length O++i :: (x++[j])=(S++znF S.length O++i :: x)++[j]:=by intros;simp
 have e3:∀ (i j:InsS) (x y:znA),((S++znF S.length O++i :: x)++[j])++y=(S++znF S.length O++i :: x)++j :: y:=by intros;simp
 rw [e2,e2,e3,e3,zoM _ _ _ _ (by simp [zn8];omega)];have f1:((S.length+O.length+1+b.length+1:Nat):Int)=(O.length:Int)+1+b.length+1+S.length:=by omega
 have f2:((S.length+O.length+1+b.length+1+o.length:Nat):Int)=(O.length:Int)+1+b.length+1+o.length+S.length:=by omega
 rw [f1,f2];congr 2
 simp [zn8]
theorem zpT {op n:Int} {name:List UInt8} {le lb ll:Nat} (h:zbA op n name le lb ll=true):(1<=op/\op<=7)/\le=zfg op/\(lb=0∨op=4∨op=5)/\(ll=0∨op=4):=by
 unfold zbA at h;simp only [yC,yQ] at h;exact ⟨h.1,h.2.1,h.2.2.2.2.1,h.2.2.2.2.2⟩
theorem znL {α β:Type} {r:CR α} {f:α->CR β} {k:Int} (h:r.andThen f=.err k):r=.err k∨∃ x,r=.ok x/\f x=.err k:=by
 cases r with
 | ok x=>exact .inr ⟨x,rfl,h⟩
 | err e=>exact .inl (by have h':(CR.err e:CR β)=.err k:=h;cases h';rfl)
theorem zsj {s s1 s2:TS} {z0 z2:Nat} {r0:CR (List znA)} {r2:CR (znA × Nat)} (h:ExpsT s s1 z0 r0) (k:LisT (s1.put 12 0) s2 z2 r2) (hm:∀ c,r2=.ok c->s.names.length<=c.2) (he:∀ k,r0=.err k->k≠0) :
  StT s (((s2.back s1.names.length).put 11 s.code.length).patch s1.code.length) (1+z0+z2) [] (r0.andThen fun cs=>r2.andThen fun b=>.ok (zpC (znJ cs) b.1,b.2)):=by
 have hn1:=h.names;have hl1:=h.locals;have K:=k.block (fun c hc=>by show s1.names.length<=_;rw [hn1];exact hm c hc);have p1:(s1.put 12 0).code.length=s1.code.length+1:=by simp [TS.put_code]
 have hlen:∀ (q:TS) (a:Int) (j:Nat),((q.put 11 a).patch j).code.length=q.code.length+1:=fun q a j=>by
  show (setA _ _ _).length=_;rw [zoi];simp [TS.put_code]
 have hcl:(s2.back s1.names.length).code.length=s2.code.length:=rfl;have k1:=K.names;rw [List.append_nil] at k1;refine ⟨?_,?_,?_,?_,?_,?_,?_,?_⟩
 ·show (s2.back s1.names.length).names=s.names++[];rw [List.append_nil,<- hn1];exact k1
 ·intro hi;have:=K.inv (by show s1.names.length<=s1.locals;rw [hn1,hl1];exact hi);exact this
 ·rw [hlen,hcl];have:=h.le;have:=k.le;omega
 ·rw [hlen,hcl];have:=h.len;have:=k.len;omega
 ·have h2:s2.locals<=max s1.locals (s1.names.length+z2):=k.loc;show s2.locals<=_;rw [hn1,hl1] at h2;omega
 ·intro e;have h1:=h.keep e;show s2.e=_;rw [k.keep (by show s1.e≠0;rw [h1];exact e)];exact h1
 ·intro e hi c hc;obtain ⟨cs,rfl,h2⟩:=CR.andThen_ok hc;obtain ⟨b,rfl,h4⟩:=CR.andThen_ok h2;cases h4;obtain ⟨a1,a2⟩:=h.ok e cs rfl;obtain ⟨b1,b2,b3⟩:=k.ok a1 (by show s1.names.length<=s1.locals;rw [hn1,hl1];exact hi) b rfl;refine ⟨b1,?_,?_⟩
  ·rw [zrM,<- a2];show setA (s2.code++[⟨11,s.code.length⟩]) s1.code.length ((s2.code++[(⟨11,(s.code.length:Int)⟩:InsS)]).length:Nat)=_;rw [b2,TS.put_code];congr 2
   simp [znT]
  ·show s2.locals=max s.locals (max b.2 (s.names.length+0));rw [b3];show max s1.locals b.2=_;have:=hm b rfl;rw [hl1];omega
 ·intro e hi j hj;show s2.e=j;rcases znL hj with h1 | ⟨cs,h1,h2⟩
  ·have:=h.bad e j h1;rw [k.keep (by show s1.e≠0;rw [this];exact he j h1)];exact this
  ·rcases znL h2 with h3 | ⟨b,h3,h4⟩
   ·exact k.bad (h.ok e cs h1).1 (by show s1.names.length<=s1.locals;rw [hn1,hl1];exact hi) j h3
   ·cases h4
theorem if_law {s s1 s2:TS} {z0 z2:Nat} {r0:CR (List znA)} {r2:CR (znA × Nat)} (h:ExpsT s s1 z0 r0) (k:LisT (s1.put 12 0) s2 z2 r2) (hm:∀ c,r2=.ok c->s.names.length<=c.2) (he:∀ k,r0=.err k->k≠0) :
  StT s ((s2.back s1.names.length).patch s1.code.length) (1+z0+z2) [] (r0.andThen fun cs=>r2.andThen fun b=>.ok (ifC (znJ cs) b.1 [] false,max b.2 s.names.length)):=by
 have hn1:=h.names;have hl1:=h.locals;have K:=k.block (fun c hc=>by show s1.names.length<=_;rw [hn1];exact hm c hc);have p1:(s1.put 12 0).code.length=s1.code.length+1:=by simp [TS.put_code]
 have hlen:∀ (q:TS) (j:Nat),(q.patch j).code.length=q.code.length:=fun q j=>by
  show (setA _ _ _).length=_;rw [zoi]
 have hcl:(s2.back s1.names.length).code.length=s2.code.length:=rfl;have k1:=K.names;rw [List.append_nil] at k1;refine ⟨?_,?_,?_,?_,?_,?_,?_,?_⟩
 ·show (s2.back s1.names.length).names=s.names++[];rw [List.append_nil,<- hn1];exact k1
 ·intro hi;have:=K.inv (by show s1.names.length<=s1.locals;rw [hn1,hl1];exact hi);exact this
 ·rw [hlen,hcl];have:=h.le;have:=k.le;omega
 ·rw [hlen,hcl];have:=h.len;have:=k.len;omega
 ·have h2:s2.locals<=max s1.locals (s1.names.length+z2):=k.loc;show s2.locals<=_;rw [hn1,hl1] at h2;omega
 ·intro e;have h1:=h.keep e;show s2.e=_;rw [k.keep (by show s1.e≠0;rw [h1];exact e)];exact h1
 ·intro e hi c hc;obtain ⟨cs,rfl,h2⟩:=CR.andThen_ok hc;obtain ⟨b,rfl,h4⟩:=CR.andThen_ok h2;cases h4;obtain ⟨a1,a2⟩:=h.ok e cs rfl;obtain ⟨b1,b2,b3⟩:=k.ok a1 (by show s1.names.length<=s1.locals;rw [hn1,hl1];exact hi) b rfl;refine ⟨b1,?_,?_⟩
  ·rw [ztL,<- a2];show setA s2.code s1.code.length (s2.code.length:Nat)=_;rw [b2,TS.put_code];congr 2
   simp [znT]
  ·show s2.locals=max s.locals (max (max b.2 s.names.length) (s.names.length+0));rw [b3];show max s1.locals b.2=_;have:=hm b rfl;rw [hl1];omega
 ·intro e hi j hj;show s2.e=j;rcases znL hj with h1 | ⟨cs,h1,h2⟩
  ·have:=h.bad e j h1;rw [k.keep (by show s1.e≠0;rw [this];exact he j h1)];exact this
  ·rcases znL h2 with h3 | ⟨b,h3,h4⟩
   ·exact k.bad (h.ok e cs h1).1 (by show s1.names.length<=s1.locals;rw [hn1,hl1];exact hi) j h3
   ·cases h4
theorem zs9 {s s1 s2 s4:TS} {z0 z2 z4:Nat} {r0:CR (List znA)} {r2 r4:CR (znA × Nat)} (h:ExpsT s s1 z0 r0) (k:LisT (s1.put 12 0) s2 z2 r2) (m:LisT (((s2.back s1.names.length).put 11 0).patch s1.code.length) s4 z4 r4) (hm:∀ c,r2=.ok c->s.names.length<=c.2) (hm4:∀ c,r4=.ok c->s.names.length<=c.2) (he:∀ k,r0=.err k->k≠0) (he2:∀ k,r2=.err k->k≠0) :
  StT s ((s4.back s1.names.length).patch s2.code.length) (1+z0+z2+z4) [] (r0.andThen fun cs=>r2.andThen fun b=>r4.andThen fun o=>.ok (ifC (znJ cs) b.1 o.1 true,max b.2 o.2)):=by
 have hn1:=h.names;have hl1:=h.locals;have K:=k.block (fun c hc=>by show s1.names.length<=_;rw [hn1];exact hm c hc)
 have k1:(s2.back s1.names.length).names=s1.names:=by
  have:=K.names;rw [List.append_nil] at this;exact this
 have p1:(s1.put 12 0).code.length=s1.code.length+1:=by simp [TS.put_code]
 have hnd:(((s2.back s1.names.length).put 11 0).patch s1.code.length).names=s1.names:=k1;have M:=m.block (fun c hc=>by rw [hnd,hn1];exact hm4 c hc)
 have hld:(((s2.back s1.names.length).put 11 0).patch s1.code.length).code.length=s2.code.length+1:=by
  show (setA _ _ _).length=_;rw [zoi,TS.put_code];show (s2.code++_).length=_;simp
 have m1:(s4.back s1.names.length).names=s1.names:=by
  have:=M.names;rw [List.append_nil,hnd] at this;exact this
 have hl4:((s4.back s1.names.length).patch s2.code.length).code.length=s4.code.length:=by
  show (setA _ _ _).length=_;rw [zoi];rfl
 refine ⟨?_,?_,?_,?_,?_,?_,?_,?_⟩
 ·show (s4.back s1.names.length).names=s.names++[];rw [List.append_nil,m1,hn1]
 ·intro hi;have h1:=K.inv (by show s1.names.length<=s1.locals;rw [hn1,hl1];exact hi);have h2:=M.inv h1;rw [hnd] at h2;exact h2
 ·rw [hl4];have:=h.le;have:=k.le;have:=m.le;omega
 ·rw [hl4];have:=h.len;have:=k.len;have:=m.len;omega
 ·have h2:s2.locals<=max s1.locals (s1.names.length+z2):=k.loc;have h4:=m.loc;rw [hnd] at h4;have h5:s4.locals<=max s2.locals (s1.names.length+z4):=h4;show s4.locals<=_;rw [hn1] at h2 h5;rw [hl1] at h2;omega
 ·intro e;have h1:=h.keep e;have h2:s2.e=s.e:=by rw [k.keep (by show s1.e≠0;rw [h1];exact e)];exact h1
  show s4.e=_;rw [m.keep (by show s2.e≠0;rw [h2];exact e)];exact h2
 ·intro e hi c hc;obtain ⟨cs,rfl,h2⟩:=CR.andThen_ok hc;obtain ⟨b,rfl,h4⟩:=CR.andThen_ok h2;obtain ⟨o,rfl,h6⟩:=CR.andThen_ok h4;cases h6;obtain ⟨a1,a2⟩:=h.ok e cs rfl;have hi1:(s1.put 12 0).names.length<=(s1.put 12 0).locals:=by show s1.names.length<=s1.locals;rw [hn1,hl1];exact hi
  obtain ⟨b1,b2,b3⟩:=k.ok a1 hi1 b rfl;obtain ⟨c1,c2,c3⟩:=m.ok b1 (K.inv hi1) o rfl;refine ⟨c1,?_,?_⟩
  ·rw [zso,<- a2];show setA s4.code s2.code.length (s4.code.length:Nat)=_;have e2:s2.code=znB (s1.code++[⟨12,0⟩]) b.1:=b2;have e2l:s2.code.length=s1.code.length+1+b.1.length:=by rw [e2,znT];simp
   have e4:s4.code=znB (setA (znB (s1.code++[⟨12,0⟩]) b.1++[⟨11,0⟩]) s1.code.length (s1.code.length+1+b.1.length+1:Nat)) o.1:=by
    rw [c2];show znB (setA (s2.code++[⟨11,0⟩]) s1.code.length ((s2.code++[(⟨11,0⟩:InsS)]).length:Nat)) o.1=_;rw [yA,e2l,e2];rfl
   have e4l:s4.code.length=s1.code.length+1+b.1.length+1+o.1.length:=by
    rw [e4,znT,zoi,yA,<- e2,e2l];rfl
   rw [e4l,e4,e2l]
  ·show s4.locals=max s.locals (max (max b.2 o.2) (s.names.length+0));rw [c3];show max s2.locals o.2=_;rw [b3];show max (max s1.locals b.2) o.2=_;have:=hm b rfl;rw [hl1];omega
 ·intro e hi j hj;have hi1:(s1.put 12 0).names.length<=(s1.put 12 0).locals:=by show s1.names.length<=s1.locals;rw [hn1,hl1];exact hi
  show s4.e=j;rcases znL hj with h1 | ⟨cs,h1,h2⟩
  ·have h5:=h.bad e j h1;have hj0:=he j h1;have h6:s2.e=j:=by rw [k.keep (by show s1.e≠0;rw [h5];exact hj0)];exact h5
   rw [m.keep (by show s2.e≠0;rw [h6];exact hj0)];exact h6
  ·have a1:=(h.ok e cs h1).1;rcases znL h2 with h3 | ⟨b,h3,h4⟩
   ·have h6:=k.bad a1 hi1 j h3;rw [m.keep (by show s2.e≠0;rw [h6];exact he2 j h3)];exact h6
   ·rcases znL h4 with h5 | ⟨o,h5,h6⟩
    ·exact m.bad (k.ok a1 hi1 b h3).1 (K.inv hi1) j h5
    ·cases h6
mutual
theorem zqp (ns:znU):∀ (x:St) (k:Int),zon ns x=.err k->k=131∨k=132∨k=5
 | .mk op n name es body els,k,h=>by
  rw [zon] at h;rcases znL h with h1 | ⟨cs,-,h2⟩
  ·exact .inl (zoZ _ _ _ h1)
  ·split at h2
   ·split at h2
    ·cases h2;exact .inr (.inl rfl)
    ·split at h2
     ·cases h2;exact .inr (.inr rfl)
     ·cases h2
   ·split at h2
    ·split at h2
     ·cases h2;exact .inl rfl
     ·cases h2
    ·split at h2
     ·cases h2
     ·split at h2
      ·cases h2
      ·split at h2
       ·cases h2
       ·rcases znL h2 with h3 | ⟨b,-,h4⟩
        ·exact zoT _ body k h3
        ·split at h4
         ·cases h4
         ·rcases znL h4 with h5 | ⟨o,-,h6⟩
          ·exact zoT _ els k h5
          ·cases h6
theorem zoT (ns:znU):∀ (l:List St) (k:Int),znQ ns l=.err k->k=131∨k=132∨k=5
 | [],k,h=>by rw [znQ] at h;cases h
 | .mk op n name es body els :: r,k,h=>by
  rw [znQ] at h;rcases znL h with h1 | ⟨cs,-,h2⟩
  ·exact zqp ns _ k h1
  ·rcases znL h2 with h3 | ⟨b,-,h4⟩
   ·exact zoT _ r k h3
   ·cases h4
end
def znN (op : Int) (name : List UInt8) : znU := if op = 1 then [name] else []
theorem tS_law (d:Nat) (ih:∀ (l:List St) (s:TS),zaJ d l=true->LisT s (tSs l s) (szSs l) (znQ s.names l)) (op n:Int) (name:List UInt8) (es:List Ex) (body els:List St) (s:TS) (h:zh2 d (.mk op n name es body els)=true) :
  StT s (tS (.mk op n name es body els) s) (szS (.mk op n name es body els)) (znN op name) (zon s.names (.mk op n name es body els)):=by
 unfold zh2 at h;simp only [yC] at h;obtain ⟨⟨hb,hl⟩,hh,hes⟩:=h;obtain ⟨hop,hle,hlb,hll⟩:=zpT hh;have HE:=zn6 es s (fun x hx s=>zom 40 x s (List.all_eq_true.1 hes x hx));have hee:∀ k,znG s.names es=.err k->k≠0:=fun k hk=>by have:=zoZ _ _ _ hk;omega
 have more:∀ {s':TS} {z z':Nat} {mk:znU} {r:CR (znA × Nat)},StT s s' z mk r->z<=z'->StT s s' z' mk r:=fun hx hz=>⟨hx.names,hx.inv,hx.le,by have:=hx.len;omega,by have:=hx.loc;omega,hx.keep,hx.ok,hx.bad⟩
 have hnb:(tEs es s).names=s.names:=HE.names;rw [szS];have h7:op=1∨op=2∨op=3∨op=4∨op=5∨op=6∨op=7:=by omega
 rcases h7 with rfl | rfl | rfl | rfl | rfl | rfl | rfl
 ·rw [show tS (.mk 1 n name es body els) s=((tEs es s).letN name).put 3 (tEs es s).names.length from rfl];refine more (StT.simple (s2:=(tEs es s).letN name) HE 3 _ rfl (TS.letN_code _ _) (znN 1 name) (TS.letN_names _ _) (TS.letN_locals _ _) (by simp [znN]) (if zai name s.names 0≠0 then .err 132 else if 32<=s.names.length then .err 5 else .ok 0) ?_ ?_ ?_ ?_ hee) (by omega)
  ·intro e;rw [TS.letN_e,yP e]
  ·intro e x hx;rw [TS.letN_e,yN (by rw [e];decide),hnb];by_cases h1:zai name s.names 0≠0
   ·rw [yP h1] at hx;cases hx
   ·rw [yN h1] at hx;by_cases h2:32<=s.names.length
    ·rw [yP h2] at hx;cases hx
    ·rw [yN h1,yN h2]
  ·intro e k hk;rw [TS.letN_e,yN (by rw [e];decide),hnb];by_cases h1:zai name s.names 0≠0
   ·rw [yP h1] at hk;cases hk;rw [yP h1]
   ·rw [yN h1] at hk;by_cases h2:32<=s.names.length
    ·rw [yP h2] at hk;cases hk;rw [yN h1,yP h2]
    ·rw [yN h2] at hk;cases hk
  ·rw [zon,hnb];refine zoY fun cs _=>?_
   rw [yP rfl];by_cases h1:zai name s.names 0≠0
   ·rw [yP h1,yP h1];rfl
   ·rw [yN h1,yN h1];by_cases h2:32<=s.names.length
    ·rw [yP h2,yP h2];rfl
    ·rw [yN h2,yN h2];rfl
 ·rw [show tS (.mk 2 n name es body els) s=((tEs es s).slot name).put 3 ((zai name (tEs es s).names 0:Int) - 1) from rfl];refine more (StT.simple (s2:=(tEs es s).slot name) HE 3 _ rfl (TS.slot_code _ _) (znN 2 name) (by rw [TS.slot_names];simp [znN]) (by rw [TS.slot_locals];simp [znN]) (by simp [znN]) (if zai name s.names 0=0 then .err 131 else .ok 0) ?_ ?_ ?_ ?_ hee) (by omega)
  ·intro e;exact TS.slot_keep e _
  ·intro e x hx;by_cases h1:zai name s.names 0=0
   ·rw [yP h1] at hx;cases hx
   ·unfold TS.slot;rw [hnb,yN h1];exact e
  ·intro e k hk;by_cases h1:zai name s.names 0=0
   ·rw [yP h1] at hk;cases hk;unfold TS.slot;rw [hnb,yP h1];exact TS.fail_new e _
   ·rw [yN h1] at hk;cases hk
  ·rw [zon,hnb];refine zoY fun cs _=>?_
   rw [yN (by decide),yP rfl];by_cases h1:zai name s.names 0=0
   ·rw [yP h1,yP h1];rfl
   ·rw [yN h1,yN h1];rfl
 ·rw [show tS (.mk 3 n name es body els) s=(tEs es s).put 5 n from rfl];exact more (StT.simple (s2:=tEs es s) HE 5 n rfl rfl (znN 3 name) (by simp [znN]) (by simp [znN]) (by simp [znN]) (.ok 0) (fun _=>rfl) (fun e _ _=>e) (fun _ k hk=>by cases hk) (by rw [zon];rfl) hee) (by omega)
 ·have HB:=ih body ((tEs es s).put 12 0) hb;rw [show ((tEs es s).put 12 0).names=s.names from hnb] at HB;by_cases hel:els=[]
  ·rw [show tS (.mk 4 n name es body els) s=((tSs body ((tEs es s).put 12 0)).back (tEs es s).names.length).patch (tEs es s).code.length from by rw [tS,yN (by decide),yN (by decide),yN (by decide),yP rfl,yN (by simp [hel])]]
   have e:zon s.names (.mk 4 n name es body els)=(znG s.names es).andThen fun cs=>(znQ s.names body).andThen fun b=>.ok (ifC (znJ cs) b.1 [] false,max b.2 s.names.length):=by
    rw [zon,hel];rfl
   rw [e];exact more (if_law HE HB (fun c hc=>zoV _ _ _ hc) hee) (by omega)
  ·rw [show tS (.mk 4 n name es body els) s=(((tSs els ((((tSs body ((tEs es s).put 12 0)).back (tEs es s).names.length).put 11 0).patch (tEs es s).code.length)).back (tEs es s).names.length)).patch ((tSs body ((tEs es s).put 12 0)).code.length) from by rw [tS,yN (by decide),yN (by decide),yN (by decide),yP rfl,yP hel]]
   have e:zon s.names (.mk 4 n name es body els)=(znG s.names es).andThen fun cs=>(znQ s.names body).andThen fun b=>(znQ s.names els).andThen fun o=>.ok (ifC (znJ cs) b.1 o.1 true,max b.2 o.2):=by
    rw [zon,decide_eq_true hel];rfl
   rw [e];have HL:=ih els ((((tSs body ((tEs es s).put 12 0)).back (tEs es s).names.length).put 11 0).patch (tEs es s).code.length) hl
   have hnd:((((tSs body ((tEs es s).put 12 0)).back (tEs es s).names.length).put 11 0).patch (tEs es s).code.length).names=s.names:=by
    obtain ⟨x,hx,-⟩:=HB.names;have:=TS.back_names hx;rw [show ((tEs es s).put 12 0).names=(tEs es s).names from rfl] at this;rw [<- hnb];exact this
   rw [hnd] at HL;exact more (zs9 HE HB HL (fun c hc=>zoV _ _ _ hc) (fun c hc=>zoV _ _ _ hc) hee (fun k hk=>by have:=zoT _ _ _ hk;omega)) (by omega)
 ·have HB:=ih body ((tEs es s).put 12 0) hb;rw [show ((tEs es s).put 12 0).names=s.names from hnb] at HB;rw [show tS (.mk 5 n name es body els) s=(((tSs body ((tEs es s).put 12 0)).back (tEs es s).names.length).put 11 s.code.length).patch (tEs es s).code.length from rfl]
  have e:zon s.names (.mk 5 n name es body els)=(znG s.names es).andThen fun cs=>(znQ s.names body).andThen fun b=>.ok (zpC (znJ cs) b.1,b.2):=by
   rw [zon];rfl
  rw [e];exact more (zsj HE HB (fun c hc=>zoV _ _ _ hc) hee) (by omega)
 ·have he0:es=[]:=List.eq_nil_of_length_eq_zero hle;subst he0;rw [show tS (.mk 6 n name [] body els) s=(tEs [] s).put 14 0 from rfl];exact more (StT.simple (s2:=tEs [] s) HE 14 0 rfl rfl (znN 6 name) (by simp [znN]) (by simp [znN]) (by simp [znN]) (.ok 0) (fun _=>rfl) (fun e _ _=>e) (fun _ k hk=>by cases hk) (by rw [zon];rfl) hee) (by omega)
 ·have he0:es=[]:=List.eq_nil_of_length_eq_zero hle;subst he0;rw [show tS (.mk 7 n name [] body els) s=(tEs [] s).put 15 0 from rfl];exact more (StT.simple (s2:=tEs [] s) HE 15 0 rfl rfl (znN 7 name) (by simp [znN]) (by simp [znN]) (by simp [znN]) (.ok 0) (fun _=>rfl) (fun e _ _=>e) (fun _ k hk=>by cases hk) (by rw [zon];rfl) hee) (by omega)
theorem zpn:∀ (d:Nat) (l:List St) (s:TS),zaJ d l=true->LisT s (tSs l s) (szSs l) (znQ s.names l):=by
 intro d
 induction d with
 | zero =>
  intro l s h
  have:l=[]:=by
   cases l with
   | nil=>rfl
   | cons x r=>cases h
  subst this
  exact LisT.nil s
 | succ d ih =>
  intro l
  induction l with
  | nil=>intro s _;exact LisT.nil s
  | cons x r ihl =>
   intro s h;rw [zfn,List.all_cons,yC] at h;obtain ⟨op,n,name,es,body,els⟩:=x;have h1:=tS_law d ih op n name es body els s h.1;have h2:=ihl (tS (.mk op n name es body els) s) (by rw [zfn];exact h.2)
   have hn:(tS (.mk op n name es body els) s).names=if op=1 then s.names++[name] else s.names:=by
    rw [h1.names];unfold znN;split
    ·rfl
    ·rw [List.append_nil]
   rw [hn] at h2;rw [tSs,znQ,szSs];refine LisT.cons h1 h2 (by have:=zrp (.mk op n name es body els);unfold znN;split <;> simp;omega) (fun k hk=>by have:=zqp _ _ _ hk;omega) (fun c hc=>?_);have:=zoV _ _ _ hc;unfold znN;split at this
   ·rw [yP ‹_›];simpa using this
   ·rw [yN ‹_›];simpa using this
def zoB (k : Nat) : BitVec 32 := 1#32 <<< k
def IsMask (x : BitVec 32) (f : Nat -> Bool) : Prop := ∀ j, j < 32 -> x.getLsbD j = f j
theorem bit32_get (k j:Nat) (hj:j < 32):(zoB k).getLsbD j=decide (j=k):=by
 unfold zoB;rw [BitVec.getLsbD_shiftLeft];by_cases h:j=k
 ·subst h;simp [hj]
 ·by_cases h2:j < k
  ·simp [hj,h,h2]
  ·have:j - k≠0:=by omega
   simp [hj,h,this]
theorem IsMask.zero:IsMask 0 (fun _=>false):=fun j _=>by simp
theorem IsMask.ext {x y:BitVec 32} {f:Nat->Bool} (h:IsMask x f) (k:IsMask y f):x=y:=BitVec.eq_of_getLsbD_eq fun i hi=>by rw [h i hi,k i hi]
theorem IsMask.of {x:BitVec 32} {f g:Nat->Bool} (h:IsMask x f) (k:∀ j,j < 32->f j=g j):IsMask x g:=fun j hj=>(h j hj).trans (k j hj)
theorem IsMask.or {x y:BitVec 32} {f g:Nat->Bool} (h:IsMask x f) (k:IsMask y g):IsMask (x ||| y) (fun j=>f j || g j):=fun j hj=>by rw [BitVec.getLsbD_or,h j hj,k j hj]
theorem IsMask.bit {x:BitVec 32} {f:Nat->Bool} (h:IsMask x f) (k:Nat):IsMask (x ||| zoB k) (fun j=>f j || decide (j=k)):=h.or fun j hj=>bit32_get k j hj
def hasI (op : Int) (j : Nat) (c : znA) : Bool := c.any fun i => decide (i.op = op /\ i.a = (j : Int))
def zqy (op : Int) (i : InsS) : BitVec 32 := if i.op = op /\ 1 <= i.a /\ i.a <= 31 then zoB i.a.toNat else 0
def znW (op : Int) : znA -> BitVec 32
  | [] => 0
  | i :: c => zqy op i ||| znW op c
def inM (op : Int) (c : znA) (j : Nat) : Bool := decide (1 <= j) && hasI op j c
theorem maskI_is (op:Int) (i:InsS):IsMask (zqy op i) (inM op [i]):=by
 intro j hj;unfold zqy inM hasI;by_cases h:i.op=op/\1<=i.a/\i.a<=31
 ·rw [yP h,bit32_get _ _ hj];obtain ⟨h1,h2,h3⟩:=h;simp only [List.any_cons,List.any_nil,Bool.or_false,h1,true_and];rw [Bool.eq_iff_iff,yC,yQ,yQ,yQ];omega
 ·rw [yN h];simp only [List.any_cons,List.any_nil,Bool.or_false];rw [Bool.eq_iff_iff,yC,yQ,yQ];constructor
  ·intro e;simp at e
  ·rintro ⟨h1,h2,h3⟩;exact absurd ⟨h2,by omega,by omega⟩ h
theorem hasI_app (op:Int) (j:Nat) (a b:znA):hasI op j (a++b)=(hasI op j a || hasI op j b):=List.any_append
theorem inM_app (op:Int) (a b:znA) (j:Nat):inM op (a++b) j=(inM op a j || inM op b j):=by unfold inM;rw [hasI_app,Bool.and_or_distrib_left]
theorem maskC_is (op:Int) (c:znA):IsMask (znW op c) (inM op c):=by
 induction c with
 | nil=>exact IsMask.zero.of fun j _=>by simp [inM,hasI]
 | cons i c ih=>exact ((maskI_is op i).or ih).of fun j _=>(inM_app op [i] c j).symm
theorem maskC_app (op:Int) (a b:znA):znW op (a++b)=znW op a ||| znW op b:=
 (maskC_is op (a++b)).ext (((maskC_is op a).or (maskC_is op b)).of fun j _=>(inM_app op a b j).symm)
theorem maskC_shift (op:Int) (hop:op=4∨op=5) (m:Int) (c:znA):znW op (znF m c)=znW op c:=by
 induction c with
 | nil=>rfl
 | cons i c ih =>
  show zqy op (znK m i) ||| znW op (znF m c)=_;rw [ih];congr 1
  unfold znK;by_cases h:zn5 i=true
  ·rw [yP h];unfold zn5 at h;rw [yQ] at h;unfold zqy;show (if i.op=op/\_ then _ else _)=_;rw [yN (by omega),yN (by omega)]
  ·rw [yN h]
theorem maskC_join (op:Int) (hop:op=4∨op=5) (a b:znA):znW op (znB a b)=znW op a ||| znW op b:=by rw [znB,maskC_app,maskC_shift op hop]
def atM (op : Int) (c : znA) (k i : Nat) (j : Nat) : Bool := (decide (1 <= j /\ j < k) && hasI op j c) || (decide (j = k) && hasI op j (c.take i))
theorem atM_start (op:Int) (c:znA) (j:Nat):atM op c 1 0 j=false:=by
 unfold atM;rw [show decide (1<=j/\j < 1)=false from by rw [decide_eq_false_iff_not];omega];simp [hasI]
theorem atM_next (op:Int) (c:znA) (k:Nat) (hk:1<=k) (j:Nat):atM op c k c.length j=atM op c (k+1) 0 j:=by
 unfold atM;rw [List.take_length,List.take_zero,show hasI op j []=false from rfl,Bool.and_false,Bool.or_false,<- Bool.and_or_distrib_right];congr 1
 rw [Bool.eq_iff_iff,Bool.or_eq_true,yQ,yQ,yQ];omega
theorem atM_end (op:Int) (c:znA) (j:Nat) (hj:j < 32):atM op c 32 0 j=inM op c j:=by
 unfold atM inM;rw [List.take_zero,show hasI op j []=false from rfl,Bool.and_false,Bool.or_false];congr 1
 rw [Bool.eq_iff_iff,yQ,yQ];omega
theorem atM_step (op:Int) (c:znA) (k i:Nat) (hi:i < c.length) (j:Nat):atM op c k (i+1) j=(atM op c k i j || (decide (c[i].op=op/\c[i].a=(k:Int)) && decide (j=k))):=by
 unfold atM;rw [List.take_succ_eq_append_getElem hi,hasI_app,Bool.and_or_distrib_left,<- Bool.or_assoc];congr 1
 unfold hasI;simp only [List.any_cons,List.any_nil,Bool.or_false];by_cases h:j=k
 ·subst h;simp
 ·simp [h]
theorem atM_yes {op:Int} {c:znA} {k i:Nat} (hi:i < c.length) (h:c[i].op=op/\c[i].a=(k:Int)) {x:BitVec 32} (hx:IsMask x (atM op c k i)):IsMask (x ||| zoB k) (atM op c k (i+1)):=
 (hx.bit k).of fun j _=>by rw [atM_step op c k i hi,decide_eq_true h,Bool.true_and]
theorem atM_no {op:Int} {c:znA} {k i:Nat} (hi:i < c.length) (h:¬ (c[i].op=op/\c[i].a=(k:Int))) {x:BitVec 32} (hx:IsMask x (atM op c k i)):IsMask x (atM op c k (i+1)):=
 hx.of fun j _=>by rw [atM_step op c k i hi,decide_eq_false h,Bool.false_and,Bool.or_false]
theorem zrm {k:Nat} (hk:k < 32):IntKind.u32.wrap (2 ^ k)=w32 (zoB k):=by
 unfold w32 zoB;rw [BitVec.toNat_shiftLeft,BitVec.toNat_ofNat,Nat.shiftLeft_eq];have h:(2:Nat) ^ k < 2 ^ 32:=Nat.pow_lt_pow_right (by decide) hk;rw [show 1 % 2 ^ 32 * 2 ^ k=2 ^ k from by simp,Nat.mod_eq_of_lt h];have h2:((2:Int) ^ k)=((2 ^ k:Nat):Int):=by norm_cast
 rw [h2]
 generalize 2 ^ k=m at *
 simp [IntKind.wrap,IntKind.bits,IntKind.signed];omega
end Go.Proofs.Ytdeneckmoejcfaa
