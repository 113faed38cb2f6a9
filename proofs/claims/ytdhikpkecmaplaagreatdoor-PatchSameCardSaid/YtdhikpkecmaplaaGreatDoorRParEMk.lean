/- The reference parser's inside, walked. -/
import Derived.Test.YtdhikpkecmaplaaGreatDoorLexMMk
import Derived.Test.YtdhikpkecmaplaaGreatDoorOnlyMk
import Derived.Test.YtdhikpkecmaplaaGreatDoorParOkMk
import Derived.Test.YtdhikpkecmaplaaGreatDoorRegion10Mk
import Derived.Deep.Cut
set_option linter.unusedSimpArgs false
set_option linter.unusedVariables false
namespace Go.Proofs.YtdhikpkecmaplaaGreatDoor
open Go.RowKit

theorem zbx:(Tryz.prog.info? 193).map (fun i=>(i.zero,i.size,i.bytes))=some (some (.agg #[.int .u8 0,.int .i64 0,.string ByteArray.empty,.slice none 0 0]),4,56):=by kernel_rfl
theorem ExsC.set {w:World} {P:Nat->Prop} {xs:List Ex} {cs:List Value} (h:ExsC w P xs cs) {b o:Nat} {v:Value} (hP:¬ P b):ExsC (w.setCell ⟨b,o,none⟩ v) P xs cs:=
 h.grown (⟨rfl,rfl,rfl,by have:=((yR 0 w).setCell (p:=⟨b,o,none⟩) (Nat.zero_le _) v).size;exact this,fun k _ hne=>Below.heap_setCell w _ v k (fun e=>hne (by rw [e]))⟩:w.grownBy (w.setCell ⟨b,o,none⟩ v) (some b)) (fun g e=>by cases e;exact hP)
theorem opened (w:World) (X Y:List Value) (tX tY:TypeId):∃ W0,W0=(w.alloc (.cells X.toArray tX)).alloc (.cells Y.toArray tY)/\Below w.heap.size w W0/\OwnV W0 w.heap.size tX X/\OwnV W0 (w.heap.size+1) tY Y/\w.heap.size+2<=W0.heap.size:=by
 refine ⟨_,rfl,((yR _ _).alloc (zr _) _).alloc (by simp) _,(OwnV.new w tX X).alloc _,?_,by simp⟩;have:=OwnV.new (w.alloc (.cells X.toArray tX)) tY Y;simpa using this
def zeroE : List Value := [.int .u8 0, .int .i64 0, .string { data := #[] }, .slice none 0 0]
theorem zal (l:List UInt8) (s:List UInt8):((bstr l).toList == s)=decide (l=s):=by
 rw [Bool.eq_iff_iff,beq_iff_eq,yQ,ByteArray.toList_eq,zdn]
def zb9 (op : Int) : Nat := if op < 10 then (if op = 1 ∨ op = 2 ∨ op = 4 ∨ op = 5 then 0 else 1) else 2
def zbN (op n : Int) (name : List UInt8) (len : Nat) : Bool :=
  decide (1 <= op /\ op <= 24) && (decide (len = zb9 op) && ((if op = 2 then zaP name else decide (name = [])) && (if op = 1 then decide (0 <= n) else if op = 3 then decide (1 <= n /\ n <= 10) else decide (n = 0))))
def zbd : Nat -> Ex -> Bool
  | 0, _ => false
  | d + 1, .mk op n name args => zbN op n name args.length && args.all (zbd d)
def zfg (op : Int) : Nat := if op = 3 then 2 else if 5 < op then 0 else 1
def zbA (op n : Int) (name : List UInt8) (le lb ll : Nat) : Bool :=
  decide (1 <= op /\ op <= 7) && (decide (le = zfg op) && ((if op <= 2 then zaP name else decide (name = [])) && ((if op = 3 then decide (1 <= n /\ n <= 10) else decide (n = 0)) && (decide (lb = 0 ∨ op = 4 ∨ op = 5) && decide (ll = 0 ∨ op = 4)))))
def zaJ : Nat -> List St -> Bool
  | 0, l => l.isEmpty
  | d + 1, l => l.all fun s => match s with
    | .mk op n name es body els => (zaJ d body && zaJ d els) && (zbA op n name es.length body.length els.length && es.all (zbd 40))
def zh2 (d : Nat) : St -> Bool
  | .mk op n name es body els => (zaJ d body && zaJ d els) && (zbA op n name es.length body.length els.length && es.all (zbd 40))
theorem zfn (d:Nat) (l:List St):zaJ (d+1) l=l.all (zh2 d):=by
 rw [zaJ];try rfl
def zbH (op : Int) : Int := if 1 <= op /\ op <= 24 then (zb9 op : Int) else -1
theorem zl9:zaP []=false:=by decide +kernel
theorem zk2 (op n:Int) (name:List UInt8) (len:Nat):zbN op n name len=(decide (zbH op=(len:Int)) && (((op == 2) == decide (name≠[])) && ((decide (name=[]) || zaP name) && (if op=1 then decide (0<=n) else if op=3 then decide (1<=n/\n<=10) else decide (n=0))))):=by
 unfold zbN zbH;by_cases h:1<=op/\op<=24
 ·rw [decide_eq_true h,Bool.true_and,yP h]
  have e:decide ((zb9 op:Int)=(len:Int))=decide (len=zb9 op):=by
   rw [Bool.eq_iff_iff,yQ,yQ];omega
  rw [e];congr 1
  by_cases h2:op=2
  ·have e2:(op == 2)=true:=by simp [h2]
   rw [yP h2,e2];by_cases hn:name=[]
   ·rw [hn,zl9];simp
   ·simp [hn]
  ·have e2:(op == 2)=false:=by simp [h2]
   rw [yN h2,e2];by_cases hn:name=[]
   ·simp [hn]
   ·simp [hn]
 ·rw [decide_eq_false h,Bool.false_and,yN h,decide_eq_false (by omega),Bool.false_and]
theorem zk3 (op n:Int) (name:List UInt8) (le lb ll:Nat) (h:¬ (1<=op/\op<=7)):zbA op n name le lb ll=false:=by
 unfold zbA;rw [decide_eq_false h,Bool.false_and]

theorem str_nil {l:List UInt8}:(bstr l).toList=[] ↔ l=[]:=by
 have:=zal l [];rw [Bool.eq_iff_iff,beq_iff_eq,yQ] at this;exact this
def zbe (q : Bool) (w : World) (e : Ending) (w' : World) : Prop := e = .returned (.bool q) /\ Below w.heap.size w w'
structure InsS where
  op : Int
  a : Int
abbrev znU := List (List UInt8)
abbrev znA := List InsS
def zn5 (i : InsS) : Bool := decide (11 <= i.op /\ i.op <= 13)
def znK (k : Int) (i : InsS) : InsS := if zn5 i = true then ⟨i.op, i.a + k⟩ else i
def znF (k : Int) (c : znA) : znA := c.map (znK k)
def znB (a b : znA) : znA := a ++ znF a.length b
def zo0 (a b : znA) (op : Int) : znA := znB a (⟨12 + op - 21, b.length + 3⟩ :: (znF 1 b ++ [⟨10, 0⟩, ⟨11, b.length + 4⟩, ⟨1, op - 21⟩]))
inductive CR (α : Type) where
  | ok (x : α)
  | err (e : Int)
def CR.andThen {α β : Type} (r : CR α) (f : α -> CR β) : CR β :=
  match r with
  | .ok x => f x
  | .err e => .err e
def finE (op n : Int) : List znA -> CR znA
  | [a] => .ok (znB a [if op = 3 then ⟨4, n⟩ else if op = 6 then ⟨8, 0⟩ else ⟨9, op⟩])
  | [a, b] => .ok (if op = 21 ∨ op = 22 then zo0 a b op else znB (znB a b) [⟨9, op⟩])
  | _ => .ok []
mutual
def znV (ns : znU) : Ex -> CR znA
  | .mk op n name args =>
    if op = 1 then .ok [⟨1, n⟩]
    else if op = 2 then (if zai name ns 0 = 0 then .err 131 else .ok [⟨2, (zai name ns 0 : Int) - 1⟩])
    else if op = 4 then .ok [⟨6, 0⟩]
    else if op = 5 then .ok [⟨7, 0⟩]
    else (znG ns args).andThen fun cs => finE op n cs
def znG (ns : znU) : List Ex -> CR (List znA)
  | [] => .ok []
  | x :: r => (znV ns x).andThen fun c => (znG ns r).andThen fun cs => .ok (c :: cs)
end
def znJ (cs : List znA) : znA := cs.foldl znB []
def zpC (out b : znA) : znA := out ++ (⟨12, out.length + 1 + b.length + 1⟩ :: (znF (out.length + 1) b ++ [⟨11, 0⟩]))
def ifC (out b o : znA) (el : Bool) : znA :=
  if el = true then znB (out ++ (⟨12, out.length + 1 + b.length + 1⟩ :: (znF (out.length + 1) b ++ [⟨11, out.length + 1 + b.length + 1 + o.length⟩]))) o
  else znB (out ++ (⟨12, out.length + 1 + b.length⟩ :: znF (out.length + 1) b)) o
mutual
def zon (ns : znU) : St -> CR (znA × Nat)
  | .mk op n name es body els => (znG ns es).andThen fun cs =>
    if op = 1 then (if zai name ns 0 ≠ 0 then .err 132 else if 32 <= ns.length then .err 5 else .ok (znB (znJ cs) [⟨3, ns.length⟩], 0))
    else if op = 2 then (if zai name ns 0 = 0 then .err 131 else .ok (znB (znJ cs) [⟨3, (zai name ns 0 : Int) - 1⟩], 0))
    else if op = 3 then .ok (znB (znJ cs) [⟨5, n⟩], 0)
    else if op = 6 then .ok ([⟨14, 0⟩], 0)
    else if op = 7 then .ok ([⟨15, 0⟩], 0)
    else (znQ ns body).andThen fun b =>
      if op = 5 then .ok (zpC (znJ cs) b.1, b.2)
      else (znQ ns els).andThen fun o => .ok (ifC (znJ cs) b.1 o.1 (decide (els ≠ [])), max b.2 o.2)
def znQ (ns : znU) : List St -> CR (znA × Nat)
  | [] => .ok ([], ns.length)
  | .mk op n name es body els :: r => (zon ns (.mk op n name es body els)).andThen fun c => (znQ (if op = 1 then ns ++ [name] else ns) r).andThen fun c' => .ok (znB c.1 c'.1, max c.2 c'.2)
end
theorem zn8 (k:Int) (c:znA):(znF k c).length=c.length:=by simp [znF]
theorem znT (a b:znA):(znB a b).length=a.length+b.length:=by simp [znB,zn8]
theorem zrU (k:Int) (i:InsS):(znK k i).op=i.op:=by unfold znK;split <;> rfl
theorem zpO (k:Int) (i:InsS):zn5 (znK k i)=zn5 i:=by unfold zn5;rw [zrU]
theorem zp0 (k m:Int) (i:InsS):znK k (znK m i)=znK (m+k) i:=by
 have h:=zpO m i
 unfold znK at *
 by_cases hj:zn5 i=true
 ·simp only [hj,if_true] at h ⊢;rw [yP h,Int.add_assoc]
 ·simp only [hj] at h ⊢;simp [hj]
theorem zqZ (i:InsS):znK 0 i=i:=by
 unfold znK;split
 ·rw [Int.add_zero]
 ·rfl
theorem zp1 (k m:Int) (c:znA):znF k (znF m c)=znF (m+k) c:=by
 unfold znF;rw [List.map_map];congr 1
 funext i
 exact zp0 k m i
theorem zq0 (c:znA):znF 0 c=c:=by
 unfold znF;rw [show znK 0=id from funext zqZ,List.map_id]
theorem zpp (k:Int) (a b:znA):znF k (a++b)=znF k a++znF k b:=by simp [znF]
theorem zoQ (a:znA):znB [] a=a:=by
 unfold znB;exact zq0 a
theorem zo1 (a:znA):znB a []=a:=by simp [znB,znF]
theorem zof (a b c:znA):znB (znB a b) c=znB a (znB b c):=by
 unfold znB;rw [zpp,zp1,List.append_assoc,yA,zn8];congr 3
 omega
def jOk (c : znA) : Prop := ∀ i ∈ c, zn5 i = true -> 0 <= i.a /\ i.a <= c.length
theorem zqh {c:znA} {k m:Nat} (h:jOk c) (hm:c.length+k<=m):∀ i ∈ znF k c,zn5 i=true->0<=i.a/\i.a<=m:=by
 intro i hi hj;unfold znF at hi;obtain ⟨x,hx,rfl⟩:=List.mem_map.1 hi;rw [zpO] at hj;have:=h x hx hj;unfold znK;rw [yP hj];show 0<=x.a+k/\x.a+k<=m;omega
theorem zpo {a b:znA} (ha:jOk a) (hb:jOk b):jOk (znB a b):=by
 intro i hi hj;rw [znT];unfold znB at hi;rcases List.mem_append.1 hi with hi | hi
 ·have:=ha i hi hj;omega
 ·exact zqh hb (by omega) i hi hj
theorem zo3 {i:InsS} (h:zn5 i=false):jOk [i]:=by
 intro x hx hj;rw [List.mem_singleton] at hx;rw [hx,h] at hj;cases hj
theorem zrl:jOk []:=fun i hi=>by simp at hi
theorem zsz {a b:znA} {op:Int} (ha:jOk a) (hb:jOk b):jOk (zo0 a b op):=by
 refine zpo ha ?_;intro i hi hj;simp only [yB,yA,zn8,yL];rcases List.mem_cons.1 hi with rfl | hi
 ·show 0<=(b.length:Int)+3/\(b.length:Int)+3<=_;omega
 ·rcases List.mem_append.1 hi with hi | hi
  ·exact zqh (k:=1) hb (by omega) i hi hj
  ·simp only [List.mem_cons,List.not_mem_nil,or_false] at hi;rcases hi with rfl | rfl | rfl
   ·cases hj
   ·show 0<=(b.length:Int)+4/\(b.length:Int)+4<=_;omega
   ·cases hj
theorem zrT (a b:znA) (op:Int):(zo0 a b op).length=a.length+b.length+4:=by
 unfold zo0;rw [znT];simp only [yB,yA,zn8,yL];omega
def zo5 (cs : List znA) : Nat := (cs.map List.length).foldr (· + ·) 0
theorem zty {op n:Int} {cs:List znA} {c:znA} (h:finE op n cs=.ok c) (hcs:∀ x ∈ cs,jOk x):jOk c/\c.length<=zo5 cs+4:=by
 match cs,h,hcs with
 | [],h,_=>simp only [finE,CR.ok.injEq] at h;subst h;exact ⟨zrl,by simp⟩
 | [a],h,hcs =>
  simp only [finE,CR.ok.injEq] at h;subst h;refine ⟨zpo (hcs a (by simp)) (zo3 ?_),?_⟩
  ·split
   ·rfl
   ·split <;> rfl
  ·rw [znT];simp [zo5]
 | [a,b],h,hcs =>
  simp only [finE,CR.ok.injEq] at h;subst h;split
  ·exact ⟨zsz (hcs a (by simp)) (hcs b (by simp)),by rw [zrT];simp [zo5]⟩
  ·exact ⟨zpo (zpo (hcs a (by simp)) (hcs b (by simp))) (zo3 rfl),by rw [znT,znT];simp [zo5]⟩
 | a :: b :: c' :: r,h,_=>simp only [finE,CR.ok.injEq] at h;subst h;exact ⟨zrl,by simp⟩
theorem CR.andThen_ok {α β:Type} {r:CR α} {f:α->CR β} {y:β} (h:r.andThen f=.ok y):∃ x,r=.ok x/\f x=.ok y:=by
 cases r with
 | ok x=>exact ⟨x,rfl,h⟩
 | err e=>cases h
mutual
theorem zsA (ns:znU):∀ (x:Ex) (c:znA),znV ns x=.ok c->jOk c/\c.length<=4 * szE x
 | .mk op n name args,c,h=>by
  unfold znV at h;rw [szE];split at h
  ·cases h;exact ⟨zo3 rfl,by simp;omega⟩
  ·split at h
   ·split at h
    ·cases h
    ·cases h;exact ⟨zo3 rfl,by simp;omega⟩
   ·split at h
    ·cases h;exact ⟨zo3 rfl,by simp;omega⟩
    ·split at h
     ·cases h;exact ⟨zo3 rfl,by simp;omega⟩
     ·obtain ⟨cs,h1,h2⟩:=CR.andThen_ok h;obtain ⟨h3,h4,_⟩:=zpA ns args cs h1;obtain ⟨h5,h6⟩:=zty h2 h3;exact ⟨h5,by omega⟩
theorem zpA (ns:znU):∀ (xs:List Ex) (cs:List znA),znG ns xs=.ok cs->(∀ c ∈ cs,jOk c)/\zo5 cs<=4 * szEs xs/\cs.length=xs.length
 | [],cs,h=>by
  simp only [znG,CR.ok.injEq] at h;subst h
  exact ⟨by simp,by simp [zo5],rfl⟩
 | x :: r,cs,h=>by
  unfold znG at h;obtain ⟨c,h1,h2⟩:=CR.andThen_ok h;obtain ⟨cs',h3,h4⟩:=CR.andThen_ok h2;cases h4;obtain ⟨a1,a2⟩:=zsA ns x c h1;obtain ⟨b1,b2,b3⟩:=zpA ns r cs' h3;refine ⟨?_,?_,by simp [b3]⟩
  ·intro y hy;rcases List.mem_cons.1 hy with rfl | hy
   ·exact a1
   ·exact b1 y hy
  ·rw [szEs];show c.length+zo5 cs'<=_;omega
end
mutual
theorem zpB (ns:znU):∀ (x:Ex) (e:Int),znV ns x=.err e->e=131
 | .mk op n name args,e,h=>by
  unfold znV at h;split at h
  ·cases h
  ·split at h
   ·split at h
    ·cases h;rfl
    ·cases h
   ·split at h
    ·cases h
    ·split at h
     ·cases h
     ·cases hc:znG ns args with
      | ok cs =>
       rw [hc] at h
       match cs,h with
       | [],h=>cases h
       | [a],h=>cases h
       | [a,b],h=>cases h
       | a :: b :: c' :: r,h=>cases h
      | err e' =>
       rw [hc] at h;cases h;exact zoZ ns args e hc
theorem zoZ (ns:znU):∀ (xs:List Ex) (e:Int),znG ns xs=.err e->e=131
 | [],e,h=>by cases h
 | x :: r,e,h=>by
  unfold znG at h
  cases hc:znV ns x with
  | ok c =>
   rw [hc] at h
   cases hr:znG ns r with
   | ok cs=>rw [show (CR.ok c).andThen (fun c=>(znG ns r).andThen fun cs=>.ok (c :: cs))=(znG ns r).andThen fun cs=>.ok (c :: cs) from rfl,hr] at h;cases h
   | err e' =>
    rw [show (CR.ok c).andThen (fun c=>(znG ns r).andThen fun cs=>.ok (c :: cs))=(znG ns r).andThen fun cs=>.ok (c :: cs) from rfl,hr] at h;cases h
    exact zoZ ns r e hr
  | err e' =>
   rw [hc] at h;cases h;exact zpB ns x e hc
end
def zoB (k : Nat) : BitVec 32 := 1#32 <<< k
def IsMask (x : BitVec 32) (f : Nat -> Bool) : Prop := ∀ j, j < 32 -> x.getLsbD j = f j
theorem IsMask.zero:IsMask 0 (fun _=>false):=fun j _=>by simp
theorem IsMask.ext {x y:BitVec 32} {f:Nat->Bool} (h:IsMask x f) (k:IsMask y f):x=y:=BitVec.eq_of_getLsbD_eq fun i hi=>by rw [h i hi,k i hi]
theorem IsMask.of {x:BitVec 32} {f g:Nat->Bool} (h:IsMask x f) (k:∀ j,j < 32->f j=g j):IsMask x g:=fun j hj=>(h j hj).trans (k j hj)
theorem IsMask.or {x y:BitVec 32} {f g:Nat->Bool} (h:IsMask x f) (k:IsMask y g):IsMask (x ||| y) (fun j=>f j || g j):=fun j hj=>by rw [BitVec.getLsbD_or,h j hj,k j hj]
def zqy (op : Int) (i : InsS) : BitVec 32 := if i.op = op /\ 1 <= i.a /\ i.a <= 31 then zoB i.a.toNat else 0
def znW (op : Int) : znA -> BitVec 32
  | [] => 0
  | i :: c => zqy op i ||| znW op c
theorem zrm {k:Nat} (hk:k < 32):IntKind.u32.wrap (2 ^ k)=w32 (zoB k):=by
 unfold w32 zoB;rw [BitVec.toNat_shiftLeft,BitVec.toNat_ofNat,Nat.shiftLeft_eq];have h:(2:Nat) ^ k < 2 ^ 32:=Nat.pow_lt_pow_right (by decide) hk;rw [show 1 % 2 ^ 32 * 2 ^ k=2 ^ k from by simp,Nat.mod_eq_of_lt h];have h2:((2:Int) ^ k)=((2 ^ k:Nat):Int):=by norm_cast
 rw [h2]
 generalize 2 ^ k=m at *
 simp [IntKind.wrap,IntKind.bits,IntKind.signed];omega

theorem zcT {l:List Tok} {i:Nat} {s:List UInt8} (h:isS l i s=true):(zaa l i).kind≠4/\(zaa l i).text=s:=by
 unfold isS at h;simpa [yC] using h
theorem zb7 {w:World} {g:Nat} {e:TypeId} {cs:List Value} (h:OwnV w g e cs) {sz n cap:Nat} (hl:cs.length=n * sz) (hn:n<=cap) (hm:cap<=9223372036854775807):Sl w sz n cs (.slice (some ⟨g,0,none⟩) n cap):=by
 refine ⟨_,_,rfl,hn,hm,hl,fun _=>⟨g,0,rfl,fun j hj=>?_⟩⟩;rw [Nat.zero_add,yD (by omega)];exact h.cell (yD _)
theorem zaY (w:World) (b o:Nat) (v:Value):w.grownBy (w.setCell ⟨b,o,none⟩ v) (some b):=
 ⟨rfl,rfl,rfl,by have:=((yR 0 w).setCell (p:=⟨b,o,none⟩) (Nat.zero_le _) v).size;exact this,fun k _ hne=>Below.heap_setCell w _ v k (fun e=>hne (by rw [e]))⟩
theorem zbc {a b c:World} {r:Option Nat} (h:a.grownBy b r) (k:b.grownBy c r):a.grownBy c r:=
 ⟨k.os.trans h.os,k.tape.trans h.tape,k.output.trans h.output,yT h.size k.size,fun i hi hne=>(k.block i (by have:=h.size;omega) hne).trans (h.block i hi hne)⟩
theorem set4 {W:World} {g:Nat} {e:TypeId} {a b c d:Value} (h:OwnV W g e [a,b,c,d]) (v0 v1 v2 v3:Value) :
  ∃ W',W'=(((W.setCell ⟨g,0,none⟩ v0).setCell ⟨g,1,none⟩ v1).setCell ⟨g,2,none⟩ v2).setCell ⟨g,3,none⟩ v3/\OwnV W' g e [v0,v1,v2,v3]/\W.grownBy W' (some g):=
 ⟨_,rfl,(((h.set 0 v0).set 1 v1).set 2 v2).set 3 v3,zbc (zbc (zbc (zaY _ _ _ _) (zaY _ _ _ _)) (zaY _ _ _ _)) (zaY _ _ _ _)⟩
theorem zbz {a b:World} {g B:Nat} (h:a.grownBy b (some g)) (hB:B<=g) (hs:B<=a.heap.size):Below B a b:=⟨h.os,h.tape,h.output,h.size,fun k hk=>h.block k (by omega) (fun e=>by cases e;omega)⟩
theorem zjJ {w4 W5 W6:World} {bx g2 m:Nat} {op:Int} {xs:List Ex} {cs:List Value} (hlow:Below w4.heap.size w4 W5) (hO:OwnV W5 g2 193 cs) (hX:ExsC w4 (fun g=>m<=g/\g≠bx) xs cs) (hg:m<=g2) (hne:g2≠bx) (hlen:xs.length<=1000) (hgr:W5.grownBy W6 (some bx)) :
  ExsC W6 (fun g=>m<=g/\g≠bx) [.mk op 0 [] xs] [.int .u8 op,.int .i64 0,.string { data:=#[] },.slice (some ⟨g2,0,none⟩) xs.length xs.length]:=by
 have h1:ExsC W5 (fun g=>m<=g/\g≠bx) [.mk op 0 [] xs] [.int .u8 op,.int .i64 0,.string (bstr []),.slice (some ⟨g2,0,none⟩) xs.length xs.length]:=
  ExsC.cons (zb7 hO hX.len (zr _) (by omega)) (.inr fun g h=>by cases h;exact ⟨hg,hne⟩) (hX.under hlow (zr _)) ExsC.nil
 exact h1.grown hgr (fun g e h=>by cases e;exact h.2 rfl)

def zb5 (l : List Tok) (i : Nat) (w w' : World) (e : Ending) : PR St -> Prop
  | .ok x j => ∃ v, e = .returned (.tuple #[v, .int .i64 j, .int .i64 0]) /\ StV w' (fun g => w.heap.size <= g) x v /\ i < j /\ j < l.length
  | .err a c => ∃ (op n : Int) (nm : ByteArray) (a1 a2 a3 : Option Addr) (m1 m2 m3 c1 c2 c3 : Nat), e = .returned (.tuple #[.agg #[.int .u8 op, .int .i64 n, .string nm, .slice a1 m1 c1, .slice a2 m2 c2, .slice a3 m3 c3], .int .i64 a, .int .i64 c]) /\ (c = 120 ∨ c = 121) /\ a < l.length
def StmtC (l : List Tok) (S : Nat -> Nat -> PR St) (i : Nat) : Prop :=
  ∀ (k o : Nat) (v : Value) (w : World), i < k -> k < l.length -> o <= 300 -> Toks w l v ->
    Calls Tryz.prog 151 #[v, .int .i64 k, .int .i64 o] w fun e w' => zb5 l k w w' e (S k o) /\ Below w.heap.size w w'
theorem StmtC.mono {l:List Tok} {S:Nat->Nat->PR St} {i j:Nat} (h:StmtC l S i) (hij:i<=j):StmtC l S j:=
 fun k o v w h1 h2 h3 h4=>h k o v w (by omega) h2 h3 h4
def EsV (w : World) (m : Nat) (xs : List Ex) (v : Value) : Prop := ∃ cs, Sl w 4 xs.length cs v /\ (xs.length = 0 ∨ ∀ g, v.ownBlock = some g -> m <= g) /\ ExsC w (fun g => m <= g) xs cs
def SsV (w : World) (m : Nat) (xs : List St) (v : Value) : Prop := ∃ cs, Sl w 6 xs.length cs v /\ (xs.length = 0 ∨ ∀ g, v.ownBlock = some g -> m <= g) /\ StsC w (fun g => m <= g) xs cs
theorem EsV.below {w w':World} {m:Nat} {xs:List Ex} {v:Value} (h:EsV w m xs v) (hb:Below w.heap.size w w'):EsV w' m xs v:=by
 obtain ⟨cs,h1,h2,h3⟩:=h;exact ⟨cs,h1.below (by omega) hb (zr _),h2,h3.under hb (zr _)⟩
theorem SsV.below {w w':World} {m:Nat} {xs:List St} {v:Value} (h:SsV w m xs v) (hb:Below w.heap.size w w'):SsV w' m xs v:=by
 obtain ⟨cs,h1,h2,h3⟩:=h;exact ⟨cs,h1.below (by omega) hb (zr _),h2,h3.under hb (zr _)⟩
theorem EsV.grown {w w':World} {m g:Nat} {xs:List Ex} {v:Value} (h:EsV w m xs v) (hg:w.grownBy w' (some g)) (hlt:g < m):EsV w' m xs v:=by
 obtain ⟨cs,h1,h2,h3⟩:=h;have hr:∀ k,some g=some k->¬ m<=k:=fun k e=>by cases e;omega
 exact ⟨cs,h1.grownP (P:=fun g=>m<=g) hg hr h2,h2,h3.grown hg hr⟩
theorem SsV.grown {w w':World} {m g:Nat} {xs:List St} {v:Value} (h:SsV w m xs v) (hg:w.grownBy w' (some g)) (hlt:g < m):SsV w' m xs v:=by
 obtain ⟨cs,h1,h2,h3⟩:=h;have hr:∀ k,some g=some k->¬ m<=k:=fun k e=>by cases e;omega
 exact ⟨cs,h1.grownP (P:=fun g=>m<=g) hg hr h2,h2,h3.grown hg hr⟩
theorem EsV.of_own {w:World} {m B:Nat} {e:TypeId} {xs:List Ex} {v:Value} {cs:List Value} (h:w.ownsRow B e 4 v xs.length cs) (hX:ExsC w (fun g=>B<=g) xs cs) (hB:m<=B):EsV w m xs v:=
 ⟨cs,Sl.of_own h,.inr fun g hg=>yT hB (zck h g hg),hX.weak fun _ _ h=>yT hB h⟩
theorem SsV.of_own {w:World} {m B:Nat} {e:TypeId} {xs:List St} {v:Value} {cs:List Value} (h:w.ownsRow B e 6 v xs.length cs) (hX:StsC w (fun g=>B<=g) xs cs) (hB:m<=B):SsV w m xs v:=
 ⟨cs,Sl.of_own h,.inr fun g hg=>yT hB (zck h g hg),hX.weak fun _ _ h=>yT hB h⟩
theorem StsC.len {w:World} {P:Nat->Prop} {xs:List St} {cs:List Value} (h:StsC w P xs cs):cs.length=xs.length * 6:=by
 induction h with
 | nil=>rfl
 | cons _ _ _ _ _ _ _ _ _ _ _ _ ih=>simp only [yB,ih];omega
theorem SsV.nil (w:World) (m:Nat):SsV w m [] (.slice none 0 0):=⟨[],Sl.nil w 6,.inl rfl,.nil⟩
theorem EsV.nil (w:World) (m:Nat):EsV w m [] (.slice none 0 0):=⟨[],Sl.nil w 4,.inl rfl,.nil⟩
theorem SsV.new {w2 w3:World} {m g:Nat} {e:TypeId} {xs:List St} {cs:List Value} (hlow:Below w2.heap.size w2 w3) (hO:OwnV w3 g e cs) (hX:StsC w2 (fun g=>m<=g) xs cs) (hg:m<=g) (hlen:xs.length<=1000):SsV w3 m xs (.slice (some ⟨g,0,none⟩) xs.length xs.length):=
 ⟨cs,zb7 hO hX.len (zr _) (by omega),.inr fun k h=>by cases h;exact hg,hX.under hlow (zr _)⟩
theorem EsV.new {w2 w3:World} {m g:Nat} {e:TypeId} {xs:List Ex} {cs:List Value} (hlow:Below w2.heap.size w2 w3) (hO:OwnV w3 g e cs) (hX:ExsC w2 (fun g=>m<=g) xs cs) (hg:m<=g) (hlen:xs.length<=1000):EsV w3 m xs (.slice (some ⟨g,0,none⟩) xs.length xs.length):=
 ⟨cs,zb7 hO hX.len (zr _) (by omega),.inr fun k h=>by cases h;exact hg,hX.under hlow (zr _)⟩
theorem EsV.form {w:World} {m:Nat} {xs:List Ex} {v:Value} (h:EsV w m xs v):∃ a cap,v=.slice a xs.length cap:=by
 obtain ⟨cs,h1,-⟩:=h;obtain ⟨a,cap,e,-⟩:=Sl.form h1;exact ⟨a,cap,e⟩
theorem SsV.form {w:World} {m:Nat} {xs:List St} {v:Value} (h:SsV w m xs v):∃ a cap,v=.slice a xs.length cap:=by
 obtain ⟨cs,h1,-⟩:=h;obtain ⟨a,cap,e,-⟩:=Sl.form h1;exact ⟨a,cap,e⟩

theorem zbD (w:World) (X Y:List Value) (tX tY:TypeId):∃ W0,W0=(w.alloc (.cells X.toArray tX)).alloc (.cells Y.toArray tY)/\Below w.heap.size w W0/\OwnV W0 w.heap.size tX X/\OwnV W0 (w.heap.size+1) tY Y/\w.heap.size+2<=W0.heap.size:=opened w X Y tX tY

theorem EsV.set {w:World} {m:Nat} {xs:List Ex} {v:Value} (h:EsV w m xs v) {b o:Nat} {x:Value} (hlt:b < m):EsV (w.setCell ⟨b,o,none⟩ x) m xs v:=h.grown (zaY _ _ _ _) hlt
theorem SsV.set {w:World} {m:Nat} {xs:List St} {v:Value} (h:SsV w m xs v) {b o:Nat} {x:Value} (hlt:b < m):SsV (w.setCell ⟨b,o,none⟩ x) m xs v:=h.grown (zaY _ _ _ _) hlt
theorem EsV.one {w:World} {m B:Nat} {op n:Int} {name:List UInt8} {args:List Ex} {v:Value} (h:EsV w m args v) (hB:B<=m):ExsC w (fun g=>B<=g) [.mk op n name args] [.int .u8 op,.int .i64 n,.string (bstr name),v]:=by
 obtain ⟨cs,h1,h2,h3⟩:=h;exact (ExsC.cons (P:=fun g=>m<=g) h1 h2 h3 .nil).weak fun g _ h=>yT hB h

def InsS.cells (i : InsS) : List Value := [.int .u8 i.op, .int .i64 i.a]
def znH (c : znA) : List Value := c.flatMap InsS.cells
theorem zpx (c:znA):(znH c).length=c.length * 2:=zpU _ 2 (fun _=>rfl) c
theorem zrL (a b:znA):znH (a++b)=znH a++znH b:=by simp [znH]
def OwnC (w : World) (B : Nat) (e : TypeId) (v : Value) (c : znA) : Prop := w.ownsRow B e 2 v c.length (znH c)
def SlC (w : World) (c : znA) (v : Value) : Prop := Sl w 2 c.length (znH c) v
theorem OwnC.sl {w:World} {B:Nat} {e:TypeId} {v:Value} {c:znA} (h:OwnC w B e v c):SlC w c v:=Sl.of_own h
theorem OwnC.below {w w':World} {B:Nat} {e:TypeId} {v:Value} {c:znA} (h:OwnC w B e v c) (hb:Below w.heap.size w w'):OwnC w' B e v c:=zbu h hb (zr _)
theorem znE {w:World} {B B':Nat} {e:TypeId} {sz:Nat} {v:Value} {n:Nat} {xs:List Value} (h:w.ownsRow B e sz v n xs) (hB:B'<=B):w.ownsRow B' e sz v n xs:=by
 obtain ⟨h1,h2⟩:=h;refine ⟨h1,?_⟩;rcases h2 with hn | ⟨g,cap,cur,hv,hg,r⟩
 ·exact .inl hn
 ·exact .inr ⟨g,cap,cur,hv,yT hB hg,r⟩
theorem SlC.below {w w':World} {c:znA} {v:Value} (h:SlC w c v) (hb:Below w.heap.size w w'):SlC w' c v:=Sl.below (by omega) h hb (zr _)
theorem SlC.at {w:World} {c:znA} {a:Option Addr} {m cap:Nat} (h:SlC w c (.slice a m cap)) {k:Nat} (hk:k < c.length) :
  ∃ b off,a=some ⟨b,off,none⟩/\b < w.heap.size/\w.cell? ⟨b,off+k * 2,none⟩=some (.int .u8 c[k].op)/\w.cell? ⟨b,off+k * 2+1,none⟩=some (.int .i64 c[k].a):=by
 obtain ⟨b,off,rfl,hlt,hc⟩:=Sl.at (by omega) h (by omega);refine ⟨b,off,rfl,hlt,?_,?_⟩
 ·have:=hc (k * 2+0) (by omega);rw [show znH c=c.flatMap InsS.cells from rfl,zeW InsS.cells 2 (fun _=>rfl) c k hk 0 (by omega)] at this;exact this
 ·have:=hc (k * 2+1) (by omega);rw [show znH c=c.flatMap InsS.cells from rfl,zeW InsS.cells 2 (fun _=>rfl) c k hk 1 (by omega)] at this;rw [Nat.add_assoc];exact this

structure ProgS where
  code : znA
  locals : Int
  reads : BitVec 32
  writes : BitVec 32
def zol (l : List St) : CR ProgS :=
  if zaJ 40 l = true then (znQ [] l).andThen fun r => if 4000 < r.1.length then .err 3 else .ok ⟨r.1, (r.2 : Int), znW 4 r.1, znW 5 r.1⟩ else .err 130
def zow (p : ProgS) (vc : Value) : Value := .agg #[vc, .int .i64 p.locals, .int .u32 (w32 p.reads), .int .u32 (w32 p.writes)]
def zpM : Value := .agg #[.slice none 0 0, .int .i64 0, .int .u32 0, .int .u32 0]
def ProgE (t : TypeId) (w w' : World) (e : Ending) : CR ProgS -> Prop
  | .ok p => ∃ v, e = .returned (.tuple #[zow p v, .int .i64 0]) /\ OwnC w' w.heap.size t v p.code
  | .err k => e = .returned (.tuple #[zpM, .int .i64 k]) /\ (k = 130 ∨ k = 131 ∨ k = 132 ∨ k = 5 ∨ k = 3)

theorem zgC:∀ (n:Nat) (bs:List UInt8),bs.length<=n->∀ (l c:Int),(∀ ts,lexF bs l c=.ok ts->ts.length<=bs.length+1)/\∀ a b e,lexF bs l c=.err a b e->e≠0:=by
 intro n
 induction n with
 | zero =>
  intro bs hb l c;obtain rfl:bs=[]:=List.eq_nil_of_length_eq_zero (by omega);rw [zda];refine ⟨fun ts h=>?_,fun a b e h=>by cases h⟩;cases h
  exact zr _
 | succ n ih =>
  intro bs hb l c;rw [zbY];have hsl:=zc9 bs false l c
  generalize (zam bs false l c).1=bs' at *
  generalize (zam bs false l c).2.1=l' at *
  generalize (zam bs false l c).2.2=c' at *
  rcases zet bs' l' c' with ⟨_,h1⟩ | ⟨code,_,h1,hc⟩ | ⟨t,ht,_,_,h2,h3,h1⟩
  ·rw [h1];refine ⟨fun ts h=>?_,fun a b e h=>by cases h⟩;cases h;simp
  ·rw [h1];refine ⟨fun ts h=>(by cases h),fun a b e h=>?_⟩;cases h;omega
  ·rw [h1];have ht1:1<=t.text.length:=List.length_pos_iff.2 ht.text;have hl:(bs'.drop t.text.length).length=bs'.length - t.text.length:=List.length_drop;obtain ⟨k1,k2⟩:=ih (bs'.drop t.text.length) (by omega) l' (c'+t.text.length)
   cases hr:lexF (bs'.drop t.text.length) l' (c'+t.text.length) with
   | err a b e =>
    rw [hr] at k2;refine ⟨fun ts h=>(by cases h),fun a' b' e' h=>?_⟩;cases h
    exact k2 _ _ _ rfl
   | ok m =>
    rw [hr] at k1;have:=k1 m rfl;refine ⟨fun ts h=>?_,fun a b e h=>by cases h⟩;cases h;simp only [yB];omega
theorem ziK {bs:List UInt8} {ts:List Tok} (h:lexS bs=.ok ts):ts.length<=16385:=by
 rw [zcO] at h;split at h
 ·cases h
 ·have:=(zgC _ bs (zr _) 1 1).1 ts h;omega
theorem zd9 {bs:List UInt8} {a b e:Int} (h:lexS bs=.err a b e):e≠0:=by
 rw [zcO] at h;split at h
 ·cases h;decide
 ·exact (zgC _ bs (zr _) 1 1).2 a b e h
theorem Good.pos {l:List Tok} (h:Good l):0 < l.length:=by
 obtain ⟨ts,t,rfl,_,_⟩:=h;simp

def zn9 (r m : BitVec 32) (y : Sys) : Bool := (r &&& ~~~(y.rd ||| y.wr)) == 0 && (m &&& ~~~y.wr) == 0
theorem zpR {r s:BitVec 32}:r &&& ~~~s=0 ↔ r &&& s=r:=by
 constructor
 ·intro h;apply BitVec.eq_of_getLsbD_eq;intro i hi;have:=congrArg (fun x=>BitVec.getLsbD x i) h;simp at this ⊢;intro hr;simpa [hi] using this hr
 ·intro h;apply BitVec.eq_of_getLsbD_eq;intro i hi;have:=congrArg (fun x=>BitVec.getLsbD x i) h;simp at this ⊢;intro hr _;exact this hr
theorem zqe (r m:BitVec 32) (y:Sys):zn9 r m y=((r &&& (y.rd ||| y.wr)) == r && (m &&& y.wr) == m):=by
 unfold zn9;congr 1
 ·rw [Bool.eq_iff_iff,beq_iff_eq,beq_iff_eq];exact zpR
 ·rw [Bool.eq_iff_iff,beq_iff_eq,beq_iff_eq];exact zpR
theorem zqN {r s t:BitVec 32} (h:r &&& s=r):r &&& (s ||| t)=r:=by
 apply BitVec.eq_of_getLsbD_eq;intro i hi;have:=congrArg (fun x=>BitVec.getLsbD x i) h;simp at this ⊢;intro hr;exact .inl (this hr)
theorem zsc {r m a b:BitVec 32} {y:Sys} (h:zn9 r m y=true):zn9 r m { y with rd:=y.rd ||| a,wr:=y.wr ||| b } = true:=by
 rw [zqe,yC,beq_iff_eq,beq_iff_eq] at h ⊢;refine ⟨?_,zqN h.2⟩;show r &&& ((y.rd ||| a) ||| (y.wr ||| b))=r;rw [show (y.rd ||| a) ||| (y.wr ||| b)=(y.rd ||| y.wr) ||| (a ||| b) by ac_rfl];exact zqN h.1
theorem zsd (y:Sys):zn9 0 0 y=true:=by unfold zn9;simp
theorem zsV (r m:BitVec 32) (y:Sys) (h1:y.rd=r) (h2:y.wr=m):zn9 r m y=true:=by
 rw [zqe,h1,h2,yC,beq_iff_eq,beq_iff_eq];constructor
 ·apply BitVec.eq_of_getLsbD_eq;intro i hi;simp;intro hr;exact .inl hr
 ·simp
def zqz : ProgS := ⟨[], 0, 0, 0⟩
structure ScS where
  prog : ProgS
  line : Int
  col : Int
  e : Int
def znC (s : List UInt8) : ScS :=
  match zbg s with
  | .err a b c => ⟨zqz, a, b, c⟩
  | .ok l => match zol l with
    | .ok p => ⟨p, 0, 0, 0⟩
    | .err k => ⟨zqz, 0, 0, k⟩
def zpb (ys : List Sys) (p : ProgS) (slot : Int) : Bool := !(ys.any fun y => y.pg == slot && !zn9 p.reads p.writes y)
def errE (ys : List Sys) (slot : Int) (src : List UInt8) : Int := if (znC src).e ≠ 0 then (znC src).e else if zpb ys (znC src).prog slot = false then 401 else 0
def znI (ys : List Sys) (n : Nat) : Bool := zop ys && !(ys.any fun y => decide ((n : Int) <= y.pg))
theorem zpI {s:List UInt8} {a b c:Int} (h:zbg s=.err a b c):znC s=⟨zqz,a,b,c⟩:=by unfold znC;rw [h]
theorem zpW {s:List UInt8} {l:List St} {k:Int} (h:zbg s=.ok l) (g:zol l=.err k):znC s=⟨zqz,0,0,k⟩:=by unfold znC;rw [h];simp only [g]
theorem zpX {s:List UInt8} {l:List St} {p:ProgS} (h:zbg s=.ok l) (g:zol l=.ok p):znC s=⟨p,0,0,0⟩:=by unfold znC;rw [h];simp only [g]
theorem zq8 {s:List UInt8} {l:List St} (h:zbg s=.ok l):okSs l/\szSs l<=100000:=by
 obtain ⟨h1,ts,h2,h3⟩:=zsI h;exact ⟨h1,by have:=ziK h2;omega⟩
def aws0 : List UInt8 := [108, 105, 102, 101, 91, 48, 93, 32, 61, 32, 108, 105, 102, 101, 91, 48, 93, 32, 43, 32, 49, 59]
def aws1 : List UInt8 := [108, 105, 102, 101, 91, 48, 93, 32, 61, 32, 108, 105, 102, 101, 91, 48, 93, 32, 43, 32, 50, 59]
def aws2 : List UInt8 := [108, 105, 102, 101, 91, 48, 93, 32, 61, 32, 59]
def aws3 : List UInt8 := [116, 97, 103, 91, 48, 93, 32, 61, 32, 49, 59]
def aws4 : List UInt8 := [120, 32, 61, 32, 49, 59]
def awY : List Sys := [⟨{ data := #[104, 101, 97, 108] }, 0, 256, 0⟩]
def awB : Bk := ⟨10, [aws0], []⟩
def awP : Pt := ⟨20, 0, aws1⟩
def awB2 : Bk := ⟨10, [aws0], [awP]⟩
theorem aw_s1:znO (znI awY) (errE awY) awB awP=(some awB2,false,0):=by kernel_rfl
theorem aw_s2:znO (znI awY) (errE awY) awB2 ⟨20,0,aws2⟩=(none,true,120):=by kernel_rfl
theorem aw_s2l:(znC aws2).line=1:=by kernel_rfl
theorem aw_s2c:(znC aws2).col=11:=by kernel_rfl
theorem aw_s3:znO (znI awY) (errE awY) awB2 ⟨20,0,aws3⟩=(none,true,401):=by kernel_rfl
theorem aw_s4:znO (znI awY) (errE awY) awB2 ⟨20,0,aws4⟩=(none,true,131):=by kernel_rfl
theorem aw_s5:znO (znI awY) (errE awY) awB2 ⟨20,1,[]⟩=(none,false,6):=by kernel_rfl
theorem aw_s6:znO (znI awY) (errE awY) awB2 ⟨10,0,[]⟩=(none,false,400):=by kernel_rfl
theorem aw_s7:znO (znI awY) (errE awY) awB2 awP=(none,false,402):=by kernel_rfl
theorem aw_a1:zoe (znI awY) (rOf (errE awY)) awB2 19=(some (⟨19,[aws0],[awP]⟩,[]),0):=by kernel_rfl
theorem aw_a2:zoe (znI awY) (rOf (errE awY)) awB2 20=(some (⟨20,[aws1],[]⟩,[awP]),0):=by kernel_rfl
theorem aw_v:znM (znI awY) (rOf (errE awY)) ⟨20,[aws1],[]⟩=true:=by kernel_rfl
theorem aw_w:(znC aws1).prog.writes=256:=by kernel_rfl

def zqB (v : Value) : Option (DataW Value × List MemPlace) := some (.held v, [])
theorem zqW:Maps.Keyed Tryz.prog 9:=Maps.string_keyed Tryz.underlying9
def VMap (w : World) (b n : Nat) (has : List UInt8 -> Bool) (val : List UInt8 -> Value) (z : Value) : Prop :=
  ∃ D : DataW Value, w.ownsMap Tryz.prog 9 zqB b n D /\ (∀ k, Maps.has D (.string k) = has k) /\ ∀ k, D.atKey (.string k) (.held z) = .held (val k)
theorem VMap.made (w:World) (z:Value):VMap (w.alloc (.map #[] 0)) w.heap.size 0 (fun _=>false) (fun _=>z) z:=
 ⟨.map [],World.ownsMap_made w _ _ _,fun _=>rfl,fun _=>rfl⟩
theorem VMap.below {w w':World} {b n:Nat} {has:List UInt8->Bool} {val:List UInt8->Value} {z:Value} {B:Nat} (h:VMap w b n has val z) (hb:Below B w w') (hB:w.heap.size<=B):VMap w' b n has val z:=by
 obtain ⟨D,h1,h2,h3⟩:=h;exact ⟨D,zqi h1 hb hB,h2,h3⟩
theorem VMap.alloc {w:World} {b n:Nat} {has:List UInt8->Bool} {val:List UInt8->Value} {z:Value} (h:VMap w b n has val z) (o:Obj):VMap (w.alloc o) b n has val z:=by
 obtain ⟨D,h1,h2,h3⟩:=h;exact ⟨D,h1.alloc o,h2,h3⟩
theorem VMap.lt {w:World} {b n:Nat} {has:List UInt8->Bool} {val:List UInt8->Value} {z:Value} (h:VMap w b n has val z):b < w.heap.size:=by
 obtain ⟨D,h1,_⟩:=h;exact h1.lt
theorem VMap.congr {w:World} {b n n':Nat} {has has':List UInt8->Bool} {val val':List UInt8->Value} {z:Value} (h:VMap w b n has val z) (hn:n<=n') (h1:∀ k,has k=has' k) (h2:∀ k,val k=val' k):VMap w b n' has' val' z:=by
 obtain ⟨D,a,c,d⟩:=h;exact ⟨D,a.mono hn,fun k=>(c k).trans (h1 k),fun k=>(d k).trans (by rw [h2])⟩
theorem vkey {s:ByteArray} (hs:s.size<=9223372036854775807):keyOf Tryz.prog 9 (.string s)=some (.string s.data.toList):=by
 simp [keyOf,Tryz.underlying9,mapKey,maxLen,hs]
section
variable {ops : Array Oper} {rest : List Oper} {o : Oper} {a : Act} {Q : Exit -> Act -> World -> Prop} {w : World}
theorem zoW (hg:o.guard=none) (m x:Operand) (t e:TypeId) (hop:o.op=Op.lookup t m x true) (ht:Tryz.prog.underlying t=some (.map 9 e)) {z:Value} (hz:(zeroValue e).run Tryz.prog w=.ok z w) {b n:Nat} {has:List UInt8->Bool} {val:List UInt8->Value} (h:VMap w b n has val z)
  (hm:a.eval m=.map (some b)) (key:ByteArray) (hx:a.eval x=.string key) (hkey:key.size<=9223372036854775807)
  (hK:wpList Tryz.prog ops Q rest (a.put o.dst (.tuple #[val key.data.toList,.bool (has key.data.toList)])) w):wpList Tryz.prog ops Q (o :: rest) a w:=by
 obtain ⟨D,h1,h2,h3⟩:=h;refine wpList_lookup_own_ok w hg m x t hop 9 e zqW ht zqB hz (.held z) [] rfl b n D hm h1 (.string key) (.string key.data.toList) hx (vkey hkey) ?_;intro v ps hv;rw [h3] at hv
 have e:v=val key.data.toList:=by
  unfold zqB at hv;simp only [Option.some.injEq,Prod.mk.injEq,DataW.held.injEq] at hv;exact hv.1
 rw [e,h2];exact hK
theorem zov (hg:o.guard=none) (m x v:Operand) (t e:TypeId) (hop:o.op=Op.mapUpdate t m x v) (ht:Tryz.prog.underlying t=some (.map 9 e)) {b n:Nat} {has:List UInt8->Bool} {val:List UInt8->Value} {z:Value} (h:VMap w b n has val z)
  (hm:a.eval m=.map (some b)) (key:ByteArray) (V:Value) (hx:a.eval x=.string key) (hv:a.eval v=V) (hkey:key.size<=9223372036854775807) (hn:n < maxLen)
  (hK:∀ w',VMap w' b (n+1) (fun k=>if k=key.data.toList then true else has k) (fun k=>if k=key.data.toList then V else val k) z->w.grownBy w' (some b)->wpList Tryz.prog ops Q rest (a.put o.dst undef) w'):wpList Tryz.prog ops Q (o :: rest) a w:=by
 obtain ⟨D,h1,h2,h3⟩:=h;refine wpList_mapUpdate_own w hg m x v t hop 9 e zqW ht zqB b n D hm h1 hn (.string key) V (.string key.data.toList) hx hv (vkey hkey) (.held V) [] rfl ?_;intro w' hown hgr;have hD:Maps.IsMap D:=(h1.tidy zqW).isMap;have hkl:WideAt.IsKeyLit (.string key.data.toList):=trivial;refine hK w' ⟨_,hown,fun k=>?_,fun k=>?_⟩ hgr
 ·by_cases e:k=key.data.toList
  ·subst e;rw [Maps.has_put_same hD hkl];simp
  ·rw [Maps.has_put_other (by simpa using e),h2];simp [e]
 ·by_cases e:k=key.data.toList
  ·subst e;rw [Maps.atKey_put_same hD hkl];simp
  ·rw [Maps.atKey_put_other (by simpa using e),h3];simp [e]
end
end Go.Proofs.YtdhikpkecmaplaaGreatDoor
