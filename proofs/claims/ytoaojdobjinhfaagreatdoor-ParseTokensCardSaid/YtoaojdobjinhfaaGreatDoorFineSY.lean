/- Which trees can be written (P12.3), as functions. Plain mathematics. -/
/- What a printable statement's head is like, for each kind of statement. Plain mathematics. -/
/- A truth that a call answers. -/
import Derived.Test.YtoaojdobjinhfaaGreatDoorRLexY
import Derived.Test.YtoaojdobjinhfaaGreatDoorRParEY
set_option linter.unusedSimpArgs false
set_option linter.unusedVariables false
namespace Go.Proofs.YtoaojdobjinhfaaGreatDoor

def manyS (op : Int) : Nat := if op < 10 then (if op = 1 ∨ op = 2 ∨ op = 4 ∨ op = 5 then 0 else 1) else 2
def headE (op n : Int) (name : List UInt8) (len : Nat) : Bool :=
  decide (1 ≤ op ∧ op ≤ 24) && (decide (len = manyS op) && ((if op = 2 then nameS name else decide (name = [])) && (if op = 1 then decide (0 ≤ n) else if op = 3 then decide (1 ≤ n ∧ n ≤ 10) else decide (n = 0))))
def fineS : Nat → Ex → Bool
  | 0, _ => false
  | d + 1, .mk op n name args => headE op n name args.length && args.all (fineS d)
def manyT (op : Int) : Nat := if op = 3 then 2 else if 5 < op then 0 else 1
def headT (op n : Int) (name : List UInt8) (le lb ll : Nat) : Bool :=
  decide (1 ≤ op ∧ op ≤ 7) && (decide (le = manyT op) && ((if op ≤ 2 then nameS name else decide (name = [])) && ((if op = 3 then decide (1 ≤ n ∧ n ≤ 10) else decide (n = 0)) && (decide (lb = 0 ∨ op = 4 ∨ op = 5) && decide (ll = 0 ∨ op = 4)))))
def rightS : Nat → List St → Bool
  | 0, l => l.isEmpty
  | d + 1, l => l.all fun s => match s with
    | .mk op n name es body els => (rightS d body && rightS d els) && (headT op n name es.length body.length els.length && es.all (fineS 40))
def right1 (d : Nat) : St → Bool
  | .mk op n name es body els => (rightS d body && rightS d els) && (headT op n name es.length body.length els.length && es.all (fineS 40))
theorem rightS_succ (d:Nat) (l:List St):rightS (d+1) l=l.all (right1 d):=by
 rw [rightS];try rfl
theorem headE_1 (n:Int) (name:List UInt8) (len:Nat):headE 1 n name len=(decide (len=0) && (decide (name=[]) && decide (0≤n))):=by simp [headE,manyS]
theorem headE_2 (n:Int) (name:List UInt8) (len:Nat):headE 2 n name len=(decide (len=0) && (nameS name && decide (n=0))):=by simp [headE,manyS]
theorem headE_3 (n:Int) (name:List UInt8) (len:Nat):headE 3 n name len=(decide (len=1) && (decide (name=[]) && decide (1≤n∧n≤10))):=by simp [headE,manyS]
theorem headE_4 (n:Int) (name:List UInt8) (len:Nat):headE 4 n name len=(decide (len=0) && (decide (name=[]) && decide (n=0))):=by simp [headE,manyS]
theorem headE_5 (n:Int) (name:List UInt8) (len:Nat):headE 5 n name len=(decide (len=0) && (decide (name=[]) && decide (n=0))):=by simp [headE,manyS]
theorem headE_E (op n:Int) (name:List UInt8) (len:Nat) (h1:6≤op) (h2:op≤9):headE op n name len=(decide (len=1) && (decide (name=[]) && decide (n=0))):=by
 unfold headE manyS;rw [decide_eq_true (show 1≤op∧op≤24 by omega),if_pos (show op < 10 by omega),if_neg (by omega),if_neg (by omega),if_neg (by omega),if_neg (by omega),Bool.true_and]
theorem headE_F (op n:Int) (name:List UInt8) (len:Nat) (h1:10≤op) (h2:op≤24):headE op n name len=(decide (len=2) && (decide (name=[]) && decide (n=0))):=by
 unfold headE manyS;rw [decide_eq_true (show 1≤op∧op≤24 by omega),if_neg (by omega),if_neg (by omega),if_neg (by omega),if_neg (by omega),Bool.true_and]
theorem headE_G (op n:Int) (name:List UInt8) (len:Nat) (h:¬ (1≤op∧op≤24)):headE op n name len=false:=by
 unfold headE;rw [decide_eq_false h,Bool.false_and]
def manyP (op : Int) : Int := if 1 ≤ op ∧ op ≤ 24 then (manyS op : Int) else -1
theorem name_nil:nameS []=false:=by decide +kernel
theorem headE_alt (op n:Int) (name:List UInt8) (len:Nat):headE op n name len=(decide (manyP op=(len:Int)) && (((op == 2) == decide (name≠[])) && ((decide (name=[]) || nameS name) && (if op=1 then decide (0≤n) else if op=3 then decide (1≤n∧n≤10) else decide (n=0))))):=by
 unfold headE manyP;by_cases h:1≤op∧op≤24
 ·rw [decide_eq_true h,Bool.true_and,if_pos h]
  have e:decide ((manyS op:Int)=(len:Int))=decide (len=manyS op):=by
   rw [Bool.eq_iff_iff,decide_eq_true_eq,decide_eq_true_eq];omega
  rw [e];congr 1
  by_cases h2:op=2
  ·have e2:(op == 2)=true:=by simp [h2]
   rw [if_pos h2,e2];by_cases hn:name=[]
   ·rw [hn,name_nil];simp
   ·simp [hn]
  ·have e2:(op == 2)=false:=by simp [h2]
   rw [if_neg h2,e2];by_cases hn:name=[]
   ·simp [hn]
   ·simp [hn]
 ·rw [decide_eq_false h,Bool.false_and,if_neg h,decide_eq_false (by omega),Bool.false_and]
theorem all_take {α:Type} {p:α→Bool} {l:List α} {k:Nat} {x:α} (h:l[k]? = some x) (h1:(l.take k).all p=true):(p x=true→(l.take (k+1)).all p=true)∧(p x=false→l.all p=false):=by
 obtain ⟨hlt,rfl⟩:=List.getElem?_eq_some_iff.1 h;constructor
 ·intro hp;rw [List.take_succ_eq_append_getElem hlt,List.all_append,h1];simp [hp]
 ·intro hp;rw [Bool.eq_false_iff];intro ha;rw [List.all_eq_true] at ha;rw [ha _ (List.getElem_mem hlt)] at hp;cases hp
end Go.Proofs.YtoaojdobjinhfaaGreatDoor
namespace Go.Proofs.YtoaojdobjinhfaaGreatDoor

theorem headT_11000 (op n:Int) (name:List UInt8) (le lb ll:Nat) (h1:1≤op) (h2:op≤2):headT op n name le lb ll=(decide (le=1) && (nameS name && (decide (n=0) && (decide (lb=0) && decide (ll=0))))):=by
 unfold headT manyT;rw [decide_eq_true (show 1≤op∧op≤7 by omega),if_neg (by omega),if_neg (by omega),if_pos h2,if_neg (by omega),Bool.true_and];have e1:decide (lb=0∨op=4∨op=5)=decide (lb=0):=by rw [Bool.eq_iff_iff,decide_eq_true_eq,decide_eq_true_eq];omega
 have e2:decide (ll=0∨op=4)=decide (ll=0):=by rw [Bool.eq_iff_iff,decide_eq_true_eq,decide_eq_true_eq];omega
 rw [e1,e2]
theorem headT_20100 (op n:Int) (name:List UInt8) (le lb ll:Nat) (h:op=3):headT op n name le lb ll=(decide (le=2) && (decide (name=[]) && (decide (1≤n∧n≤10) && (decide (lb=0) && decide (ll=0))))):=by
 unfold headT manyT;rw [decide_eq_true (show 1≤op∧op≤7 by omega),if_pos h,if_neg (by omega),if_pos h,Bool.true_and];have e1:decide (lb=0∨op=4∨op=5)=decide (lb=0):=by rw [Bool.eq_iff_iff,decide_eq_true_eq,decide_eq_true_eq];omega
 have e2:decide (ll=0∨op=4)=decide (ll=0):=by rw [Bool.eq_iff_iff,decide_eq_true_eq,decide_eq_true_eq];omega
 rw [e1,e2]
theorem headT_10011 (op n:Int) (name:List UInt8) (le lb ll:Nat) (h:op=4):headT op n name le lb ll=(decide (le=1) && (decide (name=[]) && (decide (n=0) && (true)))):=by
 unfold headT manyT;rw [decide_eq_true (show 1≤op∧op≤7 by omega),if_neg (by omega),if_neg (by omega),if_neg (by omega),if_neg (by omega),Bool.true_and,decide_eq_true (show lb=0∨op=4∨op=5 from .inr (.inl h)),decide_eq_true (show ll=0∨op=4 from .inr h)];rfl
theorem headT_10010 (op n:Int) (name:List UInt8) (le lb ll:Nat) (h:op=5):headT op n name le lb ll=(decide (le=1) && (decide (name=[]) && (decide (n=0) && (decide (ll=0))))):=by
 unfold headT manyT;have e2:decide (ll=0∨op=4)=decide (ll=0):=by rw [Bool.eq_iff_iff,decide_eq_true_eq,decide_eq_true_eq];omega
 rw [decide_eq_true (show 1≤op∧op≤7 by omega),if_neg (by omega),if_neg (by omega),if_neg (by omega),if_neg (by omega),Bool.true_and,decide_eq_true (show lb=0∨op=4∨op=5 from .inr (.inr h)),e2,Bool.true_and]
theorem headT_00000 (op n:Int) (name:List UInt8) (le lb ll:Nat) (h1:6≤op) (h2:op≤7):headT op n name le lb ll=(decide (le=0) && (decide (name=[]) && (decide (n=0) && (decide (lb=0) && decide (ll=0))))):=by
 unfold headT manyT;rw [decide_eq_true (show 1≤op∧op≤7 by omega),if_neg (by omega),if_pos (by omega),if_neg (by omega),if_neg (by omega),Bool.true_and];have e1:decide (lb=0∨op=4∨op=5)=decide (lb=0):=by rw [Bool.eq_iff_iff,decide_eq_true_eq,decide_eq_true_eq];omega
 have e2:decide (ll=0∨op=4)=decide (ll=0):=by rw [Bool.eq_iff_iff,decide_eq_true_eq,decide_eq_true_eq];omega
 rw [e1,e2]
theorem headT_out (op n:Int) (name:List UInt8) (le lb ll:Nat) (h:¬ (1≤op∧op≤7)):headT op n name le lb ll=false:=by
 unfold headT;rw [decide_eq_false h,Bool.false_and]
end Go.Proofs.YtoaojdobjinhfaaGreatDoor
namespace Go.Proofs.YtoaojdobjinhfaaGreatDoor
open Go.RowKit

theorem str_nil {l:List UInt8}:(bstr l).toList=[] ↔ l=[]:=by
 have:=str_lit l [];rw [Bool.eq_iff_iff,beq_iff_eq,decide_eq_true_eq] at this;exact this
def BoolE (q : Bool) (w : World) (e : Ending) (w' : World) : Prop := e = .returned (.bool q) ∧ Below w.heap.size w w'
end Go.Proofs.YtoaojdobjinhfaaGreatDoor
