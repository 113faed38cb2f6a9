/- Which trees can be written (P12.3), as functions. Plain mathematics. -/
import Derived.Test.YtoaojdobjinhfaaGreatDoorRParEC
set_option linter.unusedSimpArgs false
set_option linter.unusedVariables false
namespace Go.Proofs.YtoaojdobjinhfaaGreatDoor
def zb9 (op : Int) : Nat := if op < 10 then (if op = 1 ∨ op = 2 ∨ op = 4 ∨ op = 5 then 0 else 1) else 2
def zbN (op n : Int) (name : List UInt8) (len : Nat) : Bool :=
  decide (1 ≤ op ∧ op ≤ 24) && (decide (len = zb9 op) && ((if op = 2 then zaP name else decide (name = [])) && (if op = 1 then decide (0 ≤ n) else if op = 3 then decide (1 ≤ n ∧ n ≤ 10) else decide (n = 0))))
def zbd : Nat → Ex → Bool
  | 0, _ => false
  | d + 1, .mk op n name args => zbN op n name args.length && args.all (zbd d)
def zfg (op : Int) : Nat := if op = 3 then 2 else if 5 < op then 0 else 1
def zbA (op n : Int) (name : List UInt8) (le lb ll : Nat) : Bool :=
  decide (1 ≤ op ∧ op ≤ 7) && (decide (le = zfg op) && ((if op ≤ 2 then zaP name else decide (name = [])) && ((if op = 3 then decide (1 ≤ n ∧ n ≤ 10) else decide (n = 0)) && (decide (lb = 0 ∨ op = 4 ∨ op = 5) && decide (ll = 0 ∨ op = 4)))))
def zaJ : Nat → List St → Bool
  | 0, l => l.isEmpty
  | d + 1, l => l.all fun s => match s with
    | .mk op n name es body els => (zaJ d body && zaJ d els) && (zbA op n name es.length body.length els.length && es.all (zbd 40))
def zh2 (d : Nat) : St → Bool
  | .mk op n name es body els => (zaJ d body && zaJ d els) && (zbA op n name es.length body.length els.length && es.all (zbd 40))
theorem zfn (d:Nat) (l:List St):zaJ (d+1) l=l.all (zh2 d):=by
 rw [zaJ];try rfl
theorem zmW (n:Int) (name:List UInt8) (len:Nat):zbN 1 n name len=(decide (len=0) && (decide (name=[]) && decide (0≤n))):=by simp [zbN,zb9]
theorem zmX (n:Int) (name:List UInt8) (len:Nat):zbN 2 n name len=(decide (len=0) && (zaP name && decide (n=0))):=by simp [zbN,zb9]
theorem zmY (n:Int) (name:List UInt8) (len:Nat):zbN 3 n name len=(decide (len=1) && (decide (name=[]) && decide (1≤n∧n≤10))):=by simp [zbN,zb9]
theorem zmZ (n:Int) (name:List UInt8) (len:Nat):zbN 4 n name len=(decide (len=0) && (decide (name=[]) && decide (n=0))):=by simp [zbN,zb9]
theorem zm0 (n:Int) (name:List UInt8) (len:Nat):zbN 5 n name len=(decide (len=0) && (decide (name=[]) && decide (n=0))):=by simp [zbN,zb9]
theorem zm1 (op n:Int) (name:List UInt8) (len:Nat) (h1:6≤op) (h2:op≤9):zbN op n name len=(decide (len=1) && (decide (name=[]) && decide (n=0))):=by
 unfold zbN zb9;rw [decide_eq_true (show 1≤op∧op≤24 by omega),if_pos (show op < 10 by omega),if_neg (by omega),if_neg (by omega),if_neg (by omega),if_neg (by omega),Bool.true_and]
theorem zjA (op n:Int) (name:List UInt8) (len:Nat) (h1:10≤op) (h2:op≤24):zbN op n name len=(decide (len=2) && (decide (name=[]) && decide (n=0))):=by
 unfold zbN zb9;rw [decide_eq_true (show 1≤op∧op≤24 by omega),if_neg (by omega),if_neg (by omega),if_neg (by omega),if_neg (by omega),Bool.true_and]
def zbH (op : Int) : Int := if 1 ≤ op ∧ op ≤ 24 then (zb9 op : Int) else -1
theorem zl9:zaP []=false:=by decide +kernel
theorem zk2 (op n:Int) (name:List UInt8) (len:Nat):zbN op n name len=(decide (zbH op=(len:Int)) && (((op == 2) == decide (name≠[])) && ((decide (name=[]) || zaP name) && (if op=1 then decide (0≤n) else if op=3 then decide (1≤n∧n≤10) else decide (n=0))))):=by
 unfold zbN zbH;by_cases h:1≤op∧op≤24
 ·rw [decide_eq_true h,Bool.true_and,if_pos h]
  have e:decide ((zb9 op:Int)=(len:Int))=decide (len=zb9 op):=by
   rw [Bool.eq_iff_iff,decide_eq_true_eq,decide_eq_true_eq];omega
  rw [e];congr 1
  by_cases h2:op=2
  ·have e2:(op == 2)=true:=by simp [h2]
   rw [if_pos h2,e2];by_cases hn:name=[]
   ·rw [hn,zl9];simp
   ·simp [hn]
  ·have e2:(op == 2)=false:=by simp [h2]
   rw [if_neg h2,e2];by_cases hn:name=[]
   ·simp [hn]
   ·simp [hn]
 ·rw [decide_eq_false h,Bool.false_and,if_neg h,decide_eq_false (by omega),Bool.false_and]
theorem zee (op n:Int) (name:List UInt8) (le lb ll:Nat) (h1:1≤op) (h2:op≤2):zbA op n name le lb ll=(decide (le=1) && (zaP name && (decide (n=0) && (decide (lb=0) && decide (ll=0))))):=by
 unfold zbA zfg;rw [decide_eq_true (show 1≤op∧op≤7 by omega),if_neg (by omega),if_neg (by omega),if_pos h2,if_neg (by omega),Bool.true_and];have e1:decide (lb=0∨op=4∨op=5)=decide (lb=0):=by rw [Bool.eq_iff_iff,decide_eq_true_eq,decide_eq_true_eq];omega
 have e2:decide (ll=0∨op=4)=decide (ll=0):=by rw [Bool.eq_iff_iff,decide_eq_true_eq,decide_eq_true_eq];omega
 rw [e1,e2]
theorem zfo (op n:Int) (name:List UInt8) (le lb ll:Nat) (h:op=3):zbA op n name le lb ll=(decide (le=2) && (decide (name=[]) && (decide (1≤n∧n≤10) && (decide (lb=0) && decide (ll=0))))):=by
 unfold zbA zfg;rw [decide_eq_true (show 1≤op∧op≤7 by omega),if_pos h,if_neg (by omega),if_pos h,Bool.true_and];have e1:decide (lb=0∨op=4∨op=5)=decide (lb=0):=by rw [Bool.eq_iff_iff,decide_eq_true_eq,decide_eq_true_eq];omega
 have e2:decide (ll=0∨op=4)=decide (ll=0):=by rw [Bool.eq_iff_iff,decide_eq_true_eq,decide_eq_true_eq];omega
 rw [e1,e2]
theorem zfp (op n:Int) (name:List UInt8) (le lb ll:Nat) (h:op=4):zbA op n name le lb ll=(decide (le=1) && (decide (name=[]) && (decide (n=0) && (true)))):=by
 unfold zbA zfg;rw [decide_eq_true (show 1≤op∧op≤7 by omega),if_neg (by omega),if_neg (by omega),if_neg (by omega),if_neg (by omega),Bool.true_and,decide_eq_true (show lb=0∨op=4∨op=5 from .inr (.inl h)),decide_eq_true (show ll=0∨op=4 from .inr h)];rfl
theorem zfq (op n:Int) (name:List UInt8) (le lb ll:Nat) (h:op=5):zbA op n name le lb ll=(decide (le=1) && (decide (name=[]) && (decide (n=0) && (decide (ll=0))))):=by
 unfold zbA zfg;have e2:decide (ll=0∨op=4)=decide (ll=0):=by rw [Bool.eq_iff_iff,decide_eq_true_eq,decide_eq_true_eq];omega
 rw [decide_eq_true (show 1≤op∧op≤7 by omega),if_neg (by omega),if_neg (by omega),if_neg (by omega),if_neg (by omega),Bool.true_and,decide_eq_true (show lb=0∨op=4∨op=5 from .inr (.inr h)),e2,Bool.true_and]
theorem zef (op n:Int) (name:List UInt8) (le lb ll:Nat) (h1:6≤op) (h2:op≤7):zbA op n name le lb ll=(decide (le=0) && (decide (name=[]) && (decide (n=0) && (decide (lb=0) && decide (ll=0))))):=by
 unfold zbA zfg;rw [decide_eq_true (show 1≤op∧op≤7 by omega),if_neg (by omega),if_pos (by omega),if_neg (by omega),if_neg (by omega),Bool.true_and];have e1:decide (lb=0∨op=4∨op=5)=decide (lb=0):=by rw [Bool.eq_iff_iff,decide_eq_true_eq,decide_eq_true_eq];omega
 have e2:decide (ll=0∨op=4)=decide (ll=0):=by rw [Bool.eq_iff_iff,decide_eq_true_eq,decide_eq_true_eq];omega
 rw [e1,e2]
theorem zk3 (op n:Int) (name:List UInt8) (le lb ll:Nat) (h:¬ (1≤op∧op≤7)):zbA op n name le lb ll=false:=by
 unfold zbA;rw [decide_eq_false h,Bool.false_and]
open Go.RowKit

theorem str_nil {l:List UInt8}:(bstr l).toList=[] ↔ l=[]:=by
 have:=zal l [];rw [Bool.eq_iff_iff,beq_iff_eq,decide_eq_true_eq] at this;exact this
def zbe (q : Bool) (w : World) (e : Ending) (w' : World) : Prop := e = .returned (.bool q) ∧ Below w.heap.size w w'
end Go.Proofs.YtoaojdobjinhfaaGreatDoor
