/- The tokens of a tree that can be written are read back to the tree. Plain mathematics. -/
import Derived.Test.YtoaojdobjinhfaaGreatDoorFineSC
import Derived.Test.YtoaojdobjinhfaaGreatDoorGlobC
import Derived.Test.YtoaojdobjinhfaaGreatDoorParOkC
set_option linter.unusedSimpArgs false
set_option linter.unusedVariables false
namespace Go.Proofs.YtoaojdobjinhfaaGreatDoor
abbrev BK := Int × List UInt8 × Int
def wK (s : List UInt8) : BK := (1, s, 0)
def sK (s : List UInt8) : BK := (3, s, 0)
def nK (n : Int) : BK := (2, Lib.decDigits n.toNat, n)
def zbE (p : Nat × List BK) (least : Nat) : List BK := if p.1 < least then sK [40] :: (p.2 ++ [sK [41]]) else p.2
def zdS (ps : List (Nat × List BK)) : Nat × List BK := ps.getD 0 (6, [])
def zjO (ps : List (Nat × List BK)) : Nat × List BK := ps.getD 1 (6, [])
def zcF (w : List UInt8) (o c : List UInt8) (a : List BK) : List BK := wK w :: sK o :: (a ++ [sK c])
def zdt (w : List UInt8) (a b : List BK) : List BK := wK w :: sK [40] :: (a ++ sK [44] :: (b ++ [sK [41]]))
def zhI (op n : Int) (name : List UInt8) (ps : List (Nat × List BK)) : List BK :=
  if zar op < 6 then zbE (zdS ps) (zby (zar op)) ++ sK (zaO op) :: zbE (zjO ps) (zar op + 1)
  else if op = 1 then [nK n]
  else if op = 2 then [wK name]
  else if op = 3 then zcF (kindWords.getD (n - 1).toNat []) [91] [93] (zdS ps).2
  else if op = 4 then [wK [116, 105, 99, 107]]
  else if op = 5 then [wK [115, 101, 108, 102]]
  else if op = 6 then zcF [114, 97, 110, 100] [40] [41] (zdS ps).2
  else if op = 7 then sK [45] :: zbE (zdS ps) 6
  else if op = 8 then sK [33] :: zbE (zdS ps) 6
  else if op = 9 then zcF [97, 98, 115] [40] [41] (zdS ps).2
  else if op = 23 then zdt [109, 105, 110] (zdS ps).2 (zjO ps).2
  else zdt [109, 97, 120] (zdS ps).2 (zjO ps).2
mutual
def zae : Ex → List BK
  | .mk op n name args => zhI op n name (zfc args)
def zfc : List Ex → List (Nat × List BK)
  | [] => []
  | .mk op n name args :: r => (zar op, zhI op n name (zfc args)) :: zfc r
end
def opE : Ex → Int | .mk op _ _ _ => op
def zat (x : Ex) : Nat := zar (opE x)
theorem zbQ (x:Ex) (r:List Ex):zel (x :: r)=(zat x,zab x) :: zel r:=by
 cases x;simp only [zel,zab,zat,opE]

inductive Shp : Nat → Ex → Prop
  | num {d : Nat} {n : Int} (h0 : 0 ≤ n) (h1 : n ≤ 9223372036854775807) : Shp (d + 1) (.mk 1 n [] [])
  | var {d : Nat} {name : List UInt8} (h : zaP name = true) : Shp (d + 1) (.mk 2 0 name [])
  | comp {d : Nat} {n : Int} {a : Ex} (h0 : 1 ≤ n) (h1 : n ≤ 10) (h : Shp d a) : Shp (d + 1) (.mk 3 n [] [a])
  | leaf {d : Nat} {op : Int} (h : op = 4 ∨ op = 5) : Shp (d + 1) (.mk op 0 [] [])
  | call {d : Nat} {op : Int} {a : Ex} (ho : op = 6 ∨ op = 9) (h : Shp d a) : Shp (d + 1) (.mk op 0 [] [a])
  | pre {d : Nat} {op : Int} {a : Ex} (ho : op = 7 ∨ op = 8) (h : Shp d a) : Shp (d + 1) (.mk op 0 [] [a])
  | bin {d : Nat} {op : Int} {a b : Ex} (h0 : 10 ≤ op) (h1 : op ≤ 22) (ha : Shp d a) (hb : Shp d b) : Shp (d + 1) (.mk op 0 [] [a, b])
  | two {d : Nat} {op : Int} {a b : Ex} (ho : op = 23 ∨ op = 24) (ha : Shp d a) (hb : Shp d b) : Shp (d + 1) (.mk op 0 [] [a, b])
theorem len0 {α:Type} {l:List α} (h:l.length=0):l=[]:=List.eq_nil_of_length_eq_zero h
theorem len1 {α:Type} {l:List α} (h:l.length=1):∃ a,l=[a]:=List.length_eq_one_iff.1 h
theorem len2 {α:Type} {l:List α} (h:l.length=2):∃ a b,l=[a,b]:=by
 match l,h with
 | [a,b],_=>exact ⟨a,b,rfl⟩
theorem zfB:∀ (d:Nat) (x:Ex),zbd d x=true→okE x→Shp d x:=by
 intro d
 induction d with
 | zero=>intro x h;cases x;simp [zbd] at h
 | succ d ih =>
  intro x h hok;obtain ⟨op,n,name,args⟩:=x;simp only [zbd,Bool.and_eq_true] at h;obtain ⟨hh,ha⟩:=h;rw [List.all_eq_true] at ha;obtain ⟨-,hn,-,hargs⟩:=hok
  have hop:1≤op∧op≤24:=by
   unfold zbN at hh;rw [Bool.and_eq_true,decide_eq_true_eq] at hh;exact hh.1
  have hsub:∀ a ∈ args,Shp d a:=by
   intro a hm;refine ih a (ha a hm) ?_;clear ha hh ih
   induction args with
   | nil=>cases hm
   | cons y r ihr =>
    rcases List.mem_cons.1 hm with rfl | hm
    ·exact hargs.1
    ·exact ihr hargs.2 hm
  have cases5:op=1∨op=2∨op=3∨(op=4∨op=5)∨((op=6∨op=9)∨(op=7∨op=8))∨(10≤op∧op≤22)∨(op=23∨op=24):=by omega
  rcases cases5 with rfl | rfl | rfl | h | h | ⟨h1,h2⟩ | h
  ·rw [zmW] at hh;simp only [Bool.and_eq_true,decide_eq_true_eq] at hh;obtain ⟨hl,rfl,h0⟩:=hh;rw [len0 hl];exact .num h0 hn.2
  ·rw [zmX] at hh;simp only [Bool.and_eq_true,decide_eq_true_eq] at hh;obtain ⟨hl,hnm,rfl⟩:=hh;rw [len0 hl];exact .var hnm
  ·rw [zmY] at hh;simp only [Bool.and_eq_true,decide_eq_true_eq] at hh;obtain ⟨hl,rfl,h1,h2⟩:=hh;obtain ⟨a,rfl⟩:=len1 hl;exact .comp h1 h2 (hsub a (by simp))
  ·have hh2:zbN op n name args.length=(decide (args.length=0) && (decide (name=[]) && decide (n=0))):=by rcases h with rfl | rfl;exact zmZ _ _ _;exact zm0 _ _ _
   rw [hh2] at hh;simp only [Bool.and_eq_true,decide_eq_true_eq] at hh;obtain ⟨hl,rfl,rfl⟩:=hh;rw [len0 hl];exact .leaf h
  ·rw [zm1 _ _ _ _ (by omega) (by omega)] at hh;simp only [Bool.and_eq_true,decide_eq_true_eq] at hh;obtain ⟨hl,rfl,rfl⟩:=hh;obtain ⟨a,rfl⟩:=len1 hl;rcases h with h | h
   ·exact .call h (hsub a (by simp))
   ·exact .pre h (hsub a (by simp))
  ·rw [zjA _ _ _ _ (by omega) (by omega)] at hh;simp only [Bool.and_eq_true,decide_eq_true_eq] at hh;obtain ⟨hl,rfl,rfl⟩:=hh;obtain ⟨a,b,rfl⟩:=len2 hl;exact .bin h1 h2 (hsub a (by simp)) (hsub b (by simp))
  ·rw [zjA _ _ _ _ (by omega) (by omega)] at hh;simp only [Bool.and_eq_true,decide_eq_true_eq] at hh;obtain ⟨hl,rfl,rfl⟩:=hh;obtain ⟨a,b,rfl⟩:=len2 hl;exact .two h (hsub a (by simp)) (hsub b (by simp))

def Seg (l : List Tok) (i : Nat) (ks : List BK) : Prop := ∃ p s, l.map Tok.bare = p ++ ks ++ s ∧ p.length = i
theorem Seg.app {l:List Tok} {i:Nat} {a b:List BK} (h:Seg l i (a++b)):Seg l i a∧Seg l (i+a.length) b:=by
 obtain ⟨p,s,h1,h2⟩:=h;exact ⟨⟨p,b++s,by rw [h1];simp,h2⟩,⟨p++a,s,by rw [h1];simp,by rw [List.length_append,h2]⟩⟩
theorem Seg.le {l:List Tok} {i:Nat} {a:List BK} (h:Seg l i a):i+a.length≤l.length:=by
 obtain ⟨p,s,h1,h2⟩:=h;have:=congrArg List.length h1;simp only [List.length_map,List.length_append] at this;omega
theorem Seg.at {l:List Tok} {i:Nat} {k:BK} {r:List BK} (h:Seg l i (k :: r)):(zaa l i).bare=k∧i < l.length:=by
 have hle:=h.le;simp only [List.length_cons] at hle;have hlt:i < l.length:=by omega
 refine ⟨?_,hlt⟩;obtain ⟨p,s,h1,rfl⟩:=h
 have h2:(l.map Tok.bare)[p.length]? = some k:=by
  rw [h1,List.append_assoc,List.getElem?_append_right (zr _),Nat.sub_self];rfl
 rw [List.getElem?_map,List.getElem?_eq_getElem hlt] at h2;unfold zaa;rw [List.getD_eq_getElem?_getD,List.getElem?_eq_getElem hlt];exact Option.some.inj h2
theorem Seg.tail {l:List Tok} {i:Nat} {k:BK} {r:List BK} (h:Seg l i (k :: r)):Seg l (i+1) r:=(Seg.app (a:=[k]) h).2
theorem zcp {t:Tok} {a:Int} {b:List UInt8} {c:Int} (h:t.bare=(a,b,c)):t.kind=a∧t.text=b∧t.n=c:=by
 unfold Tok.bare at h;exact ⟨congrArg (·.1) h,congrArg (·.2.1) h,congrArg (·.2.2) h⟩
theorem zcb {l:List Tok} {i:Nat} {s:List UInt8} (h:(zaa l i).bare=sK s) (u:List UInt8):isS l i u=decide (s=u):=by
 obtain ⟨h1,h2,-⟩:=zcp h;unfold isS;rw [h1,h2];simp
theorem zeN {l:List Tok} {i:Nat} {s:List UInt8} (h:(zaa l i).bare=sK s):za3 l i=zai s signWords 0∧zaj l i=strongs.getD (zai s signWords 0) 0:=by
 obtain ⟨h1,h2,-⟩:=zcp h;have e:za3 l i=zai s signWords 0:=by unfold za3;rw [if_pos h1,h2]
 exact ⟨e,by unfold zaj;rw [e]⟩
theorem zhJ {op:Int} (h0:10≤op) (h1:op≤22):∃ k:Fin 13,op=10+(k.val:Int):=⟨⟨(op - 10).toNat,by omega⟩,by show op=10+((op - 10).toNat:Int);omega⟩
theorem zdE {op:Int} (h0:10≤op) (h1:op≤22):(9+(zai (zaO op) signWords 0:Int)=op)∧strongs.getD (zai (zaO op) signWords 0) 0=zar op∧1≤zar op∧zar op≤5:=by
 obtain ⟨k,rfl⟩:=zhJ h0 h1;revert k;decide
theorem zhK {op:Int} (h:¬ (10≤op∧op≤22)):zar op=6:=by unfold zar;rw [if_neg h]
theorem zhL (n:Nat):n≤zby n:=by unfold zby;split <;> omega
def Follow (n s : Nat) : Prop := s = 0 ∨ zby s ≤ n
theorem Follow.lt {n s:Nat} (h:Follow n s):s≤n:=by
 rcases h with rfl | h
 ·omega
 ·have:=zhL s;omega
theorem Follow.mono {n m s:Nat} (h:Follow n s) (hm:n≤m):Follow m s:=by
 rcases h with h | h
 ·exact .inl h
 ·exact .inr (Nat.le_trans h hm)
theorem zeo {l:List Tok} {E:Nat→Nat→Nat→PR Ex} {f i o:Nat} (h1:isS l i [45]=false) (h2:isS l i [33]=false):zas l E (f+1) i o=zah l E i o:=by
 rw [zas,if_pos ⟨h1,h2⟩]
theorem zhM {l:List Tok} {i o:Nat} {s:List UInt8} (h:isS l i s=true) (ho:o < 200):zay l i s o=.ok () (i+1):=by
 unfold zay;rw [h,if_neg (by decide),if_neg (by omega)]
theorem zfZ {l:List Tok} {E:Nat→Nat→Nat→PR Ex} {i o j:Nat} {a b:List UInt8} {x:Ex} (h:isS l i a=true) (ho:o < 200) (hE:E (i+1) (o+1) 1=.ok x j) (hj:isS l j b=true):zad l E i o a b 1=.ok [x] (j+1):=by
 unfold zad;rw [zhM h ho];simp only [PR.andThen,zav,if_true,hE,hj]
def Reads (l : List Tok) (E : Nat → Nat → Nat → PR Ex) (o i q : Nat) (x : Ex) (j : Nat) : Prop :=
  (zas l E (l.length + 1 - i) i o).andThen (fun y k => zaD l E (l.length + 1 - k) y k o q) = zaD l E (l.length + 1 - j) x j o q
theorem Reads.of_unary {l:List Tok} {E:Nat→Nat→Nat→PR Ex} {o i q:Nat} {x:Ex} {j:Nat} (h:zas l E (l.length+1 - i) i o=.ok x j):Reads l E o i q x j:=by
 unfold Reads;rw [h];rfl
theorem Reads.done {l:List Tok} {f o i q:Nat} {x:Ex} {j:Nat} (h:Reads l (zaw l f) o i q x j) (hf:l.length+1 - i≤f+1) (hj:j≤l.length) (hs:zaj l j < q∨zaj l j=0):zaw l (f+1) i o q=.ok x j:=by
 show (zas l (zaw l f) (l.length+1 - i) i o).andThen (fun x j=>zaD l (zaw l f) (l.length+1 - j) x j o q)=_;unfold Reads at h;rw [h];obtain ⟨n,hn⟩:∃ n,l.length+1 - j=n+1:=⟨l.length - j,by omega⟩;rw [hn,zaD,if_pos hs]
theorem zbG {s:List UInt8} (h:zaP s=true):za4 s=true∧zap s=0∧zai s keyWords 0=0:=by
 unfold zaP at h;simp only [Bool.and_eq_true,decide_eq_true_eq] at h;exact ⟨h.1.1,h.1.2,h.2⟩
theorem zjt (x:Ex) (least:Nat):zbE (zat x,zae x) least=if zat x < least then sK [40] :: (zae x++[sK [41]]) else zae x:=rfl
theorem zhN (x:Ex):1≤zat x:=by
 unfold zat;by_cases h:10≤opE x∧opE x≤22
 ·have:=zdE h.1 h.2;omega
 ·rw [zhK h];omega
def zf0 (l : List Tok) (d : Nat) (x : Ex) : Prop := ∀ (i o f : Nat), Seg l i (zae x) → o + 2 * d ≤ 200 → l.length + 1 - i ≤ f + 1 → zas l (zaw l f) (l.length + 1 - i) i o = .ok x (i + (zae x).length)
def Back (l : List Tok) (d : Nat) (x : Ex) : Prop :=
  (∀ (i o q f : Nat), q ≤ zat x → Seg l i (zae x) → Follow (zat x) (zaj l (i + (zae x).length)) → o + 2 * d ≤ 200 → l.length + 1 - i ≤ f + 1 → Reads l (zaw l f) o i q x (i + (zae x).length)) ∧ (zat x = 6 → zf0 l d x)
theorem Back.of_unary {l:List Tok} {d:Nat} {x:Ex} (h:zf0 l d x):Back l d x:=⟨fun i o _ f _ hs _ ho hf=>Reads.of_unary (h i o f hs ho hf),fun _=>h⟩
theorem Back.expr {l:List Tok} {d:Nat} {x:Ex} (h:Back l d x) {i o q f:Nat} (hq:q≤zat x) (hs:Seg l i (zae x)) (hF:Follow (zat x) (zaj l (i+(zae x).length))) (hs2:zaj l (i+(zae x).length) < q∨zaj l (i+(zae x).length)=0) (ho:o+2 * d≤200) (hf:l.length+1 - i≤f):zaw l f i o q=.ok x (i+(zae x).length):=by
 have hle:=hs.le;obtain ⟨g,rfl⟩:∃ g,f=g+1:=⟨f - 1,by omega⟩;exact (h.1 i o q g hq hs hF ho hf).done hf hle hs2
theorem Back.zero {l:List Tok} {d:Nat} {x:Ex} (h:Back l d x) {i o f:Nat} (hs:Seg l i (zae x)) (h0:zaj l (i+(zae x).length)=0) (ho:o+2 * d≤200) (hf:l.length+1 - i≤f):zaw l f i o 1=.ok x (i+(zae x).length):=
 h.expr (zhN x) hs (.inl h0) (.inr h0) ho hf
theorem zfd {l:List Tok} {i:Nat} {s:List UInt8} (h:(zaa l i).bare=sK s) (h0:zai s signWords 0=0):zaj l i=0:=by
 rw [(zeN h).2,h0];rfl
theorem Back.inside {l:List Tok} {d:Nat} {x:Ex} (h:Back l d x) {i o f:Nat} {a b:List UInt8} (hs:Seg l i (sK a :: (zae x++[sK b]))) (hb:zai b signWords 0=0) (ho:o+2 * d < 200) (hf:l.length+1 - i≤f+1):zad l (zaw l f) i o a b 1=.ok [x] (i+(zae x).length+2):=by
 obtain ⟨h1,hlt⟩:=hs.at;obtain ⟨h2,h3⟩:=hs.tail.app;obtain ⟨h4,hlt4⟩:=h3.at;have e1:isS l i a=true:=by rw [zcb h1];simp
 have e4:isS l (i+1+(zae x).length) b=true:=by rw [zcb h4];simp
 rw [zfZ e1 (by omega) (h.zero h2 (zfd h4 hb) (by omega) (by omega)) e4];congr 1
 omega
theorem zeK {l:List Tok} {E:Nat→Nat→Nat→PR Ex} {i o j:Nat} {x:Ex} (h:(zaa l i).bare=sK [40]) (hi:zad l E i o [40] [41] 1=.ok [x] j):zah l E i o=.ok x j:=by
 obtain ⟨h1,h2,-⟩:=zcp h;unfold zah;rw [h1,if_neg (by decide),zcb h,if_pos (by decide),hi];rfl
theorem Back.paren {l:List Tok} {d:Nat} {x:Ex} (h:Back l d x) {i o f g:Nat} (hs:Seg l i (sK [40] :: (zae x++[sK [41]]))) (ho:o+2 * d < 200) (hf:l.length+1 - i≤f+1):zas l (zaw l f) (g+1) i o=.ok x (i+(sK [40] :: (zae x++[sK [41]])).length):=by
 obtain ⟨h1,hlt⟩:=hs.at;rw [zeo (by rw [zcb h1];decide) (by rw [zcb h1];decide),zeK h1 (h.inside hs (by decide) ho hf)];congr 1
 simp only [List.length_cons,List.length_append,List.length_nil];omega
theorem Back.part {l:List Tok} {d:Nat} {x:Ex} (h:Back l d x) {i o q f least:Nat} (hq:q≤least) (hs:Seg l i (zbE (zat x,zae x) least)) (hF:Follow least (zaj l (i+(zbE (zat x,zae x) least).length))) (ho:o+2 * d < 200) (hf:l.length+1 - i≤f+1) :
  Reads l (zaw l f) o i q x (i+(zbE (zat x,zae x) least).length):=by
 rw [zjt] at *
 by_cases hb:zat x < least
 ·rw [if_pos hb] at *
  obtain ⟨-,hlt⟩:=hs.at;obtain ⟨g,hg⟩:∃ g,l.length+1 - i=g+1:=⟨l.length - i,by omega⟩;refine Reads.of_unary ?_;rw [hg];exact h.paren hs ho hf
 ·rw [if_neg hb] at *
  exact h.1 i o q f (by omega) hs (hF.mono (by omega)) (by omega) hf
end Go.Proofs.YtoaojdobjinhfaaGreatDoor
