/- The tokens of a tree that can be written are read back to the tree. Plain mathematics. -/
import Derived.Test.YtoaojdobjinhfaaGreatDoorParOkY
import Derived.Test.YtoaojdobjinhfaaGreatDoorFineSY
import Derived.Test.YtoaojdobjinhfaaGreatDoorLexMY
import Derived.Test.YtoaojdobjinhfaaGreatDoorGlobY
set_option linter.unusedSimpArgs false
set_option linter.unusedVariables false
namespace Go.Proofs.YtoaojdobjinhfaaGreatDoor

abbrev BK := Int × List UInt8 × Int
def wK (s : List UInt8) : BK := (1, s, 0)
def sK (s : List UInt8) : BK := (3, s, 0)
def nK (n : Int) : BK := (2, Lib.decDigits n.toNat, n)
def partK (p : Nat × List BK) (least : Nat) : List BK := if p.1 < least then sK [40] :: (p.2 ++ [sK [41]]) else p.2
def argK0 (ps : List (Nat × List BK)) : Nat × List BK := ps.getD 0 (6, [])
def argK1 (ps : List (Nat × List BK)) : Nat × List BK := ps.getD 1 (6, [])
def call1 (w : List UInt8) (o c : List UInt8) (a : List BK) : List BK := wK w :: sK o :: (a ++ [sK c])
def call2 (w : List UInt8) (a b : List BK) : List BK := wK w :: sK [40] :: (a ++ sK [44] :: (b ++ [sK [41]]))
def shapeK (op n : Int) (name : List UInt8) (ps : List (Nat × List BK)) : List BK :=
  if bindS op < 6 then partK (argK0 ps) (leftB (bindS op)) ++ sK (signOf op) :: partK (argK1 ps) (bindS op + 1)
  else if op = 1 then [nK n]
  else if op = 2 then [wK name]
  else if op = 3 then call1 (kindWords.getD (n - 1).toNat []) [91] [93] (argK0 ps).2
  else if op = 4 then [wK [116, 105, 99, 107]]
  else if op = 5 then [wK [115, 101, 108, 102]]
  else if op = 6 then call1 [114, 97, 110, 100] [40] [41] (argK0 ps).2
  else if op = 7 then sK [45] :: partK (argK0 ps) 6
  else if op = 8 then sK [33] :: partK (argK0 ps) 6
  else if op = 9 then call1 [97, 98, 115] [40] [41] (argK0 ps).2
  else if op = 23 then call2 [109, 105, 110] (argK0 ps).2 (argK1 ps).2
  else call2 [109, 97, 120] (argK0 ps).2 (argK1 ps).2
mutual
def toksE : Ex → List BK
  | .mk op n name args => shapeK op n name (toksL args)
def toksL : List Ex → List (Nat × List BK)
  | [] => []
  | .mk op n name args :: r => (bindS op, shapeK op n name (toksL args)) :: toksL r
end
def opE : Ex → Int | .mk op _ _ _ => op
def bindE (x : Ex) : Nat := bindS (opE x)
theorem toksL_cons (x:Ex) (r:List Ex):toksL (x :: r)=(bindE x,toksE x) :: toksL r:=by
 cases x;simp only [toksL,toksE,bindE,opE]
theorem writeL_cons (x:Ex) (r:List Ex):writeL (x :: r)=(bindE x,writeE x) :: writeL r:=by
 cases x;simp only [writeL,writeE,bindE,opE]

inductive Shp : Nat → Ex → Prop
  | num {d : Nat} {n : Int} (h0 : 0 ≤ n) (h1 : n ≤ 9223372036854775807) : Shp (d + 1) (.mk 1 n [] [])
  | var {d : Nat} {name : List UInt8} (h : nameS name = true) : Shp (d + 1) (.mk 2 0 name [])
  | comp {d : Nat} {n : Int} {a : Ex} (h0 : 1 ≤ n) (h1 : n ≤ 10) (h : Shp d a) : Shp (d + 1) (.mk 3 n [] [a])
  | leaf {d : Nat} {op : Int} (h : op = 4 ∨ op = 5) : Shp (d + 1) (.mk op 0 [] [])
  | call {d : Nat} {op : Int} {a : Ex} (ho : op = 6 ∨ op = 9) (h : Shp d a) : Shp (d + 1) (.mk op 0 [] [a])
  | pre {d : Nat} {op : Int} {a : Ex} (ho : op = 7 ∨ op = 8) (h : Shp d a) : Shp (d + 1) (.mk op 0 [] [a])
  | bin {d : Nat} {op : Int} {a b : Ex} (h0 : 10 ≤ op) (h1 : op ≤ 22) (ha : Shp d a) (hb : Shp d b) : Shp (d + 1) (.mk op 0 [] [a, b])
  | two {d : Nat} {op : Int} {a b : Ex} (ho : op = 23 ∨ op = 24) (ha : Shp d a) (hb : Shp d b) : Shp (d + 1) (.mk op 0 [] [a, b])
theorem len0 {α:Type} {l:List α} (h:l.length=0):l=[]:=List.eq_nil_of_length_eq_zero h
theorem len1 {α:Type} {l:List α} (h:l.length=1):∃ a,l=[a]:=List.length_eq_one_iff.1 h
theorem len2 {α:Type} {l:List α} (h:l.length=2):∃ a b,l=[a,b]:=by
 match l,h with
 | [a,b],_=>exact ⟨a,b,rfl⟩
theorem shp_fine:∀ (d:Nat) (x:Ex),fineS d x=true→okE x→Shp d x:=by
 intro d
 induction d with
 | zero=>intro x h;cases x;simp [fineS] at h
 | succ d ih =>
  intro x h hok;obtain ⟨op,n,name,args⟩:=x;simp only [fineS,Bool.and_eq_true] at h;obtain ⟨hh,ha⟩:=h;rw [List.all_eq_true] at ha;obtain ⟨-,hn,-,hargs⟩:=hok
  have hop:1≤op∧op≤24:=by
   unfold headE at hh;rw [Bool.and_eq_true,decide_eq_true_eq] at hh;exact hh.1
  have hsub:∀ a ∈ args,Shp d a:=by
   intro a hm;refine ih a (ha a hm) ?_;clear ha hh ih
   induction args with
   | nil=>cases hm
   | cons y r ihr =>
    rcases List.mem_cons.1 hm with rfl | hm
    ·exact hargs.1
    ·exact ihr hargs.2 hm
  have cases5:op=1∨op=2∨op=3∨(op=4∨op=5)∨((op=6∨op=9)∨(op=7∨op=8))∨(10≤op∧op≤22)∨(op=23∨op=24):=by omega
  rcases cases5 with rfl | rfl | rfl | h | h | ⟨h1,h2⟩ | h
  ·rw [headE_1] at hh;simp only [Bool.and_eq_true,decide_eq_true_eq] at hh;obtain ⟨hl,rfl,h0⟩:=hh;rw [len0 hl];exact .num h0 hn.2
  ·rw [headE_2] at hh;simp only [Bool.and_eq_true,decide_eq_true_eq] at hh;obtain ⟨hl,hnm,rfl⟩:=hh;rw [len0 hl];exact .var hnm
  ·rw [headE_3] at hh;simp only [Bool.and_eq_true,decide_eq_true_eq] at hh;obtain ⟨hl,rfl,h1,h2⟩:=hh;obtain ⟨a,rfl⟩:=len1 hl;exact .comp h1 h2 (hsub a (by simp))
  ·have hh2:headE op n name args.length=(decide (args.length=0) && (decide (name=[]) && decide (n=0))):=by rcases h with rfl | rfl;exact headE_4 _ _ _;exact headE_5 _ _ _
   rw [hh2] at hh;simp only [Bool.and_eq_true,decide_eq_true_eq] at hh;obtain ⟨hl,rfl,rfl⟩:=hh;rw [len0 hl];exact .leaf h
  ·rw [headE_E _ _ _ _ (by omega) (by omega)] at hh;simp only [Bool.and_eq_true,decide_eq_true_eq] at hh;obtain ⟨hl,rfl,rfl⟩:=hh;obtain ⟨a,rfl⟩:=len1 hl;rcases h with h | h
   ·exact .call h (hsub a (by simp))
   ·exact .pre h (hsub a (by simp))
  ·rw [headE_F _ _ _ _ (by omega) (by omega)] at hh;simp only [Bool.and_eq_true,decide_eq_true_eq] at hh;obtain ⟨hl,rfl,rfl⟩:=hh;obtain ⟨a,b,rfl⟩:=len2 hl;exact .bin h1 h2 (hsub a (by simp)) (hsub b (by simp))
  ·rw [headE_F _ _ _ _ (by omega) (by omega)] at hh;simp only [Bool.and_eq_true,decide_eq_true_eq] at hh;obtain ⟨hl,rfl,rfl⟩:=hh;obtain ⟨a,b,rfl⟩:=len2 hl;exact .two h (hsub a (by simp)) (hsub b (by simp))

def Seg (l : List Tok) (i : Nat) (ks : List BK) : Prop := ∃ p s, l.map Tok.bare = p ++ ks ++ s ∧ p.length = i
theorem Seg.app {l:List Tok} {i:Nat} {a b:List BK} (h:Seg l i (a++b)):Seg l i a∧Seg l (i+a.length) b:=by
 obtain ⟨p,s,h1,h2⟩:=h;exact ⟨⟨p,b++s,by rw [h1];simp,h2⟩,⟨p++a,s,by rw [h1];simp,by rw [List.length_append,h2]⟩⟩
theorem Seg.le {l:List Tok} {i:Nat} {a:List BK} (h:Seg l i a):i+a.length≤l.length:=by
 obtain ⟨p,s,h1,h2⟩:=h;have:=congrArg List.length h1;simp only [List.length_map,List.length_append] at this;omega
theorem Seg.at {l:List Tok} {i:Nat} {k:BK} {r:List BK} (h:Seg l i (k :: r)):(tokAt l i).bare=k∧i < l.length:=by
 have hle:=h.le;simp only [List.length_cons] at hle;have hlt:i < l.length:=by omega
 refine ⟨?_,hlt⟩;obtain ⟨p,s,h1,rfl⟩:=h
 have h2:(l.map Tok.bare)[p.length]? = some k:=by
  rw [h1,List.append_assoc,List.getElem?_append_right (Nat.le_refl _),Nat.sub_self];rfl
 rw [List.getElem?_map,List.getElem?_eq_getElem hlt] at h2;unfold tokAt;rw [List.getD_eq_getElem?_getD,List.getElem?_eq_getElem hlt];exact Option.some.inj h2
theorem Seg.tail {l:List Tok} {i:Nat} {k:BK} {r:List BK} (h:Seg l i (k :: r)):Seg l (i+1) r:=(Seg.app (a:=[k]) h).2
theorem bare_kind {t:Tok} {a:Int} {b:List UInt8} {c:Int} (h:t.bare=(a,b,c)):t.kind=a∧t.text=b∧t.n=c:=by
 unfold Tok.bare at h;exact ⟨congrArg (·.1) h,congrArg (·.2.1) h,congrArg (·.2.2) h⟩
theorem is_sK {l:List Tok} {i:Nat} {s:List UInt8} (h:(tokAt l i).bare=sK s) (u:List UInt8):isS l i u=decide (s=u):=by
 obtain ⟨h1,h2,-⟩:=bare_kind h;unfold isS;rw [h1,h2];simp
theorem is_wK {l:List Tok} {i:Nat} {s:List UInt8} (h:(tokAt l i).bare=wK s) (u:List UInt8):isS l i u=decide (s=u):=by
 obtain ⟨h1,h2,-⟩:=bare_kind h;unfold isS;rw [h1,h2];simp
theorem is_nK {l:List Tok} {i:Nat} {n:Int} (h:(tokAt l i).bare=nK n) (u:List UInt8):isS l i u=decide (Lib.decDigits n.toNat=u):=by
 obtain ⟨h1,h2,-⟩:=bare_kind h;unfold isS;rw [h1,h2];simp
theorem strong_sK {l:List Tok} {i:Nat} {s:List UInt8} (h:(tokAt l i).bare=sK s):signAt l i=placeS s signWords 0∧strongAt l i=strongs.getD (placeS s signWords 0) 0:=by
 obtain ⟨h1,h2,-⟩:=bare_kind h;have e:signAt l i=placeS s signWords 0:=by unfold signAt;rw [if_pos h1,h2]
 exact ⟨e,by unfold strongAt;rw [e]⟩
theorem op_forms {op:Int} (h0:10≤op) (h1:op≤22):∃ k:Fin 13,op=10+(k.val:Int):=⟨⟨(op - 10).toNat,by omega⟩,by show op=10+((op - 10).toNat:Int);omega⟩
theorem sign_op {op:Int} (h0:10≤op) (h1:op≤22):(9+(placeS (signOf op) signWords 0:Int)=op)∧strongs.getD (placeS (signOf op) signWords 0) 0=bindS op∧1≤bindS op∧bindS op≤5:=by
 obtain ⟨k,rfl⟩:=op_forms h0 h1;revert k;decide
theorem bind_out {op:Int} (h:¬ (10≤op∧op≤22)):bindS op=6:=by unfold bindS;rw [if_neg h]
theorem leftB_ge (n:Nat):n≤leftB n:=by unfold leftB;split <;> omega
def Follow (n s : Nat) : Prop := s = 0 ∨ leftB s ≤ n
theorem Follow.lt {n s:Nat} (h:Follow n s):s≤n:=by
 rcases h with rfl | h
 ·omega
 ·have:=leftB_ge s;omega
theorem Follow.mono {n m s:Nat} (h:Follow n s) (hm:n≤m):Follow m s:=by
 rcases h with h | h
 ·exact .inl h
 ·exact .inr (Nat.le_trans h hm)
theorem Follow.cmp {s:Nat} (h:Follow 3 s):s≠3:=by
 rintro rfl;rcases h with h | h
 ·omega
 ·exact absurd h (by decide)

theorem unary_no {l:List Tok} {E:Nat→Nat→Nat→PR Ex} {f i o:Nat} (h1:isS l i [45]=false) (h2:isS l i [33]=false):unaryS l E (f+1) i o=operandS l E i o:=by
 rw [unaryS,if_pos ⟨h1,h2⟩]
theorem enter_ok {l:List Tok} {i o:Nat} {s:List UInt8} (h:isS l i s=true) (ho:o < 200):enterS l i s o=.ok () (i+1):=by
 unfold enterS;rw [h,if_neg (by decide),if_neg (by omega)]
theorem inside_one {l:List Tok} {E:Nat→Nat→Nat→PR Ex} {i o j:Nat} {a b:List UInt8} {x:Ex} (h:isS l i a=true) (ho:o < 200) (hE:E (i+1) (o+1) 1=.ok x j) (hj:isS l j b=true):insideS l E i o a b 1=.ok [x] (j+1):=by
 unfold insideS;rw [enter_ok h ho];simp only [PR.andThen,moreS,if_true,hE,hj]
theorem inside_two {l:List Tok} {E:Nat→Nat→Nat→PR Ex} {i o j k:Nat} {a b:List UInt8} {x y:Ex} (h:isS l i a=true) (ho:o < 200) (hE:E (i+1) (o+1) 1=.ok x j) (hj:isS l j [44]=true) (hE2:E (j+1) (o+1) 1=.ok y k) (hk:isS l k b=true):insideS l E i o a b 2=.ok [x,y] (k+1):=by
 unfold insideS;rw [enter_ok h ho];simp only [PR.andThen,moreS,if_true,hE,hj,hE2,hk];simp
def Reads (l : List Tok) (E : Nat → Nat → Nat → PR Ex) (o i q : Nat) (x : Ex) (j : Nat) : Prop :=
  (unaryS l E (l.length + 1 - i) i o).andThen (fun y k => tailS l E (l.length + 1 - k) y k o q) = tailS l E (l.length + 1 - j) x j o q
theorem Reads.of_unary {l:List Tok} {E:Nat→Nat→Nat→PR Ex} {o i q:Nat} {x:Ex} {j:Nat} (h:unaryS l E (l.length+1 - i) i o=.ok x j):Reads l E o i q x j:=by
 unfold Reads;rw [h];rfl
theorem Reads.done {l:List Tok} {f o i q:Nat} {x:Ex} {j:Nat} (h:Reads l (exprS l f) o i q x j) (hf:l.length+1 - i≤f+1) (hj:j≤l.length) (hs:strongAt l j < q∨strongAt l j=0):exprS l (f+1) i o q=.ok x j:=by
 show (unaryS l (exprS l f) (l.length+1 - i) i o).andThen (fun x j=>tailS l (exprS l f) (l.length+1 - j) x j o q)=_;unfold Reads at h;rw [h];obtain ⟨n,hn⟩:∃ n,l.length+1 - j=n+1:=⟨l.length - j,by omega⟩;rw [hn,tailS,if_pos hs]
theorem kind_word (n:Int) (h0:1≤n) (h1:n≤10):(kindS (kindWords.getD (n - 1).toNat []):Int)=n∧wordS (kindWords.getD (n - 1).toNat [])=true:=by
 obtain ⟨k,rfl⟩:∃ k:Fin 10,n=1+(k.val:Int):=⟨⟨(n - 1).toNat,by omega⟩,by show n=1+((n - 1).toNat:Int);omega⟩;revert k;decide +kernel
theorem name_parts {s:List UInt8} (h:nameS s=true):wordS s=true∧kindS s=0∧placeS s keyWords 0=0:=by
 unfold nameS at h;simp only [Bool.and_eq_true,decide_eq_true_eq] at h;exact ⟨h.1.1,h.1.2,h.2⟩
theorem place_ne {s u:List UInt8}:∀ {l:List (List UInt8)} {k:Nat},placeS s l k=0→u ∈ l→s≠u:=by
 intro l
 induction l with
 | nil=>intro k _ hu;cases hu
 | cons x r ih =>
  intro k h hu e;rw [placeS] at h;split at h
  ·omega
  ·rename_i hx
   rcases List.mem_cons.1 hu with rfl | hu
   ·exact hx e.symm
   ·exact ih h hu e
theorem place_zero {s:List UInt8}:∀ {l:List (List UInt8)} {k:Nat},(∀ u ∈ l,s≠u)→placeS s l k=0:=by
 intro l
 induction l with
 | nil=>intro k _;rfl
 | cons x r ih =>
  intro k h;rw [placeS,if_neg (fun e=>h x (by simp) e.symm)];exact ih fun u hu=>h u (List.mem_cons_of_mem _ hu)
theorem name_call {s:List UInt8} (h:nameS s=true):placeS s callWords 0=0∧s≠[116,105,99,107]∧s≠[115,101,108,102]:=by
 obtain ⟨-,-,h3⟩:=name_parts h;refine ⟨place_zero fun u hu=>place_ne h3 ?_,place_ne h3 (by decide),place_ne h3 (by decide)⟩;revert u;decide
theorem part_eq (x:Ex) (least:Nat):partK (bindE x,toksE x) least=if bindE x < least then sK [40] :: (toksE x++[sK [41]]) else toksE x:=rfl
theorem bind_le (x:Ex):bindE x≤6:=by
 unfold bindE;by_cases h:10≤opE x∧opE x≤22
 ·have:=sign_op h.1 h.2;omega
 ·rw [bind_out h];omega
theorem bind_pos (x:Ex):1≤bindE x:=by
 unfold bindE;by_cases h:10≤opE x∧opE x≤22
 ·have:=sign_op h.1 h.2;omega
 ·rw [bind_out h];omega
theorem bind_six {x:Ex} (h:¬ (10≤opE x∧opE x≤22)):bindE x=6:=bind_out h
theorem toks_num (n:Int):toksE (.mk 1 n [] [])=[nK n]:=rfl
theorem toks_var (s:List UInt8):toksE (.mk 2 0 s [])=[wK s]:=rfl
theorem toks_comp (n:Int) (a:Ex):toksE (.mk 3 n [] [a])=call1 (kindWords.getD (n - 1).toNat []) [91] [93] (toksE a):=by
 simp only [toksE,toksL_cons];rfl
theorem toks_tick:toksE (.mk 4 0 [] [])=[wK [116,105,99,107]]:=rfl
theorem toks_self:toksE (.mk 5 0 [] [])=[wK [115,101,108,102]]:=rfl
theorem toks_rand (a:Ex):toksE (.mk 6 0 [] [a])=call1 [114,97,110,100] [40] [41] (toksE a):=by
 simp only [toksE,toksL_cons];rfl
theorem toks_abs (a:Ex):toksE (.mk 9 0 [] [a])=call1 [97,98,115] [40] [41] (toksE a):=by
 simp only [toksE,toksL_cons];rfl
theorem toks_neg (a:Ex):toksE (.mk 7 0 [] [a])=sK [45] :: partK (bindE a,toksE a) 6:=by
 simp only [toksE,toksL_cons];rfl
theorem toks_not (a:Ex):toksE (.mk 8 0 [] [a])=sK [33] :: partK (bindE a,toksE a) 6:=by
 simp only [toksE,toksL_cons];rfl
theorem toks_min (a b:Ex):toksE (.mk 23 0 [] [a,b])=call2 [109,105,110] (toksE a) (toksE b):=by
 simp only [toksE,toksL_cons];rfl
theorem toks_max (a b:Ex):toksE (.mk 24 0 [] [a,b])=call2 [109,97,120] (toksE a) (toksE b):=by
 simp only [toksE,toksL_cons];rfl
theorem toks_bin {op:Int} (h0:10≤op) (h1:op≤22) (a b:Ex):toksE (.mk op 0 [] [a,b])=partK (bindE a,toksE a) (leftB (bindS op))++sK (signOf op) :: partK (bindE b,toksE b) (bindS op+1):=by
 have:=sign_op h0 h1;simp only [toksE,toksL_cons];unfold shapeK;rw [if_pos (by omega)];rfl

def BackU (l : List Tok) (d : Nat) (x : Ex) : Prop := ∀ (i o f : Nat), Seg l i (toksE x) → o + 2 * d ≤ 200 → l.length + 1 - i ≤ f + 1 → unaryS l (exprS l f) (l.length + 1 - i) i o = .ok x (i + (toksE x).length)
def Back (l : List Tok) (d : Nat) (x : Ex) : Prop :=
  (∀ (i o q f : Nat), q ≤ bindE x → Seg l i (toksE x) → Follow (bindE x) (strongAt l (i + (toksE x).length)) → o + 2 * d ≤ 200 → l.length + 1 - i ≤ f + 1 → Reads l (exprS l f) o i q x (i + (toksE x).length)) ∧ (bindE x = 6 → BackU l d x)
theorem Back.of_unary {l:List Tok} {d:Nat} {x:Ex} (h:BackU l d x):Back l d x:=⟨fun i o _ f _ hs _ ho hf=>Reads.of_unary (h i o f hs ho hf),fun _=>h⟩
theorem Back.expr {l:List Tok} {d:Nat} {x:Ex} (h:Back l d x) {i o q f:Nat} (hq:q≤bindE x) (hs:Seg l i (toksE x)) (hF:Follow (bindE x) (strongAt l (i+(toksE x).length))) (hs2:strongAt l (i+(toksE x).length) < q∨strongAt l (i+(toksE x).length)=0) (ho:o+2 * d≤200) (hf:l.length+1 - i≤f):exprS l f i o q=.ok x (i+(toksE x).length):=by
 have hle:=hs.le;obtain ⟨g,rfl⟩:∃ g,f=g+1:=⟨f - 1,by omega⟩;exact (h.1 i o q g hq hs hF ho hf).done hf hle hs2
theorem Back.zero {l:List Tok} {d:Nat} {x:Ex} (h:Back l d x) {i o f:Nat} (hs:Seg l i (toksE x)) (h0:strongAt l (i+(toksE x).length)=0) (ho:o+2 * d≤200) (hf:l.length+1 - i≤f):exprS l f i o 1=.ok x (i+(toksE x).length):=
 h.expr (bind_pos x) hs (.inl h0) (.inr h0) ho hf
theorem zero_sK {l:List Tok} {i:Nat} {s:List UInt8} (h:(tokAt l i).bare=sK s) (h0:placeS s signWords 0=0):strongAt l i=0:=by
 rw [(strong_sK h).2,h0];rfl
theorem Back.inside {l:List Tok} {d:Nat} {x:Ex} (h:Back l d x) {i o f:Nat} {a b:List UInt8} (hs:Seg l i (sK a :: (toksE x++[sK b]))) (hb:placeS b signWords 0=0) (ho:o+2 * d < 200) (hf:l.length+1 - i≤f+1):insideS l (exprS l f) i o a b 1=.ok [x] (i+(toksE x).length+2):=by
 obtain ⟨h1,hlt⟩:=hs.at;obtain ⟨h2,h3⟩:=hs.tail.app;obtain ⟨h4,hlt4⟩:=h3.at;have e1:isS l i a=true:=by rw [is_sK h1];simp
 have e4:isS l (i+1+(toksE x).length) b=true:=by rw [is_sK h4];simp
 rw [inside_one e1 (by omega) (h.zero h2 (zero_sK h4 hb) (by omega) (by omega)) e4];congr 1
 omega
theorem Back.inside2 {l:List Tok} {d:Nat} {x y:Ex} (h:Back l d x) (h':Back l d y) {i o f:Nat} (hs:Seg l i (sK [40] :: (toksE x++sK [44] :: (toksE y++[sK [41]])))) (ho:o+2 * d < 200) (hf:l.length+1 - i≤f+1):insideS l (exprS l f) i o [40] [41] 2=.ok [x,y] (i+(toksE x).length+(toksE y).length+3):=by
 obtain ⟨h1,hlt⟩:=hs.at;obtain ⟨h2,h3⟩:=hs.tail.app;obtain ⟨h4,hlt4⟩:=h3.at;obtain ⟨h5,h6⟩:=h3.tail.app;obtain ⟨h7,hlt7⟩:=h6.at;have e1:isS l i [40]=true:=by rw [is_sK h1];simp
 have e4:isS l (i+1+(toksE x).length) [44]=true:=by rw [is_sK h4];simp
 have e7:isS l (i+1+(toksE x).length+1+(toksE y).length) [41]=true:=by rw [is_sK h7];simp
 rw [inside_two e1 (by omega) (h.zero h2 (zero_sK h4 (by decide)) (by omega) (by omega)) e4 (h'.zero h5 (zero_sK h7 (by decide)) (by omega) (by omega)) e7];congr 1
 omega
theorem operand_paren {l:List Tok} {E:Nat→Nat→Nat→PR Ex} {i o j:Nat} {x:Ex} (h:(tokAt l i).bare=sK [40]) (hi:insideS l E i o [40] [41] 1=.ok [x] j):operandS l E i o=.ok x j:=by
 obtain ⟨h1,h2,-⟩:=bare_kind h;unfold operandS;rw [h1,if_neg (by decide),is_sK h,if_pos (by decide),hi];rfl
theorem Back.paren {l:List Tok} {d:Nat} {x:Ex} (h:Back l d x) {i o f g:Nat} (hs:Seg l i (sK [40] :: (toksE x++[sK [41]]))) (ho:o+2 * d < 200) (hf:l.length+1 - i≤f+1):unaryS l (exprS l f) (g+1) i o=.ok x (i+(sK [40] :: (toksE x++[sK [41]])).length):=by
 obtain ⟨h1,hlt⟩:=hs.at;rw [unary_no (by rw [is_sK h1];decide) (by rw [is_sK h1];decide),operand_paren h1 (h.inside hs (by decide) ho hf)];congr 1
 simp only [List.length_cons,List.length_append,List.length_nil];omega
theorem Back.part {l:List Tok} {d:Nat} {x:Ex} (h:Back l d x) {i o q f least:Nat} (hq:q≤least) (hs:Seg l i (partK (bindE x,toksE x) least)) (hF:Follow least (strongAt l (i+(partK (bindE x,toksE x) least).length))) (ho:o+2 * d < 200) (hf:l.length+1 - i≤f+1) :
  Reads l (exprS l f) o i q x (i+(partK (bindE x,toksE x) least).length):=by
 rw [part_eq] at *
 by_cases hb:bindE x < least
 ·rw [if_pos hb] at *
  obtain ⟨-,hlt⟩:=hs.at;obtain ⟨g,hg⟩:∃ g,l.length+1 - i=g+1:=⟨l.length - i,by omega⟩;refine Reads.of_unary ?_;rw [hg];exact h.paren hs ho hf
 ·rw [if_neg hb] at *
  exact h.1 i o q f (by omega) hs (hF.mono (by omega)) (by omega) hf
theorem word_not {s:List UInt8} (h:wordS s=true):s≠[45]∧s≠[33]∧s≠[40]:=by
 refine ⟨?_,?_,?_⟩ <;> (rintro rfl;exact absurd h (by decide +kernel))
theorem digits_not (n:Nat) (hn:n≤9223372036854775807):Lib.decDigits n≠[45]∧Lib.decDigits n≠[33]:=by
 have h:=(value_dec n hn).2.2.2.2;constructor
 ·intro e;rw [e] at h;exact absurd (h 45 (by simp)) (by decide)
 ·intro e;rw [e] at h;exact absurd (h 33 (by simp)) (by decide)
theorem unary_word {l:List Tok} {E:Nat→Nat→Nat→PR Ex} {f i o:Nat} {s:List UInt8} (h:(tokAt l i).bare=wK s) (hw:wordS s=true):unaryS l E (f+1) i o=operandS l E i o:=by
 obtain ⟨h1,h2,-⟩:=word_not hw;exact unary_no (by rw [is_wK h];exact decide_eq_false h1) (by rw [is_wK h];exact decide_eq_false h2)
theorem operand_wordB {l:List Tok} {E:Nat→Nat→Nat→PR Ex} {i o:Nat} {s:List UInt8} (h:(tokAt l i).bare=wK s) (hw:wordS s=true):operandS l E i o =
  if 0 < kindS s then (insideS l E (i+1) o [91] [93] 1).map (.mk 3 (kindS s) [])
  else if 0 < placeS s callWords 0 then (insideS l E (i+1) o [40] [41] (if placeS s callWords 0≤2 then 1 else 2)).map (.mk (callOps.getD (placeS s callWords 0) 0) 0 [])
  else if s=[116,105,99,107] then .ok (.mk 4 0 [] []) (i+1)
  else if s=[115,101,108,102] then .ok (.mk 5 0 [] []) (i+1)
  else if nameS s=false then .err i 120
  else .ok (.mk 2 0 s []) (i+1):=by
 obtain ⟨h1,h2,-⟩:=bare_kind h;have h3:=(word_not hw).2.2;unfold operandS;rw [h1,if_neg (by decide),is_wK h,if_neg (by simpa using h3),if_neg (by decide),h2]
theorem back_call1 {l:List Tok} {d:Nat} {a:Ex} (h:Back l d a) {w:List UInt8} (hw:wordS w=true) (hk:kindS w=0) {k:Nat} (hp:placeS w callWords 0=k) (hk1:1≤k) (hk2:k≤2) {op:Int} (hop:callOps.getD k 0=op) (ht:toksE (.mk op 0 [] [a])=call1 w [40] [41] (toksE a)):BackU l (d+1) (.mk op 0 [] [a]):=by
 intro i o f hs ho hf;rw [ht] at hs ⊢;obtain ⟨h1,hlt⟩:=hs.at;obtain ⟨g,hg⟩:∃ g,l.length+1 - i=g+1:=⟨l.length - i,by omega⟩;rw [hg,unary_word h1 hw,operand_wordB h1 hw,if_neg (by omega),hp,if_pos (by omega),if_pos hk2,hop,h.inside hs.tail (by decide) (by omega) (by omega)];show PR.ok _ _=_;congr 1
 simp only [call1,List.length_cons,List.length_append,List.length_nil];omega
theorem back_call2 {l:List Tok} {d:Nat} {a b:Ex} (h:Back l d a) (h':Back l d b) {w:List UInt8} (hw:wordS w=true) (hk:kindS w=0) {k:Nat} (hp:placeS w callWords 0=k) (hk1:3≤k) {op:Int} (hop:callOps.getD k 0=op) (ht:toksE (.mk op 0 [] [a,b])=call2 w (toksE a) (toksE b)):BackU l (d+1) (.mk op 0 [] [a,b]):=by
 intro i o f hs ho hf;rw [ht] at hs ⊢;obtain ⟨h1,hlt⟩:=hs.at;obtain ⟨g,hg⟩:∃ g,l.length+1 - i=g+1:=⟨l.length - i,by omega⟩;rw [hg,unary_word h1 hw,operand_wordB h1 hw,if_neg (by omega),hp,if_pos (by omega),if_neg (by omega),hop,h.inside2 h' hs.tail (by omega) (by omega)];show PR.ok _ _=_;congr 1
 simp only [call2,List.length_cons,List.length_append,List.length_nil];omega
theorem back_pre {l:List Tok} {d:Nat} {a:Ex} (h:Back l d a) {s:List UInt8} {op:Int} (hs0:(s=[45]∧op=7)∨(s=[33]∧op=8)) (ht:toksE (.mk op 0 [] [a])=sK s :: partK (bindE a,toksE a) 6):BackU l (d+1) (.mk op 0 [] [a]):=by
 intro i o f hs ho hf;rw [ht] at hs ⊢;obtain ⟨h1,hlt⟩:=hs.at;have hs1:=hs.tail;obtain ⟨g,hg⟩:∃ g,l.length+1 - i=g+1:=⟨l.length - i,by omega⟩;have hg2:l.length+1 - (i+1)=g:=by omega
 have hu:unaryS l (exprS l f) g (i+1) (o+1)=.ok a (i+1+(partK (bindE a,toksE a) 6).length):=by
  rw [part_eq] at hs1 ⊢;by_cases hb:bindE a < 6
  ·rw [if_pos hb] at hs1 ⊢;obtain ⟨-,hlt1⟩:=hs1.at;obtain ⟨g',rfl⟩:∃ g',g=g'+1:=⟨g - 1,by omega⟩;exact h.paren hs1 (by omega) (by omega)
  ·rw [if_neg hb] at hs1 ⊢;have:=bind_le a;have:=h.2 (by omega) (i+1) (o+1) f hs1 (by omega) (by omega);rw [hg2] at this;exact this
 have h0:¬ (isS l i [45]=false∧isS l i [33]=false):=by
  rw [is_sK h1,is_sK h1];rcases hs0 with ⟨rfl,-⟩ | ⟨rfl,-⟩ <;> decide
 rw [hg,unaryS,if_neg h0,if_neg (by omega),hu];show PR.ok _ _=_
 have e:(if isS l i [33]=true then (8:Int) else 7)=op:=by
  rw [is_sK h1];rcases hs0 with ⟨rfl,rfl⟩ | ⟨rfl,rfl⟩ <;> rfl
 rw [e];congr 1
 simp only [List.length_cons];omega
theorem back_main (l:List Tok):∀ {d:Nat} {x:Ex},Shp d x→Back l d x:=by
 intro d x h
 induction h with
 | @num d n h0 h1 =>
  refine .of_unary fun i o f hs ho hf=>?_
  rw [toks_num] at hs ⊢;obtain ⟨k1,hlt⟩:=hs.at;obtain ⟨g,hg⟩:∃ g,l.length+1 - i=g+1:=⟨l.length - i,by omega⟩;have hd:=digits_not n.toNat (by omega);rw [hg,unary_no (by rw [is_nK k1];exact decide_eq_false hd.1) (by rw [is_nK k1];exact decide_eq_false hd.2)];obtain ⟨e1,-,e3⟩:=bare_kind k1;unfold operandS;rw [if_pos e1,e3]
  rfl
 | @var d name h =>
  refine .of_unary fun i o f hs ho hf=>?_
  rw [toks_var] at hs ⊢;obtain ⟨k1,hlt⟩:=hs.at;obtain ⟨g,hg⟩:∃ g,l.length+1 - i=g+1:=⟨l.length - i,by omega⟩;obtain ⟨n1,n2,n3⟩:=name_parts h;obtain ⟨c1,c2,c3⟩:=name_call h;rw [hg,unary_word k1 n1,operand_wordB k1 n1,if_neg (by omega),if_neg (by omega),if_neg c2,if_neg c3,if_neg (by rw [h];decide)]
  rfl
 | @comp d n a h0 h1 h ih =>
  refine .of_unary fun i o f hs ho hf=>?_
  rw [toks_comp] at hs ⊢;obtain ⟨k1,hlt⟩:=hs.at;obtain ⟨g,hg⟩:∃ g,l.length+1 - i=g+1:=⟨l.length - i,by omega⟩;obtain ⟨n1,n2⟩:=kind_word n h0 h1;rw [hg,unary_word k1 n2,operand_wordB k1 n2,if_pos (by omega),ih.inside hs.tail (by decide) (by omega) (by omega),n1];show PR.ok _ _=_;congr 1
  simp only [call1,List.length_cons,List.length_append,List.length_nil]
  omega
 | @leaf d op h =>
  refine .of_unary fun i o f hs ho hf=>?_
  obtain ⟨w,hw,hk,hc,ht,hr⟩:∃ w,wordS w=true∧kindS w=0∧placeS w callWords 0=0∧toksE (.mk op 0 [] [])=[wK w]∧(if w=[116,105,99,107] then PR.ok (Ex.mk 4 0 [] []) (i+1) else if w=[115,101,108,102] then .ok (Ex.mk 5 0 [] []) (i+1) else if nameS w=false then .err i 120 else .ok (Ex.mk 2 0 w []) (i+1))=PR.ok (Ex.mk op 0 [] []) (i+1):=by
   rcases h with rfl | rfl
   ·exact ⟨[116,105,99,107],by decide +kernel,by decide +kernel,by decide +kernel,rfl,rfl⟩
   ·exact ⟨[115,101,108,102],by decide +kernel,by decide +kernel,by decide +kernel,rfl,rfl⟩
  rw [ht] at hs ⊢;obtain ⟨k1,hlt⟩:=hs.at;obtain ⟨g,hg⟩:∃ g,l.length+1 - i=g+1:=⟨l.length - i,by omega⟩;rw [hg,unary_word k1 hw,operand_wordB k1 hw,if_neg (by omega),if_neg (by omega)]
  exact hr
 | @call d op a ho' h ih =>
  rcases ho' with rfl | rfl
  ·exact .of_unary (back_call1 ih (w:=[114,97,110,100]) (by decide +kernel) (by decide +kernel) (k:=1) (by decide +kernel) (by omega) (by omega) (by decide) (toks_rand a))
  ·exact .of_unary (back_call1 ih (w:=[97,98,115]) (by decide +kernel) (by decide +kernel) (k:=2) (by decide +kernel) (by omega) (by omega) (by decide) (toks_abs a))
 | @pre d op a ho' h ih =>
  rcases ho' with rfl | rfl
  ·exact .of_unary (back_pre ih (.inl ⟨rfl,rfl⟩) (toks_neg a))
  ·exact .of_unary (back_pre ih (.inr ⟨rfl,rfl⟩) (toks_not a))
 | @two d op a b ho' ha hb iha ihb =>
  rcases ho' with rfl | rfl
  ·exact .of_unary (back_call2 iha ihb (w:=[109,105,110]) (by decide +kernel) (by decide +kernel) (k:=3) (by decide +kernel) (by omega) (by decide) (toks_min a b))
  ·exact .of_unary (back_call2 iha ihb (w:=[109,97,120]) (by decide +kernel) (by decide +kernel) (k:=4) (by decide +kernel) (by omega) (by decide) (toks_max a b))
 | @bin d op a b h0 h1 ha hb iha ihb =>
  obtain ⟨s1,s2,s3,s4⟩:=sign_op h0 h1;have hbe:bindE (.mk op 0 [] [a,b])=bindS op:=rfl;refine ⟨fun i o q f hq hs hF ho hf=>?_,fun h6=>by rw [hbe] at h6;omega⟩;rw [hbe] at hq hF;rw [toks_bin h0 h1] at hs hF ⊢;obtain ⟨g1,g2⟩:=hs.app;obtain ⟨k1,hlt⟩:=g2.at;have g3:=g2.tail;have hle:=g3.le;have st:=strong_sK k1;rw [s2] at st;have ra:=iha.part (q:=q) (o:=o) (f:=f) (by have:=leftB_ge (bindS op);omega) g1 (by rw [st.2];exact .inr (Nat.le_refl _)) (by omega) hf
  have elen:i+(partK (bindE a,toksE a) (leftB (bindS op))++sK (signOf op) :: partK (bindE b,toksE b) (bindS op+1)).length=i+(partK (bindE a,toksE a) (leftB (bindS op))).length+1+(partK (bindE b,toksE b) (bindS op+1)).length:=by
   rw [List.length_append,List.length_cons];omega
  rw [elen] at hF ⊢;have hb3:=ihb.part (q:=bindS op+1) (o:=o) (f:=f - 1) (Nat.le_refl _) g3 (hF.mono (by omega)) (by omega) (by omega);obtain ⟨f',rfl⟩:∃ f',f=f'+1:=⟨f - 1,by omega⟩;have eb:=hb3.done (by omega) hle (by have:=hF.lt;omega);rw [Nat.add_sub_cancel] at eb;unfold Reads at ra ⊢;rw [ra]
  generalize (partK (bindE a,toksE a) (leftB (bindS op))).length=na at *
  generalize (partK (bindE b,toksE b) (bindS op+1)).length=nb at *
  obtain ⟨m,hm⟩:∃ m,l.length+1 - (i+na)=m+1:=⟨l.length - (i+na),by omega⟩;rw [hm,tailS,if_neg (by rw [st.2];omega),st.2,eb]
  have h3:¬ (bindS op=3∧strongAt l (i+na+1+nb)=3):=by
   rintro ⟨h3,h4⟩;rw [h3] at hF;exact hF.cmp h4
  simp only [PR.andThen];rw [if_neg h3,st.1,s1];exact tail_fuel (expr_mon l _) (po_expr_in l _) _ _ _ _ _ _ (by omega) (Nat.le_refl _) hle
end Go.Proofs.YtoaojdobjinhfaaGreatDoor
