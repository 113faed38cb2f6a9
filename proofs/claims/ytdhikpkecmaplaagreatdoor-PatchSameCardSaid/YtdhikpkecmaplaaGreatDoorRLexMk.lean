/- The reference's Lex, walked: what it gives is what the bytes say. No condition but the size that every string has. -/
import Derived.Test.YtdhikpkecmaplaaGreatDoorRegionMk
set_option linter.unusedSimpArgs false
set_option linter.unusedVariables false
namespace Go.Proofs.YtdhikpkecmaplaaGreatDoor
open Go.RowKit

def bstr (l : List UInt8) : ByteArray := ⟨l.toArray⟩
def Tok.cells (t : Tok) : List Value := [.int .u8 t.kind, .string (bstr t.text), .int .i64 t.n, .int .i64 t.line, .int .i64 t.col]
def Toks (w : World) (l : List Tok) (v : Value) : Prop := Sl w 5 l.length (l.flatMap Tok.cells) v
def LexE (w' : World) (e : Ending) : LexR -> Prop
  | .ok l => ∃ r, e = .returned (.tuple #[r, .int .i64 0, .int .i64 0, .int .i64 0]) /\ Toks w' l r
  | .err a b c => e = .returned (.tuple #[.slice none 0 0, .int .i64 a, .int .i64 b, .int .i64 c])
theorem zbk (s:ByteArray) (i j:Nat):s.extract i j=bstr ((s.data.toList.drop i).take (j - i)):=by
 have h:=zbX s i j;unfold bstr;rw [<- h]
theorem za2 (s:ByteArray) {k:Nat} (h:k < s.size):s.data.toList.drop k=s[k] :: s.data.toList.drop (k+1):=by
 rw [List.drop_eq_getElem_cons (by rw [zaq];exact h),zdH s k h]
theorem zdf (s:ByteArray) {k:Nat} (h:s.size<=k):s.data.toList.drop k=[]:=List.drop_of_length_le (by rw [zaq];exact h)

theorem zdB {w:World} {base:Nat} {e:TypeId} {sz:Nat} {v:Value} {n:Nat} {xs:List Value} (h:w.ownsRow base e sz v n xs) {g:Nat} (hg:∀ b,v.ownBlock=some b->b≠g) (i:Nat) (x:Value):(w.setCell ⟨g,i,none⟩ x).ownsRow base e sz v n xs:=by
 obtain ⟨h1,h2⟩:=h;refine ⟨h1,?_⟩;rcases h2 with hn | ⟨b,cap,cur,hv,hb,hh,rest⟩
 ·exact .inl hn
 ·refine .inr ⟨b,cap,cur,hv,hb,?_,rest⟩;rw [Below.heap_setCell _ _ _ _ (by show b≠g;exact hg b (by rw [hv];rfl))];exact hh

def za4 (s : List UInt8) : Bool := match s with
  | [] => false
  | b :: r => decide ((b :: r).length <= 24) && zaH b && r.all zaf
def zaa (l : List Tok) (i : Nat) : Tok := l.getD i ⟨4, [], 0, 0, 0⟩
inductive Ex where
  | mk (op : Int) (n : Int) (name : List UInt8) (args : List Ex)
inductive St where
  | mk (op : Int) (n : Int) (name : List UInt8) (e : List Ex) (body els : List St)
inductive PR (α : Type) where
  | ok (x : α) (next : Nat)
  | err (at' : Nat) (code : Int)
def PR.andThen {α β : Type} (r : PR α) (f : α -> Nat -> PR β) : PR β :=
  match r with
  | .ok x n => f x n
  | .err a c => .err a c
def PR.map {α β : Type} (g : α -> β) (r : PR α) : PR β := r.andThen fun x n => .ok (g x) n

def kindWords : List (List UInt8) := [[112, 111, 115], [118, 101, 108], [98, 111, 120], [111, 119, 110, 101, 114], [104, 105, 100, 101], [115, 99, 114, 105, 112, 116], [118, 97, 114, 115], [108, 105, 102, 101], [112, 117, 114, 115, 101], [116, 97, 103]]
def keyWords : List (List UInt8) := [[108, 101, 116], [105, 102], [101, 108, 115, 101], [119, 104, 105, 108, 101], [115, 116, 111, 112], [102, 97, 105, 108], [116, 105, 99, 107], [115, 101, 108, 102], [114, 97, 110, 100], [97, 98, 115], [109, 105, 110], [109, 97, 120]]
def zai (s : List UInt8) : List (List UInt8) -> Nat -> Nat
  | [], _ => 0
  | x :: r, k => if x = s then k + 1 else zai s r (k + 1)
def zap (s : List UInt8) : Nat := zai s kindWords 0
def zaP (s : List UInt8) : Bool := za4 s && decide (zap s = 0) && decide (zai s keyWords 0 = 0)
def signWords : List (List UInt8) := [[42], [47], [37], [43], [45], [60], [60, 61], [62], [62, 61], [61, 61], [33, 61], [38, 38], [124, 124]]
def strongs : List Nat := [0, 5, 5, 5, 4, 4, 3, 3, 3, 3, 3, 3, 2, 1]

def isS (l : List Tok) (i : Nat) (s : List UInt8) : Bool := decide ((zaa l i).kind ≠ 4) && decide ((zaa l i).text = s)
def za3 (l : List Tok) (i : Nat) : Nat := if (zaa l i).kind = 3 then zai (zaa l i).text signWords 0 else 0
def zaj (l : List Tok) (i : Nat) : Nat := strongs.getD (za3 l i) 0
def zay (l : List Tok) (i : Nat) (s : List UInt8) (opened : Nat) : PR Unit :=
  if isS l i s = false then .err i 120 else if 200 <= opened then .err i 121 else .ok () (i + 1)

def zaD (l : List Tok) (E : Nat -> Nat -> Nat -> PR Ex) : Nat -> Ex -> Nat -> Nat -> Nat -> PR Ex
  | 0, _, i, _, _ => .err i 0
  | f + 1, x, i, opened, least =>
    if zaj l i < least ∨ zaj l i = 0 then .ok x i
    else (E (i + 1) opened (zaj l i + 1)).andThen fun y j =>
      if zaj l i = 3 /\ zaj l j = 3 then .err j 120
      else zaD l E f (.mk (9 + za3 l i) 0 [] [x, y]) j opened least
def zav (l : List Tok) (E : Nat -> Nat -> Nat -> PR Ex) (opened : Nat) (stop : List UInt8) : Nat -> List Ex -> Nat -> PR (List Ex)
  | 0, xs, i => if isS l i stop = true then .ok xs (i + 1) else .err i 120
  | m + 1, xs, i =>
    if xs = [] then (E i (opened + 1) 1).andThen fun x j => zav l E opened stop m [x] j
    else if isS l i ([44] /- , -/) = false then .err i 120
    else (E (i + 1) (opened + 1) 1).andThen fun x j => zav l E opened stop m (xs ++ [x]) j
def zad (l : List Tok) (E : Nat -> Nat -> Nat -> PR Ex) (i opened : Nat) (start stop : List UInt8) (many : Nat) : PR (List Ex) :=
  (zay l i start opened).andThen fun _ j => zav l E opened stop many [] j
def zoa : List (List UInt8) := [[114, 97, 110, 100], [97, 98, 115], [109, 105, 110], [109, 97, 120]]
def callOps : List Int := [0, 6, 9, 23, 24]
def zah (l : List Tok) (E : Nat -> Nat -> Nat -> PR Ex) (i opened : Nat) : PR Ex :=
  if (zaa l i).kind = 2 then .ok (.mk 1 (zaa l i).n [] []) (i + 1)
  else if isS l i ([40] /- ( -/) = true then (zad l E i opened ([40] /- ( -/) ([41] /- ) -/) 1).andThen fun xs j => match xs with
    | x :: _ => .ok x j
    | [] => .err j 0
  else if (zaa l i).kind ≠ 1 then .err i 120
  else if 0 < zap (zaa l i).text then (zad l E (i + 1) opened ([91] /- [ -/) ([93] /- ] -/) 1).map (.mk 3 (zap (zaa l i).text) [])
  else if 0 < zai (zaa l i).text zoa 0 then (zad l E (i + 1) opened ([40] /- ( -/) ([41] /- ) -/) (if zai (zaa l i).text zoa 0 <= 2 then 1 else 2)).map (.mk (callOps.getD (zai (zaa l i).text zoa 0) 0) 0 [])
  else if (zaa l i).text = [116, 105, 99, 107] /- tick -/ then .ok (.mk 4 0 [] []) (i + 1)
  else if (zaa l i).text = [115, 101, 108, 102] /- self -/ then .ok (.mk 5 0 [] []) (i + 1)
  else if zaP (zaa l i).text = false then .err i 120
  else .ok (.mk 2 0 (zaa l i).text []) (i + 1)
def zas (l : List Tok) (E : Nat -> Nat -> Nat -> PR Ex) : Nat -> Nat -> Nat -> PR Ex
  | 0, i, _ => .err i 0
  | f + 1, i, opened =>
    if isS l i ([45] /- - -/) = false /\ isS l i ([33] /- ! -/) = false then zah l E i opened
    else if 200 <= opened then .err i 121
    else (zas l E f (i + 1) (opened + 1)).map fun x => .mk (if isS l i ([33] /- ! -/) = true then 8 else 7) 0 [] [x]
def zaw (l : List Tok) : Nat -> Nat -> Nat -> Nat -> PR Ex
  | 0, i, _, _ => .err i 0
  | f + 1, i, opened, least => (zas l (zaw l f) (l.length + 1 - i) i opened).andThen fun x j => zaD l (zaw l f) (l.length + 1 - j) x j opened least
def zaA (l : List Tok) (i opened least : Nat) : PR Ex := zaw l (l.length + 1 - i) i opened least
def zaz (l : List Tok) (i opened : Nat) : PR Ex :=
  if isS l i ([61] /- = -/) = false then .err i 120
  else (zaA l (i + 1) opened 1).andThen fun x j => if isS l j ([59] /- ; -/) = false then .err j 120 else .ok x (j + 1)
def zaX (l : List Tok) (S : Nat -> Nat -> PR St) (opened : Nat) : Nat -> List St -> Nat -> PR (List St)
  | 0, _, i => .err i 0
  | f + 1, xs, i => if isS l i ([125] /- } -/) = true then .ok xs (i + 1) else (S i (opened + 1)).andThen fun x j => zaX l S opened f (xs ++ [x]) j
def zaB (l : List Tok) (S : Nat -> Nat -> PR St) (i opened : Nat) : PR (List St) :=
  (zay l i ([123] /- { -/) opened).andThen fun _ j => zaX l S opened (l.length + 1 - j) [] j
def zau (l : List Tok) (S : Nat -> Nat -> PR St) : Nat -> Nat -> Nat -> PR St
  | 0, i, _ => .err i 0
  | f + 1, i, opened =>
    (zad l (zaA l) (i + 1) opened ([40] /- ( -/) ([41] /- ) -/) 1).andThen fun x j =>
    (zaB l S j opened).andThen fun body k =>
    if isS l i ([119, 104, 105, 108, 101] /- while -/) = true then .ok (.mk 5 0 [] x body []) k
    else if isS l k ([101, 108, 115, 101] /- else -/) = false then .ok (.mk 4 0 [] x body []) k
    else if 200 <= opened then .err k 121
    else if isS l (k + 1) ([105, 102] /- if -/) = true then (zau l S f (k + 1) (opened + 1)).map fun y => .mk 4 0 [] x body [y]
    else (zaB l S (k + 1) (opened + 1)).map fun other => .mk 4 0 [] x body other
def zan (l : List Tok) : Nat -> Nat -> Nat -> PR St
  | 0, i, _ => .err i 0
  | f + 1, i, opened =>
    if (zaa l i).kind ≠ 1 then .err i 120
    else if 0 < zap (zaa l i).text then
      (zad l (zaA l) (i + 1) opened ([91] /- [ -/) ([93] /- ] -/) 1).andThen fun xs j => (zaz l j opened).map fun y => .mk 3 (zap (zaa l i).text) [] (xs ++ [y]) [] []
    else if (zaa l i).text = [115, 116, 111, 112] /- stop -/ ∨ (zaa l i).text = [102, 97, 105, 108] /- fail -/ then
      if isS l (i + 1) ([59] /- ; -/) = false then .err (i + 1) 120
      else .ok (.mk (if (zaa l i).text = [115, 116, 111, 112] /- stop -/ then 6 else 7) 0 [] [] [] []) (i + 2)
    else if (zaa l i).text = [105, 102] /- if -/ ∨ (zaa l i).text = [119, 104, 105, 108, 101] /- while -/ then zau l (zan l f) (l.length + 1 - i) i opened
    else if (zaa l i).text = [108, 101, 116] /- let -/ then
      if (zaa l (i + 1)).kind ≠ 1 ∨ zaP (zaa l (i + 1)).text = false then .err (i + 1) 120
      else (zaz l (i + 2) opened).map fun x => .mk 1 0 (zaa l (i + 1)).text [x] [] []
    else if zaP (zaa l i).text = false then .err i 120
    else (zaz l (i + 1) opened).map fun x => .mk 2 0 (zaa l i).text [x] [] []
def zcJ (l : List Tok) (i opened : Nat) : PR St := zan l (l.length + 1 - i) i opened
def allS (l : List Tok) : Nat -> List St -> Nat -> PR (List St)
  | 0, _, i => .err i 0
  | f + 1, xs, i => if (zaa l i).kind = 4 then .ok xs i else (zcJ l i 0).andThen fun x j => allS l f (xs ++ [x]) j
inductive ParR where
  | ok (l : List St)
  | err (line col code : Int)
def zbg (src : List UInt8) : ParR :=
  match lexS src with
  | .err a b c => .err a b c
  | .ok l => match allS l (l.length + 1) [] 0 with
    | .ok xs _ => .ok xs
    | .err i c => .err (zaa l i).line (zaa l i).col c
inductive ExsC (w : World) (P : Nat -> Prop) : List Ex -> List Value -> Prop
  | nil : ExsC w P [] []
  | cons {op n : Int} {name : List UInt8} {args xs : List Ex} {v : Value} {cs ds : List Value} (h1 : Sl w 4 args.length cs v) (h2 : args.length = 0 ∨ ∀ g, v.ownBlock = some g -> P g) (h3 : ExsC w P args cs) (h4 : ExsC w P xs ds) :
      ExsC w P (.mk op n name args :: xs) (.int .u8 op :: .int .i64 n :: .string (bstr name) :: v :: ds)
theorem Sl.grownP {w w':World} {sz n:Nat} {cs:List Value} {v:Value} {P:Nat->Prop} {row:Option Nat} (h:Sl w sz n cs v) (hg:w.grownBy w' row) (hr:∀ g,row=some g->¬ P g) (h2:n=0∨∀ g,v.ownBlock=some g->P g):Sl w' sz n cs v:=by
 refine h.grown hg ?_;rcases h2 with h0 | h2
 ·exact .inl h0
 ·rcases Nat.eq_zero_or_pos n with h0 | h0
  ·exact .inl h0
  ·obtain ⟨a,cap,rfl,_,_,_,h5⟩:=h;obtain ⟨b,off,rfl,_⟩:=h5 h0;exact .inr (fun e=>hr b e.symm (h2 b rfl))
theorem zgw {w:World} {sz n:Nat} {cs:List Value} {v:Value} {P Q:Nat->Prop} (hz:0 < sz) (h:Sl w sz n cs v) (hq:∀ g,g < w.heap.size->P g->Q g) (h2:n=0∨∀ g,v.ownBlock=some g->P g):n=0∨∀ g,v.ownBlock=some g->Q g:=by
 rcases Nat.eq_zero_or_pos n with h0 | h0
 ·exact .inl h0
 ·rcases h2 with h2 | h2
  ·exact .inl h2
  ·exact .inr (fun g hg=>hq g (h.ownLt hz h0 hg) (h2 g hg))
theorem ExsC.under {w w':World} {P:Nat->Prop} {xs:List Ex} {cs:List Value} (h:ExsC w P xs cs) {B:Nat} (hb:Below B w w') (hB:w.heap.size<=B):ExsC w' P xs cs:=by
 induction h with
 | nil=>exact .nil
 | cons h1 h2 _ _ ih1 ih2=>exact .cons (h1.below (by omega) hb hB) h2 ih1 ih2
theorem ExsC.grown {w w':World} {P:Nat->Prop} {xs:List Ex} {cs:List Value} (h:ExsC w P xs cs) {row:Option Nat} (hg:w.grownBy w' row) (hr:∀ g,row=some g->¬ P g):ExsC w' P xs cs:=by
 induction h with
 | nil=>exact .nil
 | cons h1 h2 _ _ ih1 ih2=>exact .cons (h1.grownP hg hr h2) h2 ih1 ih2
theorem ExsC.weak {w:World} {P Q:Nat->Prop} {xs:List Ex} {cs:List Value} (h:ExsC w P xs cs) (hq:∀ g,g < w.heap.size->P g->Q g):ExsC w Q xs cs:=by
 induction h with
 | nil=>exact .nil
 | cons h1 h2 _ _ ih1 ih2=>exact .cons h1 (zgw (by omega) h1 hq h2) ih1 ih2
theorem ExsC.append {w:World} {P:Nat->Prop} {xs ys:List Ex} {cs ds:List Value} (h:ExsC w P xs cs) (h':ExsC w P ys ds):ExsC w P (xs++ys) (cs++ds):=by
 induction h with
 | nil=>exact h'
 | cons h1 h2 h3 _ _ ih2=>exact .cons h1 h2 h3 ih2
theorem ExsC.len {w:World} {P:Nat->Prop} {xs:List Ex} {cs:List Value} (h:ExsC w P xs cs):cs.length=xs.length * 4:=by
 induction h with
 | nil=>rfl
 | cons _ _ _ _ _ ih=>simp only [yB,ih];omega
def ExV (w : World) (P : Nat -> Prop) (x : Ex) (v : Value) : Prop := ∃ cs : List Value, v = .agg cs.toArray /\ ExsC w P [x] cs
theorem ExV.under {w w':World} {P:Nat->Prop} {x:Ex} {v:Value} (h:ExV w P x v) {B:Nat} (hb:Below B w w') (hB:w.heap.size<=B):ExV w' P x v:=by
 obtain ⟨cs,e,h⟩:=h;exact ⟨cs,e,h.under hb hB⟩
inductive StsC (w : World) (P : Nat -> Prop) : List St -> List Value -> Prop
  | nil : StsC w P [] []
  | cons {op n : Int} {name : List UInt8} {es : List Ex} {body els xs : List St} {ve vb vl : Value} {ce cb cl ds : List Value}
      (h1 : Sl w 4 es.length ce ve) (h2 : es.length = 0 ∨ ∀ g, ve.ownBlock = some g -> P g) (h3 : ExsC w P es ce)
      (b1 : Sl w 6 body.length cb vb) (b2 : body.length = 0 ∨ ∀ g, vb.ownBlock = some g -> P g) (b3 : StsC w P body cb)
      (l1 : Sl w 6 els.length cl vl) (l2 : els.length = 0 ∨ ∀ g, vl.ownBlock = some g -> P g) (l3 : StsC w P els cl) (h4 : StsC w P xs ds) :
      StsC w P (.mk op n name es body els :: xs) (.int .u8 op :: .int .i64 n :: .string (bstr name) :: ve :: vb :: vl :: ds)
theorem StsC.under {w w':World} {P:Nat->Prop} {xs:List St} {cs:List Value} (h:StsC w P xs cs) {B:Nat} (hb:Below B w w') (hB:w.heap.size<=B):StsC w' P xs cs:=by
 induction h with
 | nil=>exact .nil
 | cons h1 h2 h3 b1 b2 _ l1 l2 _ _ ih1 ih2 ih3=>exact .cons (h1.below (by omega) hb hB) h2 (h3.under hb hB) (b1.below (by omega) hb hB) b2 ih1 (l1.below (by omega) hb hB) l2 ih2 ih3
theorem StsC.grown {w w':World} {P:Nat->Prop} {xs:List St} {cs:List Value} (h:StsC w P xs cs) {row:Option Nat} (hg:w.grownBy w' row) (hr:∀ g,row=some g->¬ P g):StsC w' P xs cs:=by
 induction h with
 | nil=>exact .nil
 | cons h1 h2 h3 b1 b2 _ l1 l2 _ _ ih1 ih2 ih3=>exact .cons (h1.grownP hg hr h2) h2 (h3.grown hg hr) (b1.grownP hg hr b2) b2 ih1 (l1.grownP hg hr l2) l2 ih2 ih3
theorem StsC.weak {w:World} {P Q:Nat->Prop} {xs:List St} {cs:List Value} (h:StsC w P xs cs) (hq:∀ g,g < w.heap.size->P g->Q g):StsC w Q xs cs:=by
 induction h with
 | nil=>exact .nil
 | cons h1 h2 h3 b1 b2 _ l1 l2 _ _ ih1 ih2 ih3=>exact .cons h1 (zgw (by omega) h1 hq h2) (h3.weak hq) b1 (zgw (by omega) b1 hq b2) ih1 l1 (zgw (by omega) l1 hq l2) ih2 ih3
theorem StsC.append {w:World} {P:Nat->Prop} {xs ys:List St} {cs ds:List Value} (h:StsC w P xs cs) (h':StsC w P ys ds):StsC w P (xs++ys) (cs++ds):=by
 induction h with
 | nil=>exact h'
 | cons h1 h2 h3 b1 b2 b3 l1 l2 l3 _ _ _ ih=>exact .cons h1 h2 h3 b1 b2 b3 l1 l2 l3 ih
def StV (w : World) (P : Nat -> Prop) (x : St) (v : Value) : Prop := ∃ cs : List Value, v = .agg cs.toArray /\ StsC w P [x] cs
/-! sizes, as the statements count them -/
mutual
def szE : Ex -> Nat
  | .mk _ _ name args => 1 + name.length / 30 + szEs args
def szEs : List Ex -> Nat
  | [] => 0
  | x :: r => szE x + szEs r
end
mutual
def szS : St -> Nat
  | .mk _ _ name es body els => 1 + name.length / 30 + szEs es + szSs body + szSs els
def szSs : List St -> Nat
  | [] => 0
  | x :: r => szS x + szSs r
end
/-! what every tree that can be read is like -/
def okI (n : Int) : Prop := -9223372036854775808 <= n /\ n <= 9223372036854775807
mutual
def okE : Ex -> Prop
  | .mk op n name args => (0 <= op /\ op <= 255) /\ okI n /\ name.length <= 9223372036854775807 /\ okEs args
def okEs : List Ex -> Prop
  | [] => True
  | x :: r => okE x /\ okEs r
end
mutual
def okS : St -> Prop
  | .mk op n name es body els => (0 <= op /\ op <= 255) /\ okI n /\ name.length <= 9223372036854775807 /\ okEs es /\ okSs body /\ okSs els
def okSs : List St -> Prop
  | [] => True
  | x :: r => okS x /\ okSs r
end
theorem zgR {xs:List Ex} (h:okEs xs):∀ {k:Nat} {x:Ex},xs[k]? = some x->okE x:=by
 induction xs with
 | nil=>intro k x hk;simp at hk
 | cons y r ih =>
  intro k x hk
  cases k with
  | zero=>simp at hk;rw [<- hk];exact h.1
  | succ k=>exact ih h.2 (by simpa using hk)
theorem znr {xs:List St} (h:okSs xs):∀ {k:Nat} {x:St},xs[k]? = some x->okS x:=by
 induction xs with
 | nil=>intro k x hk;simp at hk
 | cons y r ih =>
  intro k x hk
  cases k with
  | zero=>simp at hk;rw [<- hk];exact h.1
  | succ k=>exact ih h.2 (by simpa using hk)
theorem ziA (xs ys:List Ex):szEs (xs++ys)=szEs xs+szEs ys:=by
 induction xs with
 | nil=>simp [szEs]
 | cons x r ih=>simp only [List.cons_append,szEs,ih];omega
theorem ziC (xs ys:List St):szSs (xs++ys)=szSs xs+szSs ys:=by
 induction xs with
 | nil=>simp [szSs]
 | cons x r ih=>simp only [List.cons_append,szSs,ih];omega
theorem zhi {xs:List Ex} {k:Nat} {x:Ex} (h:xs[k]? = some x):szEs (xs.take (k+1))=szEs (xs.take k)+szE x:=by
 obtain ⟨hlt,rfl⟩:=List.getElem?_eq_some_iff.1 h;rw [List.take_succ_eq_append_getElem hlt,ziA];rfl
theorem zlM {xs:List St} {k:Nat} {x:St} (h:xs[k]? = some x):szSs (xs.take (k+1))=szSs (xs.take k)+szS x:=by
 obtain ⟨hlt,rfl⟩:=List.getElem?_eq_some_iff.1 h;rw [List.take_succ_eq_append_getElem hlt,ziC];rfl
theorem ztI (x:Ex):1<=szE x:=by cases x;simp only [szE];omega
theorem zrp (x:St):1<=szS x:=by cases x;simp only [szS];omega
theorem zoh (xs:List Ex):xs.length<=szEs xs:=by
 induction xs with
 | nil=>simp [szEs]
 | cons x r ih=>have:=ztI x;simp only [yB,szEs];omega
theorem zs7 (xs:List St):xs.length<=szSs xs:=by
 induction xs with
 | nil=>simp [szSs]
 | cons x r ih=>have:=zrp x;simp only [yB,szSs];omega

/-! below a block -/
theorem Sl.low {w w':World} {sz n:Nat} {cs:List Value} {v:Value} {B:Nat} (h:Sl w sz n cs v) (hv:n=0∨∀ g,v.ownBlock=some g->g < B) (hb:Below B w w'):Sl w' sz n cs v:=by
 obtain ⟨a,cap,rfl,h2,h3,h4,h5⟩:=h;refine ⟨a,cap,rfl,h2,h3,h4,fun hn=>?_⟩;obtain ⟨b,off,rfl,hc⟩:=h5 hn;refine ⟨b,off,rfl,fun j hj=>?_⟩
 have hlt:b < B:=by
  rcases hv with rfl | hv
  ·omega
  ·exact hv b rfl
 rw [hb.cell (p:=⟨b,off+j,none⟩) hlt];exact hc j hj
theorem ExsC.low {w w':World} {B:Nat} {xs:List Ex} {cs:List Value} (h:ExsC w (fun g=>g < B) xs cs) (hb:Below B w w'):ExsC w' (fun g=>g < B) xs cs:=by
 induction h with
 | nil=>exact .nil
 | cons h1 h2 _ _ ih1 ih2=>exact .cons (h1.low h2 hb) h2 ih1 ih2
theorem StsC.low {w w':World} {B:Nat} {xs:List St} {cs:List Value} (h:StsC w (fun g=>g < B) xs cs) (hb:Below B w w'):StsC w' (fun g=>g < B) xs cs:=by
 induction h with
 | nil=>exact .nil
 | cons h1 h2 h3 b1 b2 _ l1 l2 _ _ ih1 ih2 ih3=>exact .cons (h1.low h2 hb) h2 (h3.low hb) (b1.low b2 hb) b2 ih1 (l1.low l2 hb) l2 ih2 ih3
def EsL (w : World) (B : Nat) (xs : List Ex) (v : Value) : Prop := ∃ cs, Sl w 4 xs.length cs v /\ (xs.length = 0 ∨ ∀ g, v.ownBlock = some g -> g < B) /\ ExsC w (fun g => g < B) xs cs
def SsL (w : World) (B : Nat) (xs : List St) (v : Value) : Prop := ∃ cs, Sl w 6 xs.length cs v /\ (xs.length = 0 ∨ ∀ g, v.ownBlock = some g -> g < B) /\ StsC w (fun g => g < B) xs cs
theorem EsL.low {w w':World} {B:Nat} {xs:List Ex} {v:Value} (h:EsL w B xs v) (hb:Below B w w'):EsL w' B xs v:=by
 obtain ⟨cs,h1,h2,h3⟩:=h;exact ⟨cs,h1.low h2 hb,h2,h3.low hb⟩
theorem SsL.low {w w':World} {B:Nat} {xs:List St} {v:Value} (h:SsL w B xs v) (hb:Below B w w'):SsL w' B xs v:=by
 obtain ⟨cs,h1,h2,h3⟩:=h;exact ⟨cs,h1.low h2 hb,h2,h3.low hb⟩
theorem EsL.nil (w:World) (B:Nat):EsL w B [] (.slice none 0 0):=⟨[],Sl.nil w 4,.inl rfl,.nil⟩
theorem SsL.nil (w:World) (B:Nat):SsL w B [] (.slice none 0 0):=⟨[],Sl.nil w 6,.inl rfl,.nil⟩
theorem EsL.form {w:World} {B:Nat} {xs:List Ex} {v:Value} (h:EsL w B xs v):∃ a cap,v=.slice a xs.length cap/\xs.length<=cap/\cap<=9223372036854775807:=by
 obtain ⟨cs,h1,-⟩:=h;exact Sl.form h1
theorem SsL.form {w:World} {B:Nat} {xs:List St} {v:Value} (h:SsL w B xs v):∃ a cap,v=.slice a xs.length cap/\xs.length<=cap/\cap<=9223372036854775807:=by
 obtain ⟨cs,h1,-⟩:=h;exact Sl.form h1
theorem ExsC.at {w:World} {P:Nat->Prop} {xs:List Ex} {cs:List Value} (h:ExsC w P xs cs):∀ {k:Nat} {x:Ex},xs[k]? = some x ->
  ∃ op n name args aa ac,x=.mk op n name args/\cs[k * 4]? = some (.int .u8 op)/\cs[k * 4+1]? = some (.int .i64 n)/\cs[k * 4+2]? = some (.string (bstr name))/\cs[k * 4+3]? = some (.slice aa args.length ac) /\
   ∃ ds,Sl w 4 args.length ds (.slice aa args.length ac)/\(args.length=0∨∀ g,(Value.slice aa args.length ac).ownBlock=some g->P g)/\ExsC w P args ds:=by
 induction h with
 | nil=>intro k x hk;simp at hk
 | cons h1 h2 h3 h4 _ ih2 =>
  intro k x hk
  cases k with
  | zero =>
   simp at hk;obtain ⟨aa,ac,rfl,-,-⟩:=Sl.form h1
   exact ⟨_,_,_,_,aa,ac,hk.symm,rfl,rfl,rfl,rfl,_,h1,h2,h3⟩
  | succ k =>
   have:=ih2 (k:=k) (by simpa using hk);obtain ⟨op,n,name,args,aa,ac,hx,c0,c1,c2,c3,r⟩:=this;have e:(k+1) * 4=k * 4+4:=by omega
   exact ⟨op,n,name,args,aa,ac,hx,by rw [e];exact c0,by rw [e];exact c1,by rw [e];exact c2,by rw [e];exact c3,r⟩
theorem StsC.at {w:World} {P:Nat->Prop} {xs:List St} {cs:List Value} (h:StsC w P xs cs):∀ {k:Nat} {x:St},xs[k]? = some x ->
  ∃ op n name es body els ae ce ab cb al cl,x=.mk op n name es body els/\cs[k * 6]? = some (.int .u8 op)/\cs[k * 6+1]? = some (.int .i64 n)/\cs[k * 6+2]? = some (.string (bstr name))/\cs[k * 6+3]? = some (.slice ae es.length ce)/\cs[k * 6+4]? = some (.slice ab body.length cb)/\cs[k * 6+5]? = some (.slice al els.length cl) /\
   (∃ ds,Sl w 4 es.length ds (.slice ae es.length ce)/\(es.length=0∨∀ g,(Value.slice ae es.length ce).ownBlock=some g->P g)/\ExsC w P es ds) /\
   (∃ ds,Sl w 6 body.length ds (.slice ab body.length cb)/\(body.length=0∨∀ g,(Value.slice ab body.length cb).ownBlock=some g->P g)/\StsC w P body ds) /\
   (∃ ds,Sl w 6 els.length ds (.slice al els.length cl)/\(els.length=0∨∀ g,(Value.slice al els.length cl).ownBlock=some g->P g)/\StsC w P els ds):=by
 induction h with
 | nil=>intro k x hk;simp at hk
 | cons h1 h2 h3 b1 b2 b3 l1 l2 l3 h4 _ _ ih =>
  intro k x hk
  cases k with
  | zero =>
   simp at hk;obtain ⟨ae,ce,rfl,-,-⟩:=Sl.form h1;obtain ⟨ab,cb,rfl,-,-⟩:=Sl.form b1;obtain ⟨al,cl,rfl,-,-⟩:=Sl.form l1
   exact ⟨_,_,_,_,_,_,ae,ce,ab,cb,al,cl,hk.symm,rfl,rfl,rfl,rfl,rfl,rfl,⟨_,h1,h2,h3⟩,⟨_,b1,b2,b3⟩,⟨_,l1,l2,l3⟩⟩
  | succ k =>
   have:=ih (k:=k) (by simpa using hk);obtain ⟨op,n,name,es,body,els,ae,ce,ab,cb,al,cl,hx,c0,c1,c2,c3,c4,c5,r⟩:=this;have e:(k+1) * 6=k * 6+6:=by omega
   exact ⟨op,n,name,es,body,els,ae,ce,ab,cb,al,cl,hx,by rw [e];exact c0,by rw [e];exact c1,by rw [e];exact c2,by rw [e];exact c3,by rw [e];exact c4,by rw [e];exact c5,r⟩
theorem EsL.at {w:World} {B:Nat} {xs:List Ex} {a:Option Addr} {m cap:Nat} (h:EsL w B xs (.slice a m cap)) {k:Nat} (hk:k < xs.length) :
  ∃ b off op n name args aa ac,a=some ⟨b,off,none⟩/\b < B/\b < w.heap.size/\xs[k]? = some (.mk op n name args)/\w.cell? ⟨b,off+k * 4,none⟩=some (.int .u8 op)/\w.cell? ⟨b,off+k * 4+1,none⟩=some (.int .i64 n)/\w.cell? ⟨b,off+k * 4+2,none⟩=some (.string (bstr name))/\w.cell? ⟨b,off+k * 4+3,none⟩=some (.slice aa args.length ac)/\EsL w B args (.slice aa args.length ac):=by
 obtain ⟨cs,h1,h2,h3⟩:=h;obtain ⟨b,off,rfl,hlt,hc⟩:=h1.at (by omega) (by omega)
 have hb:b < B:=by
  rcases h2 with h2 | h2
  ·omega
  ·exact h2 b rfl
 obtain ⟨op,n,name,args,aa,ac,hx,c0,c1,c2,c3,r⟩:=h3.at (k:=k) (yD hk);refine ⟨b,off,op,n,name,args,aa,ac,rfl,hb,hlt,by rw [yD hk,hx],?_,?_,?_,?_,r⟩
 ·rw [hc _ (by omega)];exact c0
 ·rw [Nat.add_assoc,hc _ (by omega)];exact c1
 ·rw [Nat.add_assoc,hc _ (by omega)];exact c2
 ·rw [Nat.add_assoc,hc _ (by omega)];exact c3
theorem SsL.at {w:World} {B:Nat} {xs:List St} {a:Option Addr} {m cap:Nat} (h:SsL w B xs (.slice a m cap)) {k:Nat} (hk:k < xs.length) :
  ∃ b off op n name es body els ae ce ab cb al cl,a=some ⟨b,off,none⟩/\b < B/\b < w.heap.size/\xs[k]? = some (.mk op n name es body els)/\w.cell? ⟨b,off+k * 6,none⟩=some (.int .u8 op)/\w.cell? ⟨b,off+k * 6+1,none⟩=some (.int .i64 n)/\w.cell? ⟨b,off+k * 6+2,none⟩=some (.string (bstr name))/\w.cell? ⟨b,off+k * 6+3,none⟩=some (.slice ae es.length ce)/\w.cell? ⟨b,off+k * 6+4,none⟩=some (.slice ab body.length cb)/\w.cell? ⟨b,off+k * 6+5,none⟩=some (.slice al els.length cl) /\
   EsL w B es (.slice ae es.length ce)/\SsL w B body (.slice ab body.length cb)/\SsL w B els (.slice al els.length cl):=by
 obtain ⟨cs,h1,h2,h3⟩:=h;obtain ⟨b,off,rfl,hlt,hc⟩:=h1.at (by omega) (by omega)
 have hb:b < B:=by
  rcases h2 with h2 | h2
  ·omega
  ·exact h2 b rfl
 obtain ⟨op,n,name,es,body,els,ae,ce,ab,cb,al,cl,hx,c0,c1,c2,c3,c4,c5,r⟩:=h3.at (k:=k) (yD hk);refine ⟨b,off,op,n,name,es,body,els,ae,ce,ab,cb,al,cl,rfl,hb,hlt,by rw [yD hk,hx],?_,?_,?_,?_,?_,?_,r⟩
 ·rw [hc _ (by omega)];exact c0
 ·rw [Nat.add_assoc,hc _ (by omega)];exact c1
 ·rw [Nat.add_assoc,hc _ (by omega)];exact c2
 ·rw [Nat.add_assoc,hc _ (by omega)];exact c3
 ·rw [Nat.add_assoc,hc _ (by omega)];exact c4
 ·rw [Nat.add_assoc,hc _ (by omega)];exact c5
end Go.Proofs.YtdhikpkecmaplaaGreatDoor
