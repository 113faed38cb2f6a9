/- The reference parser's value, walked; the contracts of the readers of statements. -/
import Derived.Test.YtoaojdobjinhfaaGreatDoorRParIC
set_option linter.unusedSimpArgs false
set_option linter.unusedVariables false
namespace Go.Proofs.YtoaojdobjinhfaaGreatDoor
open Go.RowKit

def zb5 (l : List Tok) (i : Nat) (w w' : World) (e : Ending) : PR St → Prop
  | .ok x j => ∃ v, e = .returned (.tuple #[v, .int .i64 j, .int .i64 0]) ∧ StV w' (fun g => w.heap.size ≤ g) x v ∧ i < j ∧ j < l.length
  | .err a c => ∃ (op n : Int) (nm : ByteArray) (a1 a2 a3 : Option Addr) (m1 m2 m3 c1 c2 c3 : Nat), e = .returned (.tuple #[.agg #[.int .u8 op, .int .i64 n, .string nm, .slice a1 m1 c1, .slice a2 m2 c2, .slice a3 m3 c3], .int .i64 a, .int .i64 c]) ∧ (c = 120 ∨ c = 121) ∧ a < l.length
def StmtC (l : List Tok) (S : Nat → Nat → PR St) (i : Nat) : Prop :=
  ∀ (k o : Nat) (v : Value) (w : World), i < k → k < l.length → o ≤ 300 → Toks w l v →
    Calls Tryz.prog 71 #[v, .int .i64 k, .int .i64 o] w fun e w' => zb5 l k w w' e (S k o) ∧ Below w.heap.size w w'
theorem StmtC.mono {l:List Tok} {S:Nat→Nat→PR St} {i j:Nat} (h:StmtC l S i) (hij:i≤j):StmtC l S j:=
 fun k o v w h1 h2 h3 h4=>h k o v w (by omega) h2 h3 h4
def EsV (w : World) (m : Nat) (xs : List Ex) (v : Value) : Prop := ∃ cs, Sl w 4 xs.length cs v ∧ (xs.length = 0 ∨ ∀ g, v.ownBlock = some g → m ≤ g) ∧ ExsC w (fun g => m ≤ g) xs cs
def SsV (w : World) (m : Nat) (xs : List St) (v : Value) : Prop := ∃ cs, Sl w 6 xs.length cs v ∧ (xs.length = 0 ∨ ∀ g, v.ownBlock = some g → m ≤ g) ∧ StsC w (fun g => m ≤ g) xs cs
theorem EsV.below {w w':World} {m:Nat} {xs:List Ex} {v:Value} (h:EsV w m xs v) (hb:Below w.heap.size w w'):EsV w' m xs v:=by
 obtain ⟨cs,h1,h2,h3⟩:=h;exact ⟨cs,h1.below (by omega) hb (zr _),h2,h3.under hb (zr _)⟩
theorem SsV.below {w w':World} {m:Nat} {xs:List St} {v:Value} (h:SsV w m xs v) (hb:Below w.heap.size w w'):SsV w' m xs v:=by
 obtain ⟨cs,h1,h2,h3⟩:=h;exact ⟨cs,h1.below (by omega) hb (zr _),h2,h3.under hb (zr _)⟩
theorem EsV.grown {w w':World} {m g:Nat} {xs:List Ex} {v:Value} (h:EsV w m xs v) (hg:w.grownBy w' (some g)) (hlt:g < m):EsV w' m xs v:=by
 obtain ⟨cs,h1,h2,h3⟩:=h;have hr:∀ k,some g=some k→¬ m≤k:=fun k e=>by cases e;omega
 exact ⟨cs,h1.grownP (P:=fun g=>m≤g) hg hr h2,h2,h3.grown hg hr⟩
theorem SsV.grown {w w':World} {m g:Nat} {xs:List St} {v:Value} (h:SsV w m xs v) (hg:w.grownBy w' (some g)) (hlt:g < m):SsV w' m xs v:=by
 obtain ⟨cs,h1,h2,h3⟩:=h;have hr:∀ k,some g=some k→¬ m≤k:=fun k e=>by cases e;omega
 exact ⟨cs,h1.grownP (P:=fun g=>m≤g) hg hr h2,h2,h3.grown hg hr⟩
theorem EsV.of_own {w:World} {m B:Nat} {e:TypeId} {xs:List Ex} {v:Value} {cs:List Value} (h:w.ownsRow B e 4 v xs.length cs) (hX:ExsC w (fun g=>B≤g) xs cs) (hB:m≤B):EsV w m xs v:=
 ⟨cs,Sl.of_own h,.inr fun g hg=>Nat.le_trans hB (zck h g hg),hX.weak fun _ _ h=>Nat.le_trans hB h⟩
theorem SsV.of_own {w:World} {m B:Nat} {e:TypeId} {xs:List St} {v:Value} {cs:List Value} (h:w.ownsRow B e 6 v xs.length cs) (hX:StsC w (fun g=>B≤g) xs cs) (hB:m≤B):SsV w m xs v:=
 ⟨cs,Sl.of_own h,.inr fun g hg=>Nat.le_trans hB (zck h g hg),hX.weak fun _ _ h=>Nat.le_trans hB h⟩
theorem StsC.len {w:World} {P:Nat→Prop} {xs:List St} {cs:List Value} (h:StsC w P xs cs):cs.length=xs.length * 6:=by
 induction h with
 | nil=>rfl
 | cons _ _ _ _ _ _ _ _ _ _ _ _ ih=>simp only [List.length_cons,ih];omega
theorem SsV.nil (w:World) (m:Nat):SsV w m [] (.slice none 0 0):=⟨[],Sl.nil w 6,.inl rfl,.nil⟩
theorem EsV.nil (w:World) (m:Nat):EsV w m [] (.slice none 0 0):=⟨[],Sl.nil w 4,.inl rfl,.nil⟩
theorem SsV.new {w2 w3:World} {m g:Nat} {e:TypeId} {xs:List St} {cs:List Value} (hlow:Below w2.heap.size w2 w3) (hO:OwnV w3 g e cs) (hX:StsC w2 (fun g=>m≤g) xs cs) (hg:m≤g) (hlen:xs.length≤1000):SsV w3 m xs (.slice (some ⟨g,0,none⟩) xs.length xs.length):=
 ⟨cs,zb7 hO hX.len (zr _) (by omega),.inr fun k h=>by cases h;exact hg,hX.under hlow (zr _)⟩
theorem EsV.new {w2 w3:World} {m g:Nat} {e:TypeId} {xs:List Ex} {cs:List Value} (hlow:Below w2.heap.size w2 w3) (hO:OwnV w3 g e cs) (hX:ExsC w2 (fun g=>m≤g) xs cs) (hg:m≤g) (hlen:xs.length≤1000):EsV w3 m xs (.slice (some ⟨g,0,none⟩) xs.length xs.length):=
 ⟨cs,zb7 hO hX.len (zr _) (by omega),.inr fun k h=>by cases h;exact hg,hX.under hlow (zr _)⟩
theorem EsV.form {w:World} {m:Nat} {xs:List Ex} {v:Value} (h:EsV w m xs v):∃ a cap,v=.slice a xs.length cap:=by
 obtain ⟨cs,h1,-⟩:=h;obtain ⟨a,cap,e,-⟩:=Sl.form h1;exact ⟨a,cap,e⟩
theorem SsV.form {w:World} {m:Nat} {xs:List St} {v:Value} (h:SsV w m xs v):∃ a cap,v=.slice a xs.length cap:=by
 obtain ⟨cs,h1,-⟩:=h;obtain ⟨a,cap,e,-⟩:=Sl.form h1;exact ⟨a,cap,e⟩
end Go.Proofs.YtoaojdobjinhfaaGreatDoor
