/- The lexer's answer without fuel; what its tokens are like; joining. Plain mathematics. -/
/- How far a scanner goes on, and the place behind. Plain mathematics. -/
/- The program's lexer, its small functions, walked: letter, digit, blank, the functions that go on over a comment and over a word. No condition. -/
/- The program's lexer: Word, walked. No condition. -/
/- The reference's Word, walked. -/
/- A token's cells, at its place in a slice. -/
import Derived.Test.YtoaojdobjinhfaaGreatDoorLibY
import Derived.Test.YtoaojdobjinhfaaGreatDoorRLexY
import Derived.Test.YtoaojdobjinhfaaGreatDoorRows
set_option linter.unusedSimpArgs false
set_option linter.unusedVariables false
namespace Go.Proofs.YtoaojdobjinhfaaGreatDoor

theorem part_letter {b:UInt8} (h:letterB b=true):partB b=true:=by simp [partB,h]
theorem part_digit {b:UInt8} (h:digitB b=true):partB b=true:=by simp [partB,h]
theorem run_pos {b:UInt8} {r:List UInt8} (h:partB b=true):1≤((b :: r).takeWhile partB).length:=by
 simp [h]
theorem lexTok_congr {go go':List UInt8→Int→Int→LexR} {xs:List UInt8} {l c:Int} (h:∀ ys a b,ys.length < xs.length→go ys a b=go' ys a b):lexTok go xs l c=lexTok go' xs l c:=by
 cases xs with
 | nil=>rfl
 | cons b r =>
  simp only [lexTok];split
  ·rename_i hl
   have:=run_pos (r:=r) (part_letter hl);rw [h _ _ _ (by simp only [List.length_drop,List.length_cons];omega)]
  ·split
   ·rename_i hd
    have:=run_pos (r:=r) (part_digit hd);rw [h _ _ _ (by simp only [List.length_drop,List.length_cons];omega)]
   ·split
    ·rfl
    ·rw [h _ _ _ (by simp only [List.length_drop,List.length_cons];omega)]
theorem skip_len:∀ (bs:List UInt8) (cm:Bool) (l c:Int),(skipS bs cm l c).1.length≤bs.length:=by
 intro bs
 induction bs with
 | nil=>intro cm l c;simp [skipS]
 | cons b r ih =>
  intro cm l c;rw [skipS];split
  ·have:=ih false (l+1) 1;simp only [List.length_cons];omega
  ·split
   ·have:=ih true l (c+1);simp only [List.length_cons];omega
   ·split
    ·have:=ih false l (c+1);simp only [List.length_cons];omega
    ·split
     ·have:=ih true l (c+1);simp only [List.length_cons];omega
     ·exact Nat.le_refl _
theorem lexGo_fuel:∀ (f g:Nat) (bs:List UInt8) (l c:Int),bs.length < f→bs.length < g→lexGo f bs l c=lexGo g bs l c:=by
 intro f
 induction f with
 | zero=>intro g bs l c h;omega
 | succ f ih =>
  intro g bs l c hf hg
  cases g with
  | zero=>omega
  | succ g =>
   rw [lexGo,lexGo];refine lexTok_congr fun ys a b hy=>ih g ys a b ?_ ?_
   ·have:=skip_len bs false l c;omega
   ·have:=skip_len bs false l c;omega
def lexF (bs : List UInt8) (l c : Int) : LexR := lexGo (bs.length + 1) bs l c
def lexT (bs : List UInt8) (l c : Int) : LexR := lexTok lexF bs l c
theorem lexF_eq (bs:List UInt8) (l c:Int):lexF bs l c=lexT (skipS bs false l c).1 (skipS bs false l c).2.1 (skipS bs false l c).2.2:=by
 show lexGo (bs.length+1) bs l c=_;rw [lexGo];refine lexTok_congr fun ys a b hy=>lexGo_fuel _ _ ys a b ?_ (Nat.lt_succ_self _)
 have:=skip_len bs false l c;omega
theorem lexS_eq (bs:List UInt8):lexS bs=if 16384 < bs.length then .err 0 0 3 else lexF bs 1 1:=rfl
theorem lexT_nil (l c:Int):lexT [] l c=.ok [⟨4,[],0,l,c⟩]:=rfl
theorem lexF_nil (l c:Int):lexF [] l c=.ok [⟨4,[],0,l,c⟩]:=rfl

def stopsB : List UInt8 → Bool
  | [] => true
  | b :: _ => !partB b && !(b == 61) && !(b == 38) && !(b == 124)
theorem takeWhile_app {xs ys:List UInt8} (h:xs.all partB=true) (hy:ys.head?.all (fun b=>!partB b)=true):(xs++ys).takeWhile partB=xs:=by
 induction xs with
 | nil =>
  cases ys with
  | nil=>rfl
  | cons b r=>simp at hy;simp [hy]
 | cons b r ih =>
  simp only [List.all_cons,Bool.and_eq_true] at h;simp [h.1,ih h.2]
theorem stops_part {ys:List UInt8} (h:stopsB ys=true):ys.head?.all (fun b=>!partB b)=true:=by
 cases ys with
 | nil=>rfl
 | cons b r =>
  simp only [stopsB,Bool.and_eq_true] at h;simpa using h.1.1.1
inductive TokOk : Tok → Prop
  | word {b : UInt8} {r : List UInt8} {l c : Int} (h1 : letterB b = true) (h2 : (b :: r).all partB = true) (h3 : (b :: r).length ≤ 24) : TokOk ⟨1, b :: r, 0, l, c⟩
  | number {b : UInt8} {r : List UInt8} {n l c : Int} (h0 : letterB b = false) (h1 : digitB b = true) (h2 : (b :: r).all partB = true) (h3 : valueR (b :: r) = some n) : TokOk ⟨2, b :: r, n, l, c⟩
  | sign {b : UInt8} {r : List UInt8} {l c : Int} (h0 : letterB b = false) (h1 : digitB b = false) (h2 : signLen (b :: r) = (b :: r).length) : TokOk ⟨3, b :: r, 0, l, c⟩
def Tok.bare (t : Tok) : Int × List UInt8 × Int := (t.kind, t.text, t.n)
def Tok.moved (t : Tok) (l c : Int) : Tok := ⟨t.kind, t.text, t.n, l, c⟩
theorem TokOk.moved {t:Tok} (h:TokOk t) (l c:Int):TokOk (t.moved l c):=by
 cases h with
 | word h1 h2 h3=>exact .word h1 h2 h3
 | number h0 h1 h2 h3=>exact .number h0 h1 h2 h3
 | sign h0 h1 h2=>exact .sign h0 h1 h2
theorem Tok.moved_bare (t:Tok) (l c:Int):(t.moved l c).bare=t.bare:=rfl
theorem TokOk.kind {t:Tok} (h:TokOk t):t.kind≠4:=by cases h <;> simp
theorem TokOk.text {t:Tok} (h:TokOk t):t.text≠[]:=by cases h <;> simp
theorem take_run (xs:List UInt8):xs.take (xs.takeWhile partB).length=xs.takeWhile partB:=by
 induction xs with
 | nil=>rfl
 | cons b r ih =>
  by_cases h:partB b=true
  ·simp [h,ih]
  ·simp [h]
theorem run_all (xs:List UInt8):(xs.takeWhile partB).all partB=true:=by
 induction xs with
 | nil=>rfl
 | cons b r ih =>
  by_cases h:partB b=true
  ·simp only [List.takeWhile_cons,h,if_true,List.all_cons,Bool.true_and];exact ih
  ·simp [h]
theorem run_cons {b:UInt8} {r:List UInt8} (h:partB b=true):(b :: r).takeWhile partB=b :: r.takeWhile partB:=by simp [h]
theorem sign_two {a b:UInt8} {r:List UInt8}:signLen (a :: b :: r)=signLen [a,b]:=rfl
theorem sign_le (xs:List UInt8):signLen xs≤xs.length:=by
 match xs with
 | []=>exact Nat.le_refl _
 | [a]=>simp only [signLen];split <;> simp
 | a :: b :: r=>simp only [signLen];split <;> (try split) <;> simp
theorem sign_le2 (xs:List UInt8):signLen xs≤2:=by
 match xs with
 | []=>simp [signLen]
 | [a]=>simp only [signLen];split <;> simp
 | a :: b :: r=>simp only [signLen];split <;> (try split) <;> simp
theorem sign_take (xs:List UInt8) (h:signLen xs≠0):signLen (xs.take (signLen xs))=signLen xs:=by
 match xs,h with
 | [],h=>exact absurd rfl h
 | [a],h =>
  have h1:signLen [a]=1:=by
   simp only [signLen] at h ⊢;split at h
   ·rename_i h';rw [if_pos h']
   ·exact absurd rfl h
  rw [h1];exact h1
 | a :: b :: r,h =>
  have e:signLen (a :: b :: r)=if (a.toNat,b.toNat) ∈ twoSigns then 2 else if a.toNat ∈ oneSigns then 1 else 0:=rfl
  rw [e] at h ⊢;split
  ·rename_i h2
   show signLen [a,b]=2;simp only [signLen];rw [if_pos h2]
  ·rename_i h2
   rw [if_neg h2] at h;split
   ·rename_i h1
    show signLen [a]=1;simp only [signLen];rw [if_pos h1]
   ·rename_i h1
    rw [if_neg h1] at h;exact absurd rfl h
theorem lexT_cases (bs:List UInt8) (l c:Int) :
  (bs=[]∧lexT bs l c=.ok [⟨4,[],0,l,c⟩]) ∨
  (∃ code:Int,bs≠[]∧lexT bs l c=.err l c code∧(code=110∨code=111∨code=112)) ∨
  (∃ t:Tok,TokOk t∧t.line=l∧t.col=c∧bs=t.text++bs.drop t.text.length∧t.text.length≤bs.length∧lexT bs l c=(lexF (bs.drop t.text.length) l (c+t.text.length)).cons t):=by
 cases bs with
 | nil=>exact .inl ⟨rfl,rfl⟩
 | cons b r =>
  refine .inr ?_;show _∨_;have hT:lexT (b :: r) l c=lexTok lexF (b :: r) l c:=rfl;rw [hT,lexTok];have hlen:∀ n,n≤(b :: r).length→((b :: r).take n).length=n:=fun n h=>by rw [List.length_take];omega
  have hw:((b :: r).takeWhile partB).length≤(b :: r).length:=(List.takeWhile_prefix _).length_le;split
  ·rename_i hl
   split
   ·exact .inl ⟨111,by simp,rfl,by simp⟩
   ·rename_i h24
    refine .inr ⟨⟨1,(b :: r).takeWhile partB,0,l,c⟩,?_,rfl,rfl,?_,hw,rfl⟩
    ·have ha:=run_all (b :: r);have hc:=run_cons (r:=r) (part_letter hl);rw [hc] at ha h24 ⊢;exact .word hl ha (by omega)
    ·show b :: r=(b :: r).takeWhile partB++(b :: r).drop ((b :: r).takeWhile partB).length;have:=List.take_append_drop ((b :: r).takeWhile partB).length (b :: r);rw [take_run] at this;exact this.symm
  ·rename_i hl
   split
   ·rename_i hd
    split
    ·exact .inl ⟨112,by simp,rfl,by simp⟩
    ·rename_i n hn
     refine .inr ⟨⟨2,(b :: r).takeWhile partB,n,l,c⟩,?_,rfl,rfl,?_,hw,rfl⟩
     ·have ha:=run_all (b :: r);have hc:=run_cons (r:=r) (part_digit hd);rw [hc] at ha hn ⊢;exact .number (by simpa using hl) hd ha hn
     ·show b :: r=(b :: r).takeWhile partB++(b :: r).drop ((b :: r).takeWhile partB).length;have:=List.take_append_drop ((b :: r).takeWhile partB).length (b :: r);rw [take_run] at this;exact this.symm
   ·rename_i hd
    split
    ·exact .inl ⟨110,by simp,rfl,by simp⟩
    ·rename_i hs
     have hs1:=sign_le (b :: r);have hs2:=sign_take (b :: r) hs;refine .inr ⟨⟨3,(b :: r).take (signLen (b :: r)),0,l,c⟩,?_,rfl,rfl,?_,?_,?_⟩
     ·obtain ⟨k,hk⟩:∃ k,signLen (b :: r)=k+1:=⟨signLen (b :: r) - 1,by omega⟩;rw [hk] at hs2 ⊢;rw [List.take_succ_cons] at hs2 ⊢;refine .sign (by simpa using hl) (by simpa using hd) ?_;rw [hs2,← List.take_succ_cons,hlen _ (by omega)]
     ·show b :: r=(b :: r).take (signLen (b :: r))++(b :: r).drop ((b :: r).take (signLen (b :: r))).length;rw [hlen _ hs1,List.take_append_drop]
     ·show ((b :: r).take (signLen (b :: r))).length≤_;rw [hlen _ hs1];exact hs1
     ·show _=(lexF ((b :: r).drop ((b :: r).take (signLen (b :: r))).length) l (c+((b :: r).take (signLen (b :: r))).length)).cons _;rw [hlen _ hs1]
theorem sign_stop {xs ys:List UInt8} (h0:xs≠[]) (h:signLen xs=xs.length) (hy:stopsB ys=true):signLen (xs++ys)=xs.length:=by
 match xs,h0 with
 | [a],_ =>
  cases ys with
  | nil=>exact h
  | cons b r =>
   have h1:a.toNat ∈ oneSigns:=by
    simp only [signLen] at h;split at h
    ·assumption
    ·exact absurd h (by simp)
   have h2:¬ (a.toNat,b.toNat) ∈ twoSigns:=by
    intro h2;simp only [stopsB,Bool.and_eq_true,Bool.not_eq_true',beq_eq_false_iff_ne,ne_eq] at hy;obtain ⟨⟨⟨_,h61⟩,h38⟩,h124⟩:=hy;have e:∀ k:UInt8,b.toNat=k.toNat→b=k:=fun k hk=>UInt8.toNat_inj.1 hk
    simp only [twoSigns,List.mem_cons,Prod.mk.injEq,List.not_mem_nil,or_false] at h2;rcases h2 with h2 | h2 | h2 | h2 | h2 | h2
    ·exact h61 (e 61 h2.2)
    ·exact h61 (e 61 h2.2)
    ·exact h61 (e 61 h2.2)
    ·exact h61 (e 61 h2.2)
    ·exact h38 (e 38 h2.2)
    ·exact h124 (e 124 h2.2)
   show signLen (a :: b :: r)=1;simp only [signLen]
   rw [if_neg h2,if_pos h1]
 | [a,b],_=>exact h
 | a :: b :: d :: r,_ =>
  have:=sign_le2 (a :: b :: d :: r);rw [h] at this;simp at this
theorem lexT_tok {t:Tok} (ht:TokOk t) {r:List UInt8} (hr:stopsB r=true) (l c:Int):lexT (t.text++r) l c=(lexF r l (c+t.text.length)).cons (t.moved l c):=by
 have hp:=stops_part hr
 cases ht with
 | @word b s l0 c0 h1 h2 h3 =>
  have hw:(b :: (s++r)).takeWhile partB=b :: s:=takeWhile_app (xs:=b :: s) h2 hp;show lexTok lexF (b :: (s++r)) l c=_;rw [lexTok,if_pos h1,hw,if_neg (by omega),show b :: (s++r)=(b :: s)++r from rfl,List.drop_left]
  rfl
 | @number b s n l0 c0 h0 h1 h2 h3 =>
  have hw:(b :: (s++r)).takeWhile partB=b :: s:=takeWhile_app (xs:=b :: s) h2 hp;show lexTok lexF (b :: (s++r)) l c=_;rw [lexTok,if_neg (by rw [h0];simp),if_pos h1,hw,h3,show b :: (s++r)=(b :: s)++r from rfl,List.drop_left]
  rfl
 | @sign b s l0 c0 h0 h1 h2 =>
  have hs:signLen (b :: (s++r))=(b :: s).length:=sign_stop (xs:=b :: s) (by simp) h2 hr;show lexTok lexF (b :: (s++r)) l c=_;rw [lexTok,if_neg (by rw [h0];simp),if_neg (by rw [h1];simp),hs,if_neg (by simp),show b :: (s++r)=(b :: s)++r from rfl,List.drop_left,List.take_left];rfl
theorem tok_first {t:Tok} (ht:TokOk t) (r:List UInt8) (l c:Int):skipS (t.text++r) false l c=(t.text++r,l,c):=by
 cases ht with
 | @word b s l0 c0 h1 h2 h3 =>
  have hb:letterI (b.toNat:Int)=true:=h1;simp only [letterI,Bool.or_eq_true,Bool.and_eq_true,decide_eq_true_eq,beq_iff_eq] at hb
  exact skip_stop (by omega) (by omega) (by omega) (by omega)
 | @number b s n l0 c0 h0 h1 h2 h3 =>
  have hb:digitI (b.toNat:Int)=true:=h1;simp only [digitI,Bool.and_eq_true,decide_eq_true_eq] at hb
  exact skip_stop (by omega) (by omega) (by omega) (by omega)
 | @sign b s l0 c0 h0 h1 h2 =>
  have hn:signLen (b :: s)≠0:=by rw [h2];simp
  have hb:b.toNat ∈ oneSigns∨b.toNat=38∨b.toNat=124:=by
   cases s with
   | nil =>
    simp only [signLen] at hn;split at hn
    ·exact .inl ‹_›
    ·exact absurd rfl hn
   | cons d s =>
    simp only [signLen] at hn;split at hn
    ·rename_i h
     simp only [twoSigns,List.mem_cons,Prod.mk.injEq,List.not_mem_nil,or_false] at h;simp only [oneSigns,List.mem_cons,List.not_mem_nil,or_false];omega
    ·split at hn
     ·exact .inl ‹_›
     ·exact absurd rfl hn
  simp only [oneSigns,List.mem_cons,List.not_mem_nil,or_false] at hb;exact skip_stop (by omega) (by omega) (by omega) (by omega)
theorem lexF_tok {t:Tok} (ht:TokOk t) {r:List UInt8} (hr:stopsB r=true) (l c:Int):lexF (t.text++r) l c=(lexF r l (c+t.text.length)).cons (t.moved l c):=by
 rw [lexF_eq,tok_first ht];exact lexT_tok ht hr l c
theorem lexF_space (r:List UInt8) (l c:Int):lexF (32 :: r) l c=lexF r l (c+1):=by
 rw [lexF_eq,lexF_eq r,skip_sp (.inl rfl)]
end Go.Proofs.YtoaojdobjinhfaaGreatDoor
namespace Go.Proofs.YtoaojdobjinhfaaGreatDoor

def posS : List UInt8 → Int → Int → Int × Int
  | [], l, c => (l, c)
  | b :: r, l, c => if b.toNat = 10 then posS r (l + 1) 1 else posS r l (c + 1)
theorem posS_append:∀ (xs ys:List UInt8) (l c:Int),posS (xs++ys) l c=posS ys (posS xs l c).1 (posS xs l c).2:=by
 intro xs
 induction xs with
 | nil=>intro ys l c;rfl
 | cons b r ih =>
  intro ys l c;simp only [List.cons_append,posS];split
  ·exact ih _ _ _
  ·exact ih _ _ _
def runK (p : Nat → UInt8 → Bool) : Nat → List UInt8 → Nat
  | _, [] => 0
  | k, b :: r => if p k b = true then runK p (k + 1) r + 1 else 0
theorem runK_le (p:Nat→UInt8→Bool):∀ (bs:List UInt8) (k:Nat),runK p k bs≤bs.length:=by
 intro bs
 induction bs with
 | nil=>intro k;exact Nat.le_refl _
 | cons b r ih=>intro k;rw [runK];split;have:=ih (k+1);simp only [List.length_cons];omega;simp
theorem runK_all (p:UInt8→Bool):∀ (bs:List UInt8) (k:Nat),runK (fun _=>p) k bs=(bs.takeWhile p).length:=by
 intro bs
 induction bs with
 | nil=>intro k;rfl
 | cons b r ih =>
  intro k;rw [runK,ih (k+1)];by_cases h:p b=true
  ·simp [h]
  ·simp [h]
theorem runK_count (m:Nat):∀ (bs:List UInt8) (k:Nat),k≤m→m≤k+bs.length→runK (fun j _=>decide (j < m)) k bs=m - k:=by
 intro bs
 induction bs with
 | nil=>intro k h1 h2;simp at h2;rw [runK];omega
 | cons b r ih =>
  intro k h1 h2;rw [runK];simp only [List.length_cons] at h2;by_cases h:k < m
  ·rw [if_pos (by simpa using h),ih (k+1) (by omega) (by omega)];omega
  ·rw [if_neg (by simpa using h)];omega
def blankI (b : Int) : Bool := (b == 32) || ((b == 9) || (b == 10))
def blankB (b : UInt8) : Bool := blankI (b.toNat : Int)
def insideI (b : Int) : Bool := b != 10
def insideB (b : UInt8) : Bool := insideI (b.toNat : Int)
def partI (b : Int) : Bool := letterI b || digitI b
theorem blank_iff (b:UInt8):blankB b=true ↔ b.toNat=32∨b.toNat=9∨b.toNat=10:=by
 unfold blankB blankI;simp only [Bool.or_eq_true,beq_iff_eq];omega
theorem inside_iff (b:UInt8):insideB b=true ↔ b.toNat≠10:=by
 unfold insideB insideI;simp only [bne_iff_ne,ne_eq];omega
theorem skip_blanks:∀ (bs:List UInt8) (l c:Int),skipS bs false l c=skipS (bs.drop (bs.takeWhile blankB).length) false (posS (bs.take (bs.takeWhile blankB).length) l c).1 (posS (bs.take (bs.takeWhile blankB).length) l c).2:=by
 intro bs
 induction bs with
 | nil=>intro l c;rfl
 | cons b r ih =>
  intro l c;by_cases h:blankB b=true
  ·simp only [List.takeWhile_cons,h,if_true,List.length_cons,List.drop_succ_cons,List.take_succ_cons,posS];rcases (blank_iff b).1 h with e | e | e
   ·rw [if_neg (by omega),skip_sp (.inl e)];exact ih _ _
   ·rw [if_neg (by omega),skip_sp (.inr e)];exact ih _ _
   ·rw [if_pos e,skip_nl e];exact ih _ _
  ·simp only [List.takeWhile_cons,h];rfl
theorem skip_inside_run:∀ (bs:List UInt8) (l c:Int),skipS bs true l c=skipS (bs.drop (bs.takeWhile insideB).length) false (posS (bs.take (bs.takeWhile insideB).length) l c).1 (posS (bs.take (bs.takeWhile insideB).length) l c).2:=by
 intro bs
 induction bs with
 | nil=>intro l c;rfl
 | cons b r ih =>
  intro l c;by_cases h:insideB b=true
  ·simp only [List.takeWhile_cons,h,if_true,List.length_cons,List.drop_succ_cons,List.take_succ_cons,posS];have e:=(inside_iff b).1 h;rw [if_neg e,skip_in e];exact ih _ _
  ·simp only [List.takeWhile_cons,h];have e:b.toNat=10:=Classical.byContradiction fun e=>h ((inside_iff b).2 e)
   exact skip_out (.inr ⟨b,r,rfl,e⟩)
theorem skip_comment {b:UInt8} {r:List UInt8} (h:b.toNat=35) (l c:Int):skipS (b :: r) false l c=skipS ((b :: r).drop ((b :: r).takeWhile insideB).length) false (posS ((b :: r).take ((b :: r).takeWhile insideB).length) l c).1 (posS ((b :: r).take ((b :: r).takeWhile insideB).length) l c).2:=by
 have hi:insideB b=true:=(inside_iff b).2 (by omega);simp only [List.takeWhile_cons,hi,if_true,List.length_cons,List.drop_succ_cons,List.take_succ_cons,posS];rw [if_neg (by omega),skip_cm h];exact skip_inside_run _ _ _
theorem run_first {p:UInt8→Bool} (bs:List UInt8):(bs.drop (bs.takeWhile p).length).head?.all (fun b=>!p b)=true:=by
 induction bs with
 | nil=>rfl
 | cons b r ih =>
  by_cases h:p b=true
  ·simp only [List.takeWhile_cons,h,if_true,List.length_cons,List.drop_succ_cons];exact ih
  ·simp [h]
theorem posS_le:∀ (bs:List UInt8) (l c:Int),0≤l→0≤c→(l≤(posS bs l c).1∧(posS bs l c).1≤l+bs.length)∧(0≤(posS bs l c).2∧((posS bs l c).2≤c+bs.length∨(posS bs l c).2≤1+bs.length)):=by
 intro bs
 induction bs with
 | nil=>intro l c _ hc;simp only [posS];exact ⟨⟨by omega,by simp⟩,hc,.inl (by simp)⟩
 | cons b r ih =>
  intro l c hl hc;simp only [posS,List.length_cons];split
  ·have:=ih (l+1) 1 (by omega) (by omega);omega
  ·have:=ih l (c+1) hl (by omega);omega
theorem skip_drop:∀ (bs:List UInt8) (cm:Bool) (l c:Int),∃ n,n≤bs.length∧(skipS bs cm l c).1=bs.drop n∧(skipS bs cm l c).2=posS (bs.take n) l c:=by
 intro bs
 induction bs with
 | nil=>intro cm l c;exact ⟨0,Nat.le_refl _,rfl,rfl⟩
 | cons b r ih =>
  intro cm l c
  have key:∀ cm' l' c',posS [b] l c=(l',c')→skipS (b :: r) cm l c=skipS r cm' l' c'→∃ n,n≤(b :: r).length∧(skipS (b :: r) cm l c).1=(b :: r).drop n∧(skipS (b :: r) cm l c).2=posS ((b :: r).take n) l c:=by
   intro cm' l' c' hp he;obtain ⟨n,h1,h2,h3⟩:=ih cm' l' c';refine ⟨n+1,by simpa using h1,by rw [he,h2,List.drop_succ_cons],?_⟩;rw [he,h3,List.take_succ_cons,show b :: r.take n=[b]++r.take n from rfl,posS_append,hp]
  by_cases h10:b.toNat=10
  ·exact key false (l+1) 1 (by simp [posS,h10]) (skip_nl h10)
  ·have hp:posS [b] l c=(l,c+1):=by simp [posS,h10]
   cases cm with
   | true=>exact key true _ _ hp (skip_in h10)
   | false =>
    by_cases hs:b.toNat=32∨b.toNat=9
    ·exact key false _ _ hp (skip_sp hs)
    ·by_cases h35:b.toNat=35
     ·exact key true _ _ hp (skip_cm h35)
     ·exact ⟨0,Nat.zero_le _,by rw [skip_stop h10 (by omega) (by omega) h35];rfl,by rw [skip_stop h10 (by omega) (by omega) h35];rfl⟩
end Go.Proofs.YtoaojdobjinhfaaGreatDoor
namespace Go.Proofs.YtoaojdobjinhfaaGreatDoor
open Go.RowKit

theorem pletter_any (b:Int) (w:World):Calls Tryz.prog 78 #[.int .u8 b] w fun e w'=>e=.returned (.bool (letterI b))∧w=w':=by
 obtain ⟨p1,p2,p3,p4,p5,q1,q2,q3,q4,q5,hq⟩:∃ p1 p2 p3 p4 p5:Bool,decide (b ≥ 97)=p1∧decide (b≤122)=p2∧decide (b ≥ 65)=p3∧decide (b≤90)=p4∧(b == 95)=p5∧letterI b=((p1 && p2) || ((p3 && p4) || p5)):=⟨_,_,_,_,_,rfl,rfl,rfl,rfl,rfl,rfl⟩;rw [hq];clear hq;cases p1 <;> cases p2 <;> cases p3 <;> cases p4 <;> cases p5
 all_goals
  go_enter Tryz.func78,Tryz.ntmps78
  go_wp2;go_ret;exact ⟨rfl,rfl⟩
theorem pdigit_any (b:Int) (w:World):Calls Tryz.prog 79 #[.int .u8 b] w fun e w'=>e=.returned (.bool (digitI b))∧w=w':=by
 obtain ⟨p1,p2,q1,q2,hq⟩:∃ p1 p2:Bool,decide (b ≥ 48)=p1∧decide (b≤57)=p2∧digitI b=(p1 && p2):=⟨_,_,rfl,rfl,rfl⟩;rw [hq];clear hq;cases p1 <;> cases p2
 all_goals
  go_enter Tryz.func79,Tryz.ntmps79
  go_wp2;go_ret;exact ⟨rfl,rfl⟩
theorem blank_any (b:Int) (w:World):Calls Tryz.prog 137 #[.int .u8 b] w fun e w'=>e=.returned (.bool (blankI b))∧w=w':=by
 obtain ⟨p1,p2,p3,q1,q2,q3,hq⟩:∃ p1 p2 p3:Bool,(b == 32)=p1∧(b == 9)=p2∧(b == 10)=p3∧blankI b=(p1 || (p2 || p3)):=⟨_,_,_,rfl,rfl,rfl,rfl⟩;rw [hq];clear hq;cases p1 <;> cases p2 <;> cases p3
 all_goals
  go_enter Tryz.func137,Tryz.ntmps137
  go_wp2;go_ret;exact ⟨rfl,rfl⟩
theorem binside_any (b:Int) (w:World):Calls Tryz.prog 138 #[.int .u8 b] w fun e w'=>e=.returned (.bool (b != 10))∧w=w':=by
 go_enter Tryz.func138,Tryz.ntmps138
 go_wp2;go_ret;exact ⟨rfl,rfl⟩
theorem part_any (b:Int) (w:World):Calls Tryz.prog 102 #[.int .u8 b] w fun e w'=>e=.returned (.bool (letterI b || digitI b))∧w=w':=by
 have HL:=Lib.hid (pletter_any b w);have HD:=Lib.hid (pdigit_any b w);generalize letterI b=p at HL ⊢;generalize digitI b=q at HD ⊢;cases p
 ·go_enter Tryz.func102,Tryz.ntmps102
  go_wp2_with fail
  go_at_call 78;refine HL.out.mono ?_;rintro e1 w2 ⟨rfl,rfl⟩;go_wp2_with fail
  go_at_call 79;refine HD.out.mono ?_;rintro e1 w2 ⟨rfl,rfl⟩;go_wp2_with fail
  go_ret;exact ⟨rfl,rfl⟩
 ·go_enter Tryz.func102,Tryz.ntmps102
  go_wp2_with fail
  go_at_call 78;refine HL.out.mono ?_;rintro e1 w2 ⟨rfl,rfl⟩;go_wp2_with fail
  go_ret;exact ⟨rfl,rfl⟩
theorem count_any (b z:Int) (lb:Nat) (q:Bool) (w:World) (hc:w.cell? ⟨lb,0,none⟩=some (.int .i64 z)) (hf:w.frozen? ⟨lb,0,none⟩=false) (h1 : -20000≤z) (h2:z≤100) (hq:decide (z - 1 ≥ 0)=q) :
  Calls Tryz.prog 107 #[.int .u8 b,.pointer (some ⟨lb,0,none⟩)] w fun e w'=>e=.returned (.bool q)∧w.setCell ⟨lb,0,none⟩ (.int .i64 (z - 1))=w':=by
 go_enter Tryz.func107,Tryz.ntmps107
 go_wp2;go_ret;exact ⟨by first | rfl | (rw [← hq];rfl) | (rw [← hq];simp),rfl⟩
end Go.Proofs.YtoaojdobjinhfaaGreatDoor
namespace Go.Proofs.YtoaojdobjinhfaaGreatDoor
open Go.RowKit

theorem word_alt (s:ByteArray) (h:0 < s.size):wordS s.data.toList=(decide (s.size≤24) && (letterB s[0] && (s.data.toList.drop 0).all partB)):=by
 have e:=drop_get s h;rw [List.drop_zero] at e ⊢;have e2:=str_len s;rw [e] at e2 ⊢;show (decide ((s[0] :: s.data.toList.drop (0+1)).length≤24) && letterB s[0] && (s.data.toList.drop (0+1)).all partB)=_;rw [e2]
 cases hl:letterB s[0] with
 | false=>simp
 | true=>simp [List.all_cons,part_letter hl]
set_option maxHeartbeats 1000000 in
theorem pword_any (s:ByteArray) (w:World):Calls Tryz.prog 46 #[.string s] w fun e w'=>e=.returned (.bool (wordS s.data.toList))∧w=w':=by
 rcases Nat.eq_zero_or_pos s.size with h0 | h0
 ·have Hf:Hid (wordS s.data.toList=false):=Lib.hid (by
   have:s.data.toList=[]:=List.eq_nil_of_length_eq_zero (by rw [str_len];exact h0)
   rw [this];rfl)
  generalize wordS s.data.toList=final at Hf ⊢;have hz:(s.size:Int) < 1:=by omega
  clear h0;go_enter Tryz.func46,Tryz.ntmps46
  go_wp2_with fail
  go_ret;exact ⟨by rw [Hf.out];rfl,rfl⟩
 ·have hz:¬ (s.size:Int) < 1:=by omega
  have Hw:=Lib.hid (word_alt s h0);generalize wordS s.data.toList=final at Hw ⊢;by_cases h24:s.size≤24
  ·have h24':¬ (s.size:Int) > 24:=by omega
   have h00:(0:Int) < s.size:=by omega
   have HL:=Lib.hid (pletter_any (s[0].toNat:Int) w);obtain ⟨p,hp,hp2⟩:∃ p:Bool,letterI (s[0].toNat:Int)=p∧letterB s[0]=p:=⟨_,rfl,rfl⟩;rw [hp] at HL;have Hw2:Hid (final=(p && (s.data.toList.drop 0).all partB)):=Lib.hid (by rw [Hw.out,hp2,decide_eq_true h24,Bool.true_and]);have hb0:s[0].toNat≤255:=by have:=s[0].toNat_lt;omega
   clear hp hp2 Hw;cases p
   ·go_enter Tryz.func46,Tryz.ntmps46
    go_wp2_with fail
    go_at_call 78;refine HL.out.mono ?_;rintro e1 w2 ⟨rfl,rfl⟩;go_wp2_with fail
    go_ret;exact ⟨by rw [Hw2.out];rfl,rfl⟩
   ·go_enter Tryz.func46,Tryz.ntmps46
    go_wp2_with fail
    go_at_call 78;refine HL.out.mono ?_;rintro e1 w2 ⟨rfl,rfl⟩;go_wp2_with fail
    obtain ⟨wq,rfl⟩:∃ wq:World,wq=w:=⟨_,rfl⟩;go_loopw [2,3,20,21,22,23,24,25,26,27,28,29,30,31,32,33,34,35] (fun _ _ t20 _ _ _ _ _ _ _ _ _ _ _ _ _ _ _ wr=>∃ k:Nat,k≤s.size∧t20=.int .i64 k∧Hid (final=(s.data.toList.drop k).all partB)∧wr=wq) (fun _ _ t20 _ _ _ _ _ _ _ _ _ _ _ _ _ _ _ _=>s.size - (intOf t20).toNat)
    case atStart=>exact ⟨0,by omega,rfl,Lib.hid (by rw [Hw2.out];rfl),rfl⟩
    case round =>
     obtain ⟨k,hk,rfl,Hk,rfl⟩:=hrel;by_cases hlt:k < s.size
     ·have hb1:s[k].toNat≤255:=by have:=s[k].toNat_lt;omega
      have HL2:=Lib.hid (pletter_any (s[k].toNat:Int) wr);have HD2:=Lib.hid (pdigit_any (s[k].toNat:Int) wr);obtain ⟨p,q,hp,hq,Hpq⟩:∃ p q:Bool,letterI (s[k].toNat:Int)=p∧digitI (s[k].toNat:Int)=q∧Hid (partB s[k]=(p || q)):=⟨_,_,rfl,rfl,Lib.hid rfl⟩;rw [hp] at HL2;rw [hq] at HD2;have Hst:Hid (final=((p || q) && (s.data.toList.drop (k+1)).all partB)):=Lib.hid (by rw [Hk.out,drop_get s hlt,List.all_cons,Hpq.out]);clear hp hq;cases p
      ·cases q
       ·go_wp2_with fail
        go_at_call 78;refine HL2.out.mono ?_;rintro e1 w2 ⟨rfl,rfl⟩;go_wp2_with fail
        go_at_call 79;refine HD2.out.mono ?_;rintro e1 w2 ⟨rfl,rfl⟩;go_wp2_with fail
        go_ret;exact ⟨by rw [Hst.out];rfl,rfl⟩
       ·go_wp2_with fail
        go_at_call 78;refine HL2.out.mono ?_;rintro e1 w2 ⟨rfl,rfl⟩;go_wp2_with fail
        go_at_call 79;refine HD2.out.mono ?_;rintro e1 w2 ⟨rfl,rfl⟩;go_wp2_with fail
        go_roundw
        case rel=>exact ⟨k+1,by omega,by go_num,Lib.hid (by rw [Hst.out];rfl),by first | rfl | trivial⟩
        case measure=>simp [intOf];omega
      ·go_wp2_with fail
       go_at_call 78;refine HL2.out.mono ?_;rintro e1 w2 ⟨rfl,rfl⟩;go_wp2_with fail
       go_roundw
       case rel=>exact ⟨k+1,by omega,by go_num,Lib.hid (by rw [Hst.out];rfl),by first | rfl | trivial⟩
       case measure=>simp [intOf];omega
     ·have Hf:Hid (final=true):=Lib.hid (by rw [Hk.out,drop_nil s (by omega)];rfl);go_wp2_with fail
      go_ret;exact ⟨by rw [Hf.out];rfl,rfl⟩
  ·have h24':(s.size:Int) > 24:=by omega
   have Hf:Hid (final=false):=Lib.hid (by rw [Hw.out,decide_eq_false h24];rfl);clear Hw h24;go_enter Tryz.func46,Tryz.ntmps46
   go_wp2_with fail
   go_ret;exact ⟨by rw [Hf.out];rfl,rfl⟩
end Go.Proofs.YtoaojdobjinhfaaGreatDoor
namespace Go.Proofs.YtoaojdobjinhfaaGreatDoor
open Go.RowKit

theorem bstr_list (s:ByteArray):bstr s.data.toList=s:=by unfold bstr;simp
theorem bstr_data (l:List UInt8):(bstr l).data.toList=l:=by unfold bstr;simp
theorem word_eq (s:ByteArray) (h:0 < s.size):wordS s.data.toList=(decide (s.size≤24) && letterB s[0] && (s.data.toList.drop 1).all partB):=by
 have e:=drop_get s h;rw [List.drop_zero] at e;have e2:=str_len s;rw [e] at e2 ⊢;unfold wordS;rw [List.length_cons] at e2;simp only [List.length_cons,e2,Nat.zero_add,List.drop_succ_cons,List.drop_zero]
theorem all_iff (s:ByteArray):(s.data.toList.drop 1).all partB=true ↔ ∀ (j:Nat) (h:j < s.size),1≤j→partB s[j]=true:=by
 rw [List.all_eq_true];constructor
 ·intro h j hj h1;refine h _ (List.mem_iff_getElem.2 ⟨j - 1,by rw [List.length_drop,str_len];omega,?_⟩);rw [List.getElem_drop];have:1+(j - 1)=j:=by omega
  simp only [this];rfl
 ·intro h x hx;obtain ⟨j,hj,rfl⟩:=List.mem_iff_getElem.1 hx;rw [List.length_drop,str_len] at hj;rw [List.getElem_drop];exact h (1+j) (by omega) (by omega)
theorem word_any (s:ByteArray) (w:World):Calls Tryz.prog 48 #[.string s] w fun e w'=>e=.returned (.bool (wordS s.data.toList))∧w=w':=by
 rcases Nat.eq_zero_or_pos s.size with h0 | h0
 ·have Hf:Hid (wordS s.data.toList=false):=Lib.hid (by
   have:s.data.toList=[]:=List.eq_nil_of_length_eq_zero (by rw [str_len];exact h0)
   rw [this];rfl)
  generalize wordS s.data.toList=final at Hf ⊢;have hz:((s.size:Int) == 0)=true:=by simp [h0]
  clear h0;go_enter Tryz.func48,Tryz.ntmps48
  go_wp2_with fail
  go_ret;exact ⟨by rw [Hf.out];rfl,rfl⟩
 ·have hz:((s.size:Int) == 0)=false:=by rw [beq_eq_false_iff_ne];omega
  have Hw:=Lib.hid (word_eq s h0);generalize wordS s.data.toList=final at Hw ⊢;by_cases h24:s.size≤24
  ·have h24':¬ (s.size:Int) > 24:=by omega
   have h00:(0:Int) < s.size:=by omega
   have HL:=Lib.hid (letter_any (s[0].toNat:Int) w);obtain ⟨p,hp,hp2⟩:∃ p:Bool,letterI (s[0].toNat:Int)=p∧letterB s[0]=p:=⟨_,rfl,rfl⟩;rw [hp] at HL;have Hw2:Hid (final=(p && (s.data.toList.drop 1).all partB)):=Lib.hid (by rw [Hw.out,hp2,decide_eq_true h24,Bool.true_and]);have hb0:s[0].toNat≤255:=by have:=s[0].toNat_lt;omega
   clear hp hp2 Hw;cases p
   ·go_enter Tryz.func48,Tryz.ntmps48
    go_wp2_with fail
    go_at_call 80;refine HL.out.mono ?_;rintro e1 w2 ⟨rfl,rfl⟩;go_wp2_with fail
    go_ret;exact ⟨by rw [Hw2.out];rfl,rfl⟩
   ·go_enter Tryz.func48,Tryz.ntmps48
    go_wp2_with fail
    go_at_call 80;refine HL.out.mono ?_;rintro e1 w2 ⟨rfl,rfl⟩;go_wp2_with fail
    go_loopw [2,3,18,19,20,21,22,23,24,25,26,27,28,29,30,31,32,33,34,35] (fun _ t3 _ _ _ _ _ _ _ _ _ _ _ _ _ _ _ _ _ _ wr=>∃ k:Nat,1≤k∧k≤s.size∧t3=.int .i64 k∧Hid (∀ (j:Nat) (h:j < s.size),1≤j→j < k→partB s[j]=true)∧wr=w) (fun _ t3 _ _ _ _ _ _ _ _ _ _ _ _ _ _ _ _ _ _ _=>s.size - (intOf t3).toNat)
    case atStart=>exact ⟨1,by omega,by omega,rfl,Lib.hid (by intro j _ h1 h2;omega),rfl⟩
    case round =>
     obtain ⟨k,hk1,hk,rfl,Hk,rfl⟩:=hrel;by_cases hlt:k < s.size
     ·have hlt1:(k:Int) < s.size:=by omega
      have HL:=Lib.hid (letter_any (s[k].toNat:Int) wr);have HD:=Lib.hid (digit_any (s[k].toNat:Int) wr);obtain ⟨pl,pd,hpl,hpd,hpp⟩:∃ pl pd:Bool,letterI (s[k].toNat:Int)=pl∧digitI (s[k].toNat:Int)=pd∧partB s[k]=(pl || pd):=⟨_,_,rfl,rfl,rfl⟩;rw [hpl] at HL;rw [hpd] at HD;have Hpp:=Lib.hid hpp;have hse:s[k].toNat≤255:=by have:=s[k].toNat_lt;omega
      clear hpl hpd hpp
      have HN:Hid (pl=true∨pd=true→∀ (j:Nat) (h:j < s.size),1≤j→j < k+1→partB s[j]=true):=Lib.hid (by
       intro hor j hj h1 h2;rcases Nat.lt_or_ge j k with h | h
       ·exact Hk.out j hj h1 h
       ·obtain rfl:j=k:=by omega
        rw [Hpp.out];rcases hor with rfl | rfl
        ·rfl
        ·cases pl <;> rfl)
      cases pl
      ·cases pd
       ·have Hf:Hid (final=false):=Lib.hid (by
         rw [Hw2.out,Bool.true_and,Bool.eq_false_iff];intro h;have:=(all_iff s).1 h k hlt hk1;rw [Hpp.out] at this
         cases this)
        go_wp2_with fail
        go_at_call 80;refine HL.out.mono ?_;rintro e1 w2 ⟨rfl,rfl⟩;go_wp2_with fail
        go_at_call 81;refine HD.out.mono ?_;rintro e1 w2 ⟨rfl,rfl⟩;go_wp2_with fail
        go_ret;exact ⟨by rw [Hf.out];rfl,by first | rfl | trivial⟩
       ·go_wp2_with fail
        go_at_call 80;refine HL.out.mono ?_;rintro e1 w2 ⟨rfl,rfl⟩;go_wp2_with fail
        go_at_call 81;refine HD.out.mono ?_;rintro e1 w2 ⟨rfl,rfl⟩;go_wp2_with fail
        go_roundw
        case rel=>exact ⟨k+1,by omega,by omega,by go_num,Lib.hid (HN.out (.inr (by first | rfl | trivial))),by first | rfl | trivial⟩
        case measure=>simp [intOf];omega
      ·go_wp2_with fail
       go_at_call 80;refine HL.out.mono ?_;rintro e1 w2 ⟨rfl,rfl⟩;go_wp2_with fail
       go_roundw
       case rel=>exact ⟨k+1,by omega,by omega,by go_num,Lib.hid (HN.out (.inl (by first | rfl | trivial))),by first | rfl | trivial⟩
       case measure=>simp [intOf];omega
     ·have hlt1:¬ (k:Int) < s.size:=by omega
      have Hf:Hid (final=true):=Lib.hid (by
       rw [Hw2.out,Bool.true_and,all_iff]
       exact fun j hj h1=>Hk.out j hj h1 (by omega))
      go_wp2_with fail
      go_ret;exact ⟨by rw [Hf.out];rfl,by first | rfl | trivial⟩
  ·have h24':(s.size:Int) > 24:=by omega
   have Hf:Hid (final=false):=Lib.hid (by rw [Hw.out,decide_eq_false h24];rfl);go_enter Tryz.func48,Tryz.ntmps48
   go_wp2_with fail
   go_ret;exact ⟨by rw [Hf.out];rfl,rfl⟩
theorem Word_any (s:List UInt8) (w:World):Calls Tryz.prog 48 #[.string (bstr s)] w fun e w'=>e=.returned (.bool (wordS s))∧w=w':=by
 have h:=word_any (bstr s) w;rw [bstr_data] at h;exact h
end Go.Proofs.YtoaojdobjinhfaaGreatDoor
namespace Go.Proofs.YtoaojdobjinhfaaGreatDoor
open Go.RowKit

theorem tokAt_eq {l:List Tok} {i:Nat} (hi:i < l.length):tokAt l i=l[i]:=by
 unfold tokAt;rw [List.getD_eq_getElem?_getD,List.getElem?_eq_getElem hi];rfl
theorem tok_cells {w:World} {l:List Tok} {a:Option Addr} {m cap:Nat} (h:Toks w l (.slice a m cap)) {i:Nat} (hi:i < l.length) :
  ∃ b off,a=some ⟨b,off,none⟩∧w.cell? ⟨b,off+i * 5,none⟩=some (.int .u8 (tokAt l i).kind)∧w.cell? ⟨b,off+i * 5+1,none⟩=some (.string (bstr (tokAt l i).text))∧w.cell? ⟨b,off+i * 5+2,none⟩=some (.int .i64 (tokAt l i).n)∧w.cell? ⟨b,off+i * 5+3,none⟩=some (.int .i64 (tokAt l i).line)∧w.cell? ⟨b,off+i * 5+4,none⟩=some (.int .i64 (tokAt l i).col):=by
 obtain ⟨b,off,rfl,hlt,hb⟩:=Sl.at (by omega) h (by omega)
 have hc:∀ j,j < 5→w.cell? ⟨b,off+(i * 5+j),none⟩=(Tok.cells (tokAt l i))[j]?:=by
  intro j hj;rw [hb (i * 5+j) (by omega),flat_cell Tok.cells 5 (fun _=>rfl) l i hi j hj];rw [tokAt_eq hi]
 exact ⟨b,off,rfl,hc 0 (by omega),hc 1 (by omega),hc 2 (by omega),hc 3 (by omega),hc 4 (by omega)⟩
end Go.Proofs.YtoaojdobjinhfaaGreatDoor
