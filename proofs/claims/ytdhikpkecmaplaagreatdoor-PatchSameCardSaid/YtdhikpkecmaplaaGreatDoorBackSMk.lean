/- The tokens of statements that can be written are read back to them. Plain mathematics. -/
import Derived.Test.YtdhikpkecmaplaaGreatDoorGlobMk
import Derived.Test.YtdhikpkecmaplaaGreatDoorPtNMk
set_option linter.unusedSimpArgs false
set_option linter.unusedVariables false
namespace Go.Proofs.YtdhikpkecmaplaaGreatDoor
def Begins (w : List UInt8) : Prop := za4 w = true /\ w ≠ [101, 108, 115, 101]
theorem Begins.not {w:List UInt8} (h:Begins w):w≠[125]:=by
 rintro rfl;exact absurd h.1 (by decide +kernel)
def Lx (s : List UInt8) (ks : List BK) (r : List UInt8) : Prop := ∀ l c, ∃ us l' c', us.map Tok.bare = ks /\ lexF (s ++ r) l c = (lexF r l' c').pre us
theorem LexR.pre_pre (a b:List Tok) (r:LexR):(r.pre b).pre a=r.pre (a++b):=by cases r <;> simp [LexR.pre]
theorem Lx.nil (r:List UInt8):Lx [] [] r:=fun l c=>⟨[],l,c,rfl,by rw [LexR.pre_nil];rfl⟩
theorem Lx.app {s t r:List UInt8} {ks kt:List BK} (h:Lx s ks (t++r)) (h':Lx t kt r):Lx (s++t) (ks++kt) r:=by
 intro l c;obtain ⟨us,l1,c1,e1,h1⟩:=h l c;obtain ⟨vs,l2,c2,e2,h2⟩:=h' l1 c1;exact ⟨us++vs,l2,c2,by rw [List.map_append,e1,e2],by rw [List.append_assoc,h1,h2,LexR.pre_pre]⟩
theorem zhY (t:Tok) (r:LexR):r.cons t=r.pre [t]:=by cases r <;> rfl
theorem Lx.tok {t:Tok} (ht:TokOk t) {r:List UInt8} (hr:Ends t r):Lx t.text [t.bare] r:=
 fun l c=>⟨[t.moved l c],l,c+t.text.length,rfl,by rw [zlF ht hr,zhY]⟩
theorem Lx.blank {b:UInt8} (hb:b=32∨b=9∨b=10) (r:List UInt8):Lx [b] [] r:=by
 intro l c;rcases hb with rfl | rfl | rfl
 ·exact ⟨[],l,c+1,rfl,by rw [LexR.pre_nil];exact zgc r l c⟩
 ·exact ⟨[],l,c+1,rfl,by rw [LexR.pre_nil,zbY,show zam ([9]++r) false l c=zam r false l (c+1) from zdG (.inr rfl),<- zbY]⟩
 ·exact ⟨[],l+1,1,rfl,by rw [LexR.pre_nil,zbY,show zam ([10]++r) false l c=zam r false (l+1) 1 from zdF rfl,<- zbY]⟩
theorem Lx.blanks {s:List UInt8} (hs:∀ b ∈ s,b=32∨b=9∨b=10) (r:List UInt8):Lx s [] r:=by
 induction s with
 | nil=>exact .nil r
 | cons b s ih=>exact Lx.app (s:=[b]) (ks:=[]) (.blank (hs b (by simp)) _) (ih fun x hx=>hs x (List.mem_cons_of_mem _ hx))
def zeP (r : List UInt8) : Prop := r.head?.all (fun b => !zaf b) = true
theorem Lx.word {w r:List UInt8} (hw:za4 w=true) (hr:zeP r):Lx w [wK w] r:=by
 cases w with
 | nil=>cases hw
 | cons b t =>
  unfold za4 at hw;simp only [yC,yQ] at hw;exact Lx.tok (t:=⟨1,b :: t,0,0,0⟩) (.word hw.1.2 (by simp [zcC hw.1.2,hw.2]) hw.1.1) ⟨fun _=>hr,fun h=>by cases h⟩
theorem zfm {n:Nat} (hn:n<=9223372036854775807):∃ b t,Lib.decDigits n=b :: t/\zaG b=true/\zaH b=false/\(b :: t).all zaf=true:=by
 obtain ⟨-,-,-,h4,h5⟩:=zdW n hn
 cases he:Lib.decDigits n with
 | nil=>exact absurd he h4
 | cons b t =>
  rw [he] at h5;have hb:zaG b=true:=h5 b (by simp);have hv:=(zdW n hn).1;rw [he] at hv;refine ⟨b,t,rfl,hb,?_,?_⟩
  ·rw [zb1] at hb
   cases hl:zaH b with
   | false=>rfl
   | true =>
    unfold zaH zaV at hl;simp only [Bool.or_eq_true,yC,yQ,beq_iff_eq] at hl;omega
  ·rw [List.all_eq_true]
   have:∀ (l:List UInt8) (a m:Int),zaI l a=some m->∀ x ∈ l,zaf x=true:=by
    intro l
    induction l with
    | nil=>intro a m _ x hx;cases hx
    | cons y l ih =>
     intro a m h x hx;rw [zaI] at h;split at h
     ·cases h
     ·rename_i hd
      split at h
      ·cases h
      ·rcases List.mem_cons.1 hx with rfl | hx
       ·exact zcZ (by simpa using hd)
       ·exact ih _ _ h x hx
   exact this _ _ _ hv
theorem Lx.num {n:Int} {r:List UInt8} (h0:0<=n) (h1:n<=9223372036854775807) (hr:zeP r):Lx (Lib.decDigits n.toNat) [nK n] r:=by
 have hv:=zf8 n.toNat (by omega);obtain ⟨b,t,he,hd,hl,ha⟩:=zfm (n:=n.toNat) (by omega);have e:((n.toNat:Nat):Int)=n:=by omega
 rw [e,he] at hv;have:=Lx.tok (t:=⟨2,b :: t,n,0,0⟩) (.number hl hd ha hv) (r:=r) ⟨fun _=>hr,fun h=>by cases h⟩;unfold nK;rw [he];exact this
def zf3 (a : UInt8) : Bool := !decide (a.toNat = 61 ∨ a.toNat = 33 ∨ a.toNat = 60 ∨ a.toNat = 62 ∨ a.toNat = 38 ∨ a.toNat = 124)
theorem Lx.sign {a:UInt8} (r:List UInt8) (h:zaH a=false) (h':zaG a=false) (h2:zag [a]=1) (hf:zf3 a=true):Lx [a] [sK [a]] r:=by
 refine Lx.tok (t:=⟨3,[a],0,0,0⟩) (.sign h h' h2) ⟨fun h=>absurd rfl h,fun _ x b r' hx _ hm=>?_⟩;cases hx;unfold zf3 at hf;simp only [Bool.not_eq_true',decide_eq_false_iff_not] at hf;simp only [zbB,List.mem_cons,Prod.mk.injEq,List.not_mem_nil,or_false] at hm;omega
theorem Lx.stop {b:UInt8} {t r:List UInt8} (h:zaH b=false) (h':zaG b=false) (h2:zag (b :: t)=(b :: t).length) (hr:zct r=true):Lx (b :: t) [sK (b :: t)] r:=by
 intro l c;exact ⟨[⟨3,b :: t,0,l,c⟩],l,c+(b :: t).length,rfl,by rw [<- zhY];exact zfG (t:=⟨3,b :: t,0,0,0⟩) (.sign h h' h2) hr l c⟩
def LxE (x : Ex) : Prop := (∀ r, zct r = true -> Lx (zab x) (zae x) r) /\ ∃ b t, zab x = b :: t /\ b.toNat ≠ 61
theorem LxE.part {x:Ex} (h:LxE x) (least:Nat):(∀ r,zct r=true->Lx (zaN (zat x,zab x) least) (zbE (zat x,zae x) least) r)/\∃ b t,zaN (zat x,zab x) least=b :: t/\b.toNat≠61:=by
 unfold zaN zbE;by_cases hb:zat x < least
 ·simp only [yP hb];refine ⟨fun r hr=>?_,⟨40,_,rfl,by decide⟩⟩;have:=Lx.app (Lx.app (Lx.sign (a:=40) (zab x++([41]++r)) (by decide) (by decide) (by decide) (by decide)) (h.1 ([41]++r) rfl)) (Lx.sign (a:=41) r (by decide) (by decide) (by decide) (by decide));exact this
 ·simp only [yN hb];exact h
def Tabs (t : List UInt8) : Prop := ∀ b ∈ t, b = 9
theorem Tabs.more {t:List UInt8} (h:Tabs t):Tabs (t++[9]):=fun b hb=>by
 rcases List.mem_append.1 hb with hb | hb
 ·exact h b hb
 ·simpa using hb
theorem zfe {s:List UInt8} {ks:List BK} (h:Lx s ks []):∃ us l c,lexF s 1 1=.ok (us++[endT l c])/\us.map Tok.bare=ks:=by
 obtain ⟨us,l,c,e,h1⟩:=h 1 1;rw [List.append_nil,zda] at h1;exact ⟨us,l,c,h1,e⟩
/-! expressions -/
inductive ParX where
  | ok (x : Ex)
  | err (line col code : Int)
end Go.Proofs.YtdhikpkecmaplaaGreatDoor
