/- What Compile returns, for every program alike: the program, or the empty one, and the error. -/
import Derived.Test.YtdeneckmoejcfaaSoundTZs
import Derived.Test.YtdeneckmoejcfaaWCodeZs
set_option linter.unusedSimpArgs false
set_option linter.unusedVariables false
namespace Go.Proofs.Ytdeneckmoejcfaa
open Go.RowKit

def emptyP : ProgS := ⟨[], 0, 0, 0⟩
def resP : CR ProgS -> ProgS
  | .ok p => p
  | .err _ => emptyP
def resK : CR ProgS -> Int
  | .ok _ => 0
  | .err k => k
def KindR (r : CR ProgS) : Prop := ∀ k, r = .err k -> (k = 130 ∨ k = 131 ∨ k = 132 ∨ k = 5 ∨ k = 3)
theorem KindR.ok {r:CR ProgS} (h:KindR r) (hk:resK r=0):∃ p,r=.ok p:=by
 cases r with
 | ok p=>exact ⟨p,rfl⟩
 | err k =>
  have hk:k=0:=hk;have:=h k rfl;omega
theorem KindR.err {r:CR ProgS} (hk:resK r≠0):r=.err (resK r)/\resP r=emptyP:=by
 cases r with
 | ok p=>exact absurd rfl hk
 | err k=>exact ⟨rfl,rfl⟩
theorem resP_len (l:List St):(resP (zol l)).code.length<=4000:=by
 cases h:zol l with
 | ok p=>exact (comp_sound h).basic.len
 | err k=>exact Nat.zero_le _
theorem prog_res {t:TypeId} {w w':World} {e:Ending} {r:CR ProgS} (h:ProgE t w w' e r):(∃ a cap,e=.returned (.tuple #[zow (resP r) (.slice a (resP r).code.length cap),.int .i64 (resK r)])/\SlC w' (resP r).code (.slice a (resP r).code.length cap))/\KindR r:=by
 cases r with
 | ok p =>
  obtain ⟨v,rfl,hO⟩:=h;obtain ⟨a,cap,rfl,_,_⟩:=Sl.form (OwnC.sl hO)
  exact ⟨⟨a,cap,rfl,OwnC.sl hO⟩,fun k hk=>by cases hk⟩
 | err k =>
  obtain ⟨rfl,hk⟩:=h;exact ⟨⟨none,0,rfl,Sl.nil w' 2⟩,fun j hj=>by cases hj;exact hk⟩
theorem comp7_any (l:List St) (v:Value) (w:World) (B:Nat) (hok:okSs l) (hsz:szSs l<=100000) (hL:SsL w B l v) (hB:B<=w.heap.size) :
  Calls Try.prog 24 #[v] w fun e w'=>((∃ a cap,e=.returned (.tuple #[zow (resP (zol l)) (.slice a (resP (zol l)).code.length cap),.int .i64 (resK (zol l))])/\SlC w' (resP (zol l)).code (.slice a (resP (zol l)).code.length cap))/\KindR (zol l))/\Below w.heap.size w w':=
 (zrX l v w B hok hsz hL hB).mono fun _ _ h=>⟨prog_res h.1,h.2⟩
theorem same_yes (p:ProgS) (va vb:Value) (w:World) (hA:SlC w p.code va) (hB:SlC w p.code vb) (hl:p.code.length<=1000000) :
  Calls Try.prog 25 #[zow p va,zow p vb] w (zbe true w):=by
 have h:=same_any p p va vb w hA hB hl hl
 have e:(sameC p.code p.code && (decide (p.locals=p.locals) && (decide (p.reads=p.reads) && decide (p.writes=p.writes))))=true:=by
  rw [(sameC_iff p.code p.code).2 rfl];simp
 rw [e] at h;exact h
theorem ss_low {w:World} {B:Nat} {e:TypeId} {xs:List St} {v:Value} {cs:List Value} {P:Nat->Prop} (h:w.ownsRow B e 6 v xs.length cs) (hX:StsC w P xs cs):SsL w w.heap.size xs v:=
 ⟨cs,Sl.of_own h,.inr fun g hg=>(h.lt g hg).2,hX.weak fun _ hlt _=>hlt⟩
end Go.Proofs.Ytdeneckmoejcfaa
