/- marchesref12.right and Printable, walked. -/
import Derived.Test.YtdeneckmoejcfaaRightRK
set_option linter.unusedSimpArgs false
set_option linter.unusedVariables false
namespace Go.Proofs.Ytdeneckmoejcfaa
open Go.RowKit

set_option maxRecDepth 100000 in
theorem right_zero (l:List St) (v:Value) (w:World) (B:Nat) (hL:SsL w B l v) :
    Calls Try.prog 56 #[v,.int .i64 0] w (BoolE (rightS 0 l) w):=by
  obtain ⟨a,cap,rfl,hcc1,hcc2⟩:=hL.form
  have HL:=Lib.hid hL
  obtain ⟨final,hfin⟩:∃ q,rightS 0 l=q:=⟨_,rfl⟩
  have HF:Hid (final=l.isEmpty):=Lib.hid (by rw [← hfin,rightS])
  rw [hfin]
  clear hL hfin
  go_enter Try.func56,Try.ntmps56
  go_wp2_with fail
  go_loopw [4,5,6,7,8,9,10,11,12,13,14,15,16,17,18,19,20,21,22,23,24,25,26,27,28,29,30,31,32,33,34,35,36,37,38,39,40,41,42,43,44,45,46,47,48,49,50,51,52,53,54,55,56,57,58,59,60,61,62,63,64,65,66,67,68,69,70,71,72,73,74,75,76,77,78,79,80,81,82,83,84,85,86,87,88,89,90,91,92,93,94,95,96,97,98,99,100,101,102,103,104,105,106,107,108,109,110,111,112,113,114,115,116,117,118,119,120,121,122,123,124,125,126,127,128,129,130,131,132,133,134,135,136,137,138,139,140,141,142] (fun _ t5 _ _ _ _ _ _ _ _ _ _ _ _ _ _ _ _ _ _ _ _ _ _ _ _ _ _ _ _ _ _ _ _ _ _ _ _ _ _ _ _ _ _ _ _ _ _ _ _ _ _ _ _ _ _ _ _ _ _ _ _ _ _ _ _ _ _ _ _ _ _ _ _ _ _ _ _ _ _ _ _ _ _ _ _ _ _ _ _ _ _ _ _ _ _ _ _ _ _ _ _ _ _ _ _ _ _ _ _ _ _ _ _ _ _ _ _ _ _ _ _ _ _ _ _ _ _ _ _ _ _ _ _ _ _ _ _ _ wr=>t5=.int .i64 0∧wr=w) (fun _ _ _ _ _ _ _ _ _ _ _ _ _ _ _ _ _ _ _ _ _ _ _ _ _ _ _ _ _ _ _ _ _ _ _ _ _ _ _ _ _ _ _ _ _ _ _ _ _ _ _ _ _ _ _ _ _ _ _ _ _ _ _ _ _ _ _ _ _ _ _ _ _ _ _ _ _ _ _ _ _ _ _ _ _ _ _ _ _ _ _ _ _ _ _ _ _ _ _ _ _ _ _ _ _ _ _ _ _ _ _ _ _ _ _ _ _ _ _ _ _ _ _ _ _ _ _ _ _ _ _ _ _ _ _ _ _ _ _ _=>0)
  case atStart=>exact ⟨by first | rfl | go_num,rfl⟩
  case round =>
    obtain ⟨rfl,rfl⟩:=hrel
    by_cases hkl:0 < l.length
    · have hki:(0:Int) < (l.length:Int):=by omega
      obtain ⟨b,off,op,n,name,es,body,els,ae,ce,ab,cb,al,cl,rfl,hbB,hbw,hat,c0,c1,c2,c3,c4,c5,hE,hBd,hEl⟩:=HL.out.at hkl
      have HFz:Hid (final=false):=Lib.hid (by rw [HF.out];cases l with
        | nil=>simp at hkl
        | cons x r=>rfl)
      rw [Nat.zero_mul,Nat.add_zero] at c0 c1 c2 c3 c4 c5
      clear HF hE hBd hEl hat
      go_wp2_with fail
      go_ret
      exact ⟨retb (a:=false) HFz.out.symm,(Below.refl _ _).alloc (Nat.le_refl _) _⟩
    · have hki:¬ (0:Int) < (l.length:Int):=by omega
      have HFz:Hid (final=true):=Lib.hid (by rw [HF.out];cases l with
        | nil=>rfl
        | cons x r=>simp at hkl)
      clear HF
      go_wp2_with fail
      go_ret
      exact ⟨retb (a:=true) HFz.out.symm,Below.refl _ _⟩
theorem right_any:∀ (d:Nat),d≤41→∀ (l:List St) (v:Value) (w:World) (B:Nat),okSs l→SsL w B l v→B≤w.heap.size→Calls Try.prog 56 #[v,.int .i64 d] w (BoolE (rightS d l) w):=by
  intro d
  induction d with
  | zero=>intro _ l v w B _ hL _;exact right_zero l v w B hL
  | succ d ih =>
    intro hd l v w B hok hL hB
    rw [show ((d+1:Nat):Int)=(d:Int)+1 from Int.natCast_succ d]
    exact right_step d (by omega) (ih (by omega)) l v w B hok hL hB
theorem printable_any (l:List St) (v:Value) (w:World) (B:Nat) (hok:okSs l) (hL:SsL w B l v) (hB:B≤w.heap.size) :
    Calls Try.prog 37 #[v] w (BoolE (rightS 40 l) w):=by
  have H:Hid (Calls Try.prog 56 #[v,.int .i64 40] w _):=Lib.hid (right_any 40 (by omega) l v w B hok hL hB)
  obtain ⟨a,cap,rfl,hcc1,hcc2⟩:=hL.form
  generalize rightS 40 l=q at *
  clear hL hok
  go_enter Try.func37,Try.ntmps37
  go_wp2_with fail
  refine H.out.mono ?_
  rintro e1 w1 ⟨rfl,hb⟩
  have Hb:=Lib.hid hb
  clear hb
  go_wp2_with fail
  go_ret
  exact ⟨rfl,Hb.out⟩
end Go.Proofs.Ytdeneckmoejcfaa
