/- The laws' own 'decimal' and 'part', walked. -/
import Derived.Test.YtcichbdkdbnmiaaDoorPosM
import Derived.Test.YtcichbdkdbnmiaaDoorRJoin
import Derived.Test.YtcichbdkdbnmiaaDoorRWord
import Derived.Test.YtcichbdkdbnmiaaDoorRegion2
import Derived.Test.YtcichbdkdbnmiaaDoorNumM
import Derived.Deep.RegionHeld3
import Derived.Lib.SlBytesRow
import Derived.Lib.ItoaLen
namespace Go.Proofs.YtcichbdkdbnmiaaDoor
open Go.RowKit

theorem part_calls (b : Int) (w : World) : Calls Tryd.prog 26 #[.int .u8 b] w fun e w' => e = .returned (.bool (letterI b || digitI b)) ∧ w = w' := by
  obtain ⟨p1, p2, p3, p4, p5, p6, p7, hp1, hp2, hp3, hp4, hp5, hp6, hp7, hq⟩ : ∃ p1 p2 p3 p4 p5 p6 p7 : Bool, decide (97 ≤ b) = p1 ∧ decide (b ≤ 122) = p2 ∧ decide (65 ≤ b) = p3 ∧ decide (b ≤ 90) = p4 ∧ (b == 95) = p5 ∧ decide (48 ≤ b) = p6 ∧ decide (b ≤ 57) = p7 ∧ (letterI b || digitI b) = ((p1 && p2) || ((p3 && p4) || p5) || (p6 && p7)) := ⟨_, _, _, _, _, _, _, rfl, rfl, rfl, rfl, rfl, rfl, rfl, rfl⟩
  rw [hq]
  clear hq
  cases p1 <;> cases p2 <;> cases p3 <;> cases p4 <;> cases p5 <;> cases p6 <;> cases p7 <;> simp only [decide_eq_true_eq, decide_eq_false_iff_not] at hp1 hp2 hp3 hp4 hp6 hp7 <;> first
    | omega
    | (go_enter Tryd.func26, Tryd.ntmps26
       go_wp2
       go_ret
       exact ⟨rfl, rfl⟩)
theorem conv_one (w : World) (x : UInt8) (c : Int) (hc : c = (x.toNat : Int)) :
    (convert 36 9 (.slice (some ⟨w.heap.size, 0, none⟩) 1 1)).run Tryd.prog (w.alloc (.cells #[.int .u8 c] 5)) = .ok (.string (bstr [x])) (w.alloc (.cells #[.int .u8 c] 5)) := by
  subst hc
  have := Lib.run_convert_whole (P := Tryd.prog) (w.alloc (.cells #[.int .u8 x.toNat] 5)) 36 5 9 Tryd.underlying36 Tryd.underlying5 Tryd.underlying9 w.heap.size 0 (bstr [x]) (fun i hi => by
    have h1 : (bstr [x]).size = 1 := rfl
    have h0 : i = 0 := by omega
    subst h0
    rw [Nat.add_zero, World.cell?_alloc_new]
    rfl) 1
  exact this
theorem conv_at (w : World) (g : Nat) (x : UInt8) (c : Int) (hc : c = (x.toNat : Int)) (h : w.cell? ⟨g, 0, none⟩ = some (.int .u8 c)) :
    (convert 36 9 (.slice (some ⟨g, 0, none⟩) 1 1)).run Tryd.prog w = .ok (.string (bstr [x])) w := by
  subst hc
  have := Lib.run_convert_whole (P := Tryd.prog) w 36 5 9 Tryd.underlying36 Tryd.underlying5 Tryd.underlying9 g 0 (bstr [x]) (fun i hi => by
    have h1 : (bstr [x]).size = 1 := rfl
    have h0 : i = 0 := by omega
    subst h0
    exact h) 1
  exact this
def isDigit (c : Int) (j : Nat) (v : Value) (w : World) : Prop := j = 7 → ∃ g, v = .slice (some ⟨g, 0, none⟩) 1 1 ∧ w.cell? ⟨g, 0, none⟩ = some (.int .u8 c)
set_option maxRecDepth 100000 in
theorem decimal_small (n : Nat) (w : World) (h10 : n < 10) : Calls Tryd.prog 25 #[.int .i64 n] w fun e w' => e = .returned (.string (bstr (Lib.decDigits n))) ∧ Below w.heap.size w w' := by
  rw [show bstr (Lib.decDigits n) = bstr [UInt8.ofNat (48 + n)] from by rw [Lib.decDigits, dif_pos h10]]
  have kc := conv_one w (UInt8.ofNat (48 + n)) (48 + n) (by rw [u8_of n h10]; omega)
  generalize bstr [UInt8.ofNat (48 + n)] = S at *
  have hw : IntKind.u8.wrap (48 + (n : Int)) = 48 + n := by simp [IntKind.wrap, IntKind.bits, IntKind.signed]; omega
  go_enter Tryd.func25, Tryd.ntmps25
  go_wp2_with fail
  go_ret
  exact ⟨rfl, (Below.refl _ _).alloc (Nat.le_refl _) _⟩
set_option maxRecDepth 100000 in
theorem decimal_calls : ∀ (m n : Nat) (w : World), n ≤ m → n ≤ 9223372036854775807 → Calls Tryd.prog 25 #[.int .i64 n] w fun e w' => e = .returned (.string (bstr (Lib.decDigits n))) ∧ Below w.heap.size w w' := by
  intro m
  induction m with
  | zero => intro n w hn _; exact decimal_small n w (by omega)
  | succ m ih =>
    intro n w hn hmax
    by_cases h10 : n < 10
    · exact decimal_small n w h10
    · have hc : Hid (∀ w : World, _) := Lib.hid (fun w : World => ih (n / 10) w (by omega) (by omega))
      have hdiv : (n : Int).tdiv 10 = ((n / 10 : Nat) : Int) := by rw [Int.tdiv_eq_ediv_of_nonneg (by omega)]; omega
      have hmod : (n : Int).tmod 10 = ((n % 10 : Nat) : Int) := by rw [Int.tmod_eq_emod_of_nonneg (by omega)]; omega
      have kc : Hid (∀ (w : World) (g : Nat), _) := Lib.hid (fun (w : World) (g : Nat) => conv_at w g (UInt8.ofNat (48 + n % 10)) (48 + ((n % 10 : Nat) : Int)) (by rw [u8_of _ (Nat.mod_lt _ (by omega))]; omega))
      have hfin : bstr (Lib.decDigits n) = bstr (Lib.decDigits (n / 10)) ++ bstr [UInt8.ofNat (48 + n % 10)] := by rw [Lib.decDigits, dif_neg h10, bstr_app]
      have Hfin := Lib.hid hfin
      clear hfin
      have hS : ¬ 9223372036854775807 < (bstr (Lib.decDigits (n / 10))).size + (bstr [UInt8.ofNat (48 + n % 10)]).size := by
        rw [← str_len, ← str_len, bstr_data, bstr_data, Lib.decDigits_length]
        have := Lib.nDigits_le20 (n / 10) (by omega)
        simp only [List.length_cons, List.length_nil]
        omega
      generalize bstr [UInt8.ofNat (48 + n % 10)] = S2 at *
      generalize bstr (Lib.decDigits (n / 10)) = S1 at *
      have hlt : n % 10 < 10 := Nat.mod_lt _ (by omega)
      have hd : n / 10 ≤ 9223372036854775807 := by omega
      generalize n / 10 = d at *
      generalize n % 10 = r at *
      have hw : IntKind.u8.wrap (48 + (r : Int)) = 48 + r := by simp [IntKind.wrap, IntKind.bits, IntKind.signed]; omega
      have hwd : IntKind.i64.wrap (d : Int) = d := by simp [IntKind.wrap, IntKind.bits, IntKind.signed]; omega
      have hwr : IntKind.i64.wrap (r : Int) = r := by simp [IntKind.wrap, IntKind.bits, IntKind.signed]; omega
      have hws : IntKind.i64.wrap (48 + (r : Int)) = 48 + r := by simp [IntKind.wrap, IntKind.bits, IntKind.signed]; omega
      go_enter Tryd.func25, Tryd.ntmps25
      go_wp2_with fail
      refine wp_region_rel [some (.int .i64 n), some (.int .i64 d), some (.string S1), some (.int .i64 n), some (.int .i64 r), some (.int .i64 (48 + r)), some (.int .u8 (48 + r)), none, some (.string S2), some (.string (S1 ++ S2)), some (.string (S1 ++ S2))] (isDigit (48 + r)) (by kernel_rfl) (by kernel_rfl) rfl ?hst ?hconst ?hs ?hf
      case hst =>
        intro j v w w' h hb hj
        obtain ⟨g, h1, h2⟩ := h hj
        exact ⟨g, h1, Below.keep hb h2⟩
      case hconst =>
        intro j v w h hj
        subst hj
        simp at h
      case hf =>
        intro X w5 hb _
        simp only [fill_cons, fill_nil, tmpl_some, tmpl_none, tmpl_nil, Nat.reduceAdd, Act.put, List.setIfInBounds_toArray, List.set_cons_succ, List.set_cons_zero]
        have Hb5 : Hid (Below w.heap.size w w5) := Lib.hid ⟨hb.os, hb.tape, hb.output, hb.size, hb.block⟩
        clear hb
        go_wp2_with fail
        go_ret
        exact ⟨by rw [Hfin.out]; rfl, Hb5.out⟩
      case hs =>
        simp only [fill_cons, fill_nil, tmpl_some, tmpl_none, tmpl_nil, Nat.reduceAdd, Act.put, List.setIfInBounds_toArray, List.set_cons_succ, List.set_cons_zero]
        refine stepsRel.cons ?_ (stepsRel.cons ?_ (stepsRel.cons ?_ (stepsRel.cons ?_ (stepsRel.cons ?_ (stepsRel.cons ?_ (stepsRel.cons ?_ (stepsRel.cons ?_ (stepsRel.cons ?_ (stepsRel.cons ?_ (stepsRel.cons ?_ stepsRel.nil))))))))))
        · intro X w5 hb hp
          clear hp
          go_wp2_with fail
          exact ⟨⟨_, rfl, rfl⟩, Below.refl _ _⟩
        · intro X w5 hb hp
          clear hp
          go_wp2_with fail
          exact ⟨⟨_, rfl, rfl⟩, Below.refl _ _⟩
        · intro X w5 hb hp
          clear hp
          go_wp2_with fail
          go_at_call 25
          refine (hc.out _).mono ?_
          rintro e1 w1 ⟨rfl, hb1⟩
          have Hb1 := Lib.hid hb1
          clear hb1
          go_wp2_with fail
          exact ⟨⟨_, rfl, rfl⟩, Hb1.out⟩
        · intro X w5 hb hp
          clear hp
          go_wp2_with fail
          exact ⟨⟨_, rfl, rfl⟩, Below.refl _ _⟩
        · intro X w5 hb hp
          clear hp
          go_wp2_with fail
          exact ⟨⟨_, rfl, rfl⟩, Below.refl _ _⟩
        · intro X w5 hb hp
          clear hp
          go_wp2_with fail
          exact ⟨⟨_, rfl, rfl⟩, Below.refl _ _⟩
        · intro X w5 hb hp
          clear hp
          go_wp2_with fail
          exact ⟨⟨_, rfl, rfl⟩, Below.refl _ _⟩
        · intro X w5 hb hp
          clear hp
          go_wp2_with fail
          refine ⟨⟨_, rfl, ?_⟩, (Below.refl _ _).alloc (Nat.le_refl _) _⟩
          intro _
          exact ⟨_, rfl, by rw [World.cell?_alloc_new]; rfl⟩
        · intro X w5 hb hp
          obtain ⟨g, e, hg⟩ := hp 7 (by kernel_rfl) rfl
          rw [e]
          have k1 := kc.out w5 g hg
          go_wp2_with fail
          exact ⟨⟨_, rfl, rfl⟩, Below.refl _ _⟩
        · intro X w5 hb hp
          clear hp
          go_wp2_with fail
          exact ⟨⟨_, rfl, rfl⟩, Below.refl _ _⟩
        · intro X w5 hb hp
          clear hp
          go_wp2_with fail
          exact ⟨⟨_, rfl, rfl⟩, Below.refl _ _⟩
end Go.Proofs.YtcichbdkdbnmiaaDoor
