/- OrderConflicts: conflicts are mutual; a system conflicts with itself exactly if it writes something; systems that write nothing conflict with none of their kind; who reads and writes more has more conflicts: one of four cases: which of the two pairs conflict. -/
import Derived.Test.YtbcfanfnnmijdaaConfM
import Derived.BigRegion
namespace Go.Proofs.Ytbcfanfnnmijdaa
open Go.RowKit

set_option maxRecDepth 100000 in
set_option maxHeartbeats 4000000 in
theorem conflicts_01 (n1 n2 n3 : ByteArray) (r1 w1 r2 w2 r3 w3 : BitVec 32) (p1 p2 p3 : Int) (w : World)
    (C01 : Hid (∀ w, Calls Try.prog 14 #[.agg #[.string n1, .int .u32 (w32 r1), .int .u32 (w32 w1), .int .i64 p1], .agg #[.string n2, .int .u32 (w32 r2), .int .u32 (w32 w2), .int .i64 p2]] w fun e w' => e = .returned (.bool false) ∧ Below w.heap.size w w'))
    (C10 : Hid (∀ w, Calls Try.prog 14 #[.agg #[.string n2, .int .u32 (w32 r2), .int .u32 (w32 w2), .int .i64 p2], .agg #[.string n1, .int .u32 (w32 r1), .int .u32 (w32 w1), .int .i64 p1]] w fun e w' => e = .returned (.bool false) ∧ Below w.heap.size w w'))
    (C00 : Hid (∀ w, Calls Try.prog 14 #[.agg #[.string n1, .int .u32 (w32 r1), .int .u32 (w32 w1), .int .i64 p1], .agg #[.string n1, .int .u32 (w32 r1), .int .u32 (w32 w1), .int .i64 p1]] w fun e w' => e = .returned (.bool (w32 w1 != 0)) ∧ Below w.heap.size w w'))
    (C45 : Hid (∀ w, Calls Try.prog 14 #[.agg #[.string n1, .int .u32 (w32 r1), .int .u32 0, .int .i64 p1], .agg #[.string n2, .int .u32 (w32 r2), .int .u32 0, .int .i64 p2]] w fun e w' => e = .returned (.bool false) ∧ Below w.heap.size w w'))
    (C31 : Hid (∀ w, Calls Try.prog 14 #[.agg #[.string n1, .int .u32 (w32 (r1 ||| r3)), .int .u32 (w32 (w1 ||| w3)), .int .i64 p1], .agg #[.string n2, .int .u32 (w32 r2), .int .u32 (w32 w2), .int .i64 p2]] w fun e w' => e = .returned (.bool true) ∧ Below w.heap.size w w'))
    (C21 : Hid (∀ w, Calls Try.prog 14 #[.agg #[.string n3, .int .u32 (w32 r3), .int .u32 (w32 w3), .int .i64 p3], .agg #[.string n2, .int .u32 (w32 r2), .int .u32 (w32 w2), .int .i64 p2]] w fun e w' => e = .returned (.bool true) ∧ Below w.heap.size w w')) :
    Calls Try.prog 5 #[.agg #[.string n1, .int .u32 (w32 r1), .int .u32 (w32 w1), .int .i64 p1], .agg #[.string n2, .int .u32 (w32 r2), .int .u32 (w32 w2), .int .i64 p2], .agg #[.string n3, .int .u32 (w32 r3), .int .u32 (w32 w3), .int .i64 p3]] w fun e w' => e = .returned (.bool true) ∧ Below w.heap.size w w' := by
  have h1 := bits_or32 r1 r3
  have h2 := bits_or32 w1 w3
  go_enter Try.func5, Try.ntmps5
  go_wp2
  go_region
  go_wp2
  go_region
  all_goals clear h1 h2
  all_goals go_wp2
  · generalize hwb : World.drew (World.drew _) = wb
    have k0 : Blk (w.heap.size) (.string n1) (.int .u32 (w32 r1)) (.int .u32 (w32 w1)) (.int .i64 p1) wb := by subst hwb; exact ⟨by go_simp, by go_simp, by go_simp, by go_simp⟩
    have K0 := Lib.hid k0
    clear k0
    have k1 : Blk (w.heap.size + 1) (.string n2) (.int .u32 (w32 r2)) (.int .u32 (w32 w2)) (.int .i64 p2) wb := by subst hwb; exact ⟨by go_simp, by go_simp, by go_simp, by go_simp⟩
    have K1 := Lib.hid k1
    clear k1
    have k2 : Blk (w.heap.size + 1 + 1) (.string n3) (.int .u32 (w32 r3)) (.int .u32 (w32 w3)) (.int .i64 p3) wb := by subst hwb; exact ⟨by go_simp, by go_simp, by go_simp, by go_simp⟩
    have K2 := Lib.hid k2
    clear k2
    have k3 : Blk (w.heap.size + 1 + 1 + 1) (.string n1) (.int .u32 (w32 (r1 ||| r3))) (.int .u32 (w32 (w1 ||| w3))) (.int .i64 p1) wb := by subst hwb; exact ⟨by go_simp, by go_simp, by go_simp, by go_simp⟩
    have K3 := Lib.hid k3
    clear k3
    have k4 : Blk (w.heap.size + 1 + 1 + 1 + 1) (.string n1) (.int .u32 (w32 r1)) (.int .u32 0) (.int .i64 p1) wb := by subst hwb; exact ⟨by go_simp, by go_simp, by go_simp, by go_simp⟩
    have K4 := Lib.hid k4
    clear k4
    have k5 : Blk (w.heap.size + 1 + 1 + 1 + 1 + 1) (.string n2) (.int .u32 (w32 r2)) (.int .u32 0) (.int .i64 p2) wb := by subst hwb; exact ⟨by go_simp, by go_simp, by go_simp, by go_simp⟩
    have K5 := Lib.hid k5
    clear k5
    have hbw : Below w.heap.size w wb := by
      subst hwb
      exact Below.drew (Below.drew ((((((Below.refl _ _).alloc (by simp) _).alloc (by first | (simp; done) | (simp; omega)) _).alloc (by first | (simp; done) | (simp; omega)) _).alloc (by first | (simp; done) | (simp; omega)) _).alloc (by first | (simp; done) | (simp; omega)) _ |>.alloc (by first | (simp; done) | (simp; omega)) _))
    clear hwb
    try simp only [List.append_eq, List.cons_append, List.nil_append]
    refine wp_region_rel (some (.agg #[.string n1, .int .u32 (w32 r1), .int .u32 (w32 w1), .int .i64 p1]) :: some (.agg #[.string n2, .int .u32 (w32 r2), .int .u32 (w32 w2), .int .i64 p2]) :: some (.bool false) :: some (.agg #[.string n2, .int .u32 (w32 r2), .int .u32 (w32 w2), .int .i64 p2]) :: some (.agg #[.string n1, .int .u32 (w32 r1), .int .u32 (w32 w1), .int .i64 p1]) :: some (.bool false) :: some (.bool true) :: some (.bool true) :: some (.agg #[.string n1, .int .u32 (w32 r1), .int .u32 (w32 w1), .int .i64 p1]) :: some (.agg #[.string n1, .int .u32 (w32 r1), .int .u32 (w32 w1), .int .i64 p1]) :: some (.bool (w32 w1 != 0)) :: some (.pointer (some ⟨w.heap.size, 2, none⟩)) :: some (.int .u32 (w32 w1)) :: some (.bool (w32 w1 != 0)) :: some (.bool true) :: some (.bool true) :: some (.bool true) :: some (.agg #[.string n1, .int .u32 (w32 r1), .int .u32 0, .int .i64 p1]) :: some (.agg #[.string n2, .int .u32 (w32 r2), .int .u32 0, .int .i64 p2]) :: some (.bool false) :: some (.bool true) :: some (.bool true) :: some (.bool true) :: some (.agg #[.string n1, .int .u32 (w32 r1), .int .u32 (w32 w1), .int .i64 p1]) :: some (.agg #[.string n2, .int .u32 (w32 r2), .int .u32 (w32 w2), .int .i64 p2]) :: some (.bool false) :: some (.bool true) :: some (.bool true) :: some undef :: some undef :: some undef :: some (.bool true) :: some (.bool true) :: some (.bool true) :: some (.agg #[.string n1, .int .u32 (w32 (r1 ||| r3)), .int .u32 (w32 (w1 ||| w3)), .int .i64 p1]) :: some (.agg #[.string n2, .int .u32 (w32 r2), .int .u32 (w32 w2), .int .i64 p2]) :: some (.bool true) :: some (.agg #[.string n1, .int .u32 (w32 r1), .int .u32 (w32 w1), .int .i64 p1]) :: some (.agg #[.string n2, .int .u32 (w32 r2), .int .u32 (w32 w2), .int .i64 p2]) :: some (.bool false) :: some (.bool false) :: some (.agg #[.string n3, .int .u32 (w32 r3), .int .u32 (w32 w3), .int .i64 p3]) :: some (.agg #[.string n2, .int .u32 (w32 r2), .int .u32 (w32 w2), .int .i64 p2]) :: some (.bool true) :: some (.bool true) :: some (.bool true) :: some undef :: some undef :: some undef :: some undef :: some undef :: some undef :: some (.bool true) :: some (.bool true) :: some (.bool true) :: some (.bool true) :: some (.bool true) :: some (.bool true) :: some (.bool true) :: []) (fun _ _ _ => True) (by kernel_rfl) (by kernel_rfl) rfl (fun _ _ _ _ h _ => h) (fun _ _ _ _ => trivial) ?hs ?hf
    case hf =>
      intro X w5 hb _
      simp only [fill_cons, fill_nil, tmpl_some, tmpl_nil, Nat.reduceAdd, Act.put, List.setIfInBounds_toArray, List.set_cons_succ, List.set_cons_zero]
      have hb5 : Below w.heap.size w w5 := hbw.trans ((Below.undrew hb).mono hbw.size)
      clear hb hbw
      go_wp2
      go_ret
      exact ⟨rfl, hb5⟩
    case hs =>
      simp only [fill_cons, fill_nil, tmpl_some, tmpl_nil, Nat.reduceAdd, Act.put, List.setIfInBounds_toArray, List.set_cons_succ, List.set_cons_zero]
      refine stepsRel.cons ?_ (stepsRel.cons ?_ (stepsRel.cons ?_ (stepsRel.cons ?_ (stepsRel.cons ?_ (stepsRel.cons ?_ (stepsRel.cons ?_ (stepsRel.cons ?_ (stepsRel.cons ?_ (stepsRel.cons ?_ (stepsRel.cons ?_ (stepsRel.cons ?_ (stepsRel.cons ?_ (stepsRel.cons ?_ (stepsRel.cons ?_ (stepsRel.cons ?_ (stepsRel.cons ?_ (stepsRel.cons ?_ (stepsRel.cons ?_ (stepsRel.cons ?_ (stepsRel.cons ?_ (stepsRel.cons ?_ (stepsRel.cons ?_ (stepsRel.cons ?_ (stepsRel.cons ?_ (stepsRel.cons ?_ (stepsRel.cons ?_ (stepsRel.cons ?_ (stepsRel.cons ?_ (stepsRel.cons ?_ (stepsRel.cons ?_ (stepsRel.cons ?_ (stepsRel.cons ?_ (stepsRel.cons ?_ (stepsRel.cons ?_ (stepsRel.cons ?_ (stepsRel.cons ?_ (stepsRel.cons ?_ (stepsRel.cons ?_ (stepsRel.cons ?_ (stepsRel.cons ?_ (stepsRel.cons ?_ (stepsRel.cons ?_ (stepsRel.cons ?_ (stepsRel.cons ?_ (stepsRel.cons ?_ (stepsRel.cons ?_ (stepsRel.cons ?_ (stepsRel.cons ?_ (stepsRel.cons ?_ (stepsRel.cons ?_ (stepsRel.cons ?_ (stepsRel.cons ?_ (stepsRel.cons ?_ (stepsRel.cons ?_ (stepsRel.cons ?_ (stepsRel.cons ?_ (stepsRel.cons ?_ (stepsRel.cons ?_ stepsRel.nil))))))))))))))))))))))))))))))))))))))))))))))))))))))))))
      · intro X w5 hb hp
        clear hp
        obtain ⟨z0, z1, z2, z3⟩ := K0.out.next (Below.undrew hb)
        clear hb
        go_wp2
        exact ⟨⟨_, rfl, rfl⟩, Below.refl _ _⟩
      · intro X w5 hb hp
        clear hp
        obtain ⟨z0, z1, z2, z3⟩ := K1.out.next (Below.undrew hb)
        clear hb
        go_wp2
        exact ⟨⟨_, rfl, rfl⟩, Below.refl _ _⟩
      · intro X w5 hb hp
        clear hp
        clear hb
        go_wp2_with fail
        refine (C01.out _).mono ?_
        rintro e w6 ⟨rfl, hb6⟩
        go_wp2
        exact ⟨⟨_, rfl, rfl⟩, hb6⟩
      · intro X w5 hb hp
        clear hp
        obtain ⟨z0, z1, z2, z3⟩ := K1.out.next (Below.undrew hb)
        clear hb
        go_wp2
        exact ⟨⟨_, rfl, rfl⟩, Below.refl _ _⟩
      · intro X w5 hb hp
        clear hp
        obtain ⟨z0, z1, z2, z3⟩ := K0.out.next (Below.undrew hb)
        clear hb
        go_wp2
        exact ⟨⟨_, rfl, rfl⟩, Below.refl _ _⟩
      · intro X w5 hb hp
        clear hp
        clear hb
        go_wp2_with fail
        refine (C10.out _).mono ?_
        rintro e w6 ⟨rfl, hb6⟩
        go_wp2
        exact ⟨⟨_, rfl, rfl⟩, hb6⟩
      · intro X w5 hb hp
        clear hp
        clear hb
        go_wp2
        exact ⟨⟨_, rfl, rfl⟩, Below.refl _ _⟩
      · intro X w5 hb hp
        clear hp
        clear hb
        go_wp2
        exact ⟨⟨_, rfl, rfl⟩, Below.refl _ _⟩
      · intro X w5 hb hp
        clear hp
        obtain ⟨z0, z1, z2, z3⟩ := K0.out.next (Below.undrew hb)
        clear hb
        go_wp2
        exact ⟨⟨_, rfl, rfl⟩, Below.refl _ _⟩
      · intro X w5 hb hp
        clear hp
        obtain ⟨z0, z1, z2, z3⟩ := K0.out.next (Below.undrew hb)
        clear hb
        go_wp2
        exact ⟨⟨_, rfl, rfl⟩, Below.refl _ _⟩
      · intro X w5 hb hp
        clear hp
        clear hb
        go_wp2_with fail
        refine (C00.out _).mono ?_
        rintro e w6 ⟨rfl, hb6⟩
        go_wp2
        exact ⟨⟨_, rfl, rfl⟩, hb6⟩
      · intro X w5 hb hp
        clear hp
        clear hb
        go_wp2
        exact ⟨⟨_, rfl, rfl⟩, Below.refl _ _⟩
      · intro X w5 hb hp
        clear hp
        obtain ⟨z0, z1, z2, z3⟩ := K0.out.next (Below.undrew hb)
        clear hb
        go_wp2
        exact ⟨⟨_, rfl, rfl⟩, Below.refl _ _⟩
      · intro X w5 hb hp
        clear hp
        clear hb
        go_wp2
        exact ⟨⟨_, rfl, rfl⟩, Below.refl _ _⟩
      · intro X w5 hb hp
        clear hp
        clear hb
        go_wp2
        exact ⟨⟨_, rfl, rfl⟩, Below.refl _ _⟩
      · intro X w5 hb hp
        clear hp
        clear hb
        go_wp2
        exact ⟨⟨_, rfl, rfl⟩, Below.refl _ _⟩
      · intro X w5 hb hp
        clear hp
        clear hb
        go_wp2
        exact ⟨⟨_, rfl, rfl⟩, Below.refl _ _⟩
      · intro X w5 hb hp
        clear hp
        obtain ⟨z0, z1, z2, z3⟩ := K4.out.next (Below.undrew hb)
        clear hb
        go_wp2
        exact ⟨⟨_, rfl, rfl⟩, Below.refl _ _⟩
      · intro X w5 hb hp
        clear hp
        obtain ⟨z0, z1, z2, z3⟩ := K5.out.next (Below.undrew hb)
        clear hb
        go_wp2
        exact ⟨⟨_, rfl, rfl⟩, Below.refl _ _⟩
      · intro X w5 hb hp
        clear hp
        clear hb
        go_wp2_with fail
        refine (C45.out _).mono ?_
        rintro e w6 ⟨rfl, hb6⟩
        go_wp2
        exact ⟨⟨_, rfl, rfl⟩, hb6⟩
      · intro X w5 hb hp
        clear hp
        clear hb
        go_wp2
        exact ⟨⟨_, rfl, rfl⟩, Below.refl _ _⟩
      · intro X w5 hb hp
        clear hp
        clear hb
        go_wp2
        exact ⟨⟨_, rfl, rfl⟩, Below.refl _ _⟩
      · intro X w5 hb hp
        clear hp
        clear hb
        go_wp2
        exact ⟨⟨_, rfl, rfl⟩, Below.refl _ _⟩
      · intro X w5 hb hp
        clear hp
        obtain ⟨z0, z1, z2, z3⟩ := K0.out.next (Below.undrew hb)
        clear hb
        go_wp2
        exact ⟨⟨_, rfl, rfl⟩, Below.refl _ _⟩
      · intro X w5 hb hp
        clear hp
        obtain ⟨z0, z1, z2, z3⟩ := K1.out.next (Below.undrew hb)
        clear hb
        go_wp2
        exact ⟨⟨_, rfl, rfl⟩, Below.refl _ _⟩
      · intro X w5 hb hp
        clear hp
        clear hb
        go_wp2_with fail
        refine (C01.out _).mono ?_
        rintro e w6 ⟨rfl, hb6⟩
        go_wp2
        exact ⟨⟨_, rfl, rfl⟩, hb6⟩
      · intro X w5 hb hp
        clear hp
        clear hb
        go_wp2
        exact ⟨⟨_, rfl, rfl⟩, Below.refl _ _⟩
      · intro X w5 hb hp
        clear hp
        clear hb
        go_wp2
        exact ⟨⟨_, rfl, rfl⟩, Below.refl _ _⟩
      · intro X w5 hb hp
        clear hp
        clear hb
        go_wp2
        exact ⟨⟨_, rfl, rfl⟩, Below.refl _ _⟩
      · intro X w5 hb hp
        clear hp
        clear hb
        go_wp2
        exact ⟨⟨_, rfl, rfl⟩, Below.refl _ _⟩
      · intro X w5 hb hp
        clear hp
        clear hb
        go_wp2
        exact ⟨⟨_, rfl, rfl⟩, Below.refl _ _⟩
      · intro X w5 hb hp
        clear hp
        clear hb
        go_wp2
        exact ⟨⟨_, rfl, rfl⟩, Below.refl _ _⟩
      · intro X w5 hb hp
        clear hp
        clear hb
        go_wp2
        exact ⟨⟨_, rfl, rfl⟩, Below.refl _ _⟩
      · intro X w5 hb hp
        clear hp
        clear hb
        go_wp2
        exact ⟨⟨_, rfl, rfl⟩, Below.refl _ _⟩
      · intro X w5 hb hp
        clear hp
        obtain ⟨z0, z1, z2, z3⟩ := K3.out.next (Below.undrew hb)
        clear hb
        go_wp2
        exact ⟨⟨_, rfl, rfl⟩, Below.refl _ _⟩
      · intro X w5 hb hp
        clear hp
        obtain ⟨z0, z1, z2, z3⟩ := K1.out.next (Below.undrew hb)
        clear hb
        go_wp2
        exact ⟨⟨_, rfl, rfl⟩, Below.refl _ _⟩
      · intro X w5 hb hp
        clear hp
        clear hb
        go_wp2_with fail
        refine (C31.out _).mono ?_
        rintro e w6 ⟨rfl, hb6⟩
        go_wp2
        exact ⟨⟨_, rfl, rfl⟩, hb6⟩
      · intro X w5 hb hp
        clear hp
        obtain ⟨z0, z1, z2, z3⟩ := K0.out.next (Below.undrew hb)
        clear hb
        go_wp2
        exact ⟨⟨_, rfl, rfl⟩, Below.refl _ _⟩
      · intro X w5 hb hp
        clear hp
        obtain ⟨z0, z1, z2, z3⟩ := K1.out.next (Below.undrew hb)
        clear hb
        go_wp2
        exact ⟨⟨_, rfl, rfl⟩, Below.refl _ _⟩
      · intro X w5 hb hp
        clear hp
        clear hb
        go_wp2_with fail
        refine (C01.out _).mono ?_
        rintro e w6 ⟨rfl, hb6⟩
        go_wp2
        exact ⟨⟨_, rfl, rfl⟩, hb6⟩
      · intro X w5 hb hp
        clear hp
        clear hb
        go_wp2
        exact ⟨⟨_, rfl, rfl⟩, Below.refl _ _⟩
      · intro X w5 hb hp
        clear hp
        obtain ⟨z0, z1, z2, z3⟩ := K2.out.next (Below.undrew hb)
        clear hb
        go_wp2
        exact ⟨⟨_, rfl, rfl⟩, Below.refl _ _⟩
      · intro X w5 hb hp
        clear hp
        obtain ⟨z0, z1, z2, z3⟩ := K1.out.next (Below.undrew hb)
        clear hb
        go_wp2
        exact ⟨⟨_, rfl, rfl⟩, Below.refl _ _⟩
      · intro X w5 hb hp
        clear hp
        clear hb
        go_wp2_with fail
        refine (C21.out _).mono ?_
        rintro e w6 ⟨rfl, hb6⟩
        go_wp2
        exact ⟨⟨_, rfl, rfl⟩, hb6⟩
      · intro X w5 hb hp
        clear hp
        clear hb
        go_wp2
        exact ⟨⟨_, rfl, rfl⟩, Below.refl _ _⟩
      · intro X w5 hb hp
        clear hp
        clear hb
        go_wp2
        exact ⟨⟨_, rfl, rfl⟩, Below.refl _ _⟩
      · intro X w5 hb hp
        clear hp
        clear hb
        go_wp2
        exact ⟨⟨_, rfl, rfl⟩, Below.refl _ _⟩
      · intro X w5 hb hp
        clear hp
        clear hb
        go_wp2
        exact ⟨⟨_, rfl, rfl⟩, Below.refl _ _⟩
      · intro X w5 hb hp
        clear hp
        clear hb
        go_wp2
        exact ⟨⟨_, rfl, rfl⟩, Below.refl _ _⟩
      · intro X w5 hb hp
        clear hp
        clear hb
        go_wp2
        exact ⟨⟨_, rfl, rfl⟩, Below.refl _ _⟩
      · intro X w5 hb hp
        clear hp
        clear hb
        go_wp2
        exact ⟨⟨_, rfl, rfl⟩, Below.refl _ _⟩
      · intro X w5 hb hp
        clear hp
        clear hb
        go_wp2
        exact ⟨⟨_, rfl, rfl⟩, Below.refl _ _⟩
      · intro X w5 hb hp
        clear hp
        clear hb
        go_wp2
        exact ⟨⟨_, rfl, rfl⟩, Below.refl _ _⟩
      · intro X w5 hb hp
        clear hp
        clear hb
        go_wp2
        exact ⟨⟨_, rfl, rfl⟩, Below.refl _ _⟩
      · intro X w5 hb hp
        clear hp
        clear hb
        go_wp2
        exact ⟨⟨_, rfl, rfl⟩, Below.refl _ _⟩
      · intro X w5 hb hp
        clear hp
        clear hb
        go_wp2
        exact ⟨⟨_, rfl, rfl⟩, Below.refl _ _⟩
      · intro X w5 hb hp
        clear hp
        clear hb
        go_wp2_with fail
        refine (awake_any _).mono ?_
        rintro e w6 ⟨rfl, hb6⟩
        go_wp2
        exact ⟨⟨_, rfl, rfl⟩, hb6⟩
      · intro X w5 hb hp
        clear hp
        clear hb
        go_wp2
        exact ⟨⟨_, rfl, rfl⟩, Below.refl _ _⟩
      · intro X w5 hb hp
        clear hp
        clear hb
        go_wp2
        exact ⟨⟨_, rfl, rfl⟩, Below.refl _ _⟩
  · generalize hwb : World.drew (World.drew _) = wb
    have k0 : Blk (w.heap.size) (.string n1) (.int .u32 (w32 r1)) (.int .u32 (w32 w1)) (.int .i64 p1) wb := by subst hwb; exact ⟨by go_simp, by go_simp, by go_simp, by go_simp⟩
    have K0 := Lib.hid k0
    clear k0
    have k1 : Blk (w.heap.size + 1) (.string n2) (.int .u32 (w32 r2)) (.int .u32 (w32 w2)) (.int .i64 p2) wb := by subst hwb; exact ⟨by go_simp, by go_simp, by go_simp, by go_simp⟩
    have K1 := Lib.hid k1
    clear k1
    have k2 : Blk (w.heap.size + 1 + 1) (.string n3) (.int .u32 (w32 r3)) (.int .u32 (w32 w3)) (.int .i64 p3) wb := by subst hwb; exact ⟨by go_simp, by go_simp, by go_simp, by go_simp⟩
    have K2 := Lib.hid k2
    clear k2
    have k3 : Blk (w.heap.size + 1 + 1 + 1) (.string n1) (.int .u32 (w32 (r1 ||| r3))) (.int .u32 (w32 (w1 ||| w3))) (.int .i64 p1) wb := by subst hwb; exact ⟨by go_simp, by go_simp, by go_simp, by go_simp⟩
    have K3 := Lib.hid k3
    clear k3
    have k4 : Blk (w.heap.size + 1 + 1 + 1 + 1 + 1) (.string n1) (.int .u32 (w32 r1)) (.int .u32 0) (.int .i64 p1) wb := by subst hwb; exact ⟨by go_simp, by go_simp, by go_simp, by go_simp⟩
    have K4 := Lib.hid k4
    clear k4
    have k5 : Blk (w.heap.size + 1 + 1 + 1 + 1) (.string n2) (.int .u32 (w32 r2)) (.int .u32 0) (.int .i64 p2) wb := by subst hwb; exact ⟨by go_simp, by go_simp, by go_simp, by go_simp⟩
    have K5 := Lib.hid k5
    clear k5
    have hbw : Below w.heap.size w wb := by
      subst hwb
      exact Below.drew (Below.drew ((((((Below.refl _ _).alloc (by simp) _).alloc (by first | (simp; done) | (simp; omega)) _).alloc (by first | (simp; done) | (simp; omega)) _).alloc (by first | (simp; done) | (simp; omega)) _).alloc (by first | (simp; done) | (simp; omega)) _ |>.alloc (by first | (simp; done) | (simp; omega)) _))
    clear hwb
    try simp only [List.append_eq, List.cons_append, List.nil_append]
    refine wp_region_rel (some (.agg #[.string n1, .int .u32 (w32 r1), .int .u32 (w32 w1), .int .i64 p1]) :: some (.agg #[.string n2, .int .u32 (w32 r2), .int .u32 (w32 w2), .int .i64 p2]) :: some (.bool false) :: some (.agg #[.string n2, .int .u32 (w32 r2), .int .u32 (w32 w2), .int .i64 p2]) :: some (.agg #[.string n1, .int .u32 (w32 r1), .int .u32 (w32 w1), .int .i64 p1]) :: some (.bool false) :: some (.bool true) :: some (.bool true) :: some (.agg #[.string n1, .int .u32 (w32 r1), .int .u32 (w32 w1), .int .i64 p1]) :: some (.agg #[.string n1, .int .u32 (w32 r1), .int .u32 (w32 w1), .int .i64 p1]) :: some (.bool (w32 w1 != 0)) :: some (.pointer (some ⟨w.heap.size, 2, none⟩)) :: some (.int .u32 (w32 w1)) :: some (.bool (w32 w1 != 0)) :: some (.bool true) :: some (.bool true) :: some (.bool true) :: some (.agg #[.string n1, .int .u32 (w32 r1), .int .u32 0, .int .i64 p1]) :: some (.agg #[.string n2, .int .u32 (w32 r2), .int .u32 0, .int .i64 p2]) :: some (.bool false) :: some (.bool true) :: some (.bool true) :: some (.bool true) :: some (.agg #[.string n1, .int .u32 (w32 r1), .int .u32 (w32 w1), .int .i64 p1]) :: some (.agg #[.string n2, .int .u32 (w32 r2), .int .u32 (w32 w2), .int .i64 p2]) :: some (.bool false) :: some (.bool true) :: some (.bool true) :: some undef :: some undef :: some undef :: some (.bool true) :: some (.bool true) :: some (.bool true) :: some (.agg #[.string n1, .int .u32 (w32 (r1 ||| r3)), .int .u32 (w32 (w1 ||| w3)), .int .i64 p1]) :: some (.agg #[.string n2, .int .u32 (w32 r2), .int .u32 (w32 w2), .int .i64 p2]) :: some (.bool true) :: some (.agg #[.string n1, .int .u32 (w32 r1), .int .u32 (w32 w1), .int .i64 p1]) :: some (.agg #[.string n2, .int .u32 (w32 r2), .int .u32 (w32 w2), .int .i64 p2]) :: some (.bool false) :: some (.bool false) :: some (.agg #[.string n3, .int .u32 (w32 r3), .int .u32 (w32 w3), .int .i64 p3]) :: some (.agg #[.string n2, .int .u32 (w32 r2), .int .u32 (w32 w2), .int .i64 p2]) :: some (.bool true) :: some (.bool true) :: some (.bool true) :: some undef :: some undef :: some undef :: some undef :: some undef :: some undef :: some (.bool true) :: some (.bool true) :: some (.bool true) :: some (.bool true) :: some (.bool true) :: some (.bool true) :: some (.bool true) :: []) (fun _ _ _ => True) (by kernel_rfl) (by kernel_rfl) rfl (fun _ _ _ _ h _ => h) (fun _ _ _ _ => trivial) ?hs ?hf
    case hf =>
      intro X w5 hb _
      simp only [fill_cons, fill_nil, tmpl_some, tmpl_nil, Nat.reduceAdd, Act.put, List.setIfInBounds_toArray, List.set_cons_succ, List.set_cons_zero]
      have hb5 : Below w.heap.size w w5 := hbw.trans ((Below.undrew hb).mono hbw.size)
      clear hb hbw
      go_wp2
      go_ret
      exact ⟨rfl, hb5⟩
    case hs =>
      simp only [fill_cons, fill_nil, tmpl_some, tmpl_nil, Nat.reduceAdd, Act.put, List.setIfInBounds_toArray, List.set_cons_succ, List.set_cons_zero]
      refine stepsRel.cons ?_ (stepsRel.cons ?_ (stepsRel.cons ?_ (stepsRel.cons ?_ (stepsRel.cons ?_ (stepsRel.cons ?_ (stepsRel.cons ?_ (stepsRel.cons ?_ (stepsRel.cons ?_ (stepsRel.cons ?_ (stepsRel.cons ?_ (stepsRel.cons ?_ (stepsRel.cons ?_ (stepsRel.cons ?_ (stepsRel.cons ?_ (stepsRel.cons ?_ (stepsRel.cons ?_ (stepsRel.cons ?_ (stepsRel.cons ?_ (stepsRel.cons ?_ (stepsRel.cons ?_ (stepsRel.cons ?_ (stepsRel.cons ?_ (stepsRel.cons ?_ (stepsRel.cons ?_ (stepsRel.cons ?_ (stepsRel.cons ?_ (stepsRel.cons ?_ (stepsRel.cons ?_ (stepsRel.cons ?_ (stepsRel.cons ?_ (stepsRel.cons ?_ (stepsRel.cons ?_ (stepsRel.cons ?_ (stepsRel.cons ?_ (stepsRel.cons ?_ (stepsRel.cons ?_ (stepsRel.cons ?_ (stepsRel.cons ?_ (stepsRel.cons ?_ (stepsRel.cons ?_ (stepsRel.cons ?_ (stepsRel.cons ?_ (stepsRel.cons ?_ (stepsRel.cons ?_ (stepsRel.cons ?_ (stepsRel.cons ?_ (stepsRel.cons ?_ (stepsRel.cons ?_ (stepsRel.cons ?_ (stepsRel.cons ?_ (stepsRel.cons ?_ (stepsRel.cons ?_ (stepsRel.cons ?_ (stepsRel.cons ?_ (stepsRel.cons ?_ (stepsRel.cons ?_ (stepsRel.cons ?_ (stepsRel.cons ?_ stepsRel.nil))))))))))))))))))))))))))))))))))))))))))))))))))))))))))
      · intro X w5 hb hp
        clear hp
        obtain ⟨z0, z1, z2, z3⟩ := K0.out.next (Below.undrew hb)
        clear hb
        go_wp2
        exact ⟨⟨_, rfl, rfl⟩, Below.refl _ _⟩
      · intro X w5 hb hp
        clear hp
        obtain ⟨z0, z1, z2, z3⟩ := K1.out.next (Below.undrew hb)
        clear hb
        go_wp2
        exact ⟨⟨_, rfl, rfl⟩, Below.refl _ _⟩
      · intro X w5 hb hp
        clear hp
        clear hb
        go_wp2_with fail
        refine (C01.out _).mono ?_
        rintro e w6 ⟨rfl, hb6⟩
        go_wp2
        exact ⟨⟨_, rfl, rfl⟩, hb6⟩
      · intro X w5 hb hp
        clear hp
        obtain ⟨z0, z1, z2, z3⟩ := K1.out.next (Below.undrew hb)
        clear hb
        go_wp2
        exact ⟨⟨_, rfl, rfl⟩, Below.refl _ _⟩
      · intro X w5 hb hp
        clear hp
        obtain ⟨z0, z1, z2, z3⟩ := K0.out.next (Below.undrew hb)
        clear hb
        go_wp2
        exact ⟨⟨_, rfl, rfl⟩, Below.refl _ _⟩
      · intro X w5 hb hp
        clear hp
        clear hb
        go_wp2_with fail
        refine (C10.out _).mono ?_
        rintro e w6 ⟨rfl, hb6⟩
        go_wp2
        exact ⟨⟨_, rfl, rfl⟩, hb6⟩
      · intro X w5 hb hp
        clear hp
        clear hb
        go_wp2
        exact ⟨⟨_, rfl, rfl⟩, Below.refl _ _⟩
      · intro X w5 hb hp
        clear hp
        clear hb
        go_wp2
        exact ⟨⟨_, rfl, rfl⟩, Below.refl _ _⟩
      · intro X w5 hb hp
        clear hp
        obtain ⟨z0, z1, z2, z3⟩ := K0.out.next (Below.undrew hb)
        clear hb
        go_wp2
        exact ⟨⟨_, rfl, rfl⟩, Below.refl _ _⟩
      · intro X w5 hb hp
        clear hp
        obtain ⟨z0, z1, z2, z3⟩ := K0.out.next (Below.undrew hb)
        clear hb
        go_wp2
        exact ⟨⟨_, rfl, rfl⟩, Below.refl _ _⟩
      · intro X w5 hb hp
        clear hp
        clear hb
        go_wp2_with fail
        refine (C00.out _).mono ?_
        rintro e w6 ⟨rfl, hb6⟩
        go_wp2
        exact ⟨⟨_, rfl, rfl⟩, hb6⟩
      · intro X w5 hb hp
        clear hp
        clear hb
        go_wp2
        exact ⟨⟨_, rfl, rfl⟩, Below.refl _ _⟩
      · intro X w5 hb hp
        clear hp
        obtain ⟨z0, z1, z2, z3⟩ := K0.out.next (Below.undrew hb)
        clear hb
        go_wp2
        exact ⟨⟨_, rfl, rfl⟩, Below.refl _ _⟩
      · intro X w5 hb hp
        clear hp
        clear hb
        go_wp2
        exact ⟨⟨_, rfl, rfl⟩, Below.refl _ _⟩
      · intro X w5 hb hp
        clear hp
        clear hb
        go_wp2
        exact ⟨⟨_, rfl, rfl⟩, Below.refl _ _⟩
      · intro X w5 hb hp
        clear hp
        clear hb
        go_wp2
        exact ⟨⟨_, rfl, rfl⟩, Below.refl _ _⟩
      · intro X w5 hb hp
        clear hp
        clear hb
        go_wp2
        exact ⟨⟨_, rfl, rfl⟩, Below.refl _ _⟩
      · intro X w5 hb hp
        clear hp
        obtain ⟨z0, z1, z2, z3⟩ := K4.out.next (Below.undrew hb)
        clear hb
        go_wp2
        exact ⟨⟨_, rfl, rfl⟩, Below.refl _ _⟩
      · intro X w5 hb hp
        clear hp
        obtain ⟨z0, z1, z2, z3⟩ := K5.out.next (Below.undrew hb)
        clear hb
        go_wp2
        exact ⟨⟨_, rfl, rfl⟩, Below.refl _ _⟩
      · intro X w5 hb hp
        clear hp
        clear hb
        go_wp2_with fail
        refine (C45.out _).mono ?_
        rintro e w6 ⟨rfl, hb6⟩
        go_wp2
        exact ⟨⟨_, rfl, rfl⟩, hb6⟩
      · intro X w5 hb hp
        clear hp
        clear hb
        go_wp2
        exact ⟨⟨_, rfl, rfl⟩, Below.refl _ _⟩
      · intro X w5 hb hp
        clear hp
        clear hb
        go_wp2
        exact ⟨⟨_, rfl, rfl⟩, Below.refl _ _⟩
      · intro X w5 hb hp
        clear hp
        clear hb
        go_wp2
        exact ⟨⟨_, rfl, rfl⟩, Below.refl _ _⟩
      · intro X w5 hb hp
        clear hp
        obtain ⟨z0, z1, z2, z3⟩ := K0.out.next (Below.undrew hb)
        clear hb
        go_wp2
        exact ⟨⟨_, rfl, rfl⟩, Below.refl _ _⟩
      · intro X w5 hb hp
        clear hp
        obtain ⟨z0, z1, z2, z3⟩ := K1.out.next (Below.undrew hb)
        clear hb
        go_wp2
        exact ⟨⟨_, rfl, rfl⟩, Below.refl _ _⟩
      · intro X w5 hb hp
        clear hp
        clear hb
        go_wp2_with fail
        refine (C01.out _).mono ?_
        rintro e w6 ⟨rfl, hb6⟩
        go_wp2
        exact ⟨⟨_, rfl, rfl⟩, hb6⟩
      · intro X w5 hb hp
        clear hp
        clear hb
        go_wp2
        exact ⟨⟨_, rfl, rfl⟩, Below.refl _ _⟩
      · intro X w5 hb hp
        clear hp
        clear hb
        go_wp2
        exact ⟨⟨_, rfl, rfl⟩, Below.refl _ _⟩
      · intro X w5 hb hp
        clear hp
        clear hb
        go_wp2
        exact ⟨⟨_, rfl, rfl⟩, Below.refl _ _⟩
      · intro X w5 hb hp
        clear hp
        clear hb
        go_wp2
        exact ⟨⟨_, rfl, rfl⟩, Below.refl _ _⟩
      · intro X w5 hb hp
        clear hp
        clear hb
        go_wp2
        exact ⟨⟨_, rfl, rfl⟩, Below.refl _ _⟩
      · intro X w5 hb hp
        clear hp
        clear hb
        go_wp2
        exact ⟨⟨_, rfl, rfl⟩, Below.refl _ _⟩
      · intro X w5 hb hp
        clear hp
        clear hb
        go_wp2
        exact ⟨⟨_, rfl, rfl⟩, Below.refl _ _⟩
      · intro X w5 hb hp
        clear hp
        clear hb
        go_wp2
        exact ⟨⟨_, rfl, rfl⟩, Below.refl _ _⟩
      · intro X w5 hb hp
        clear hp
        obtain ⟨z0, z1, z2, z3⟩ := K3.out.next (Below.undrew hb)
        clear hb
        go_wp2
        exact ⟨⟨_, rfl, rfl⟩, Below.refl _ _⟩
      · intro X w5 hb hp
        clear hp
        obtain ⟨z0, z1, z2, z3⟩ := K1.out.next (Below.undrew hb)
        clear hb
        go_wp2
        exact ⟨⟨_, rfl, rfl⟩, Below.refl _ _⟩
      · intro X w5 hb hp
        clear hp
        clear hb
        go_wp2_with fail
        refine (C31.out _).mono ?_
        rintro e w6 ⟨rfl, hb6⟩
        go_wp2
        exact ⟨⟨_, rfl, rfl⟩, hb6⟩
      · intro X w5 hb hp
        clear hp
        obtain ⟨z0, z1, z2, z3⟩ := K0.out.next (Below.undrew hb)
        clear hb
        go_wp2
        exact ⟨⟨_, rfl, rfl⟩, Below.refl _ _⟩
      · intro X w5 hb hp
        clear hp
        obtain ⟨z0, z1, z2, z3⟩ := K1.out.next (Below.undrew hb)
        clear hb
        go_wp2
        exact ⟨⟨_, rfl, rfl⟩, Below.refl _ _⟩
      · intro X w5 hb hp
        clear hp
        clear hb
        go_wp2_with fail
        refine (C01.out _).mono ?_
        rintro e w6 ⟨rfl, hb6⟩
        go_wp2
        exact ⟨⟨_, rfl, rfl⟩, hb6⟩
      · intro X w5 hb hp
        clear hp
        clear hb
        go_wp2
        exact ⟨⟨_, rfl, rfl⟩, Below.refl _ _⟩
      · intro X w5 hb hp
        clear hp
        obtain ⟨z0, z1, z2, z3⟩ := K2.out.next (Below.undrew hb)
        clear hb
        go_wp2
        exact ⟨⟨_, rfl, rfl⟩, Below.refl _ _⟩
      · intro X w5 hb hp
        clear hp
        obtain ⟨z0, z1, z2, z3⟩ := K1.out.next (Below.undrew hb)
        clear hb
        go_wp2
        exact ⟨⟨_, rfl, rfl⟩, Below.refl _ _⟩
      · intro X w5 hb hp
        clear hp
        clear hb
        go_wp2_with fail
        refine (C21.out _).mono ?_
        rintro e w6 ⟨rfl, hb6⟩
        go_wp2
        exact ⟨⟨_, rfl, rfl⟩, hb6⟩
      · intro X w5 hb hp
        clear hp
        clear hb
        go_wp2
        exact ⟨⟨_, rfl, rfl⟩, Below.refl _ _⟩
      · intro X w5 hb hp
        clear hp
        clear hb
        go_wp2
        exact ⟨⟨_, rfl, rfl⟩, Below.refl _ _⟩
      · intro X w5 hb hp
        clear hp
        clear hb
        go_wp2
        exact ⟨⟨_, rfl, rfl⟩, Below.refl _ _⟩
      · intro X w5 hb hp
        clear hp
        clear hb
        go_wp2
        exact ⟨⟨_, rfl, rfl⟩, Below.refl _ _⟩
      · intro X w5 hb hp
        clear hp
        clear hb
        go_wp2
        exact ⟨⟨_, rfl, rfl⟩, Below.refl _ _⟩
      · intro X w5 hb hp
        clear hp
        clear hb
        go_wp2
        exact ⟨⟨_, rfl, rfl⟩, Below.refl _ _⟩
      · intro X w5 hb hp
        clear hp
        clear hb
        go_wp2
        exact ⟨⟨_, rfl, rfl⟩, Below.refl _ _⟩
      · intro X w5 hb hp
        clear hp
        clear hb
        go_wp2
        exact ⟨⟨_, rfl, rfl⟩, Below.refl _ _⟩
      · intro X w5 hb hp
        clear hp
        clear hb
        go_wp2
        exact ⟨⟨_, rfl, rfl⟩, Below.refl _ _⟩
      · intro X w5 hb hp
        clear hp
        clear hb
        go_wp2
        exact ⟨⟨_, rfl, rfl⟩, Below.refl _ _⟩
      · intro X w5 hb hp
        clear hp
        clear hb
        go_wp2
        exact ⟨⟨_, rfl, rfl⟩, Below.refl _ _⟩
      · intro X w5 hb hp
        clear hp
        clear hb
        go_wp2
        exact ⟨⟨_, rfl, rfl⟩, Below.refl _ _⟩
      · intro X w5 hb hp
        clear hp
        clear hb
        go_wp2_with fail
        refine (awake_any _).mono ?_
        rintro e w6 ⟨rfl, hb6⟩
        go_wp2
        exact ⟨⟨_, rfl, rfl⟩, hb6⟩
      · intro X w5 hb hp
        clear hp
        clear hb
        go_wp2
        exact ⟨⟨_, rfl, rfl⟩, Below.refl _ _⟩
      · intro X w5 hb hp
        clear hp
        clear hb
        go_wp2
        exact ⟨⟨_, rfl, rfl⟩, Below.refl _ _⟩

end Go.Proofs.Ytbcfanfnnmijdaa
