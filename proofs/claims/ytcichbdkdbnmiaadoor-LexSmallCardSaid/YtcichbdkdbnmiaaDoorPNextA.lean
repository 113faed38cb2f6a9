/- The program's lexer: next, walked: the end, words, numbers. No condition but the bounds of a source. -/
import Derived.Test.YtcichbdkdbnmiaaDoorPBlanks
import Derived.Test.YtcichbdkdbnmiaaDoorPSkipS
import Derived.Test.YtcichbdkdbnmiaaDoorPNumber
import Derived.Test.YtcichbdkdbnmiaaDoorSignM
namespace Go.Proofs.YtcichbdkdbnmiaaDoor
open Go.RowKit

theorem bstr_size (l : List UInt8) : (bstr l).size = l.length := by rw [← str_len]; unfold bstr; simp
theorem number_run {src : ByteArray} {j : Nat} (hj : j < src.size) (hsz : src.size ≤ 16384) (hd : digitB src[j] = true) (w : World) (hG : Glob w) :
    Calls Tryd.prog 42 #[.string (bstr ((src.data.toList.drop j).takeWhile partB))] w fun e w' => e = numC (valueR ((src.data.toList.drop j).takeWhile partB)) ∧ Below w.heap.size w w' := by
  have hrun : (src.data.toList.drop j).takeWhile partB = src[j] :: ((src.data.toList.drop (j + 1)).takeWhile partB) := by
    rw [drop_get src hj, run_cons (part_digit hd)]
  have hle : ((src.data.toList.drop j).takeWhile partB).length ≤ src.size := by
    have := (List.takeWhile_prefix (l := src.data.toList.drop j) partB).length_le
    rw [List.length_drop, str_len] at this
    omega
  rw [hrun] at hle ⊢
  have hs := bstr_size (src[j] :: ((src.data.toList.drop (j + 1)).takeWhile partB))
  have h0 : 0 < (bstr (src[j] :: ((src.data.toList.drop (j + 1)).takeWhile partB))).size := by rw [hs]; simp
  have := number_any (bstr (src[j] :: ((src.data.toList.drop (j + 1)).takeWhile partB))) w hG (by rw [hs]; omega) h0 hd
  have hl : (bstr (src[j] :: ((src.data.toList.drop (j + 1)).takeWhile partB))).data.toList = src[j] :: ((src.data.toList.drop (j + 1)).takeWhile partB) := by unfold bstr; simp
  rw [hl] at this
  exact this
def NextE (b : Nat) (src : ByteArray) (j : Nat) (L C : Int) (w : World) (e : Ending) (w' : World) : HeadR → Prop
  | .eof => e = .returned (.tuple #[.agg (Tok.cells ⟨4, [], 0, L, C⟩).toArray, .int .i64 0]) ∧ Scan w' b L C src j ∧ Only (fun g => g = b) w w'
  | .err code => (∃ (k n : Int) (t : ByteArray), e = .returned (.tuple #[.agg #[.int .u8 k, .string t, .int .i64 n, .int .i64 L, .int .i64 C], .int .i64 code])) ∧ Only (fun g => g = b) w w'
  | .tok k t n => e = .returned (.tuple #[.agg (Tok.cells ⟨k, t, n, L, C⟩).toArray, .int .i64 0]) ∧ Scan w' b L (C + t.length) src (j + t.length) ∧ Only (fun g => g = b) w w'
theorem Scan.alloc {w : World} {b : Nat} {line col : Int} {src : ByteArray} {at' : Nat} (h : Scan w b line col src at') (o : Obj) : Scan (w.alloc o) b line col src at' := OwnV.alloc h o
theorem Scan.set_ne {w : World} {b : Nat} {line col : Int} {src : ByteArray} {at' : Nat} (h : Scan w b line col src at') {g o : Nat} (hne : b ≠ g) (v : Value) : Scan (w.setCell ⟨g, o, none⟩ v) b line col src at' := OwnV.set_ne h hne v
theorem next_res {tmps : Array Value} {w : World} {g1 g2 : Nat} {a b c d e z : Value} (h2 : tmps[2]?.getD undef = .pointer (some ⟨g1, 0, none⟩)) (h3 : tmps[3]?.getD undef = .pointer (some ⟨g2, 0, none⟩)) (HT : OwnV w g1 29 [a, b, c, d, e]) (HE : OwnV w g2 38 [z]) :
    (results Tryd.f34 tmps).run Tryd.prog w = .ok (.tuple #[.agg #[a, b, c, d, e], z]) w := by
  have t0 : w.cell? ⟨g1, 0, none⟩ = some a := OwnV.cell HT rfl
  have t1 : w.cell? ⟨g1, 1, none⟩ = some b := OwnV.cell HT rfl
  have t2 : w.cell? ⟨g1, 2, none⟩ = some c := OwnV.cell HT rfl
  have t3 : w.cell? ⟨g1, 3, none⟩ = some d := OwnV.cell HT rfl
  have t4 : w.cell? ⟨g1, 4, none⟩ = some e := OwnV.cell HT rfl
  have e0 : w.cell? ⟨g2, 0, none⟩ = some z := OwnV.cell HE rfl
  simp [results, Tryd.results34, go_sem, h2, h3, t0, t1, t2, t3, t4, e0]
theorem posS_flat : ∀ (xs : List UInt8) (l c : Int), (∀ x ∈ xs, x.toNat ≠ 10) → posS xs l c = (l, c + xs.length) := by
  intro xs
  induction xs with
  | nil => intro l c _; simp [posS]
  | cons b r ih =>
    intro l c h
    rw [posS, if_neg (h b (by simp)), ih _ _ (fun x hx => h x (by simp [hx]))]
    simp only [List.length_cons, Prod.mk.injEq, true_and]
    omega
theorem part_nl {x : UInt8} (h : partB x = true) : x.toNat ≠ 10 := by
  intro e
  unfold partB letterB letterI digitB digitI at h
  rw [e] at h
  revert h
  decide
theorem part_skip (b : Nat) (src : ByteArray) (j : Nat) (L C : Int) (w : World) (hS : Scan w b L C src j) (hj : j ≤ src.size) (hsz : src.size ≤ 16384) (h1 : 0 ≤ L ∧ L ≤ j + 1) (h2 : 0 ≤ C ∧ C ≤ j + 1) :
    Calls Tryd.prog 41 #[.pointer (some ⟨b, 0, none⟩), .func (.func 40) #[] #[]] w fun e w' => e = .returned (.string (bstr ((src.data.toList.drop j).takeWhile partB))) ∧ Scan w' b L (C + ((src.data.toList.drop j).takeWhile partB).length) src (j + ((src.data.toList.drop j).takeWhile partB).length) ∧ Only (fun g => g = b) w w' := by
  refine (skip_part b src j L C w hS hj hsz h1 h2).mono ?_
  unfold SkipE
  rw [runK_all, take_run, posS_flat _ _ _ (fun x hx => part_nl (List.all_eq_true.1 (run_all _) x hx))]
  exact fun e w' h => h
theorem drop_inj {src : ByteArray} {i j : Nat} (hi : i ≤ src.size) (hj : j ≤ src.size) (h : src.data.toList.drop i = src.data.toList.drop j) : i = j := by
  have := congrArg List.length h
  rw [List.length_drop, List.length_drop, str_len] at this
  omega
/-- blanks, at a place that is known beforehand -/
theorem blanks_to (b : Nat) (src : ByteArray) (at' j : Nat) (line col L C : Int) (w : World) (hS : Scan w b line col src at') (hat : at' ≤ src.size) (hsz : src.size ≤ 16384) (hl : 0 ≤ line ∧ line ≤ at' + 1) (hc : 0 ≤ col ∧ col ≤ at' + 1) (hj : j ≤ src.size)
    (hsk : skipS (src.data.toList.drop at') false line col = (src.data.toList.drop j, L, C)) :
    Calls Tryd.prog 39 #[.pointer (some ⟨b, 0, none⟩)] w fun e w' => e = .returned (.tuple #[]) ∧ Scan w' b L C src j ∧ (0 ≤ L ∧ L ≤ j + 1) ∧ (0 ≤ C ∧ C ≤ j + 1) ∧ Only (fun g => g = b) w w' := by
  refine (blanks_any b src at' line col w hS hat hsz hl hc).mono ?_
  rintro e w' ⟨h1, ⟨j', h2, h3, h4, h5, h6, h7⟩, h8⟩
  rw [hsk] at h4 h5 h6 h7
  simp only [Prod.mk.injEq] at h4
  have := drop_inj hj h3 h4.1
  subst this
  exact ⟨h1, h5, h6, h7, h8⟩
set_option maxRecDepth 100000 in
set_option maxHeartbeats 1000000 in
theorem next_eof (b : Nat) (src : ByteArray) (at' j : Nat) (line col L C : Int) (w : World) (hS : Scan w b line col src at') (hat : at' ≤ src.size) (hsz : src.size ≤ 16384) (hl : 0 ≤ line ∧ line ≤ at' + 1) (hc : 0 ≤ col ∧ col ≤ at' + 1) (hj : j = src.size)
    (hsk : skipS (src.data.toList.drop at') false line col = (src.data.toList.drop j, L, C)) :
    Calls Tryd.prog 34 #[.pointer (some ⟨b, 0, none⟩)] w fun e w' => NextE b src j L C w e w' .eof := by
  have hb : b < w.heap.size := OwnV.lt hS
  have HS := Lib.hid hS
  have HB : Hid (∀ W, Scan W b line col src at' → Calls Tryd.prog 39 #[.pointer (some ⟨b, 0, none⟩)] W fun e w' => e = .returned (.tuple #[]) ∧ Scan w' b L C src j ∧ (0 ≤ L ∧ L ≤ j + 1) ∧ (0 ≤ C ∧ C ≤ j + 1) ∧ Only (fun g => g = b) W w') := Lib.hid (fun W h => blanks_to b src at' j line col L C W h hat hsz hl hc (by omega) hsk)
  clear hS hl hc hsk
  have hj' : ((j : Int) == (src.size : Int)) = true := by rw [beq_iff_eq]; omega
  have Hj := Lib.hid hj
  clear hj
  go_enter Tryd.func34, Tryd.ntmps34
  go_wp2_with fail
  go_at_call 39
  refine (HB.out _ (((HS.out.alloc _).alloc _).alloc _)).mono ?_
  rintro e1 w1 ⟨rfl, hS1, ⟨hL0, hL1⟩, ⟨hC0, hC1⟩, hO1⟩
  have HS1 := Lib.hid hS1
  have hbn : ∀ i, ¬ (fun g => g = b) (w.heap.size + i) := fun i e => by have : w.heap.size + i = b := e; omega
  have HbX : Hid (OwnV w1 w.heap.size 55 [.pointer (some ⟨b, 0, none⟩)]) := Lib.hid (hO1.own (((OwnV.new w 55 [.pointer (some ⟨b, 0, none⟩)]).alloc _).alloc _) (hbn 0))
  have HbT : Hid (OwnV w1 (w.heap.size + 1) 29 [.int .u8 0, .string ByteArray.empty, .int .i64 0, .int .i64 0, .int .i64 0]) := Lib.hid (hO1.own (by have := (OwnV.new (w.alloc (.cells #[.pointer (some ⟨b, 0, none⟩)] 55)) 29 [.int .u8 0, .string ByteArray.empty, .int .i64 0, .int .i64 0, .int .i64 0]).alloc (.cells #[.int .i64 0] 38); rw [World.size_alloc] at this; exact this) (hbn 1))
  have HbE : Hid (OwnV w1 (w.heap.size + 2) 38 [.int .i64 0]) := Lib.hid (hO1.own (by have := OwnV.new ((w.alloc (.cells #[.pointer (some ⟨b, 0, none⟩)] 55)).alloc (.cells #[.int .u8 0, .string ByteArray.empty, .int .i64 0, .int .i64 0, .int .i64 0] 29)) 38 [.int .i64 0]; rw [World.size_alloc, World.size_alloc] at this; exact this) (hbn 2))
  have HO1 : Hid (Only (fun g => g = b) w w1) := Lib.hid (((((Only.refl _ w).alloc _).alloc _).alloc _).trans hO1)
  have hsz1 : w.heap.size + 3 ≤ w1.heap.size := by have := hO1.size; simp at this; omega
  clear hS1 hO1 hbn
  obtain ⟨c0, c1, c2, c3, cf⟩ := HS1.out.cells
  have x0 : w1.cell? ⟨w.heap.size, 0, none⟩ = some (.pointer (some ⟨b, 0, none⟩)) := OwnV.cell HbX.out rfl
  have hj3 : (0 : Int) ≤ (j : Int) := by omega
  go_wp2_with fail
  have hbw : b < w1.heap.size := by omega
  have hx0 : w.heap.size < w1.heap.size := by omega
  go_region_held3 (fun w' => w'.cell? ⟨b, 0, none⟩ = some (.int .i64 L) ∧ w'.cell? ⟨b, 1, none⟩ = some (.int .i64 C) ∧ w'.cell? ⟨w.heap.size, 0, none⟩ = some (.pointer (some ⟨b, 0, none⟩))) (go_keep) (fail)
  rename_i hHeld
  clear hHeld
  go_wp2_with fail
  refine wp_region_seq (DrewOf _) (by kernel_rfl) (by kernel_rfl) (DrewOf.start _) ?_
  repeat
    try simp only [Act.put, List.setIfInBounds_toArray, List.set_cons_succ, List.set_cons_zero]
    apply stepsSeq.cons
    · rintro w' ⟨nq, rfl⟩
      simp only [Act.put, List.setIfInBounds_toArray, List.set_cons_succ, List.set_cons_zero]
      go_wp2_with (fail)
      first | exact ⟨rfl, nq, rfl⟩ | exact ⟨rfl, nq, (World.drewN_drewN _ _ _).symm⟩ | exact ⟨rfl, nq, by simp⟩
  try simp only [Act.put, List.setIfInBounds_toArray, List.set_cons_succ, List.set_cons_zero]
  refine stepsSeq.nil ?_
  rintro w' ⟨nq, rfl⟩
  clear c0 c1 c2 c3 cf x0 hbw hx0
  obtain ⟨tb, htb⟩ : ∃ tb, tb = w1.heap.size := ⟨_, rfl⟩
  rw [← htb]
  obtain ⟨w3, hw3⟩ : ∃ w3, w3 = ((w1.alloc (.cells #[.int .u8 4, .string { data := #[] }, .int .i64 0, .int .i64 L, .int .i64 C] 29)).drew).drewN nq := ⟨_, rfl⟩
  rw [← hw3]
  have HS3 : Hid (Scan w3 b L C src j) := Lib.hid (by rw [hw3]; exact HS1.out.alloc _)
  have HX3 : Hid (OwnV w3 w.heap.size 55 [.pointer (some ⟨b, 0, none⟩)]) := Lib.hid (by rw [hw3]; exact HbX.out.alloc _)
  have HT3 : Hid (OwnV w3 (w.heap.size + 1) 29 [.int .u8 0, .string ByteArray.empty, .int .i64 0, .int .i64 0, .int .i64 0]) := Lib.hid (by rw [hw3]; exact HbT.out.alloc _)
  have HE3 : Hid (OwnV w3 (w.heap.size + 1 + 1) 38 [.int .i64 0]) := Lib.hid (by rw [hw3]; exact HbE.out.alloc _)
  have HK3 : Hid (OwnV w3 tb 29 [.int .u8 4, .string ByteArray.empty, .int .i64 0, .int .i64 L, .int .i64 C]) := Lib.hid (by rw [hw3, htb]; exact OwnV.new w1 _ [.int .u8 4, .string ByteArray.empty, .int .i64 0, .int .i64 L, .int .i64 C])
  have HO3 : Hid (Only (fun g => g = b) w w3) := Lib.hid (by rw [hw3]; exact ((HO1.out.alloc _).drew).drewN _)
  have hsz3 : w.heap.size + 3 ≤ tb ∧ tb < w3.heap.size := by rw [hw3]; simp; omega
  obtain ⟨hsz3, hsz4⟩ := hsz3
  clear hw3 htb HS1 HbX HbT HbE HO1 hsz1
  obtain ⟨c0, c1, c2, c3, cf⟩ := HS3.out.cells
  have x0 : w3.cell? ⟨w.heap.size, 0, none⟩ = some (.pointer (some ⟨b, 0, none⟩)) := OwnV.cell HX3.out rfl
  have k0 : w3.cell? ⟨tb, 0, none⟩ = some (.int .u8 4) := OwnV.cell HK3.out rfl
  have k1 : w3.cell? ⟨tb, 1, none⟩ = some (.string ByteArray.empty) := OwnV.cell HK3.out rfl
  have k2 : w3.cell? ⟨tb, 2, none⟩ = some (.int .i64 0) := OwnV.cell HK3.out rfl
  have k3 : w3.cell? ⟨tb, 3, none⟩ = some (.int .i64 L) := OwnV.cell HK3.out rfl
  have k4 : w3.cell? ⟨tb, 4, none⟩ = some (.int .i64 C) := OwnV.cell HK3.out rfl
  have kf : ∀ o, w3.frozen? ⟨tb, o, none⟩ = false := fun o => OwnV.free HK3.out o
  have t0 : w3.cell? ⟨w.heap.size + 1, 0, none⟩ = some (.int .u8 0) := OwnV.cell HT3.out rfl
  have t1 : w3.cell? ⟨w.heap.size + 1, 1, none⟩ = some (.string ByteArray.empty) := OwnV.cell HT3.out rfl
  have t2 : w3.cell? ⟨w.heap.size + 1, 2, none⟩ = some (.int .i64 0) := OwnV.cell HT3.out rfl
  have t3 : w3.cell? ⟨w.heap.size + 1, 3, none⟩ = some (.int .i64 0) := OwnV.cell HT3.out rfl
  have t4 : w3.cell? ⟨w.heap.size + 1, 4, none⟩ = some (.int .i64 0) := OwnV.cell HT3.out rfl
  have tf : ∀ o, w3.frozen? ⟨w.heap.size + 1, o, none⟩ = false := fun o => OwnV.free HT3.out o
  have e0 : w3.cell? ⟨w.heap.size + 1 + 1, 0, none⟩ = some (.int .i64 0) := OwnV.cell HE3.out rfl
  have ef : w3.frozen? ⟨w.heap.size + 1 + 1, 0, none⟩ = false := OwnV.free HE3.out 0
  go_wp2_with fail
  have hb1 : b ≠ w.heap.size + 1 := by omega
  have hb2 : b ≠ w.heap.size + 1 + 1 := by omega
  have hg1 : w.heap.size ≤ w.heap.size + 1 := by omega
  have hg2 : w.heap.size ≤ w.heap.size + 1 + 1 := by omega
  exact bodyPost_ret (next_res rfl rfl ((((((HT3.out.set 0 _).set 1 _).set 2 _).set 3 _).set 4 _).set_ne (by omega) _) ((((((HE3.out.set_ne (by omega) _).set_ne (by omega) _).set_ne (by omega) _).set_ne (by omega) _).set_ne (by omega) _).set 0 _)) rfl ⟨rfl, (((((HS3.out.set_ne hb1 _).set_ne hb1 _).set_ne hb1 _).set_ne hb1 _).set_ne hb1 _).set_ne hb2 _, (((((HO3.out.setNew hg1 _).setNew hg1 _).setNew hg1 _).setNew hg1 _).setNew hg1 _).setNew hg2 _⟩
set_option maxRecDepth 100000 in
set_option maxHeartbeats 1000000 in
theorem next_long (b : Nat) (src : ByteArray) (at' j : Nat) (line col L C : Int) (w : World) (hS : Scan w b line col src at') (hat : at' ≤ src.size) (hsz : src.size ≤ 16384) (hl : 0 ≤ line ∧ line ≤ at' + 1) (hc : 0 ≤ col ∧ col ≤ at' + 1) (hj : j < src.size) (hlet : letterB src[j] = true) (hlen : 24 < ((src.data.toList.drop j).takeWhile partB).length)
    (hsk : skipS (src.data.toList.drop at') false line col = (src.data.toList.drop j, L, C)) :
    Calls Tryd.prog 34 #[.pointer (some ⟨b, 0, none⟩)] w fun e w' => NextE b src j L C w e w' (.err 111) := by
  have hb : b < w.heap.size := OwnV.lt hS
  have HS := Lib.hid hS
  have HB : Hid (∀ W, Scan W b line col src at' → Calls Tryd.prog 39 #[.pointer (some ⟨b, 0, none⟩)] W fun e w' => e = .returned (.tuple #[]) ∧ Scan w' b L C src j ∧ (0 ≤ L ∧ L ≤ j + 1) ∧ (0 ≤ C ∧ C ≤ j + 1) ∧ Only (fun g => g = b) W w') := Lib.hid (fun W h => blanks_to b src at' j line col L C W h hat hsz hl hc (by omega) hsk)
  clear hS hl hc hsk
  have hj' : ((j : Int) == (src.size : Int)) = false := by rw [beq_eq_false_iff_ne]; omega
  have hjI : (j : Int) < (src.size : Int) := by omega
  have hc0 : src[j].toNat ≤ 255 := by have := src[j].toNat_lt; omega
  have HPt : Hid (∀ W, Scan W b L C src j → (0 ≤ L ∧ L ≤ j + 1) → (0 ≤ C ∧ C ≤ j + 1) → Calls Tryd.prog 41 #[.pointer (some ⟨b, 0, none⟩), .func (.func 40) #[] #[]] W fun e w' => e = .returned (.string (bstr ((src.data.toList.drop j).takeWhile partB))) ∧ Scan w' b L (C + ((src.data.toList.drop j).takeWhile partB).length) src (j + ((src.data.toList.drop j).takeWhile partB).length) ∧ Only (fun g => g = b) W w') := Lib.hid (fun W h h1 h2 => part_skip b src j L C W h (by omega) hsz h1 h2)
  have hlt : letterI (src[j].toNat : Int) = true := hlet
  clear hlet
  obtain ⟨rs, Hrs⟩ : ∃ rs, Hid (bstr ((src.data.toList.drop j).takeWhile partB) = rs) := ⟨_, Lib.hid rfl⟩
  have hrs : rs.size = ((src.data.toList.drop j).takeWhile partB).length := by rw [← Hrs.out]; exact bstr_size _
  rw [Hrs.out] at HPt
  generalize (src.data.toList.drop j).takeWhile partB = run at *
  have Hrl := Lib.hid hrs
  have h24 : (rs.size : Int) > 24 := by omega
  clear hrs hlen
  go_enter Tryd.func34, Tryd.ntmps34
  go_wp2_with fail
  go_at_call 39
  refine (HB.out _ (((HS.out.alloc _).alloc _).alloc _)).mono ?_
  rintro e1 w1 ⟨rfl, hS1, ⟨hL0, hL1⟩, ⟨hC0, hC1⟩, hO1⟩
  have HS1 := Lib.hid hS1
  have hbn : ∀ i, ¬ (fun g => g = b) (w.heap.size + i) := fun i e => by have : w.heap.size + i = b := e; omega
  have HbX : Hid (OwnV w1 w.heap.size 55 [.pointer (some ⟨b, 0, none⟩)]) := Lib.hid (hO1.own (((OwnV.new w 55 [.pointer (some ⟨b, 0, none⟩)]).alloc _).alloc _) (hbn 0))
  have HbT : Hid (OwnV w1 (w.heap.size + 1) 29 [.int .u8 0, .string ByteArray.empty, .int .i64 0, .int .i64 0, .int .i64 0]) := Lib.hid (hO1.own (by have := (OwnV.new (w.alloc (.cells #[.pointer (some ⟨b, 0, none⟩)] 55)) 29 [.int .u8 0, .string ByteArray.empty, .int .i64 0, .int .i64 0, .int .i64 0]).alloc (.cells #[.int .i64 0] 38); rw [World.size_alloc] at this; exact this) (hbn 1))
  have HbE : Hid (OwnV w1 (w.heap.size + 2) 38 [.int .i64 0]) := Lib.hid (hO1.own (by have := OwnV.new ((w.alloc (.cells #[.pointer (some ⟨b, 0, none⟩)] 55)).alloc (.cells #[.int .u8 0, .string ByteArray.empty, .int .i64 0, .int .i64 0, .int .i64 0] 29)) 38 [.int .i64 0]; rw [World.size_alloc, World.size_alloc] at this; exact this) (hbn 2))
  have HO1 : Hid (Only (fun g => g = b) w w1) := Lib.hid (((((Only.refl _ w).alloc _).alloc _).alloc _).trans hO1)
  have hsz1 : w.heap.size + 3 ≤ w1.heap.size := by have := hO1.size; simp at this; omega
  clear hS1 hO1 hbn
  obtain ⟨c0, c1, c2, c3, cf⟩ := HS1.out.cells
  have x0 : w1.cell? ⟨w.heap.size, 0, none⟩ = some (.pointer (some ⟨b, 0, none⟩)) := OwnV.cell HbX.out rfl
  have hj3 : (0 : Int) ≤ (j : Int) := by omega
  go_wp2_with fail
  have hbw : b < w1.heap.size := by omega
  have hx0 : w.heap.size < w1.heap.size := by omega
  go_region_held3 (fun w' => w'.cell? ⟨b, 0, none⟩ = some (.int .i64 L) ∧ w'.cell? ⟨b, 1, none⟩ = some (.int .i64 C) ∧ w'.cell? ⟨w.heap.size, 0, none⟩ = some (.pointer (some ⟨b, 0, none⟩))) (go_keep) (fail)
  rename_i hHeld
  clear hHeld
  go_wp2_with fail
  refine wp_region_seq (DrewOf _) (by kernel_rfl) (by kernel_rfl) (DrewOf.start _) ?_
  repeat
    try simp only [Act.put, List.setIfInBounds_toArray, List.set_cons_succ, List.set_cons_zero]
    apply stepsSeq.cons
    · rintro w' ⟨nq, rfl⟩
      simp only [Act.put, List.setIfInBounds_toArray, List.set_cons_succ, List.set_cons_zero]
      go_wp2_with (fail)
      first | exact ⟨rfl, nq, rfl⟩ | exact ⟨rfl, nq, (World.drewN_drewN _ _ _).symm⟩ | exact ⟨rfl, nq, by simp⟩
  try simp only [Act.put, List.setIfInBounds_toArray, List.set_cons_succ, List.set_cons_zero]
  refine stepsSeq.nil ?_
  rintro w' ⟨nq, rfl⟩
  clear c0 c1 c2 c3 cf x0 hbw hx0
  obtain ⟨tb, htb⟩ : ∃ tb, tb = w1.heap.size := ⟨_, rfl⟩
  rw [← htb]
  obtain ⟨w3, hw3⟩ : ∃ w3, w3 = ((w1.alloc (.cells #[.int .u8 4, .string { data := #[] }, .int .i64 0, .int .i64 L, .int .i64 C] 29)).drew).drewN nq := ⟨_, rfl⟩
  rw [← hw3]
  have HS3 : Hid (Scan w3 b L C src j) := Lib.hid (by rw [hw3]; exact HS1.out.alloc _)
  have HX3 : Hid (OwnV w3 w.heap.size 55 [.pointer (some ⟨b, 0, none⟩)]) := Lib.hid (by rw [hw3]; exact HbX.out.alloc _)
  have HT3 : Hid (OwnV w3 (w.heap.size + 1) 29 [.int .u8 0, .string ByteArray.empty, .int .i64 0, .int .i64 0, .int .i64 0]) := Lib.hid (by rw [hw3]; exact HbT.out.alloc _)
  have HE3 : Hid (OwnV w3 (w.heap.size + 1 + 1) 38 [.int .i64 0]) := Lib.hid (by rw [hw3]; exact HbE.out.alloc _)
  have HK3 : Hid (OwnV w3 tb 29 [.int .u8 4, .string ByteArray.empty, .int .i64 0, .int .i64 L, .int .i64 C]) := Lib.hid (by rw [hw3, htb]; exact OwnV.new w1 _ [.int .u8 4, .string ByteArray.empty, .int .i64 0, .int .i64 L, .int .i64 C])
  have HO3 : Hid (Only (fun g => g = b) w w3) := Lib.hid (by rw [hw3]; exact ((HO1.out.alloc _).drew).drewN _)
  have hsz3 : w.heap.size + 3 ≤ tb ∧ tb < w3.heap.size := by rw [hw3]; simp; omega
  obtain ⟨hsz3, hsz4⟩ := hsz3
  clear hw3 htb HS1 HbX HbT HbE HO1 hsz1
  obtain ⟨c0, c1, c2, c3, cf⟩ := HS3.out.cells
  have x0 : w3.cell? ⟨w.heap.size, 0, none⟩ = some (.pointer (some ⟨b, 0, none⟩)) := OwnV.cell HX3.out rfl
  have k0 : w3.cell? ⟨tb, 0, none⟩ = some (.int .u8 4) := OwnV.cell HK3.out rfl
  have k1 : w3.cell? ⟨tb, 1, none⟩ = some (.string ByteArray.empty) := OwnV.cell HK3.out rfl
  have k2 : w3.cell? ⟨tb, 2, none⟩ = some (.int .i64 0) := OwnV.cell HK3.out rfl
  have k3 : w3.cell? ⟨tb, 3, none⟩ = some (.int .i64 L) := OwnV.cell HK3.out rfl
  have k4 : w3.cell? ⟨tb, 4, none⟩ = some (.int .i64 C) := OwnV.cell HK3.out rfl
  have kf : ∀ o, w3.frozen? ⟨tb, o, none⟩ = false := fun o => OwnV.free HK3.out o
  have t0 : w3.cell? ⟨w.heap.size + 1, 0, none⟩ = some (.int .u8 0) := OwnV.cell HT3.out rfl
  have t1 : w3.cell? ⟨w.heap.size + 1, 1, none⟩ = some (.string ByteArray.empty) := OwnV.cell HT3.out rfl
  have t2 : w3.cell? ⟨w.heap.size + 1, 2, none⟩ = some (.int .i64 0) := OwnV.cell HT3.out rfl
  have t3 : w3.cell? ⟨w.heap.size + 1, 3, none⟩ = some (.int .i64 0) := OwnV.cell HT3.out rfl
  have t4 : w3.cell? ⟨w.heap.size + 1, 4, none⟩ = some (.int .i64 0) := OwnV.cell HT3.out rfl
  have tf : ∀ o, w3.frozen? ⟨w.heap.size + 1, o, none⟩ = false := fun o => OwnV.free HT3.out o
  have e0 : w3.cell? ⟨w.heap.size + 1 + 1, 0, none⟩ = some (.int .i64 0) := OwnV.cell HE3.out rfl
  have ef : w3.frozen? ⟨w.heap.size + 1 + 1, 0, none⟩ = false := OwnV.free HE3.out 0
  go_wp2_with fail
  go_wp2_with fail
  refine wp_region_seq (DrewOf _) (by kernel_rfl) (by kernel_rfl) (DrewOf.start _) ?_
  repeat
    try simp only [Act.put, List.setIfInBounds_toArray, List.set_cons_succ, List.set_cons_zero]
    apply stepsSeq.cons
    · rintro w' ⟨nq, rfl⟩
      simp only [Act.put, List.setIfInBounds_toArray, List.set_cons_succ, List.set_cons_zero]
      go_wp2_with (fail)
      first | exact ⟨rfl, nq, rfl⟩ | exact ⟨rfl, nq, (World.drewN_drewN _ _ _).symm⟩ | exact ⟨rfl, nq, by simp⟩
  try simp only [Act.put, List.setIfInBounds_toArray, List.set_cons_succ, List.set_cons_zero]
  refine stepsSeq.nil ?_
  rintro w' ⟨nq, rfl⟩
  go_wp2_with fail
  go_at_call 29
  refine (pletter_any _ _).mono ?_
  rintro e1 wl ⟨rfl, rfl⟩
  go_wp2_with fail
  go_at_call 41
  refine (HPt.out _ (HS3.out.drewN _) ⟨hL0, hL1⟩ ⟨hC0, hC1⟩).mono ?_
  rintro e1 w4 ⟨rfl, hS4, hO4⟩
  have hgb1 : ¬ (fun g => g = b) (w.heap.size + 1) := fun e => by have : w.heap.size + 1 = b := e; omega
  have hgb2 : ¬ (fun g => g = b) (w.heap.size + 1 + 1) := fun e => by have : w.heap.size + 1 + 1 = b := e; omega
  have hgb0 : ¬ (fun g => g = b) w.heap.size := fun e => by have : w.heap.size = b := e; omega
  have hgbt : ¬ (fun g => g = b) tb := fun e => by have : tb = b := e; omega
  have HS4 := Lib.hid hS4
  have hO4' : Only (fun g => g = b) w3 w4 := ((Only.refl _ w3).drewN _).trans hO4
  have HX4 : Hid (OwnV w4 w.heap.size 55 [.pointer (some ⟨b, 0, none⟩)]) := Lib.hid (hO4'.own HX3.out hgb0)
  have HT4 : Hid (OwnV w4 (w.heap.size + 1) 29 [.int .u8 0, .string ByteArray.empty, .int .i64 0, .int .i64 0, .int .i64 0]) := Lib.hid (hO4'.own HT3.out hgb1)
  have HE4 : Hid (OwnV w4 (w.heap.size + 1 + 1) 38 [.int .i64 0]) := Lib.hid (hO4'.own HE3.out hgb2)
  have HK4 : Hid (OwnV w4 tb 29 [.int .u8 4, .string ByteArray.empty, .int .i64 0, .int .i64 L, .int .i64 C]) := Lib.hid (hO4'.own HK3.out hgbt)
  have HO4 : Hid (Only (fun g => g = b) w w4) := Lib.hid (HO3.out.trans hO4')
  have hsz4 : tb < w4.heap.size := Nat.lt_of_lt_of_le hsz4 hO4'.size
  have hsz3' : w.heap.size + 3 ≤ tb := hsz3
  clear hS4 hO4 hO4' hgb0 hgb1 hgb2 hgbt
  clear c0 c1 c2 c3 cf x0 k0 k1 k2 k3 k4 kf t0 t1 t2 t3 t4 tf e0 ef
  obtain ⟨c0, c1, c2, c3, cf⟩ := HS4.out.cells
  have x0 : w4.cell? ⟨w.heap.size, 0, none⟩ = some (.pointer (some ⟨b, 0, none⟩)) := OwnV.cell HX4.out rfl
  have k0 : w4.cell? ⟨tb, 0, none⟩ = some (.int .u8 4) := OwnV.cell HK4.out rfl
  have k1 : w4.cell? ⟨tb, 1, none⟩ = some (.string ByteArray.empty) := OwnV.cell HK4.out rfl
  have k2 : w4.cell? ⟨tb, 2, none⟩ = some (.int .i64 0) := OwnV.cell HK4.out rfl
  have k3 : w4.cell? ⟨tb, 3, none⟩ = some (.int .i64 L) := OwnV.cell HK4.out rfl
  have k4 : w4.cell? ⟨tb, 4, none⟩ = some (.int .i64 C) := OwnV.cell HK4.out rfl
  have kf : ∀ o, w4.frozen? ⟨tb, o, none⟩ = false := fun o => OwnV.free HK4.out o
  have t0 : w4.cell? ⟨w.heap.size + 1, 0, none⟩ = some (.int .u8 0) := OwnV.cell HT4.out rfl
  have t1 : w4.cell? ⟨w.heap.size + 1, 1, none⟩ = some (.string ByteArray.empty) := OwnV.cell HT4.out rfl
  have t2 : w4.cell? ⟨w.heap.size + 1, 2, none⟩ = some (.int .i64 0) := OwnV.cell HT4.out rfl
  have t3 : w4.cell? ⟨w.heap.size + 1, 3, none⟩ = some (.int .i64 0) := OwnV.cell HT4.out rfl
  have t4 : w4.cell? ⟨w.heap.size + 1, 4, none⟩ = some (.int .i64 0) := OwnV.cell HT4.out rfl
  have tf : ∀ o, w4.frozen? ⟨w.heap.size + 1, o, none⟩ = false := fun o => OwnV.free HT4.out o
  have e0 : w4.cell? ⟨w.heap.size + 1 + 1, 0, none⟩ = some (.int .i64 0) := OwnV.cell HE4.out rfl
  have ef : w4.frozen? ⟨w.heap.size + 1 + 1, 0, none⟩ = false := OwnV.free HE4.out 0
  have hb1 : b ≠ w.heap.size + 1 := by omega
  have hb2 : b ≠ w.heap.size + 1 + 1 := by omega
  have hb3 : b ≠ tb := by omega
  have hg1 : w.heap.size ≤ w.heap.size + 1 := by omega
  have hg2 : w.heap.size ≤ w.heap.size + 1 + 1 := by omega
  have hg3 : w.heap.size ≤ tb := by omega
  have hkt1 : tb ≠ w.heap.size + 1 := by omega
  have hkt2 : tb ≠ w.heap.size + 1 + 1 := by omega
  have hkt1' : w.heap.size + 1 ≠ tb := by omega
  have hkt2' : w.heap.size + 1 + 1 ≠ tb := by omega
  go_wp2_with fail
  exact bodyPost_ret (next_res rfl rfl ((((((((HT4.out.set_ne hkt1' _).set_ne hkt1' _).set 0 _).set 1 _).set 2 _).set 3 _).set 4 _).set_ne (by omega) _) ((((((((HE4.out.set_ne hkt2' _).set_ne hkt2' _).set_ne (by omega) _).set_ne (by omega) _).set_ne (by omega) _).set_ne (by omega) _).set_ne (by omega) _).set 0 _)) rfl ⟨⟨_, _, _, rfl⟩, ((((((((HO4.out.setNew hg3 _).setNew hg3 _).setNew hg1 _).setNew hg1 _).setNew hg1 _).setNew hg1 _).setNew hg1 _).setNew hg2 _)⟩
set_option maxRecDepth 100000 in
set_option maxHeartbeats 1000000 in
theorem next_word (b : Nat) (src : ByteArray) (at' j : Nat) (line col L C : Int) (w : World) (hS : Scan w b line col src at') (hat : at' ≤ src.size) (hsz : src.size ≤ 16384) (hl : 0 ≤ line ∧ line ≤ at' + 1) (hc : 0 ≤ col ∧ col ≤ at' + 1) (hj : j < src.size) (hlet : letterB src[j] = true) (hlen : ¬ 24 < ((src.data.toList.drop j).takeWhile partB).length)
    (hsk : skipS (src.data.toList.drop at') false line col = (src.data.toList.drop j, L, C)) :
    Calls Tryd.prog 34 #[.pointer (some ⟨b, 0, none⟩)] w fun e w' => NextE b src j L C w e w' (.tok 1 ((src.data.toList.drop j).takeWhile partB) 0) := by
  have hb : b < w.heap.size := OwnV.lt hS
  have HS := Lib.hid hS
  have HB : Hid (∀ W, Scan W b line col src at' → Calls Tryd.prog 39 #[.pointer (some ⟨b, 0, none⟩)] W fun e w' => e = .returned (.tuple #[]) ∧ Scan w' b L C src j ∧ (0 ≤ L ∧ L ≤ j + 1) ∧ (0 ≤ C ∧ C ≤ j + 1) ∧ Only (fun g => g = b) W w') := Lib.hid (fun W h => blanks_to b src at' j line col L C W h hat hsz hl hc (by omega) hsk)
  clear hS hl hc hsk
  have hj' : ((j : Int) == (src.size : Int)) = false := by rw [beq_eq_false_iff_ne]; omega
  have hjI : (j : Int) < (src.size : Int) := by omega
  have hc0 : src[j].toNat ≤ 255 := by have := src[j].toNat_lt; omega
  have HPt : Hid (∀ W, Scan W b L C src j → (0 ≤ L ∧ L ≤ j + 1) → (0 ≤ C ∧ C ≤ j + 1) → Calls Tryd.prog 41 #[.pointer (some ⟨b, 0, none⟩), .func (.func 40) #[] #[]] W fun e w' => e = .returned (.string (bstr ((src.data.toList.drop j).takeWhile partB))) ∧ Scan w' b L (C + ((src.data.toList.drop j).takeWhile partB).length) src (j + ((src.data.toList.drop j).takeWhile partB).length) ∧ Only (fun g => g = b) W w') := Lib.hid (fun W h h1 h2 => part_skip b src j L C W h (by omega) hsz h1 h2)
  have hlt : letterI (src[j].toNat : Int) = true := hlet
  clear hlet
  obtain ⟨rs, Hrs⟩ : ∃ rs, Hid (bstr ((src.data.toList.drop j).takeWhile partB) = rs) := ⟨_, Lib.hid rfl⟩
  have hrs : rs.size = ((src.data.toList.drop j).takeWhile partB).length := by rw [← Hrs.out]; exact bstr_size _
  rw [Hrs.out] at HPt
  generalize (src.data.toList.drop j).takeWhile partB = run at *
  have Hrl := Lib.hid hrs
  have h24 : ¬ (rs.size : Int) > 24 := by omega
  clear hrs hlen
  go_enter Tryd.func34, Tryd.ntmps34
  go_wp2_with fail
  go_at_call 39
  refine (HB.out _ (((HS.out.alloc _).alloc _).alloc _)).mono ?_
  rintro e1 w1 ⟨rfl, hS1, ⟨hL0, hL1⟩, ⟨hC0, hC1⟩, hO1⟩
  have HS1 := Lib.hid hS1
  have hbn : ∀ i, ¬ (fun g => g = b) (w.heap.size + i) := fun i e => by have : w.heap.size + i = b := e; omega
  have HbX : Hid (OwnV w1 w.heap.size 55 [.pointer (some ⟨b, 0, none⟩)]) := Lib.hid (hO1.own (((OwnV.new w 55 [.pointer (some ⟨b, 0, none⟩)]).alloc _).alloc _) (hbn 0))
  have HbT : Hid (OwnV w1 (w.heap.size + 1) 29 [.int .u8 0, .string ByteArray.empty, .int .i64 0, .int .i64 0, .int .i64 0]) := Lib.hid (hO1.own (by have := (OwnV.new (w.alloc (.cells #[.pointer (some ⟨b, 0, none⟩)] 55)) 29 [.int .u8 0, .string ByteArray.empty, .int .i64 0, .int .i64 0, .int .i64 0]).alloc (.cells #[.int .i64 0] 38); rw [World.size_alloc] at this; exact this) (hbn 1))
  have HbE : Hid (OwnV w1 (w.heap.size + 2) 38 [.int .i64 0]) := Lib.hid (hO1.own (by have := OwnV.new ((w.alloc (.cells #[.pointer (some ⟨b, 0, none⟩)] 55)).alloc (.cells #[.int .u8 0, .string ByteArray.empty, .int .i64 0, .int .i64 0, .int .i64 0] 29)) 38 [.int .i64 0]; rw [World.size_alloc, World.size_alloc] at this; exact this) (hbn 2))
  have HO1 : Hid (Only (fun g => g = b) w w1) := Lib.hid (((((Only.refl _ w).alloc _).alloc _).alloc _).trans hO1)
  have hsz1 : w.heap.size + 3 ≤ w1.heap.size := by have := hO1.size; simp at this; omega
  clear hS1 hO1 hbn
  obtain ⟨c0, c1, c2, c3, cf⟩ := HS1.out.cells
  have x0 : w1.cell? ⟨w.heap.size, 0, none⟩ = some (.pointer (some ⟨b, 0, none⟩)) := OwnV.cell HbX.out rfl
  have hj3 : (0 : Int) ≤ (j : Int) := by omega
  go_wp2_with fail
  have hbw : b < w1.heap.size := by omega
  have hx0 : w.heap.size < w1.heap.size := by omega
  go_region_held3 (fun w' => w'.cell? ⟨b, 0, none⟩ = some (.int .i64 L) ∧ w'.cell? ⟨b, 1, none⟩ = some (.int .i64 C) ∧ w'.cell? ⟨w.heap.size, 0, none⟩ = some (.pointer (some ⟨b, 0, none⟩))) (go_keep) (fail)
  rename_i hHeld
  clear hHeld
  go_wp2_with fail
  refine wp_region_seq (DrewOf _) (by kernel_rfl) (by kernel_rfl) (DrewOf.start _) ?_
  repeat
    try simp only [Act.put, List.setIfInBounds_toArray, List.set_cons_succ, List.set_cons_zero]
    apply stepsSeq.cons
    · rintro w' ⟨nq, rfl⟩
      simp only [Act.put, List.setIfInBounds_toArray, List.set_cons_succ, List.set_cons_zero]
      go_wp2_with (fail)
      first | exact ⟨rfl, nq, rfl⟩ | exact ⟨rfl, nq, (World.drewN_drewN _ _ _).symm⟩ | exact ⟨rfl, nq, by simp⟩
  try simp only [Act.put, List.setIfInBounds_toArray, List.set_cons_succ, List.set_cons_zero]
  refine stepsSeq.nil ?_
  rintro w' ⟨nq, rfl⟩
  clear c0 c1 c2 c3 cf x0 hbw hx0
  obtain ⟨tb, htb⟩ : ∃ tb, tb = w1.heap.size := ⟨_, rfl⟩
  rw [← htb]
  obtain ⟨w3, hw3⟩ : ∃ w3, w3 = ((w1.alloc (.cells #[.int .u8 4, .string { data := #[] }, .int .i64 0, .int .i64 L, .int .i64 C] 29)).drew).drewN nq := ⟨_, rfl⟩
  rw [← hw3]
  have HS3 : Hid (Scan w3 b L C src j) := Lib.hid (by rw [hw3]; exact HS1.out.alloc _)
  have HX3 : Hid (OwnV w3 w.heap.size 55 [.pointer (some ⟨b, 0, none⟩)]) := Lib.hid (by rw [hw3]; exact HbX.out.alloc _)
  have HT3 : Hid (OwnV w3 (w.heap.size + 1) 29 [.int .u8 0, .string ByteArray.empty, .int .i64 0, .int .i64 0, .int .i64 0]) := Lib.hid (by rw [hw3]; exact HbT.out.alloc _)
  have HE3 : Hid (OwnV w3 (w.heap.size + 1 + 1) 38 [.int .i64 0]) := Lib.hid (by rw [hw3]; exact HbE.out.alloc _)
  have HK3 : Hid (OwnV w3 tb 29 [.int .u8 4, .string ByteArray.empty, .int .i64 0, .int .i64 L, .int .i64 C]) := Lib.hid (by rw [hw3, htb]; exact OwnV.new w1 _ [.int .u8 4, .string ByteArray.empty, .int .i64 0, .int .i64 L, .int .i64 C])
  have HO3 : Hid (Only (fun g => g = b) w w3) := Lib.hid (by rw [hw3]; exact ((HO1.out.alloc _).drew).drewN _)
  have hsz3 : w.heap.size + 3 ≤ tb ∧ tb < w3.heap.size := by rw [hw3]; simp; omega
  obtain ⟨hsz3, hsz4⟩ := hsz3
  clear hw3 htb HS1 HbX HbT HbE HO1 hsz1
  obtain ⟨c0, c1, c2, c3, cf⟩ := HS3.out.cells
  have x0 : w3.cell? ⟨w.heap.size, 0, none⟩ = some (.pointer (some ⟨b, 0, none⟩)) := OwnV.cell HX3.out rfl
  have k0 : w3.cell? ⟨tb, 0, none⟩ = some (.int .u8 4) := OwnV.cell HK3.out rfl
  have k1 : w3.cell? ⟨tb, 1, none⟩ = some (.string ByteArray.empty) := OwnV.cell HK3.out rfl
  have k2 : w3.cell? ⟨tb, 2, none⟩ = some (.int .i64 0) := OwnV.cell HK3.out rfl
  have k3 : w3.cell? ⟨tb, 3, none⟩ = some (.int .i64 L) := OwnV.cell HK3.out rfl
  have k4 : w3.cell? ⟨tb, 4, none⟩ = some (.int .i64 C) := OwnV.cell HK3.out rfl
  have kf : ∀ o, w3.frozen? ⟨tb, o, none⟩ = false := fun o => OwnV.free HK3.out o
  have t0 : w3.cell? ⟨w.heap.size + 1, 0, none⟩ = some (.int .u8 0) := OwnV.cell HT3.out rfl
  have t1 : w3.cell? ⟨w.heap.size + 1, 1, none⟩ = some (.string ByteArray.empty) := OwnV.cell HT3.out rfl
  have t2 : w3.cell? ⟨w.heap.size + 1, 2, none⟩ = some (.int .i64 0) := OwnV.cell HT3.out rfl
  have t3 : w3.cell? ⟨w.heap.size + 1, 3, none⟩ = some (.int .i64 0) := OwnV.cell HT3.out rfl
  have t4 : w3.cell? ⟨w.heap.size + 1, 4, none⟩ = some (.int .i64 0) := OwnV.cell HT3.out rfl
  have tf : ∀ o, w3.frozen? ⟨w.heap.size + 1, o, none⟩ = false := fun o => OwnV.free HT3.out o
  have e0 : w3.cell? ⟨w.heap.size + 1 + 1, 0, none⟩ = some (.int .i64 0) := OwnV.cell HE3.out rfl
  have ef : w3.frozen? ⟨w.heap.size + 1 + 1, 0, none⟩ = false := OwnV.free HE3.out 0
  go_wp2_with fail
  go_wp2_with fail
  refine wp_region_seq (DrewOf _) (by kernel_rfl) (by kernel_rfl) (DrewOf.start _) ?_
  repeat
    try simp only [Act.put, List.setIfInBounds_toArray, List.set_cons_succ, List.set_cons_zero]
    apply stepsSeq.cons
    · rintro w' ⟨nq, rfl⟩
      simp only [Act.put, List.setIfInBounds_toArray, List.set_cons_succ, List.set_cons_zero]
      go_wp2_with (fail)
      first | exact ⟨rfl, nq, rfl⟩ | exact ⟨rfl, nq, (World.drewN_drewN _ _ _).symm⟩ | exact ⟨rfl, nq, by simp⟩
  try simp only [Act.put, List.setIfInBounds_toArray, List.set_cons_succ, List.set_cons_zero]
  refine stepsSeq.nil ?_
  rintro w' ⟨nq, rfl⟩
  go_wp2_with fail
  go_at_call 29
  refine (pletter_any _ _).mono ?_
  rintro e1 wl ⟨rfl, rfl⟩
  go_wp2_with fail
  go_at_call 41
  refine (HPt.out _ (HS3.out.drewN _) ⟨hL0, hL1⟩ ⟨hC0, hC1⟩).mono ?_
  rintro e1 w4 ⟨rfl, hS4, hO4⟩
  have hgb1 : ¬ (fun g => g = b) (w.heap.size + 1) := fun e => by have : w.heap.size + 1 = b := e; omega
  have hgb2 : ¬ (fun g => g = b) (w.heap.size + 1 + 1) := fun e => by have : w.heap.size + 1 + 1 = b := e; omega
  have hgb0 : ¬ (fun g => g = b) w.heap.size := fun e => by have : w.heap.size = b := e; omega
  have hgbt : ¬ (fun g => g = b) tb := fun e => by have : tb = b := e; omega
  have HS4 := Lib.hid hS4
  have hO4' : Only (fun g => g = b) w3 w4 := ((Only.refl _ w3).drewN _).trans hO4
  have HX4 : Hid (OwnV w4 w.heap.size 55 [.pointer (some ⟨b, 0, none⟩)]) := Lib.hid (hO4'.own HX3.out hgb0)
  have HT4 : Hid (OwnV w4 (w.heap.size + 1) 29 [.int .u8 0, .string ByteArray.empty, .int .i64 0, .int .i64 0, .int .i64 0]) := Lib.hid (hO4'.own HT3.out hgb1)
  have HE4 : Hid (OwnV w4 (w.heap.size + 1 + 1) 38 [.int .i64 0]) := Lib.hid (hO4'.own HE3.out hgb2)
  have HK4 : Hid (OwnV w4 tb 29 [.int .u8 4, .string ByteArray.empty, .int .i64 0, .int .i64 L, .int .i64 C]) := Lib.hid (hO4'.own HK3.out hgbt)
  have HO4 : Hid (Only (fun g => g = b) w w4) := Lib.hid (HO3.out.trans hO4')
  have hsz4 : tb < w4.heap.size := Nat.lt_of_lt_of_le hsz4 hO4'.size
  have hsz3' : w.heap.size + 3 ≤ tb := hsz3
  clear hS4 hO4 hO4' hgb0 hgb1 hgb2 hgbt
  clear c0 c1 c2 c3 cf x0 k0 k1 k2 k3 k4 kf t0 t1 t2 t3 t4 tf e0 ef
  obtain ⟨c0, c1, c2, c3, cf⟩ := HS4.out.cells
  have x0 : w4.cell? ⟨w.heap.size, 0, none⟩ = some (.pointer (some ⟨b, 0, none⟩)) := OwnV.cell HX4.out rfl
  have k0 : w4.cell? ⟨tb, 0, none⟩ = some (.int .u8 4) := OwnV.cell HK4.out rfl
  have k1 : w4.cell? ⟨tb, 1, none⟩ = some (.string ByteArray.empty) := OwnV.cell HK4.out rfl
  have k2 : w4.cell? ⟨tb, 2, none⟩ = some (.int .i64 0) := OwnV.cell HK4.out rfl
  have k3 : w4.cell? ⟨tb, 3, none⟩ = some (.int .i64 L) := OwnV.cell HK4.out rfl
  have k4 : w4.cell? ⟨tb, 4, none⟩ = some (.int .i64 C) := OwnV.cell HK4.out rfl
  have kf : ∀ o, w4.frozen? ⟨tb, o, none⟩ = false := fun o => OwnV.free HK4.out o
  have t0 : w4.cell? ⟨w.heap.size + 1, 0, none⟩ = some (.int .u8 0) := OwnV.cell HT4.out rfl
  have t1 : w4.cell? ⟨w.heap.size + 1, 1, none⟩ = some (.string ByteArray.empty) := OwnV.cell HT4.out rfl
  have t2 : w4.cell? ⟨w.heap.size + 1, 2, none⟩ = some (.int .i64 0) := OwnV.cell HT4.out rfl
  have t3 : w4.cell? ⟨w.heap.size + 1, 3, none⟩ = some (.int .i64 0) := OwnV.cell HT4.out rfl
  have t4 : w4.cell? ⟨w.heap.size + 1, 4, none⟩ = some (.int .i64 0) := OwnV.cell HT4.out rfl
  have tf : ∀ o, w4.frozen? ⟨w.heap.size + 1, o, none⟩ = false := fun o => OwnV.free HT4.out o
  have e0 : w4.cell? ⟨w.heap.size + 1 + 1, 0, none⟩ = some (.int .i64 0) := OwnV.cell HE4.out rfl
  have ef : w4.frozen? ⟨w.heap.size + 1 + 1, 0, none⟩ = false := OwnV.free HE4.out 0
  have hb1 : b ≠ w.heap.size + 1 := by omega
  have hb2 : b ≠ w.heap.size + 1 + 1 := by omega
  have hb3 : b ≠ tb := by omega
  have hg1 : w.heap.size ≤ w.heap.size + 1 := by omega
  have hg2 : w.heap.size ≤ w.heap.size + 1 + 1 := by omega
  have hg3 : w.heap.size ≤ tb := by omega
  have hkt1 : tb ≠ w.heap.size + 1 := by omega
  have hkt2 : tb ≠ w.heap.size + 1 + 1 := by omega
  have hkt1' : w.heap.size + 1 ≠ tb := by omega
  have hkt2' : w.heap.size + 1 + 1 ≠ tb := by omega
  go_wp2_with fail
  exact bodyPost_ret (next_res rfl rfl ((((((((HT4.out.set_ne hkt1' _).set_ne hkt1' _).set 0 _).set 1 _).set 2 _).set 3 _).set 4 _).set_ne (by omega) _) ((((((((HE4.out.set_ne hkt2' _).set_ne hkt2' _).set_ne (by omega) _).set_ne (by omega) _).set_ne (by omega) _).set_ne (by omega) _).set_ne (by omega) _).set 0 _)) rfl ⟨by rw [← Hrs.out]; rfl, ((((((((HS4.out.set_ne hb3 _).set_ne hb3 _).set_ne hb1 _).set_ne hb1 _).set_ne hb1 _).set_ne hb1 _).set_ne hb1 _).set_ne hb2 _), ((((((((HO4.out.setNew hg3 _).setNew hg3 _).setNew hg1 _).setNew hg1 _).setNew hg1 _).setNew hg1 _).setNew hg1 _).setNew hg2 _)⟩
set_option maxRecDepth 100000 in
set_option maxHeartbeats 1000000 in
theorem next_nonum (b : Nat) (src : ByteArray) (at' j : Nat) (line col L C : Int) (w : World) (hS : Scan w b line col src at') (hat : at' ≤ src.size) (hsz : src.size ≤ 16384) (hl : 0 ≤ line ∧ line ≤ at' + 1) (hc : 0 ≤ col ∧ col ≤ at' + 1) (hj : j < src.size) (hG : Glob w) (h11 : glB ≤ b) (hlet : letterB src[j] = false) (hdig : digitB src[j] = true) (hv : valueR ((src.data.toList.drop j).takeWhile partB) = none)
    (hsk : skipS (src.data.toList.drop at') false line col = (src.data.toList.drop j, L, C)) :
    Calls Tryd.prog 34 #[.pointer (some ⟨b, 0, none⟩)] w fun e w' => NextE b src j L C w e w' (.err 112) := by
  have hb : b < w.heap.size := OwnV.lt hS
  have HS := Lib.hid hS
  have HB : Hid (∀ W, Scan W b line col src at' → Calls Tryd.prog 39 #[.pointer (some ⟨b, 0, none⟩)] W fun e w' => e = .returned (.tuple #[]) ∧ Scan w' b L C src j ∧ (0 ≤ L ∧ L ≤ j + 1) ∧ (0 ≤ C ∧ C ≤ j + 1) ∧ Only (fun g => g = b) W w') := Lib.hid (fun W h => blanks_to b src at' j line col L C W h hat hsz hl hc (by omega) hsk)
  clear hS hl hc hsk
  have hj' : ((j : Int) == (src.size : Int)) = false := by rw [beq_eq_false_iff_ne]; omega
  have hjI : (j : Int) < (src.size : Int) := by omega
  have hc0 : src[j].toNat ≤ 255 := by have := src[j].toNat_lt; omega
  have HPt : Hid (∀ W, Scan W b L C src j → (0 ≤ L ∧ L ≤ j + 1) → (0 ≤ C ∧ C ≤ j + 1) → Calls Tryd.prog 41 #[.pointer (some ⟨b, 0, none⟩), .func (.func 40) #[] #[]] W fun e w' => e = .returned (.string (bstr ((src.data.toList.drop j).takeWhile partB))) ∧ Scan w' b L (C + ((src.data.toList.drop j).takeWhile partB).length) src (j + ((src.data.toList.drop j).takeWhile partB).length) ∧ Only (fun g => g = b) W w') := Lib.hid (fun W h h1 h2 => part_skip b src j L C W h (by omega) hsz h1 h2)
  have hlt : letterI (src[j].toNat : Int) = false := hlet
  have hdt : digitI (src[j].toNat : Int) = true := hdig
  have HG := Lib.hid hG
  have HNum : Hid (∀ W, Glob W → Calls Tryd.prog 42 #[.string (bstr ((src.data.toList.drop j).takeWhile partB))] W fun e w' => e = numC (valueR ((src.data.toList.drop j).takeWhile partB)) ∧ Below W.heap.size W w') := Lib.hid (fun W h => number_run hj hsz hdig W h)
  rw [hv] at HNum
  unfold numC at HNum
  clear hlet hdig hG hv
  obtain ⟨rs, Hrs⟩ : ∃ rs, Hid (bstr ((src.data.toList.drop j).takeWhile partB) = rs) := ⟨_, Lib.hid rfl⟩
  rw [Hrs.out] at HPt HNum
  generalize (src.data.toList.drop j).takeWhile partB = run at *
  go_enter Tryd.func34, Tryd.ntmps34
  go_wp2_with fail
  go_at_call 39
  refine (HB.out _ (((HS.out.alloc _).alloc _).alloc _)).mono ?_
  rintro e1 w1 ⟨rfl, hS1, ⟨hL0, hL1⟩, ⟨hC0, hC1⟩, hO1⟩
  have HS1 := Lib.hid hS1
  have hbn : ∀ i, ¬ (fun g => g = b) (w.heap.size + i) := fun i e => by have : w.heap.size + i = b := e; omega
  have HbX : Hid (OwnV w1 w.heap.size 55 [.pointer (some ⟨b, 0, none⟩)]) := Lib.hid (hO1.own (((OwnV.new w 55 [.pointer (some ⟨b, 0, none⟩)]).alloc _).alloc _) (hbn 0))
  have HbT : Hid (OwnV w1 (w.heap.size + 1) 29 [.int .u8 0, .string ByteArray.empty, .int .i64 0, .int .i64 0, .int .i64 0]) := Lib.hid (hO1.own (by have := (OwnV.new (w.alloc (.cells #[.pointer (some ⟨b, 0, none⟩)] 55)) 29 [.int .u8 0, .string ByteArray.empty, .int .i64 0, .int .i64 0, .int .i64 0]).alloc (.cells #[.int .i64 0] 38); rw [World.size_alloc] at this; exact this) (hbn 1))
  have HbE : Hid (OwnV w1 (w.heap.size + 2) 38 [.int .i64 0]) := Lib.hid (hO1.own (by have := OwnV.new ((w.alloc (.cells #[.pointer (some ⟨b, 0, none⟩)] 55)).alloc (.cells #[.int .u8 0, .string ByteArray.empty, .int .i64 0, .int .i64 0, .int .i64 0] 29)) 38 [.int .i64 0]; rw [World.size_alloc, World.size_alloc] at this; exact this) (hbn 2))
  have HO1 : Hid (Only (fun g => g = b) w w1) := Lib.hid (((((Only.refl _ w).alloc _).alloc _).alloc _).trans hO1)
  have hsz1 : w.heap.size + 3 ≤ w1.heap.size := by have := hO1.size; simp at this; omega
  clear hS1 hO1 hbn
  obtain ⟨c0, c1, c2, c3, cf⟩ := HS1.out.cells
  have x0 : w1.cell? ⟨w.heap.size, 0, none⟩ = some (.pointer (some ⟨b, 0, none⟩)) := OwnV.cell HbX.out rfl
  have hj3 : (0 : Int) ≤ (j : Int) := by omega
  go_wp2_with fail
  have hbw : b < w1.heap.size := by omega
  have hx0 : w.heap.size < w1.heap.size := by omega
  go_region_held3 (fun w' => w'.cell? ⟨b, 0, none⟩ = some (.int .i64 L) ∧ w'.cell? ⟨b, 1, none⟩ = some (.int .i64 C) ∧ w'.cell? ⟨w.heap.size, 0, none⟩ = some (.pointer (some ⟨b, 0, none⟩))) (go_keep) (fail)
  rename_i hHeld
  clear hHeld
  go_wp2_with fail
  refine wp_region_seq (DrewOf _) (by kernel_rfl) (by kernel_rfl) (DrewOf.start _) ?_
  repeat
    try simp only [Act.put, List.setIfInBounds_toArray, List.set_cons_succ, List.set_cons_zero]
    apply stepsSeq.cons
    · rintro w' ⟨nq, rfl⟩
      simp only [Act.put, List.setIfInBounds_toArray, List.set_cons_succ, List.set_cons_zero]
      go_wp2_with (fail)
      first | exact ⟨rfl, nq, rfl⟩ | exact ⟨rfl, nq, (World.drewN_drewN _ _ _).symm⟩ | exact ⟨rfl, nq, by simp⟩
  try simp only [Act.put, List.setIfInBounds_toArray, List.set_cons_succ, List.set_cons_zero]
  refine stepsSeq.nil ?_
  rintro w' ⟨nq, rfl⟩
  clear c0 c1 c2 c3 cf x0 hbw hx0
  obtain ⟨tb, htb⟩ : ∃ tb, tb = w1.heap.size := ⟨_, rfl⟩
  rw [← htb]
  obtain ⟨w3, hw3⟩ : ∃ w3, w3 = ((w1.alloc (.cells #[.int .u8 4, .string { data := #[] }, .int .i64 0, .int .i64 L, .int .i64 C] 29)).drew).drewN nq := ⟨_, rfl⟩
  rw [← hw3]
  have HS3 : Hid (Scan w3 b L C src j) := Lib.hid (by rw [hw3]; exact HS1.out.alloc _)
  have HX3 : Hid (OwnV w3 w.heap.size 55 [.pointer (some ⟨b, 0, none⟩)]) := Lib.hid (by rw [hw3]; exact HbX.out.alloc _)
  have HT3 : Hid (OwnV w3 (w.heap.size + 1) 29 [.int .u8 0, .string ByteArray.empty, .int .i64 0, .int .i64 0, .int .i64 0]) := Lib.hid (by rw [hw3]; exact HbT.out.alloc _)
  have HE3 : Hid (OwnV w3 (w.heap.size + 1 + 1) 38 [.int .i64 0]) := Lib.hid (by rw [hw3]; exact HbE.out.alloc _)
  have HK3 : Hid (OwnV w3 tb 29 [.int .u8 4, .string ByteArray.empty, .int .i64 0, .int .i64 L, .int .i64 C]) := Lib.hid (by rw [hw3, htb]; exact OwnV.new w1 _ [.int .u8 4, .string ByteArray.empty, .int .i64 0, .int .i64 L, .int .i64 C])
  have HO3 : Hid (Only (fun g => g = b) w w3) := Lib.hid (by rw [hw3]; exact ((HO1.out.alloc _).drew).drewN _)
  have hsz3 : w.heap.size + 3 ≤ tb ∧ tb < w3.heap.size := by rw [hw3]; simp; omega
  obtain ⟨hsz3, hsz4⟩ := hsz3
  clear hw3 htb HS1 HbX HbT HbE HO1 hsz1
  obtain ⟨c0, c1, c2, c3, cf⟩ := HS3.out.cells
  have x0 : w3.cell? ⟨w.heap.size, 0, none⟩ = some (.pointer (some ⟨b, 0, none⟩)) := OwnV.cell HX3.out rfl
  have k0 : w3.cell? ⟨tb, 0, none⟩ = some (.int .u8 4) := OwnV.cell HK3.out rfl
  have k1 : w3.cell? ⟨tb, 1, none⟩ = some (.string ByteArray.empty) := OwnV.cell HK3.out rfl
  have k2 : w3.cell? ⟨tb, 2, none⟩ = some (.int .i64 0) := OwnV.cell HK3.out rfl
  have k3 : w3.cell? ⟨tb, 3, none⟩ = some (.int .i64 L) := OwnV.cell HK3.out rfl
  have k4 : w3.cell? ⟨tb, 4, none⟩ = some (.int .i64 C) := OwnV.cell HK3.out rfl
  have kf : ∀ o, w3.frozen? ⟨tb, o, none⟩ = false := fun o => OwnV.free HK3.out o
  have t0 : w3.cell? ⟨w.heap.size + 1, 0, none⟩ = some (.int .u8 0) := OwnV.cell HT3.out rfl
  have t1 : w3.cell? ⟨w.heap.size + 1, 1, none⟩ = some (.string ByteArray.empty) := OwnV.cell HT3.out rfl
  have t2 : w3.cell? ⟨w.heap.size + 1, 2, none⟩ = some (.int .i64 0) := OwnV.cell HT3.out rfl
  have t3 : w3.cell? ⟨w.heap.size + 1, 3, none⟩ = some (.int .i64 0) := OwnV.cell HT3.out rfl
  have t4 : w3.cell? ⟨w.heap.size + 1, 4, none⟩ = some (.int .i64 0) := OwnV.cell HT3.out rfl
  have tf : ∀ o, w3.frozen? ⟨w.heap.size + 1, o, none⟩ = false := fun o => OwnV.free HT3.out o
  have e0 : w3.cell? ⟨w.heap.size + 1 + 1, 0, none⟩ = some (.int .i64 0) := OwnV.cell HE3.out rfl
  have ef : w3.frozen? ⟨w.heap.size + 1 + 1, 0, none⟩ = false := OwnV.free HE3.out 0
  go_wp2_with fail
  go_wp2_with fail
  refine wp_region_seq (DrewOf _) (by kernel_rfl) (by kernel_rfl) (DrewOf.start _) ?_
  repeat
    try simp only [Act.put, List.setIfInBounds_toArray, List.set_cons_succ, List.set_cons_zero]
    apply stepsSeq.cons
    · rintro w' ⟨nq, rfl⟩
      simp only [Act.put, List.setIfInBounds_toArray, List.set_cons_succ, List.set_cons_zero]
      go_wp2_with (fail)
      first | exact ⟨rfl, nq, rfl⟩ | exact ⟨rfl, nq, (World.drewN_drewN _ _ _).symm⟩ | exact ⟨rfl, nq, by simp⟩
  try simp only [Act.put, List.setIfInBounds_toArray, List.set_cons_succ, List.set_cons_zero]
  refine stepsSeq.nil ?_
  rintro w' ⟨nq, rfl⟩
  go_wp2_with fail
  go_at_call 29
  refine (pletter_any _ _).mono ?_
  rintro e1 wl ⟨rfl, rfl⟩
  go_wp2_with fail
  go_at_call 30
  refine (pdigit_any _ _).mono ?_
  rintro e1 wl ⟨rfl, rfl⟩
  go_wp2_with fail
  go_at_call 41
  refine (HPt.out _ (HS3.out.drewN _) ⟨hL0, hL1⟩ ⟨hC0, hC1⟩).mono ?_
  rintro e1 w4 ⟨rfl, hS4, hO4⟩
  have hgb1 : ¬ (fun g => g = b) (w.heap.size + 1) := fun e => by have : w.heap.size + 1 = b := e; omega
  have hgb2 : ¬ (fun g => g = b) (w.heap.size + 1 + 1) := fun e => by have : w.heap.size + 1 + 1 = b := e; omega
  have hgb0 : ¬ (fun g => g = b) w.heap.size := fun e => by have : w.heap.size = b := e; omega
  have hgbt : ¬ (fun g => g = b) tb := fun e => by have : tb = b := e; omega
  have HS4 := Lib.hid hS4
  have hO4' : Only (fun g => g = b) w3 w4 := ((Only.refl _ w3).drewN _).trans hO4
  have HX4 : Hid (OwnV w4 w.heap.size 55 [.pointer (some ⟨b, 0, none⟩)]) := Lib.hid (hO4'.own HX3.out hgb0)
  have HT4 : Hid (OwnV w4 (w.heap.size + 1) 29 [.int .u8 0, .string ByteArray.empty, .int .i64 0, .int .i64 0, .int .i64 0]) := Lib.hid (hO4'.own HT3.out hgb1)
  have HE4 : Hid (OwnV w4 (w.heap.size + 1 + 1) 38 [.int .i64 0]) := Lib.hid (hO4'.own HE3.out hgb2)
  have HK4 : Hid (OwnV w4 tb 29 [.int .u8 4, .string ByteArray.empty, .int .i64 0, .int .i64 L, .int .i64 C]) := Lib.hid (hO4'.own HK3.out hgbt)
  have HO4 : Hid (Only (fun g => g = b) w w4) := Lib.hid (HO3.out.trans hO4')
  have hsz4 : tb < w4.heap.size := Nat.lt_of_lt_of_le hsz4 hO4'.size
  have hsz3' : w.heap.size + 3 ≤ tb := hsz3
  clear hS4 hO4 hO4' hgb0 hgb1 hgb2 hgbt
  clear c0 c1 c2 c3 cf x0 k0 k1 k2 k3 k4 kf t0 t1 t2 t3 t4 tf e0 ef
  obtain ⟨c0, c1, c2, c3, cf⟩ := HS4.out.cells
  have x0 : w4.cell? ⟨w.heap.size, 0, none⟩ = some (.pointer (some ⟨b, 0, none⟩)) := OwnV.cell HX4.out rfl
  have k0 : w4.cell? ⟨tb, 0, none⟩ = some (.int .u8 4) := OwnV.cell HK4.out rfl
  have k1 : w4.cell? ⟨tb, 1, none⟩ = some (.string ByteArray.empty) := OwnV.cell HK4.out rfl
  have k2 : w4.cell? ⟨tb, 2, none⟩ = some (.int .i64 0) := OwnV.cell HK4.out rfl
  have k3 : w4.cell? ⟨tb, 3, none⟩ = some (.int .i64 L) := OwnV.cell HK4.out rfl
  have k4 : w4.cell? ⟨tb, 4, none⟩ = some (.int .i64 C) := OwnV.cell HK4.out rfl
  have kf : ∀ o, w4.frozen? ⟨tb, o, none⟩ = false := fun o => OwnV.free HK4.out o
  have t0 : w4.cell? ⟨w.heap.size + 1, 0, none⟩ = some (.int .u8 0) := OwnV.cell HT4.out rfl
  have t1 : w4.cell? ⟨w.heap.size + 1, 1, none⟩ = some (.string ByteArray.empty) := OwnV.cell HT4.out rfl
  have t2 : w4.cell? ⟨w.heap.size + 1, 2, none⟩ = some (.int .i64 0) := OwnV.cell HT4.out rfl
  have t3 : w4.cell? ⟨w.heap.size + 1, 3, none⟩ = some (.int .i64 0) := OwnV.cell HT4.out rfl
  have t4 : w4.cell? ⟨w.heap.size + 1, 4, none⟩ = some (.int .i64 0) := OwnV.cell HT4.out rfl
  have tf : ∀ o, w4.frozen? ⟨w.heap.size + 1, o, none⟩ = false := fun o => OwnV.free HT4.out o
  have e0 : w4.cell? ⟨w.heap.size + 1 + 1, 0, none⟩ = some (.int .i64 0) := OwnV.cell HE4.out rfl
  have ef : w4.frozen? ⟨w.heap.size + 1 + 1, 0, none⟩ = false := OwnV.free HE4.out 0
  have hb1 : b ≠ w.heap.size + 1 := by omega
  have hb2 : b ≠ w.heap.size + 1 + 1 := by omega
  have hb3 : b ≠ tb := by omega
  have hg1 : w.heap.size ≤ w.heap.size + 1 := by omega
  have hg2 : w.heap.size ≤ w.heap.size + 1 + 1 := by omega
  have hg3 : w.heap.size ≤ tb := by omega
  have hkt1 : tb ≠ w.heap.size + 1 := by omega
  have hkt2 : tb ≠ w.heap.size + 1 + 1 := by omega
  have hkt1' : w.heap.size + 1 ≠ tb := by omega
  have hkt2' : w.heap.size + 1 + 1 ≠ tb := by omega

  go_wp2_with fail
  go_at_call 42
  refine (HNum.out _ (HG.out.only ((HO4.out.setNew hg3 _).setNew hg3 _) (fun k hk => by have : k = b := hk; omega))).mono ?_
  rintro e1 w5 ⟨rfl, hb5⟩
  have hOb : Only (fun _ => False) ((w4.setCell ⟨tb, 0, none⟩ (.int .u8 2)).setCell ⟨tb, 1, none⟩ (.string rs)) w5 := Only.of_below hb5
  have HS5 : Hid (Scan w5 b L (C + (run.length : Nat)) src (j + run.length)) := Lib.hid (hOb.own ((HS4.out.set_ne hb3 _).set_ne hb3 _) (fun h => h))
  have HT5 : Hid (OwnV w5 (w.heap.size + 1) 29 [.int .u8 0, .string ByteArray.empty, .int .i64 0, .int .i64 0, .int .i64 0]) := Lib.hid (hOb.own ((HT4.out.set_ne hkt1' _).set_ne hkt1' _) (fun h => h))
  have HE5 : Hid (OwnV w5 (w.heap.size + 1 + 1) 38 [.int .i64 0]) := Lib.hid (hOb.own ((HE4.out.set_ne hkt2' _).set_ne hkt2' _) (fun h => h))
  have HK5 : Hid (OwnV w5 tb 29 [.int .u8 2, .string rs, .int .i64 0, .int .i64 L, .int .i64 C]) := Lib.hid (hOb.own ((HK4.out.set 0 _).set 1 _) (fun h => h))
  have HO5 : Hid (Only (fun g => g = b) w w5) := Lib.hid (((HO4.out.setNew hg3 _).setNew hg3 _).trans (Only.of_below hb5))
  clear hb5 hOb
  clear c0 c1 c2 c3 cf x0 k0 k1 k2 k3 k4 kf t0 t1 t2 t3 t4 tf e0 ef
  have k0 : w5.cell? ⟨tb, 0, none⟩ = some (.int .u8 2) := OwnV.cell HK5.out rfl
  have k1 : w5.cell? ⟨tb, 1, none⟩ = some (.string rs) := OwnV.cell HK5.out rfl
  have k2 : w5.cell? ⟨tb, 2, none⟩ = some (.int .i64 0) := OwnV.cell HK5.out rfl
  have k3 : w5.cell? ⟨tb, 3, none⟩ = some (.int .i64 L) := OwnV.cell HK5.out rfl
  have k4 : w5.cell? ⟨tb, 4, none⟩ = some (.int .i64 C) := OwnV.cell HK5.out rfl
  have kf : ∀ o, w5.frozen? ⟨tb, o, none⟩ = false := fun o => OwnV.free HK5.out o
  have t0 : w5.cell? ⟨w.heap.size + 1, 0, none⟩ = some (.int .u8 0) := OwnV.cell HT5.out rfl
  have t1 : w5.cell? ⟨w.heap.size + 1, 1, none⟩ = some (.string ByteArray.empty) := OwnV.cell HT5.out rfl
  have t2 : w5.cell? ⟨w.heap.size + 1, 2, none⟩ = some (.int .i64 0) := OwnV.cell HT5.out rfl
  have t3 : w5.cell? ⟨w.heap.size + 1, 3, none⟩ = some (.int .i64 0) := OwnV.cell HT5.out rfl
  have t4 : w5.cell? ⟨w.heap.size + 1, 4, none⟩ = some (.int .i64 0) := OwnV.cell HT5.out rfl
  have tf : ∀ o, w5.frozen? ⟨w.heap.size + 1, o, none⟩ = false := fun o => OwnV.free HT5.out o
  have e0 : w5.cell? ⟨w.heap.size + 1 + 1, 0, none⟩ = some (.int .i64 0) := OwnV.cell HE5.out rfl
  have ef : w5.frozen? ⟨w.heap.size + 1 + 1, 0, none⟩ = false := OwnV.free HE5.out 0
  go_wp2_with fail
  exact bodyPost_ret (next_res rfl rfl (((((((HT5.out.set_ne hkt1' _).set 0 _).set 1 _).set 2 _).set 3 _).set 4 _).set_ne (by omega) _) (((((((HE5.out.set_ne hkt2' _).set_ne (by omega) _).set_ne (by omega) _).set_ne (by omega) _).set_ne (by omega) _).set_ne (by omega) _).set 0 _)) rfl ⟨⟨_, _, _, rfl⟩, (((((((HO5.out.setNew hg3 _).setNew hg1 _).setNew hg1 _).setNew hg1 _).setNew hg1 _).setNew hg1 _).setNew hg2 _)⟩
set_option maxRecDepth 100000 in
set_option maxHeartbeats 1000000 in
theorem next_num (b : Nat) (src : ByteArray) (at' j : Nat) (line col L C n : Int) (w : World) (hS : Scan w b line col src at') (hat : at' ≤ src.size) (hsz : src.size ≤ 16384) (hl : 0 ≤ line ∧ line ≤ at' + 1) (hc : 0 ≤ col ∧ col ≤ at' + 1) (hj : j < src.size) (hG : Glob w) (h11 : glB ≤ b) (hlet : letterB src[j] = false) (hdig : digitB src[j] = true) (hv : valueR ((src.data.toList.drop j).takeWhile partB) = some n)
    (hsk : skipS (src.data.toList.drop at') false line col = (src.data.toList.drop j, L, C)) :
    Calls Tryd.prog 34 #[.pointer (some ⟨b, 0, none⟩)] w fun e w' => NextE b src j L C w e w' (.tok 2 ((src.data.toList.drop j).takeWhile partB) n) := by
  have hb : b < w.heap.size := OwnV.lt hS
  have HS := Lib.hid hS
  have HB : Hid (∀ W, Scan W b line col src at' → Calls Tryd.prog 39 #[.pointer (some ⟨b, 0, none⟩)] W fun e w' => e = .returned (.tuple #[]) ∧ Scan w' b L C src j ∧ (0 ≤ L ∧ L ≤ j + 1) ∧ (0 ≤ C ∧ C ≤ j + 1) ∧ Only (fun g => g = b) W w') := Lib.hid (fun W h => blanks_to b src at' j line col L C W h hat hsz hl hc (by omega) hsk)
  clear hS hl hc hsk
  have hj' : ((j : Int) == (src.size : Int)) = false := by rw [beq_eq_false_iff_ne]; omega
  have hjI : (j : Int) < (src.size : Int) := by omega
  have hc0 : src[j].toNat ≤ 255 := by have := src[j].toNat_lt; omega
  have HPt : Hid (∀ W, Scan W b L C src j → (0 ≤ L ∧ L ≤ j + 1) → (0 ≤ C ∧ C ≤ j + 1) → Calls Tryd.prog 41 #[.pointer (some ⟨b, 0, none⟩), .func (.func 40) #[] #[]] W fun e w' => e = .returned (.string (bstr ((src.data.toList.drop j).takeWhile partB))) ∧ Scan w' b L (C + ((src.data.toList.drop j).takeWhile partB).length) src (j + ((src.data.toList.drop j).takeWhile partB).length) ∧ Only (fun g => g = b) W w') := Lib.hid (fun W h h1 h2 => part_skip b src j L C W h (by omega) hsz h1 h2)
  have hlt : letterI (src[j].toNat : Int) = false := hlet
  have hdt : digitI (src[j].toNat : Int) = true := hdig
  have HG := Lib.hid hG
  have HNum : Hid (∀ W, Glob W → Calls Tryd.prog 42 #[.string (bstr ((src.data.toList.drop j).takeWhile partB))] W fun e w' => e = numC (valueR ((src.data.toList.drop j).takeWhile partB)) ∧ Below W.heap.size W w') := Lib.hid (fun W h => number_run hj hsz hdig W h)
  rw [hv] at HNum
  unfold numC at HNum
  clear hlet hdig hG hv
  obtain ⟨rs, Hrs⟩ : ∃ rs, Hid (bstr ((src.data.toList.drop j).takeWhile partB) = rs) := ⟨_, Lib.hid rfl⟩
  rw [Hrs.out] at HPt HNum
  generalize (src.data.toList.drop j).takeWhile partB = run at *
  go_enter Tryd.func34, Tryd.ntmps34
  go_wp2_with fail
  go_at_call 39
  refine (HB.out _ (((HS.out.alloc _).alloc _).alloc _)).mono ?_
  rintro e1 w1 ⟨rfl, hS1, ⟨hL0, hL1⟩, ⟨hC0, hC1⟩, hO1⟩
  have HS1 := Lib.hid hS1
  have hbn : ∀ i, ¬ (fun g => g = b) (w.heap.size + i) := fun i e => by have : w.heap.size + i = b := e; omega
  have HbX : Hid (OwnV w1 w.heap.size 55 [.pointer (some ⟨b, 0, none⟩)]) := Lib.hid (hO1.own (((OwnV.new w 55 [.pointer (some ⟨b, 0, none⟩)]).alloc _).alloc _) (hbn 0))
  have HbT : Hid (OwnV w1 (w.heap.size + 1) 29 [.int .u8 0, .string ByteArray.empty, .int .i64 0, .int .i64 0, .int .i64 0]) := Lib.hid (hO1.own (by have := (OwnV.new (w.alloc (.cells #[.pointer (some ⟨b, 0, none⟩)] 55)) 29 [.int .u8 0, .string ByteArray.empty, .int .i64 0, .int .i64 0, .int .i64 0]).alloc (.cells #[.int .i64 0] 38); rw [World.size_alloc] at this; exact this) (hbn 1))
  have HbE : Hid (OwnV w1 (w.heap.size + 2) 38 [.int .i64 0]) := Lib.hid (hO1.own (by have := OwnV.new ((w.alloc (.cells #[.pointer (some ⟨b, 0, none⟩)] 55)).alloc (.cells #[.int .u8 0, .string ByteArray.empty, .int .i64 0, .int .i64 0, .int .i64 0] 29)) 38 [.int .i64 0]; rw [World.size_alloc, World.size_alloc] at this; exact this) (hbn 2))
  have HO1 : Hid (Only (fun g => g = b) w w1) := Lib.hid (((((Only.refl _ w).alloc _).alloc _).alloc _).trans hO1)
  have hsz1 : w.heap.size + 3 ≤ w1.heap.size := by have := hO1.size; simp at this; omega
  clear hS1 hO1 hbn
  obtain ⟨c0, c1, c2, c3, cf⟩ := HS1.out.cells
  have x0 : w1.cell? ⟨w.heap.size, 0, none⟩ = some (.pointer (some ⟨b, 0, none⟩)) := OwnV.cell HbX.out rfl
  have hj3 : (0 : Int) ≤ (j : Int) := by omega
  go_wp2_with fail
  have hbw : b < w1.heap.size := by omega
  have hx0 : w.heap.size < w1.heap.size := by omega
  go_region_held3 (fun w' => w'.cell? ⟨b, 0, none⟩ = some (.int .i64 L) ∧ w'.cell? ⟨b, 1, none⟩ = some (.int .i64 C) ∧ w'.cell? ⟨w.heap.size, 0, none⟩ = some (.pointer (some ⟨b, 0, none⟩))) (go_keep) (fail)
  rename_i hHeld
  clear hHeld
  go_wp2_with fail
  refine wp_region_seq (DrewOf _) (by kernel_rfl) (by kernel_rfl) (DrewOf.start _) ?_
  repeat
    try simp only [Act.put, List.setIfInBounds_toArray, List.set_cons_succ, List.set_cons_zero]
    apply stepsSeq.cons
    · rintro w' ⟨nq, rfl⟩
      simp only [Act.put, List.setIfInBounds_toArray, List.set_cons_succ, List.set_cons_zero]
      go_wp2_with (fail)
      first | exact ⟨rfl, nq, rfl⟩ | exact ⟨rfl, nq, (World.drewN_drewN _ _ _).symm⟩ | exact ⟨rfl, nq, by simp⟩
  try simp only [Act.put, List.setIfInBounds_toArray, List.set_cons_succ, List.set_cons_zero]
  refine stepsSeq.nil ?_
  rintro w' ⟨nq, rfl⟩
  clear c0 c1 c2 c3 cf x0 hbw hx0
  obtain ⟨tb, htb⟩ : ∃ tb, tb = w1.heap.size := ⟨_, rfl⟩
  rw [← htb]
  obtain ⟨w3, hw3⟩ : ∃ w3, w3 = ((w1.alloc (.cells #[.int .u8 4, .string { data := #[] }, .int .i64 0, .int .i64 L, .int .i64 C] 29)).drew).drewN nq := ⟨_, rfl⟩
  rw [← hw3]
  have HS3 : Hid (Scan w3 b L C src j) := Lib.hid (by rw [hw3]; exact HS1.out.alloc _)
  have HX3 : Hid (OwnV w3 w.heap.size 55 [.pointer (some ⟨b, 0, none⟩)]) := Lib.hid (by rw [hw3]; exact HbX.out.alloc _)
  have HT3 : Hid (OwnV w3 (w.heap.size + 1) 29 [.int .u8 0, .string ByteArray.empty, .int .i64 0, .int .i64 0, .int .i64 0]) := Lib.hid (by rw [hw3]; exact HbT.out.alloc _)
  have HE3 : Hid (OwnV w3 (w.heap.size + 1 + 1) 38 [.int .i64 0]) := Lib.hid (by rw [hw3]; exact HbE.out.alloc _)
  have HK3 : Hid (OwnV w3 tb 29 [.int .u8 4, .string ByteArray.empty, .int .i64 0, .int .i64 L, .int .i64 C]) := Lib.hid (by rw [hw3, htb]; exact OwnV.new w1 _ [.int .u8 4, .string ByteArray.empty, .int .i64 0, .int .i64 L, .int .i64 C])
  have HO3 : Hid (Only (fun g => g = b) w w3) := Lib.hid (by rw [hw3]; exact ((HO1.out.alloc _).drew).drewN _)
  have hsz3 : w.heap.size + 3 ≤ tb ∧ tb < w3.heap.size := by rw [hw3]; simp; omega
  obtain ⟨hsz3, hsz4⟩ := hsz3
  clear hw3 htb HS1 HbX HbT HbE HO1 hsz1
  obtain ⟨c0, c1, c2, c3, cf⟩ := HS3.out.cells
  have x0 : w3.cell? ⟨w.heap.size, 0, none⟩ = some (.pointer (some ⟨b, 0, none⟩)) := OwnV.cell HX3.out rfl
  have k0 : w3.cell? ⟨tb, 0, none⟩ = some (.int .u8 4) := OwnV.cell HK3.out rfl
  have k1 : w3.cell? ⟨tb, 1, none⟩ = some (.string ByteArray.empty) := OwnV.cell HK3.out rfl
  have k2 : w3.cell? ⟨tb, 2, none⟩ = some (.int .i64 0) := OwnV.cell HK3.out rfl
  have k3 : w3.cell? ⟨tb, 3, none⟩ = some (.int .i64 L) := OwnV.cell HK3.out rfl
  have k4 : w3.cell? ⟨tb, 4, none⟩ = some (.int .i64 C) := OwnV.cell HK3.out rfl
  have kf : ∀ o, w3.frozen? ⟨tb, o, none⟩ = false := fun o => OwnV.free HK3.out o
  have t0 : w3.cell? ⟨w.heap.size + 1, 0, none⟩ = some (.int .u8 0) := OwnV.cell HT3.out rfl
  have t1 : w3.cell? ⟨w.heap.size + 1, 1, none⟩ = some (.string ByteArray.empty) := OwnV.cell HT3.out rfl
  have t2 : w3.cell? ⟨w.heap.size + 1, 2, none⟩ = some (.int .i64 0) := OwnV.cell HT3.out rfl
  have t3 : w3.cell? ⟨w.heap.size + 1, 3, none⟩ = some (.int .i64 0) := OwnV.cell HT3.out rfl
  have t4 : w3.cell? ⟨w.heap.size + 1, 4, none⟩ = some (.int .i64 0) := OwnV.cell HT3.out rfl
  have tf : ∀ o, w3.frozen? ⟨w.heap.size + 1, o, none⟩ = false := fun o => OwnV.free HT3.out o
  have e0 : w3.cell? ⟨w.heap.size + 1 + 1, 0, none⟩ = some (.int .i64 0) := OwnV.cell HE3.out rfl
  have ef : w3.frozen? ⟨w.heap.size + 1 + 1, 0, none⟩ = false := OwnV.free HE3.out 0
  go_wp2_with fail
  go_wp2_with fail
  refine wp_region_seq (DrewOf _) (by kernel_rfl) (by kernel_rfl) (DrewOf.start _) ?_
  repeat
    try simp only [Act.put, List.setIfInBounds_toArray, List.set_cons_succ, List.set_cons_zero]
    apply stepsSeq.cons
    · rintro w' ⟨nq, rfl⟩
      simp only [Act.put, List.setIfInBounds_toArray, List.set_cons_succ, List.set_cons_zero]
      go_wp2_with (fail)
      first | exact ⟨rfl, nq, rfl⟩ | exact ⟨rfl, nq, (World.drewN_drewN _ _ _).symm⟩ | exact ⟨rfl, nq, by simp⟩
  try simp only [Act.put, List.setIfInBounds_toArray, List.set_cons_succ, List.set_cons_zero]
  refine stepsSeq.nil ?_
  rintro w' ⟨nq, rfl⟩
  go_wp2_with fail
  go_at_call 29
  refine (pletter_any _ _).mono ?_
  rintro e1 wl ⟨rfl, rfl⟩
  go_wp2_with fail
  go_at_call 30
  refine (pdigit_any _ _).mono ?_
  rintro e1 wl ⟨rfl, rfl⟩
  go_wp2_with fail
  go_at_call 41
  refine (HPt.out _ (HS3.out.drewN _) ⟨hL0, hL1⟩ ⟨hC0, hC1⟩).mono ?_
  rintro e1 w4 ⟨rfl, hS4, hO4⟩
  have hgb1 : ¬ (fun g => g = b) (w.heap.size + 1) := fun e => by have : w.heap.size + 1 = b := e; omega
  have hgb2 : ¬ (fun g => g = b) (w.heap.size + 1 + 1) := fun e => by have : w.heap.size + 1 + 1 = b := e; omega
  have hgb0 : ¬ (fun g => g = b) w.heap.size := fun e => by have : w.heap.size = b := e; omega
  have hgbt : ¬ (fun g => g = b) tb := fun e => by have : tb = b := e; omega
  have HS4 := Lib.hid hS4
  have hO4' : Only (fun g => g = b) w3 w4 := ((Only.refl _ w3).drewN _).trans hO4
  have HX4 : Hid (OwnV w4 w.heap.size 55 [.pointer (some ⟨b, 0, none⟩)]) := Lib.hid (hO4'.own HX3.out hgb0)
  have HT4 : Hid (OwnV w4 (w.heap.size + 1) 29 [.int .u8 0, .string ByteArray.empty, .int .i64 0, .int .i64 0, .int .i64 0]) := Lib.hid (hO4'.own HT3.out hgb1)
  have HE4 : Hid (OwnV w4 (w.heap.size + 1 + 1) 38 [.int .i64 0]) := Lib.hid (hO4'.own HE3.out hgb2)
  have HK4 : Hid (OwnV w4 tb 29 [.int .u8 4, .string ByteArray.empty, .int .i64 0, .int .i64 L, .int .i64 C]) := Lib.hid (hO4'.own HK3.out hgbt)
  have HO4 : Hid (Only (fun g => g = b) w w4) := Lib.hid (HO3.out.trans hO4')
  have hsz4 : tb < w4.heap.size := Nat.lt_of_lt_of_le hsz4 hO4'.size
  have hsz3' : w.heap.size + 3 ≤ tb := hsz3
  clear hS4 hO4 hO4' hgb0 hgb1 hgb2 hgbt
  clear c0 c1 c2 c3 cf x0 k0 k1 k2 k3 k4 kf t0 t1 t2 t3 t4 tf e0 ef
  obtain ⟨c0, c1, c2, c3, cf⟩ := HS4.out.cells
  have x0 : w4.cell? ⟨w.heap.size, 0, none⟩ = some (.pointer (some ⟨b, 0, none⟩)) := OwnV.cell HX4.out rfl
  have k0 : w4.cell? ⟨tb, 0, none⟩ = some (.int .u8 4) := OwnV.cell HK4.out rfl
  have k1 : w4.cell? ⟨tb, 1, none⟩ = some (.string ByteArray.empty) := OwnV.cell HK4.out rfl
  have k2 : w4.cell? ⟨tb, 2, none⟩ = some (.int .i64 0) := OwnV.cell HK4.out rfl
  have k3 : w4.cell? ⟨tb, 3, none⟩ = some (.int .i64 L) := OwnV.cell HK4.out rfl
  have k4 : w4.cell? ⟨tb, 4, none⟩ = some (.int .i64 C) := OwnV.cell HK4.out rfl
  have kf : ∀ o, w4.frozen? ⟨tb, o, none⟩ = false := fun o => OwnV.free HK4.out o
  have t0 : w4.cell? ⟨w.heap.size + 1, 0, none⟩ = some (.int .u8 0) := OwnV.cell HT4.out rfl
  have t1 : w4.cell? ⟨w.heap.size + 1, 1, none⟩ = some (.string ByteArray.empty) := OwnV.cell HT4.out rfl
  have t2 : w4.cell? ⟨w.heap.size + 1, 2, none⟩ = some (.int .i64 0) := OwnV.cell HT4.out rfl
  have t3 : w4.cell? ⟨w.heap.size + 1, 3, none⟩ = some (.int .i64 0) := OwnV.cell HT4.out rfl
  have t4 : w4.cell? ⟨w.heap.size + 1, 4, none⟩ = some (.int .i64 0) := OwnV.cell HT4.out rfl
  have tf : ∀ o, w4.frozen? ⟨w.heap.size + 1, o, none⟩ = false := fun o => OwnV.free HT4.out o
  have e0 : w4.cell? ⟨w.heap.size + 1 + 1, 0, none⟩ = some (.int .i64 0) := OwnV.cell HE4.out rfl
  have ef : w4.frozen? ⟨w.heap.size + 1 + 1, 0, none⟩ = false := OwnV.free HE4.out 0
  have hb1 : b ≠ w.heap.size + 1 := by omega
  have hb2 : b ≠ w.heap.size + 1 + 1 := by omega
  have hb3 : b ≠ tb := by omega
  have hg1 : w.heap.size ≤ w.heap.size + 1 := by omega
  have hg2 : w.heap.size ≤ w.heap.size + 1 + 1 := by omega
  have hg3 : w.heap.size ≤ tb := by omega
  have hkt1 : tb ≠ w.heap.size + 1 := by omega
  have hkt2 : tb ≠ w.heap.size + 1 + 1 := by omega
  have hkt1' : w.heap.size + 1 ≠ tb := by omega
  have hkt2' : w.heap.size + 1 + 1 ≠ tb := by omega

  go_wp2_with fail
  go_at_call 42
  refine (HNum.out _ (HG.out.only ((HO4.out.setNew hg3 _).setNew hg3 _) (fun k hk => by have : k = b := hk; omega))).mono ?_
  rintro e1 w5 ⟨rfl, hb5⟩
  have hOb : Only (fun _ => False) ((w4.setCell ⟨tb, 0, none⟩ (.int .u8 2)).setCell ⟨tb, 1, none⟩ (.string rs)) w5 := Only.of_below hb5
  have HS5 : Hid (Scan w5 b L (C + (run.length : Nat)) src (j + run.length)) := Lib.hid (hOb.own ((HS4.out.set_ne hb3 _).set_ne hb3 _) (fun h => h))
  have HT5 : Hid (OwnV w5 (w.heap.size + 1) 29 [.int .u8 0, .string ByteArray.empty, .int .i64 0, .int .i64 0, .int .i64 0]) := Lib.hid (hOb.own ((HT4.out.set_ne hkt1' _).set_ne hkt1' _) (fun h => h))
  have HE5 : Hid (OwnV w5 (w.heap.size + 1 + 1) 38 [.int .i64 0]) := Lib.hid (hOb.own ((HE4.out.set_ne hkt2' _).set_ne hkt2' _) (fun h => h))
  have HK5 : Hid (OwnV w5 tb 29 [.int .u8 2, .string rs, .int .i64 0, .int .i64 L, .int .i64 C]) := Lib.hid (hOb.own ((HK4.out.set 0 _).set 1 _) (fun h => h))
  have HO5 : Hid (Only (fun g => g = b) w w5) := Lib.hid (((HO4.out.setNew hg3 _).setNew hg3 _).trans (Only.of_below hb5))
  clear hb5 hOb
  clear c0 c1 c2 c3 cf x0 k0 k1 k2 k3 k4 kf t0 t1 t2 t3 t4 tf e0 ef
  have k0 : w5.cell? ⟨tb, 0, none⟩ = some (.int .u8 2) := OwnV.cell HK5.out rfl
  have k1 : w5.cell? ⟨tb, 1, none⟩ = some (.string rs) := OwnV.cell HK5.out rfl
  have k2 : w5.cell? ⟨tb, 2, none⟩ = some (.int .i64 0) := OwnV.cell HK5.out rfl
  have k3 : w5.cell? ⟨tb, 3, none⟩ = some (.int .i64 L) := OwnV.cell HK5.out rfl
  have k4 : w5.cell? ⟨tb, 4, none⟩ = some (.int .i64 C) := OwnV.cell HK5.out rfl
  have kf : ∀ o, w5.frozen? ⟨tb, o, none⟩ = false := fun o => OwnV.free HK5.out o
  have t0 : w5.cell? ⟨w.heap.size + 1, 0, none⟩ = some (.int .u8 0) := OwnV.cell HT5.out rfl
  have t1 : w5.cell? ⟨w.heap.size + 1, 1, none⟩ = some (.string ByteArray.empty) := OwnV.cell HT5.out rfl
  have t2 : w5.cell? ⟨w.heap.size + 1, 2, none⟩ = some (.int .i64 0) := OwnV.cell HT5.out rfl
  have t3 : w5.cell? ⟨w.heap.size + 1, 3, none⟩ = some (.int .i64 0) := OwnV.cell HT5.out rfl
  have t4 : w5.cell? ⟨w.heap.size + 1, 4, none⟩ = some (.int .i64 0) := OwnV.cell HT5.out rfl
  have tf : ∀ o, w5.frozen? ⟨w.heap.size + 1, o, none⟩ = false := fun o => OwnV.free HT5.out o
  have e0 : w5.cell? ⟨w.heap.size + 1 + 1, 0, none⟩ = some (.int .i64 0) := OwnV.cell HE5.out rfl
  have ef : w5.frozen? ⟨w.heap.size + 1 + 1, 0, none⟩ = false := OwnV.free HE5.out 0
  go_wp2_with fail
  exact bodyPost_ret (next_res rfl rfl (((((((HT5.out.set_ne hkt1' _).set 0 _).set 1 _).set 2 _).set 3 _).set 4 _).set_ne (by omega) _) (((((((HE5.out.set_ne hkt2' _).set_ne (by omega) _).set_ne (by omega) _).set_ne (by omega) _).set_ne (by omega) _).set_ne (by omega) _).set 0 _)) rfl ⟨by rw [← Hrs.out]; rfl, (((((((HS5.out.set_ne hb3 _).set_ne hb1 _).set_ne hb1 _).set_ne hb1 _).set_ne hb1 _).set_ne hb1 _).set_ne hb2 _), (((((((HO5.out.setNew hg3 _).setNew hg1 _).setNew hg1 _).setNew hg1 _).setNew hg1 _).setNew hg1 _).setNew hg2 _)⟩
end Go.Proofs.YtcichbdkdbnmiaaDoor
