/- The laws' own functions of layer 11, walked: Given, lexes. -/
import Derived.Test.YtcichbdkdbnmiaaDoorRJoin
import Derived.Test.YtcichbdkdbnmiaaDoorPLex
namespace Go.Proofs.YtcichbdkdbnmiaaDoor
open Go.RowKit

theorem join_cons' {t : Tok} {ts : List Tok} (h : t.kind ≠ 4) : (joinS (t :: ts)).length ≤ t.text.length + 1 + (joinS ts).length := by
  unfold joinS
  have e : textsS (t :: ts) = t.text :: textsS ts := by unfold textsS; simp [h]
  rw [e, Lib.join_cons]
  cases hx : textsS ts with
  | nil => simp [Lib.joinTail, Lib.join]
  | cons y r =>
    rw [Lib.join_cons]
    simp [Lib.joinTail]
    omega
theorem lexF_size : ∀ (n : Nat) (bs : List UInt8), bs.length ≤ n → ∀ (l c : Int) (ts : List Tok), lexF bs l c = .ok ts → ts.length ≤ bs.length + 1 ∧ (joinS ts).length ≤ 2 * bs.length := by
  intro n
  induction n with
  | zero =>
    intro bs hb l c ts h
    obtain rfl : bs = [] := List.eq_nil_of_length_eq_zero (by omega)
    rw [lexF_nil] at h
    cases h
    exact ⟨by simp, by simp [joinS, textsS, Lib.join]⟩
  | succ n ih =>
    intro bs hb l c ts h
    rw [lexF_eq] at h
    have hsl := skip_len bs false l c
    generalize (skipS bs false l c).1 = bs' at *
    generalize (skipS bs false l c).2.1 = l' at *
    generalize (skipS bs false l c).2.2 = c' at *
    rcases lexT_cases bs' l' c' with ⟨_, h1⟩ | ⟨code, _, h1, _⟩ | ⟨t, ht, _, _, h2, h3, h1⟩
    · rw [h1] at h
      cases h
      exact ⟨by simp, by simp [joinS, textsS, Lib.join]⟩
    · rw [h1] at h; cases h
    · rw [h1] at h
      have ht1 : 1 ≤ t.text.length := List.length_pos_iff.2 ht.text
      cases hr : lexF (bs'.drop t.text.length) l' (c' + t.text.length) with
      | err a b c => rw [hr] at h; cases h
      | ok m =>
        rw [hr] at h
        cases h
        have hl : (bs'.drop t.text.length).length = bs'.length - t.text.length := List.length_drop
        obtain ⟨h4, h5⟩ := ih _ (by omega) _ _ _ hr
        have h6 := join_cons' (ts := m) ht.kind
        exact ⟨by simp only [List.length_cons]; omega, by omega⟩
theorem lexS_size {bs : List UInt8} {ts : List Tok} (h : lexS bs = .ok ts) : ts.length ≤ bs.length + 1 ∧ (joinS ts).length ≤ 2 * bs.length ∧ bs.length ≤ 16384 := by
  rw [lexS_eq] at h
  split at h
  · cases h
  · obtain ⟨h1, h2⟩ := lexF_size _ _ (Nat.le_refl _) _ _ _ h
    exact ⟨h1, h2, by omega⟩
theorem Sl_new {w : World} {arr : Array Value} {e : TypeId} {sz : Nat} (h : arr.size = sz) : Sl ((w.alloc (.cells arr e)).drew) sz 1 arr.toList (.slice (some ⟨w.heap.size, 0, none⟩) 1 1) := by
  refine ⟨_, _, rfl, by omega, by omega, by simpa using h, fun _ => ⟨_, _, rfl, fun j hj => ?_⟩⟩
  show (w.alloc (.cells arr e)).cell? ⟨w.heap.size, 0 + j, none⟩ = _
  rw [Nat.zero_add, World.cell?_alloc_new]
  simp
set_option maxRecDepth 100000 in
set_option maxHeartbeats 1000000 in
theorem Given_any (l : List Tok) (v : Value) (w : World) (hT : Toks w l v) (hn : l.length ≤ 1000000) :
    Calls Tryd.prog 21 #[v] w fun e w' => (∃ v', e = .returned v' ∧ Toks w' l v') ∧ Below w.heap.size w w' := by
  obtain ⟨a, cap, rfl, hc1, hc2⟩ := Sl.form hT
  have HT := Lib.hid hT
  clear hT
  go_enter Tryd.func21, Tryd.ntmps21
  go_wp2_with fail
  go_loopw [3, 4, 5, 6, 7, 8, 9, 10, 11, 12, 13, 14, 15, 16, 17, 18, 19, 20, 21, 22, 23, 24, 25, 26, 27, 28, 29, 30, 31, 32, 33, 34, 35, 36, 37, 38, 39] (fun t3 t4 _ _ _ _ _ _ _ _ _ _ _ _ _ _ _ _ _ _ _ _ _ _ _ _ _ _ _ _ _ _ _ _ _ _ _ wr => ∃ k : Nat, k ≤ l.length ∧ t4 = .int .i64 k ∧ wr.ownsRow w.heap.size 48 5 t3 k ((l.take k).flatMap Tok.cells) ∧ Hid (Below w.heap.size w wr)) (fun _ t4 _ _ _ _ _ _ _ _ _ _ _ _ _ _ _ _ _ _ _ _ _ _ _ _ _ _ _ _ _ _ _ _ _ _ _ _ => l.length - (intOf t4).toNat)
  case atStart => exact ⟨0, by omega, rfl, World.ownsRow_nil _ _ _ _, Lib.hid (Below.refl _ _)⟩
  case round =>
    obtain ⟨k, hk, rfl, hown, Hb⟩ := hrel
    have Hown := Lib.hid hown
    have hwr := Hb.out.size
    clear hown
    by_cases hlt : k < l.length
    · obtain ⟨b, off, rfl, d0, d1, d2, d3, d4⟩ := tok_cells HT.out hlt
      have Hc0 := Lib.hid d0
      replace d0 := Below.keep Hb.out d0
      have Hc1 := Lib.hid d1
      replace d1 := Below.keep Hb.out d1
      have Hc2 := Lib.hid d2
      replace d2 := Below.keep Hb.out d2
      have Hc3 := Lib.hid d3
      replace d3 := Below.keep Hb.out d3
      have Hc4 := Lib.hid d4
      replace d4 := Below.keep Hb.out d4
      have Hst : Hid ((l.take (k + 1)).flatMap Tok.cells = (l.take k).flatMap Tok.cells ++ (tokAt l k).cells) := Lib.hid (by
        rw [List.take_succ_eq_append_getElem hlt, List.flatMap_append, tokAt_eq hlt]; simp)
      obtain ⟨T, hT⟩ : ∃ T, tokAt l k = T := ⟨_, rfl⟩
      rw [hT] at d0 d1 d2 d3 d4 Hst Hc0 Hc1 Hc2 Hc3 Hc4
      clear hT
      go_wp2_with fail
      obtain ⟨arr, harr⟩ : ∃ arr : Array Value, arr = (Tok.cells T).toArray := ⟨_, rfl⟩
      have hownS : ((wr.alloc (.cells arr 48)).drew).ownsRow w.heap.size 48 5 u3 k ((l.take k).flatMap Tok.cells) := (Hown.out.alloc _).drew
      have hslS : Sl ((wr.alloc (.cells arr 48)).drew) 5 1 arr.toList (.slice (some ⟨wr.heap.size, 0, none⟩) 1 1) := Sl_new (by simp [harr, Tok.cells])
      have hbS : Below w.heap.size w ((wr.alloc (.cells arr 48)).drew) := (Hb.out.alloc hwr _).drew
      subst harr
      simp only [Tok.cells] at hownS hslS hbS
      have HownS := Lib.hid hownS
      have HslS := Lib.hid hslS
      have HbS := Lib.hid hbS
      have hszS := hbS.size
      clear hownS hslS hbS
      go_region_held3 (fun w' => w'.cell? ⟨b, off + k * 5, none⟩ = some (.int .u8 T.kind) ∧ w'.cell? ⟨b, off + k * 5 + 1, none⟩ = some (.string (bstr T.text)) ∧ w'.cell? ⟨b, off + k * 5 + 2, none⟩ = some (.int .i64 T.n) ∧ w'.cell? ⟨b, off + k * 5 + 3, none⟩ = some (.int .i64 T.line) ∧ w'.cell? ⟨b, off + k * 5 + 4, none⟩ = some (.int .i64 T.col)) (go_keep) ((refine step_append_src rfl (.tmp 11) (.tmp 38) 32 rfl HownS.out info_tok Tryd.underlying32 rfl (by decide) rfl HslS.out rfl rfl (by unfold maxLen; omega) (by omega) hszS ?_; intro v' w3 hown4 hg4 hb4 hat4; have e0 := Below.keep (HbS.out.trans hb4) Hc0.out; have e1 := Below.keep (HbS.out.trans hb4) Hc1.out; have e2 := Below.keep (HbS.out.trans hb4) Hc2.out; have e3 := Below.keep (HbS.out.trans hb4) Hc3.out; have e4 := Below.keep (HbS.out.trans hb4) Hc4.out))
      have Hown4 := Lib.hid hown4
      have Hb3 : Hid (Below w.heap.size w w3) := Lib.hid (HbS.out.trans hb4)
      clear hown4 hg4 hb4 hat4
      go_wp2_with fail
      go_roundw
      case rel => exact ⟨k + 1, by omega, by go_num, by rw [Hst.out]; exact Hown4.out, Lib.hid Hb3.out⟩
      case measure => simp [intOf]; omega
    · obtain rfl : k = l.length := by omega
      go_wp2_with fail
      go_ret
      refine ⟨⟨_, rfl, ?_⟩, Hb.out⟩
      have h := Hown.out
      rw [List.take_length] at h
      exact Sl.of_own h
end Go.Proofs.YtcichbdkdbnmiaaDoor
