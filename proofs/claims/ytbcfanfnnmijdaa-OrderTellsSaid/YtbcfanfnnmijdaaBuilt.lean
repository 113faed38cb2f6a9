/- Built: at most 16 systems, valid ones, each made of its number. -/
import Derived.Test.YtbcfanfnnmijdaaAwake
import Derived.Laws.IdiomStrings
namespace Go.Proofs.Ytbcfanfnnmijdaa
open Go.RowKit

/-- a one-letter name -/
def letter (i : Nat) : ByteArray := ⟨#[UInt8.ofNat (97 + i)]⟩
def bsys (i : Nat) (n : BitVec 32) : Sys := ⟨letter i, (n &&& 1023#32) <<< 1, ((n >>> 10 &&& 1023#32) <<< 1) &&& ~~~512#32, i⟩
def bl (l : List (BitVec 32)) (k : Nat) : List Sys := (List.range k).map fun i => bsys i (l.getD i 0)
theorem bl_succ (l : List (BitVec 32)) (k : Nat) : bl l (k + 1) = bl l k ++ [bsys k (l.getD k 0)] := by simp [bl, List.range_succ]
theorem bl_len (l : List (BitVec 32)) (k : Nat) : (bl l k).length = k := by simp [bl]
theorem info_sys : (Try.prog.info? 35).map (fun i => (i.zero, i.size, i.bytes)) = some (some (.agg #[.string ByteArray.empty, .int .u32 0, .int .u32 0, .int .i64 0]), 4, 32) := by kernel_rfl

def Words (w : World) (l : List (BitVec 32)) (v : Value) : Prop := Sl w 1 l.length (l.map fun x => Value.int .u32 (w32 x)) v
theorem Words.at {w : World} {l : List (BitVec 32)} {a : Option Addr} {n cap : Nat} (h : Words w l (.slice a n cap)) {k : Nat} (hk : k < l.length) :
    ∃ b off, a = some ⟨b, off, none⟩ ∧ w.cell? ⟨b, off + k, none⟩ = some (.int .u32 (w32 (l.getD k 0))) := by
  obtain ⟨b, off, e, _, hc⟩ := Sl.at (by omega) h (by omega)
  refine ⟨b, off, e, ?_⟩
  have h0 := hc k (by omega)
  simpa [hk] using h0
theorem Words.below {w w' : World} {l : List (BitVec 32)} {v : Value} {B : Nat} (h : Words w l v) (hb : Below B w w') (hB : w.heap.size ≤ B) : Words w' l v := Sl.below (by omega) h hb hB
theorem letter_conv (w : World) (k : Nat) (hk : k < 16) : (convert 23 9 (.slice (some ⟨w.heap.size, 0, none⟩) 1 1)).run Try.prog (w.alloc (.cells #[.int .u8 (97 + (k : Int))] 5)) = .ok (.string (letter k)) (w.alloc (.cells #[.int .u8 (97 + (k : Int))] 5)) := by
  have h := run_convert_bytes_back (P := Try.prog) (w.alloc (.cells #[.int .u8 (97 + (k : Int))] 5)) 23 9 5 ⟨w.heap.size, 0, none⟩ 1 [UInt8.ofNat (97 + k)] Try.underlying23 Try.underlying5 Try.underlying9 (fun j hj => by
    obtain rfl : j = 0 := by simp at hj; omega
    have e : ((UInt8.ofNat (97 + k)).toNat : Int) = 97 + (k : Int) := by
      simp
      omega
    rw [show (⟨w.heap.size, 0, none⟩ : Addr).add 0 = ⟨w.heap.size, 0, none⟩ from rfl, World.cell?_alloc_new]
    rw [List.getElem_cons_zero, e]
    rfl)
  exact h
theorem word_steps (x : BitVec 32) : ∃ y1 y2 y3 y4 y5 y6 : BitVec 32, bits .and .u32 (w32 x) 1023 = w32 y1 ∧ w32 y1 * 2 % 4294967296 = w32 y2 ∧ w32 x / 1024 = w32 y3 ∧ bits .and .u32 (w32 y3) 1023 = w32 y4 ∧ w32 y4 * 2 % 4294967296 = w32 y5 ∧ bits .andNot .u32 (w32 y5) 512 = w32 y6 ∧
    Hid (∀ i : Nat, (⟨letter i, y2, y6, i⟩ : Sys) = bsys i x) := by
  have hm : ∀ y : BitVec 32, w32 y * 2 % 4294967296 = w32 (y <<< 1) := by
    intro y
    unfold w32
    rw [BitVec.toNat_shiftLeft, Nat.shiftLeft_eq]
    omega
  refine ⟨_, _, x >>> 10, _, _, _, bits_and32 x 1023#32, hm _, ?_, bits_and32 _ 1023#32, hm _, bits_andNot32 _ 512#32, Lib.hid fun i => rfl⟩
  unfold w32
  rw [BitVec.toNat_ushiftRight, Nat.shiftRight_eq_div_pow]
  omega
theorem built_own (l : List (BitVec 32)) (v : Value) (w : World) (hS : Words w l v) :
    Calls Try.prog 10 #[v] w fun e w' => ∃ u, e = .returned u ∧ w'.ownsRow w.heap.size 35 4 u (min l.length 16) ((bl l (min l.length 16)).flatMap Sys.cells) ∧ Below w.heap.size w w' := by
  obtain ⟨a, cap, rfl, hlc, hcm⟩ := Sl.form hS
  go_enter Try.func10, Try.ntmps10
  go_wp2
  all_goals go_loopw [3, 4, 5, 12, 13, 14, 15, 16, 17, 18, 19, 20, 21, 22, 23, 24, 25, 26, 27, 28, 29, 30, 31, 32, 33, 34, 35] (fun t3 _ _ t12 _ _ _ _ _ _ _ _ _ _ _ _ _ _ _ _ _ _ _ _ _ _ _ wr => ∃ k : Nat, k ≤ min l.length 16 ∧ t12 = .int .i64 k ∧ wr.ownsRow w.heap.size 35 4 t3 k ((bl l k).flatMap Sys.cells) ∧ Below w.heap.size w wr) (fun _ _ _ t12 _ _ _ _ _ _ _ _ _ _ _ _ _ _ _ _ _ _ _ _ _ _ _ _ => min l.length 16 - (intOf t12).toNat)
  case atStart => exact ⟨0, by omega, rfl, World.ownsRow_nil _ _ _ _, Below.refl _ _⟩
  case atStart => exact ⟨0, by omega, rfl, World.ownsRow_nil _ _ _ _, Below.refl _ _⟩
  case' round =>
    obtain ⟨k, hk, rfl, hown, hb⟩ := hrel
    by_cases hlt : k < min l.length 16
  case' neg =>
    have e : k = min l.length 16 := by omega
    go_wp2
    go_ret
    subst e
    exact ⟨_, rfl, hown, hb⟩
  case' pos =>
      have hW := hS.below hb (Nat.le_refl _)
      obtain ⟨b, off, rfl, hc⟩ := Words.at hW (k := k) (by omega)
      have h16 : k < 16 := by omega
      have hconv := letter_conv wr k h16
      generalize hx : l.getD k 0 = x at *
      obtain ⟨y1, y2, y3, y4, y5, y6, hx1, hx2, hx3, hx4, hx5, hx6, Hy⟩ := word_steps x
      have Hx := Lib.hid hx
      have hown1 := own_below hown ((Below.refl _ _).alloc (Nat.le_refl wr.heap.size) (.cells #[.int .u8 (97 + (k : Int))] 5)) (Nat.le_refl _)
      have hb1 : Below w.heap.size w (wr.alloc (.cells #[.int .u8 (97 + (k : Int))] 5)) := hb.alloc hb.size _
      clear hx hown
      go_wp2_with (at_builtin; refine wpList_append_new rfl _ _ 24 rfl hown1 info_sys Try.underlying24 rfl (by decide) rfl 1 1 (by show Value.slice (some ⟨wr.heap.size + 1, 0, none⟩) 1 1 = _; simp) rfl rfl (by unfold maxLen; omega) (by omega) hb1.size ?_; intro v' w' hown2 hg2 hb3)
      go_roundw
      case rel => exact ⟨k + 1, by omega, by go_num, by rw [bl_succ, Hx.out, List.flatMap_append, ← Hy.out k]; exact hown2, hb1.trans hb3⟩
      case measure => simp [intOf]; omega
  case' round =>
    obtain ⟨k, hk, rfl, hown, hb⟩ := hrel
    by_cases hlt : k < min l.length 16
  case' neg =>
    have e : k = min l.length 16 := by omega
    go_wp2
    go_ret
    subst e
    exact ⟨_, rfl, hown, hb⟩
  case' pos =>
      have hW := hS.below hb (Nat.le_refl _)
      obtain ⟨b, off, rfl, hc⟩ := Words.at hW (k := k) (by omega)
      have h16 : k < 16 := by omega
      have hconv := letter_conv wr k h16
      generalize hx : l.getD k 0 = x at *
      obtain ⟨y1, y2, y3, y4, y5, y6, hx1, hx2, hx3, hx4, hx5, hx6, Hy⟩ := word_steps x
      have Hx := Lib.hid hx
      have hown1 := own_below hown ((Below.refl _ _).alloc (Nat.le_refl wr.heap.size) (.cells #[.int .u8 (97 + (k : Int))] 5)) (Nat.le_refl _)
      have hb1 : Below w.heap.size w (wr.alloc (.cells #[.int .u8 (97 + (k : Int))] 5)) := hb.alloc hb.size _
      clear hx hown
      go_wp2_with (at_builtin; refine wpList_append_new rfl _ _ 24 rfl hown1 info_sys Try.underlying24 rfl (by decide) rfl 1 1 (by show Value.slice (some ⟨wr.heap.size + 1, 0, none⟩) 1 1 = _; simp) rfl rfl (by unfold maxLen; omega) (by omega) hb1.size ?_; intro v' w' hown2 hg2 hb3)
      go_roundw
      case rel => exact ⟨k + 1, by omega, by go_num, by rw [bl_succ, Hx.out, List.flatMap_append, ← Hy.out k]; exact hown2, hb1.trans hb3⟩
      case measure => simp [intOf]; omega
theorem built_any (l : List (BitVec 32)) (v : Value) (w : World) (hS : Words w l v) :
    Calls Try.prog 10 #[v] w fun e w' => ∃ u, e = .returned u ∧ Syss w' (bl l (min l.length 16)) u ∧ Below w.heap.size w w' :=
  (built_own l v w hS).mono fun _ _ ⟨u, h1, h2, h3⟩ => ⟨u, h1, by show Sl _ _ _ _ _; rw [bl_len]; exact Sl.of_own h2, h3⟩
theorem bsys_ok (i : Nat) (n : BitVec 32) (hi : i < 16) : okS (bsys i n) = true := by
  have h1 : ((n &&& 1023#32) <<< 1) &&& ~~~2046#32 = 0#32 := by
    apply BitVec.eq_of_getLsbD_eq
    intro j hj
    have key : ∀ j : Fin 32, ((1023#32).getLsbD (j.val - 1) && (!decide (j.val < 1) && !(2046#32).getLsbD j.val)) = false := by decide
    have := key ⟨j, hj⟩
    simp only [BitVec.getLsbD_and, BitVec.getLsbD_shiftLeft, BitVec.getLsbD_not, BitVec.getLsbD_zero, hj, decide_true, Bool.true_and]
    revert this
    simp only
    cases n.getLsbD (j - 1) <;> cases (1023#32).getLsbD (j - 1) <;> cases decide (j < 1) <;> cases (2046#32).getLsbD j <;> simp
  have h2 : (((n >>> 10 &&& 1023#32) <<< 1) &&& ~~~512#32) &&& ~~~1534#32 = 0#32 := by
    apply BitVec.eq_of_getLsbD_eq
    intro j hj
    have key : ∀ j : Fin 32, ((1023#32).getLsbD (j.val - 1) && (!decide (j.val < 1) && (!(512#32).getLsbD j.val && !(1534#32).getLsbD j.val))) = false := by decide
    have := key ⟨j, hj⟩
    simp only [BitVec.getLsbD_and, BitVec.getLsbD_shiftLeft, BitVec.getLsbD_not, BitVec.getLsbD_zero, hj, decide_true, Bool.true_and]
    revert this
    simp only
    cases (n >>> 10).getLsbD (j - 1) <;> cases (1023#32).getLsbD (j - 1) <;> cases decide (j < 1) <;> cases (512#32).getLsbD j <;> cases (1534#32).getLsbD j <;> simp
  have h3 : (letter i).size = 1 := rfl
  unfold okS bsys
  simp only
  rw [h1, h2, h3]
  simp
  omega
theorem letter_inj {i j : Nat} (hi : i < 16) (hj : j < 16) (h : (letter i).data.toList = (letter j).data.toList) : i = j := by
  have h' : UInt8.ofNat (97 + i) = UInt8.ofNat (97 + j) := by simpa [letter] using h
  have := congrArg UInt8.toNat h'
  simp at this
  omega
theorem bl_valid (l : List (BitVec 32)) (k : Nat) (hk : k ≤ 16) : validS (bl l k) = true := by
  unfold validS
  rw [bl_len]
  simp only [Bool.and_eq_true, decide_eq_true_eq]
  refine ⟨hk, List.all_eq_true.2 fun s hs => ?_, ?_⟩
  · obtain ⟨i, hi, rfl⟩ := List.mem_map.1 hs
    exact bsys_ok i _ (by have := List.mem_range.1 hi; omega)
  · have e : (bl l k).map nm = (List.range k).map fun i => (letter i).data.toList := by simp [bl, nm, bsys]
    rw [e]
    refine List.pairwise_map.2 (List.Pairwise.imp_of_mem ?_ (List.nodup_range (n := k)))
    intro a b ha hb hne h
    exact hne (letter_inj (by have := List.mem_range.1 ha; omega) (by have := List.mem_range.1 hb; omega) h)
theorem bl_ok (l : List (BitVec 32)) (k : Nat) (hk : k ≤ 16) : ∀ s ∈ bl l k, s.ok := by
  intro s hs
  obtain ⟨i, hi, rfl⟩ := List.mem_map.1 hs
  have := List.mem_range.1 hi
  refine ⟨by show 1 ≤ _; omega, ?_, ?_⟩ <;> simp only [bsys] <;> omega
/-- .. said shortly: what Built answers is some valid list of systems -/
theorem built_valid (l : List (BitVec 32)) (v : Value) (w : World) (hS : Words w l v) :
    Calls Try.prog 10 #[v] w fun e w' => ∃ u s, e = .returned u ∧ Syss w' s u ∧ validS s = true ∧ (∀ x ∈ s, x.ok) ∧ Below w.heap.size w w' :=
  (built_any l v w hS).mono fun _ _ ⟨u, h1, h2, h3⟩ => ⟨u, _, h1, h2, bl_valid _ _ (by omega), bl_ok _ _ (by omega), h3⟩
end Go.Proofs.Ytbcfanfnnmijdaa
