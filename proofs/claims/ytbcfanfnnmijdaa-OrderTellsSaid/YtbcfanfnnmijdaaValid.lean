/- What order.Valid gives: whether a list of systems is valid; no condition but that the argument reads as systems. -/
import Derived.Test.YtbcfanfnnmijdaaConf
namespace Go.Proofs.Ytbcfanfnnmijdaa
open Go.RowKit

theorem skeyed : Maps.Keyed Try.prog 9 := Maps.string_keyed Try.underlying9
/-- block b is a map[string]int: val says what the keys have (0 where they are not there) -/
def SMap (w : World) (b n : Nat) (val : List UInt8 → Int) : Prop :=
  ∃ D : DataW Unit, w.ownsMap Try.prog 9 (plainElem Try.prog 3) b n D ∧ ∀ k, D.atKey (.string k) (.lit (.int .i64 0)) = .lit (.int .i64 (val k))
theorem SMap.made (w : World) : SMap (w.alloc (.map #[] 0)) w.heap.size 0 (fun _ => 0) :=
  ⟨.map [], World.ownsMap_made w _ _ _, fun _ => rfl⟩
theorem SMap.alloc {w : World} {b n : Nat} {val : List UInt8 → Int} (h : SMap w b n val) (o : Obj) : SMap (w.alloc o) b n val := by
  obtain ⟨D, h1, h3⟩ := h; exact ⟨D, h1.alloc o, h3⟩
theorem SMap.congr {w : World} {b n : Nat} {val val' : List UInt8 → Int} (h : SMap w b n val) {n' : Nat} (hn : n ≤ n') (h2 : ∀ k, val k = val' k) : SMap w b n' val' := by
  obtain ⟨D, a, c⟩ := h; exact ⟨D, a.mono hn, fun k => (c k).trans (by rw [h2])⟩
theorem SMap.lt {w : World} {b n : Nat} {val : List UInt8 → Int} (h : SMap w b n val) : b < w.heap.size := by obtain ⟨D, h1, _⟩ := h; exact h1.lt
theorem skey {s : ByteArray} (hs : s.size ≤ 9223372036854775807) : keyOf Try.prog 9 (.string s) = some (.string s.data.toList) := by
  simp [keyOf, Try.underlying9, mapKey, maxLen, hs]
section
variable {ops : Array Oper} {rest : List Oper} {o : Oper} {a : Act} {Q : Exit → Act → World → Prop} {w : World}
theorem wpList_smap_lookup (hg : o.guard = none) (m x : Operand) (hop : o.op = Op.lookup 57 m x false) {b n : Nat} {val : List UInt8 → Int} (h : SMap w b n val)
    (hm : a.eval m = .map (some b)) (key : ByteArray) (hx : a.eval x = .string key) (hkey : key.size ≤ 9223372036854775807)
    (hK : (Lit.int .i64 (val key.data.toList)).wf = true → wpList Try.prog ops Q rest (a.put o.dst (.int .i64 (val key.data.toList))) w) : wpList Try.prog ops Q (o :: rest) a w := by
  obtain ⟨D, h1, h3⟩ := h
  refine wpList_lookup_own_int w hg m x 57 hop 9 3 .i64 skeyed Try.underlying57 Try.underlying3 (zero_int w) b n D hm h1 (.string key) (.string key.data.toList) hx (skey hkey) ?_
  intro c hat hwc
  rw [h3 key.data.toList] at hat
  have e : val key.data.toList = c := by simpa using hat
  rw [e] at hK
  exact hK hwc
theorem wpList_smap_update (hg : o.guard = none) (m x v : Operand) (hop : o.op = Op.mapUpdate 57 m x v) {b n : Nat} {val : List UInt8 → Int} (h : SMap w b n val)
    (hm : a.eval m = .map (some b)) (key : ByteArray) (c : Int) (hx : a.eval x = .string key) (hv : a.eval v = .int .i64 c) (hkey : key.size ≤ 9223372036854775807) (hc : (Lit.int .i64 c).wf = true) (hn : n < maxLen)
    (hK : ∀ w', SMap w' b (n + 1) (fun k => if k = key.data.toList then c else val k) → w.grownBy w' (some b) → wpList Try.prog ops Q rest (a.put o.dst undef) w') : wpList Try.prog ops Q (o :: rest) a w := by
  obtain ⟨D, h1, h3⟩ := h
  refine wpList_mapUpdate_own w hg m x v 57 hop 9 3 skeyed Try.underlying57 _ b n D hm h1 hn (.string key) (.int .i64 c) (.string key.data.toList) hx hv (skey hkey) (.lit (.int .i64 c)) [] (plainElem_int Try.underlying3 hc) ?_
  intro w' hown hgr
  have hD : Maps.IsMap D := (h1.tidy skeyed).isMap
  have hkl : WideAt.IsKeyLit (.string key.data.toList) := trivial
  refine hK w' ⟨_, hown, fun k => ?_⟩ hgr
  by_cases e : k = key.data.toList
  · subst e; rw [Maps.atKey_put_same hD hkl]; simp
  · rw [Maps.atKey_put_other (by simpa using e), h3]; simp [e]
end

/-- is a system by itself as it must be -/
def okS (s : Sys) : Bool := decide (1 ≤ s.name.size) && (decide (s.name.size ≤ 24) && (s.rd &&& ~~~2046#32 == 0 && (s.wr &&& ~~~1534#32 == 0 && (decide (0 ≤ s.pg) && decide (s.pg < 16)))))
def nm (s : Sys) : List UInt8 := s.name.data.toList
/-- is a list of systems valid -/
def validS (l : List Sys) : Bool := decide (l.length ≤ 16) && ((l.all okS) && decide (l.map nm).Nodup)

theorem valid_dup {l : List Sys} {k : Nat} (hk : k < l.length) (h : nm l[k] ∈ (l.take k).map nm) : validS l = false := by
  have hn : ¬ (l.map nm).Nodup := by
    intro hn
    have e : l.map nm = (l.take k).map nm ++ nm l[k] :: (l.drop (k + 1)).map nm := by
      rw [← List.map_cons, ← List.map_append, List.getElem_cons_drop, List.take_append_drop]
    rw [e, List.nodup_append] at hn
    exact hn.2.2 _ h _ (List.mem_cons_self ..) rfl
  simp [validS, hn]
theorem valid_bad {l : List Sys} {k : Nat} (hk : k < l.length) (h : okS l[k] = false) : validS l = false := by
  have hn : l.all okS = false := by
    rw [List.all_eq_false]
    exact ⟨l[k], List.getElem_mem hk, by simp [h]⟩
  simp [validS, hn]
theorem good_step {l : List Sys} {k : Nat} (hk : k < l.length) (hg : (l.take k).all okS = true ∧ ((l.take k).map nm).Nodup) (h1 : okS l[k] = true) (h2 : nm l[k] ∉ (l.take k).map nm) :
    (l.take (k + 1)).all okS = true ∧ ((l.take (k + 1)).map nm).Nodup := by
  rw [List.take_succ_eq_append_getElem hk]
  refine ⟨by rw [List.all_append, hg.1]; simp [h1], ?_⟩
  rw [List.map_append, List.nodup_append]
  exact ⟨hg.2, by simp, by intro a ha b hb e; simp at hb; subst hb; subst e; exact h2 ha⟩

/-- a local system keeps its cells while another block is written -/
theorem sys_kept {wr w2 : World} {T : TypeId} {c0 c1 c2 c3 : Value} {row : Nat} (hg : (wr.alloc (.cells #[c0, c1, c2, c3] T)).grownBy w2 (some row)) (hne : row < wr.heap.size) :
    w2.cell? ⟨wr.heap.size, 0, none⟩ = some c0 ∧ w2.cell? ⟨wr.heap.size, 1, none⟩ = some c1 ∧ w2.cell? ⟨wr.heap.size, 2, none⟩ = some c2 ∧ w2.cell? ⟨wr.heap.size, 3, none⟩ = some c3 := by
  have h : ∀ j v, (#[c0, c1, c2, c3] : Array Value)[j]? = some v → w2.cell? ⟨wr.heap.size, j, none⟩ = some v := fun j v hv =>
    hg.cell (by rw [World.cell?_alloc_new]; exact hv) (by simp; omega)
  exact ⟨h 0 _ rfl, h 1 _ rfl, h 2 _ rfl, h 3 _ rfl⟩

set_option maxHeartbeats 400000 in
theorem valid_any (l : List Sys) (v : Value) (w : World) (hS : Syss w l v) (hok : ∀ s ∈ l, s.ok) :
    Calls Try.prog 11 #[v] w fun e w' => e = .returned (.bool (validS l)) ∧ Below w.heap.size w w' := by
  obtain ⟨a, cap, rfl, hlc, hcm⟩ := hS.form
  by_cases hl : l.length ≤ 16
  case neg =>
    go_enter Try.func11, Try.ntmps11
    go_wp2
    go_ret
    exact ⟨by simp [validS, hl], Below.refl _ _⟩
  have Hok := Lib.hid hok
  clear hok
  have hmm := @run_makeMap Try.prog
  go_enter Try.func11, Try.ntmps11
  go_wp2
  clear hmm
  go_loopw [2, 5, 12, 13, 14, 15, 16, 17, 18, 19, 20, 21, 22, 23, 24, 25, 26, 27, 28, 29, 30, 31, 32, 33, 34, 35, 36, 37, 38, 39, 40, 41, 42, 43, 44, 45, 46, 47, 48, 49, 50, 51, 52, 53, 54, 55, 56, 57, 58, 59, 60] (fun _ _ t12 _ _ _ _ _ _ _ _ _ _ _ _ _ _ _ _ _ _ _ _ _ _ _ _ _ _ _ _ _ _ _ _ _ _ _ _ _ _ _ _ _ _ _ _ _ _ _ _ wr => ∃ k : Nat, k ≤ l.length ∧ t12 = .int .i64 k ∧ ((l.take k).all okS = true ∧ ((l.take k).map nm).Nodup) ∧ SMap wr w.heap.size k (fun x => if x ∈ (l.take k).map nm then 1 else 0) ∧ Below w.heap.size w wr) (fun _ _ t12 _ _ _ _ _ _ _ _ _ _ _ _ _ _ _ _ _ _ _ _ _ _ _ _ _ _ _ _ _ _ _ _ _ _ _ _ _ _ _ _ _ _ _ _ _ _ _ _ _ => l.length - (intOf t12).toNat)
  case atStart => exact ⟨0, by omega, rfl, by simp, (SMap.made w).congr (by omega) (by simp), (Below.refl _ _).alloc (Nat.le_refl _) _⟩
  case round =>
    obtain ⟨k, hk, rfl, hgood, hM, hb⟩ := hrel
    by_cases hlt : k < l.length
    · obtain ⟨b, off, rfl, hbw, hc⟩ := hS.at hlt
      obtain ⟨c0, c1, c2, c3⟩ := hc k hlt
      rw [← hb.cell (by simpa using hbw)] at c0 c1 c2 c3
      have hbr : b < wr.heap.size := Nat.lt_of_lt_of_le hbw hb.size
      have hkey := (Hok.out l[k] (List.getElem_mem hlt)).1
      clear hc
      have Hgood := Lib.hid hgood
      clear hgood
      by_cases hin : nm l[k] ∈ (l.take k).map nm
      · have e1 : (if l[k].name.data.toList ∈ (l.take k).map nm then (1 : Int) else 0) = 1 := if_pos hin
        have H1 := Lib.hid e1
        have hin' := Lib.hid hin
        clear e1 hin
        go_wp2_with (first | (at_lookup; refine wpList_smap_lookup rfl _ _ rfl hM2 rfl _ rfl hkey ?_; intro hwf; rw [if_pos rfl]) | (at_lookup; refine wpList_smap_lookup rfl _ _ rfl (hM.alloc _) rfl _ rfl hkey ?_; intro hwf; rw [H1.out]) | (at_mapUpdate; refine wpList_smap_update rfl _ _ _ rfl (hM.alloc _) rfl _ 2 rfl rfl hkey (by decide) (by unfold maxLen; omega) ?_; intro w2 hM2 hg2; obtain ⟨n0, n1, n2, n3⟩ := sys_kept hg2 hM.lt))
        go_ret
        exact ⟨retb (valid_dup hlt hin'.out).symm, (hb.alloc hb.size _).grown hg2 (by simpa using Nat.le_succ_of_le hb.size) (by simp)⟩
      · have e1 : (if l[k].name.data.toList ∈ (l.take k).map nm then (1 : Int) else 0) = 0 := if_neg hin
        have H1 := Lib.hid e1
        have hin' := Lib.hid hin
        clear e1 hin
        have a1 := bits_andNot32 l[k].rd 2046#32
        have a2 := bits_andNot32 l[k].wr 1534#32
        have a3 := w32_ne (l[k].rd &&& ~~~2046#32)
        have a4 := w32_ne (l[k].wr &&& ~~~1534#32)
        have b1 : w32 2046#32 = 2046 := rfl
        have b2 : w32 1534#32 = 1534 := rfl
        rw [b1] at a1
        rw [b2] at a2
        clear b1 b2
        have Hs := Lib.hid hS
        clear hS
        go_wp2_with (first | (at_lookup; refine wpList_smap_lookup rfl _ _ rfl hM2 rfl _ rfl hkey ?_; intro hwf; rw [if_pos rfl]) | (at_lookup; refine wpList_smap_lookup rfl _ _ rfl (hM.alloc _) rfl _ rfl hkey ?_; intro hwf; rw [H1.out]) | (at_mapUpdate; refine wpList_smap_update rfl _ _ _ rfl (hM.alloc _) rfl _ 1 rfl rfl hkey (by decide) (by unfold maxLen; omega) ?_; intro w2 hM2 hg2; obtain ⟨n0, n1, n2, n3⟩ := sys_kept hg2 hM.lt))
        all_goals clear a1 a2 a3 a4
        case roundEnd =>
          have hT : okS l[k] = true := by
            have q3 : w32 (l[k].rd &&& 4294965249#32) = 0 := by assumption
            have q4 : w32 (l[k].wr &&& 4294965761#32) = 0 := by assumption
            have q5 : ((1 ≤ (l[k].name.size : Int) ∧ (l[k].name.size : Int) ≤ 24) ∧ 0 ≤ l[k].pg) ∧ l[k].pg < 16 := by assumption
            have r3 : l[k].rd &&& ~~~2046#32 = 0 := (w32_zero _).1 q3
            have r4 : l[k].wr &&& ~~~1534#32 = 0 := (w32_zero _).1 q4
            simp only [okS, r3, r4, Bool.and_eq_true, decide_eq_true_eq, beq_self_eq_true, true_and]
            omega
          go_roundw
          case rel =>
            refine ⟨k + 1, by omega, by go_num, good_step hlt Hgood.out hT hin'.out, hM2.congr (Nat.le_refl _) (fun x => ?_), (hb.alloc hb.size _).grown hg2 (by simpa using Nat.le_succ_of_le hb.size) (by simp)⟩
            have hx : x ∈ (l.take (k + 1)).map nm ↔ (x ∈ (l.take k).map nm ∨ x = l[k].name.data.toList) := by
              rw [List.take_succ_eq_append_getElem hlt, List.map_append, List.map_cons, List.map_nil, List.mem_append, List.mem_singleton]; rfl
            by_cases e : x = l[k].name.data.toList
            · rw [if_pos e, if_pos (hx.2 (.inr e))]
            · rw [if_neg e]
              by_cases e2 : x ∈ (l.take k).map nm
              · rw [if_pos e2, if_pos (hx.2 (.inl e2))]
              · rw [if_neg e2, if_neg (fun h => (hx.1 h).elim e2 e)]
          case measure => simp [intOf]; omega
        all_goals
          have hF : okS l[k] = false := by
            rw [← Bool.not_eq_true]
            intro hc
            simp only [okS, Bool.and_eq_true, decide_eq_true_eq, beq_iff_eq] at hc
            obtain ⟨q1, q2, q3, q4, q5, q6⟩ := hc
            have r3 : w32 (l[k].rd &&& 4294965249#32) = 0 := (w32_zero _).2 q3
            have r4 : w32 (l[k].wr &&& 4294965761#32) = 0 := (w32_zero _).2 q4
            first | contradiction | omega
          go_ret
          exact ⟨retb (valid_bad hlt hF).symm, (hb.alloc hb.size _).grown hg2 (by simpa using Nat.le_succ_of_le hb.size) (by simp)⟩
    · have e : k = l.length := by omega
      subst e
      rw [List.take_length] at hgood
      go_wp2
      go_ret
      exact ⟨by simp [validS, hl, hgood.2, hgood.1], hb⟩
end Go.Proofs.Ytbcfanfnnmijdaa
