/- The laws' own 'awake': the chapter's examples. -/
import Derived.Test.YtcichbdkdbnmiaaDoorPLexes
import Derived.Test.YtcichbdkdbnmiaaDoorPWord
import Derived.Test.YtcichbdkdbnmiaaDoorPPlace
import Derived.Test.YtcichbdkdbnmiaaDoorRWord
namespace Go.Proofs.YtcichbdkdbnmiaaDoor
open Go.RowKit

def aw1 : List UInt8 := [118, 101, 108, 91, 48, 93, 61, 45, 51, 59, 32, 35, 32, 102, 97, 115, 116]
def aw2 : List UInt8 := [97, 61, 32, 61, 98]
def aw3 : List UInt8 := [120, 32, 61, 32, 49, 121]
def aw4 : List UInt8 := [57, 50, 50, 51, 51, 55, 50, 48, 51, 54, 56, 53, 52, 55, 55, 53, 56, 48, 56]
def at1 : List Tok := [⟨1, [118, 101, 108], 0, 1, 1⟩, ⟨3, [91], 0, 1, 4⟩, ⟨2, [48], 0, 1, 5⟩, ⟨3, [93], 0, 1, 6⟩, ⟨3, [61], 0, 1, 7⟩, ⟨3, [45], 0, 1, 8⟩, ⟨2, [51], 3, 1, 9⟩, ⟨3, [59], 0, 1, 10⟩, ⟨4, [], 0, 1, 18⟩]
def at2 : List Tok := [⟨1, [97], 0, 1, 1⟩, ⟨3, [61], 0, 1, 2⟩, ⟨3, [61], 0, 1, 4⟩, ⟨1, [98], 0, 1, 5⟩, ⟨4, [], 0, 1, 6⟩]
theorem al1 : lexS aw1 = .ok at1 := by kernel_rfl
theorem al2 : lexS aw2 = .ok at2 := by kernel_rfl
theorem al3 : lexS aw3 = .err 1 5 112 := by kernel_rfl
theorem al4 : lexS aw4 = .err 1 1 112 := by kernel_rfl
theorem aplace : placeS2 [97, 10, 98] 3 = (2, 2) := by kernel_rfl
theorem ajoin : bstr (joinS at1) = { data := #[118, 101, 108, 32, 91, 32, 48, 32, 93, 32, 61, 32, 45, 32, 51, 32, 59] } := by kernel_rfl
theorem aword1 : wordS [118, 101, 108] = true := by kernel_rfl
theorem aword2 : wordS [51] = false := by kernel_rfl
theorem lexOk {bs : List UInt8} {ts : List Tok} (h : lexS bs = .ok ts) (w : World) (hG : Glob w) (hl : bs.length ≤ 9223372036854775807) :
    Calls Tryd.prog 22 #[.string (bstr bs)] w fun e w' => (∃ v, e = .returned (.tuple #[v, .int .i64 0, .int .i64 0, .int .i64 0]) ∧ Toks w' ts v) ∧ Below w.heap.size w w' := by
  have := lexV (bstr bs) w (by rw [← str_len, bstr_data]; omega) hG
  rw [bstr_data, h] at this
  exact this
theorem lexNo {bs : List UInt8} {a b c : Int} (h : lexS bs = .err a b c) (w : World) (hG : Glob w) (hl : bs.length ≤ 9223372036854775807) :
    Calls Tryd.prog 22 #[.string (bstr bs)] w fun e w' => (∃ v, e = .returned (.tuple #[v, .int .i64 a, .int .i64 b, .int .i64 c]) ∧ Toks w' [] v) ∧ Below w.heap.size w w' := by
  have := lexV (bstr bs) w (by rw [← str_len, bstr_data]; omega) hG
  rw [bstr_data, h] at this
  exact this
theorem bstr_of (s : ByteArray) : bstr s.data.toList = s := by cases s; unfold bstr; simp
theorem lexOk' {s : ByteArray} {ts : List Tok} (h : lexS s.data.toList = .ok ts) (w : World) (hG : Glob w) (hl : s.size ≤ 9223372036854775807) :
    Calls Tryd.prog 22 #[.string s] w fun e w' => (∃ v, e = .returned (.tuple #[v, .int .i64 0, .int .i64 0, .int .i64 0]) ∧ Toks w' ts v) ∧ Below w.heap.size w w' := by
  have := lexOk h w hG (by rw [str_len]; exact hl)
  rw [bstr_of] at this
  exact this
theorem lexNo' {s : ByteArray} {a b c : Int} (h : lexS s.data.toList = .err a b c) (w : World) (hG : Glob w) (hl : s.size ≤ 9223372036854775807) :
    Calls Tryd.prog 22 #[.string s] w fun e w' => (∃ v, e = .returned (.tuple #[v, .int .i64 a, .int .i64 b, .int .i64 c]) ∧ Toks w' [] v) ∧ Below w.heap.size w w' := by
  have := lexNo h w hG (by rw [str_len]; exact hl)
  rw [bstr_of] at this
  exact this
theorem Glob.next {w w' : World} (h : Glob w) (hb : Below w.heap.size w w') : Glob w' := h.below hb h.size
set_option maxRecDepth 100000 in
set_option maxHeartbeats 1000000 in
theorem awake_any (w : World) (hG : Glob w) :
    Calls Tryd.prog 14 #[] w fun e w' => e = .returned (.bool true) ∧ Below w.heap.size w w' := by
  have HG := Lib.hid hG
  have H1 : Hid (∀ w : World, Glob w → Calls Tryd.prog 22 #[.string { data := #[118, 101, 108, 91, 48, 93, 61, 45, 51, 59, 32, 35, 32, 102, 97, 115, 116] }] w _) := Lib.hid (fun (w : World) (h : Glob w) => lexOk al1 w h (by decide))
  have H2 : Hid (∀ w : World, Glob w → Calls Tryd.prog 22 #[.string { data := #[97, 61, 32, 61, 98] }] w _) := Lib.hid (fun (w : World) (h : Glob w) => lexOk al2 w h (by decide))
  have H3 : Hid (∀ w : World, Glob w → Calls Tryd.prog 22 #[.string { data := #[120, 32, 61, 32, 49, 121] }] w _) := Lib.hid (fun (w : World) (h : Glob w) => lexNo al3 w h (by decide))
  have H4 : Hid (∀ w : World, Glob w → Calls Tryd.prog 22 #[.string { data := #[57, 50, 50, 51, 51, 55, 50, 48, 51, 54, 56, 53, 52, 55, 55, 53, 56, 48, 56] }] w _) := Lib.hid (fun (w : World) (h : Glob w) => lexNo al4 w h (by decide))
  have H5 : Hid (∀ w : World, Calls Tryd.prog 15 #[.string { data := #[97, 10, 98] }, .int .i64 3] w fun e w' => e = .returned (.tuple #[.int .i64 2, .int .i64 2]) ∧ Below w.heap.size w w') := Lib.hid (fun (w : World) => (place_any (bstr [97, 10, 98]) 3 w (by decide)).mono fun e w' h => by rw [bstr_data, aplace] at h; exact h)
  have H6 : Hid (∀ w : World, Calls Tryd.prog 17 #[.string { data := #[118, 101, 108] }] w fun e w' => e = .returned (.bool true) ∧ w = w') := Lib.hid (fun (w : World) => (pword_any (bstr [118, 101, 108]) w).mono fun e w' h => by rw [bstr_data, aword1] at h; exact h)
  have H7 : Hid (∀ w : World, Calls Tryd.prog 17 #[.string { data := #[51] }] w fun e w' => e = .returned (.bool false) ∧ w = w') := Lib.hid (fun (w : World) => (pword_any (bstr [51]) w).mono fun e w' h => by rw [bstr_data, aword2] at h; exact h)
  clear hG
  go_enter Tryd.func14, Tryd.ntmps14
  go_wp2_with fail
  go_at_call 22
  refine (H1.out w HG.out).mono ?_
  rintro e1 w1 ⟨⟨v1, rfl, hT1⟩, hb1⟩
  obtain ⟨a1, cap1, h9, hc1, hc2⟩ := Sl.form hT1
  rw [show at1.length = 9 from rfl] at h9 hc1
  subst h9
  have HT1 := Lib.hid hT1
  have HG1 := Lib.hid (HG.out.next hb1)
  have Hb1 := Lib.hid hb1
  clear hT1 hb1 H1
  go_wp2_with fail
  go_at_call 22
  refine (H2.out w1 HG1.out).mono ?_
  rintro e2 w2 ⟨⟨v2, rfl, hT2⟩, hb2⟩
  obtain ⟨a2, cap2, h9, hc3, hc4⟩ := Sl.form hT2
  rw [show at2.length = 5 from rfl] at h9 hc3
  subst h9
  have HT1 := Lib.hid (HT1.out.below hb2)
  have HG2 := Lib.hid (HG1.out.next hb2)
  have Hb2 := Lib.hid (Hb1.out.trans (hb2.mono Hb1.out.size))
  clear hT2 hb2 H2 Hb1 HG1
  go_wp2_with fail
  go_at_call 22
  refine (H3.out w2 HG2.out).mono ?_
  rintro e3 w3 ⟨⟨v3, rfl, -⟩, hb3⟩
  have HT1 := Lib.hid (HT1.out.below hb3)
  have HG3 := Lib.hid (HG2.out.next hb3)
  have Hb3 := Lib.hid (Hb2.out.trans (hb3.mono Hb2.out.size))
  clear hb3 H3 Hb2 HG2
  go_wp2_with fail
  go_at_call 22
  refine (H4.out w3 HG3.out).mono ?_
  rintro e4 w4 ⟨⟨v4, rfl, -⟩, hb4⟩
  have HT1 := Lib.hid (HT1.out.below hb4)
  have Hb4 := Lib.hid (Hb3.out.trans (hb4.mono Hb3.out.size))
  clear hb4 H4 Hb3 HG3
  go_wp2_with fail
  go_at_call 15
  refine (H5.out w4).mono ?_
  rintro e5 w5 ⟨rfl, hb5⟩
  have HT1 := Lib.hid (HT1.out.below hb5)
  have Hb5 := Lib.hid (Hb4.out.trans (hb5.mono Hb4.out.size))
  clear hb5 H5 Hb4
  obtain ⟨b, off, rfl, d0, d1, d2, d3, d4⟩ := tok_cells HT1.out (i := 6) (by decide)
  obtain ⟨b', off', h8, f0, f1, f2, f3, f4⟩ := tok_cells HT1.out (i := 8) (by decide)
  cases h8
  simp only [show tokAt at1 6 = ⟨2, [51], 3, 1, 9⟩ from rfl, show tokAt at1 8 = ⟨4, [], 0, 1, 18⟩ from rfl, show bstr [51] = { data := #[51] } from rfl, show bstr [] = { data := #[] } from rfl] at d0 d1 d2 d3 d4 f0 f1 f2 f3 f4
  have HJ : Hid (Calls Tryd.prog 19 #[.slice (some ⟨b, off, none⟩) 9 cap1] w5 fun e w' => e = .returned (.string { data := #[118, 101, 108, 32, 91, 32, 48, 32, 93, 32, 61, 32, 45, 32, 51, 32, 59] }) ∧ Below w5.heap.size w5 w') := Lib.hid (by
    have := join_any at1 _ w5 HT1.out (by decide) (by decide +kernel)
    rw [ajoin] at this
    exact this)
  go_wp2_with fail
  go_at_call 19
  refine HJ.out.mono ?_
  rintro e6 w6 ⟨rfl, hb6⟩
  have Hb6 := Lib.hid (Hb5.out.trans (hb6.mono Hb5.out.size))
  clear hb6
  go_wp2_with fail
  go_at_call 17
  refine (H6.out w6).mono ?_
  rintro e7 w7 ⟨rfl, rfl⟩
  go_wp2_with fail
  go_at_call 17
  refine (H7.out w6).mono ?_
  rintro e8 w8 ⟨rfl, rfl⟩
  go_wp2_with fail
  go_ret
  exact ⟨rfl, Hb6.out⟩
end Go.Proofs.YtcichbdkdbnmiaaDoor
