/- The walks over the two functions that tell which names are names. -/
import Derived.Test.YtbmjpcpmejibjaaRows
import Derived.WalkKit
import Derived.WalkSpells
import Derived.WalkLawsBesides
import Derived.Lib.Hide
namespace Go.Proofs.Ytbmjpcpmejibjaa
open Go.RowKit

def okc (c : UInt8) : Bool := (97 ≤ c && c ≤ 122) || (48 ≤ c && c ≤ 57) || c == 45
def rightB (l : List UInt8) : Bool := decide (1 ≤ l.length) && decide (l.length ≤ 24) && l.all okc

theorem okc_iff (c : UInt8) : okc c = true ↔ (97 ≤ (c.toNat : Int) ∧ (c.toNat : Int) ≤ 122) ∨ (48 ≤ (c.toNat : Int) ∧ (c.toNat : Int) ≤ 57) ∨ (c.toNat : Int) = 45 := by
  unfold okc
  simp [UInt8.le_iff_toNat_le, ← UInt8.toNat_inj]
  omega
theorem take_snoc (s : ByteArray) (k : Nat) (h : k < s.size) : s.data.toList.take (k + 1) = s.data.toList.take k ++ [s[k]] := by
  rw [List.take_succ_eq_append_getElem (by simpa using h)]; rfl
theorem all_false (s : ByteArray) (k : Nat) (h : k < s.size) (hc : ¬ okc s[k] = true) : s.data.toList.all okc = false := by
  rw [← Bool.not_eq_true, List.all_eq_true]
  intro hall
  exact hc (hall _ (by rw [Array.mem_toList_iff]; exact Array.getElem_mem (by simpa using h)))

set_option maxHeartbeats 400000 in
theorem right_any (s : ByteArray) (w : World) (hs : s.size ≤ maxLen) :
    Calls Try.prog 8 #[.string s] w fun e w' => e = .returned (.bool (rightB s.data.toList)) ∧ w' = w := by
  unfold maxLen at hs
  by_cases h1 : s.size < 1
  · go_enter Try.func8, Try.ntmps8
    go_wp2
    go_ret
    exact ⟨by simp [rightB]; omega, rfl⟩
  by_cases h2 : 24 < s.size
  · go_enter Try.func8, Try.ntmps8
    go_wp2
    go_ret
    exact ⟨by simp [rightB]; omega, rfl⟩
  go_enter Try.func8, Try.ntmps8
  go_wp2
  go_loop [15] (fun i => ∃ k : Nat, k ≤ s.size ∧ i = .int .i64 k ∧ (s.data.toList.take k).all okc = true) (fun i => s.size - (intOf i).toNat)
  case atStart => exact ⟨0, Nat.zero_le _, rfl, rfl⟩
  case round =>
    obtain ⟨k, hk, rfl, hr⟩ := hrel
    by_cases hlt : k < s.size
    · go_wp2
      all_goals first
        | (go_ret; exact ⟨by rw [rightB, all_false s k hlt (fun h => by have := (okc_iff _).1 h; simp_all; omega)]; simp, rfl⟩)
        | skip
      all_goals
        go_round
        case rel => exact ⟨k + 1, by omega, by go_num, by rw [take_snoc s k hlt, List.all_append, hr]; simp; exact (okc_iff _).2 (by clear hr; simp_all; try omega)⟩
        case measure => simp [intOf]; omega
    · go_wp2
      go_ret
      obtain rfl : k = s.size := by omega
      exact ⟨by rw [rightB]; rw [List.take_of_length_le (by simp)] at hr; simp [hr]; omega, rfl⟩

set_option maxHeartbeats 400000 in
theorem refRight_any (s : ByteArray) (w : World) (hs : s.size ≤ maxLen) :
    Calls Try.prog 9 #[.string s] w fun e w' => e = .returned (.bool (rightB s.data.toList)) ∧ w' = w := by
  unfold maxLen at hs
  go_enter Try.func9, Try.ntmps9
  go_wp2
  go_loop [3] (fun i => ∃ k : Nat, k ≤ s.size ∧ i = .int .i64 k ∧ (s.data.toList.take k).all okc = true) (fun i => s.size - (intOf i).toNat)
  case atStart => exact ⟨0, Nat.zero_le _, rfl, rfl⟩
  case round =>
    obtain ⟨k, hk, rfl, hr⟩ := hrel
    by_cases hlt : k < s.size
    · go_wp2
      all_goals first
        | (go_ret; exact ⟨by rw [rightB, all_false s k hlt (fun h => by have := (okc_iff _).1 h; simp_all; omega)]; simp, rfl⟩)
        | skip
      all_goals
        go_round
        case rel => exact ⟨k + 1, by omega, by go_num, by rw [take_snoc s k hlt, List.all_append, hr]; simp; exact (okc_iff _).2 (by clear hr; simp_all; try omega)⟩
        case measure => simp [intOf]; omega
    · obtain rfl : k = s.size := by omega
      rw [List.take_of_length_le (by simp)] at hr
      have H := Lib.hid hr
      clear hr
      by_cases h0 : 0 < s.size
      · go_wp2
        go_ret
        refine ⟨congrArg (fun b => Ending.returned (Value.bool b)) ?_, rfl⟩
        rw [rightB, H.out, Bool.eq_iff_iff]
        simp
        omega
      · go_wp2
        go_ret
        exact ⟨by simp [rightB, H.out]; omega, rfl⟩

theorem rightB_wal : rightB [119, 97, 108, 45, 48, 48, 48, 48, 48, 49] = true := by decide
end Go.Proofs.Ytbmjpcpmejibjaa
