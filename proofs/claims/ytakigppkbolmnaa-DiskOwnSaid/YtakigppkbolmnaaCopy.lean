/- The reference's Copy. -/
import Derived.Test.YtakigppkbolmnaaLib
namespace Go.Num
open Go.Abs Go.Proofs Go.Shelf

variable (D : Dom)

def copyD : FnD D
  | [.one (.words .u8 l)] => some (.v (.one (.fresh 0 5 .u8 l)), [l.length ≤ 281474976710656])
  | _ => none

def copySn (l m : List Int) (k : Int) : Sn D.τ where
  slots := [(0, .v (.one (.words .u8 l))), (3, .v (.one (.own 0))), (9, .v (.one (.int .i64 false l.length))), (10, .v (.one (.int .i64 false k)))]
  boxes := [(0, .dyn 5 (.ints .u8 m))]
  nt := 22

theorem copy_round (l m : List Int) (k : Nat) : stepPs Try.prog D [] 100 (bodyOf Try.f11) 100 (copySn D l m k).st [.is true] .normal (copySn D l (m.set k (l.getD k 0)) ((k : Int) + 1)) =
    some [decide ((k : Int) < l.length) = true, 0 ≤ (k : Int), (k : Int) < l.length, 0 ≤ (k : Int), (k : Int) < m.length, k < m.length, some 1 = some 1, InI64 (k + 1), l = l, (l.length : Int) = l.length, (k : Int) + 1 = k + 1, m.set k (l.getD k 0) = m.set k (l.getD k 0)] := by kernel_rfl

theorem copy_exit (l m : List Int) (k : Nat) : stepPs Try.prog D [] 100 (bodyOf Try.f11) 100 (copySn D l m k).st [.is false] (.exit 0) (copySn D l m k) =
    some [decide ((k : Int) < l.length) = false, l = l, (l.length : Int) = l.length, (k : Int) = k, m = m] := by kernel_rfl

theorem copy_run (l m n : List Int) (b : Int) : runF Try.prog D [] 100 Try.f11 [.one (.words .u8 l)] [.loop (loopL D (copySn D l n 0) (.exit 0) (copySn D l m b))] =
    some (.v (.one (.fresh 0 5 .u8 m)), [0 ≤ (l.length : Int), (l.length : Int) ≤ l.length, (l.length : Int) ≤ 9223372036854775807, (1 : Nat) * (l.length : Int) ≤ 281474976710656, SumOK Try.prog D (bodyOf Try.f11) (loopL D (copySn D l n 0) (.exit 0) (copySn D l m b)), l = l, (l.length : Int) = l.length, (0 : Int) = 0, List.replicate l.length 0 = n]) := by kernel_rfl

/-- What is copied behind k rounds. -/
def part1 (l : List Int) (k : Nat) : List Int := l.take k ++ List.replicate (l.length - k) 0

theorem part1_succ {l : List Int} {k : Nat} (h : k < l.length) : (part1 l k).set k (l.getD k 0) = part1 l (k + 1) := by
  have h1 : (l.take k).length = k := by simp; omega
  have h2 : l.length - k = (l.length - (k + 1)) + 1 := by omega
  unfold part1
  rw [h2, List.replicate_succ, List.set_append_right _ _ (by omega), h1, Nat.sub_self, List.set_cons_zero, List.take_succ_eq_append_getElem h, List.append_assoc]
  simp [List.getD_eq_getElem?_getD, List.getElem?_eq_getElem h]

theorem part1_len {l : List Int} {k : Nat} (h : k ≤ l.length) : (part1 l k).length = l.length := by
  unfold part1
  simp
  omega

theorem copy_loop {l : List Int} (h : l.length ≤ 281474976710656) : SumOK Try.prog D (bodyOf Try.f11) (loopL D (copySn D l (part1 l 0) (0 : Nat)) (.exit 0) (copySn D l (part1 l l.length) l.length)) := by
  refine sum_loop gam_nil mixed (fun k => copySn D l (part1 l k) k) l.length rfl (fun k hk => ?_) ?_
  · refine ⟨100, 100, [.is true], _, by rw [← part1_succ hk]; exact copy_round D l (part1 l k) k, ?_⟩
    have := part1_len (l := l) (k := k) (by omega)
    exact AllP.all ⟨decide_eq_true (by omega), by omega, by omega, by omega, by omega, by omega, rfl, ⟨by omega, by omega⟩, rfl, rfl, rfl, rfl⟩
  · refine ⟨100, 100, [.is false], _, copy_exit D l (part1 l l.length) l.length, ?_⟩
    exact AllP.all ⟨decide_eq_false (by omega), rfl, rfl, rfl, rfl⟩

theorem copy_ok : FnOK Try.prog D 11 (copyD D) := by
  refine fnOK_of gam_nil mixed Try.func11 (enters_of Try.func11 (by kernel_rfl) rfl) ?_
  intro xs r ps h hps
  unfold copyD at h
  split at h
  · rename_i l
    simp only [Option.some.injEq, Prod.mk.injEq] at h
    obtain ⟨rfl, rfl⟩ := h
    have hl : l.length ≤ 281474976710656 := hps _ (by simp)
    refine ⟨_, 100, _, _, _, fun w vs h => h, copy_run D l (part1 l l.length) (part1 l 0) l.length, ?_, fun E v hv => ?_⟩
    · exact AllP.all ⟨by omega, by omega, by omega, by omega, copy_loop D hl, rfl, rfl, rfl, by show List.replicate l.length 0 = part1 l 0; simp [part1]⟩
    · have e : part1 l l.length = l := by simp [part1]
      rw [e] at hv
      exact hv
  · cases h

end Go.Num
