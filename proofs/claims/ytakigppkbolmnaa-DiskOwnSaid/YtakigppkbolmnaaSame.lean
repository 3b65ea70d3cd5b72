/- The reference's Same. -/
import Derived.Test.YtakigppkbolmnaaCopy
namespace Go.Num
open Go.Abs Go.Proofs Go.Shelf

variable (D : Dom)

def sameD : FnD D
  | [.one (.words .u8 l), .one (.words .u8 m)] => some (.v (.one (.bool false (decide (l = m)))), [l.length ≤ 9223372036854775807, m.length ≤ 9223372036854775807])
  | _ => none

def sameSn (l m : List Int) (k : Int) : Sn D.τ where
  slots := [(0, .v (.one (.words .u8 l))), (1, .v (.one (.words .u8 m))), (12, .v (.one (.int .i64 false l.length))), (13, .v (.one (.int .i64 false k)))]
  boxes := []
  nt := 26

def sameEnd (b : Bool) : Sn D.τ where
  slots := [(4, .v (.one (.bool true b)))]
  boxes := []
  nt := 26

theorem same_round (l m : List Int) (k : Nat) : stepPs Try.prog D [] 100 (bodyOf Try.f16) 100 (sameSn D l m k).st [.is true, .is false] .normal (sameSn D l m ((k : Int) + 1)) =
    some [decide ((k : Int) < l.length) = true, 0 ≤ (k : Int), (k : Int) < l.length, 0 ≤ (k : Int), (k : Int) < m.length, (l.getD k 0 != m.getD k 0) = false, InI64 (k + 1), l = l, m = m, (l.length : Int) = l.length, (k : Int) + 1 = k + 1] := by kernel_rfl

theorem same_differ (l m : List Int) (k : Nat) : stepPs Try.prog D [] 100 (bodyOf Try.f16) 100 (sameSn D l m k).st [.is true, .is true] .ret (sameEnd D false) =
    some [decide ((k : Int) < l.length) = true, 0 ≤ (k : Int), (k : Int) < l.length, 0 ≤ (k : Int), (k : Int) < m.length, (l.getD k 0 != m.getD k 0) = true] := by kernel_rfl

theorem same_exit (l m : List Int) (k : Nat) : stepPs Try.prog D [] 100 (bodyOf Try.f16) 100 (sameSn D l m k).st [.is false] (.exit 0) (sameSn D l m k) =
    some [decide ((k : Int) < l.length) = false, l = l, m = m, (l.length : Int) = l.length, (k : Int) = k] := by kernel_rfl

theorem same_long (l m : List Int) : runF Try.prog D [] 100 Try.f16 [.one (.words .u8 l), .one (.words .u8 m)] [.is true] = some (.v (.one (.bool true false)), [((l.length : Int) != m.length) = true]) := by kernel_rfl

theorem same_no (l m : List Int) : runF Try.prog D [] 100 Try.f16 [.one (.words .u8 l), .one (.words .u8 m)] [.is false, .loop (loopL D (sameSn D l m (0 : Nat)) .ret (sameEnd D false))] =
    some (.v (.one (.bool true false)), [((l.length : Int) != m.length) = false, SumOK Try.prog D (bodyOf Try.f16) (loopL D (sameSn D l m (0 : Nat)) .ret (sameEnd D false)), l = l, m = m, (l.length : Int) = l.length, (0 : Int) = 0]) := by kernel_rfl

theorem same_yes (l m : List Int) (k : Int) : runF Try.prog D [] 100 Try.f16 [.one (.words .u8 l), .one (.words .u8 m)] [.is false, .loop (loopL D (sameSn D l m (0 : Nat)) (.exit 0) (sameSn D l m k))] =
    some (.v (.one (.bool true true)), [((l.length : Int) != m.length) = false, SumOK Try.prog D (bodyOf Try.f16) (loopL D (sameSn D l m (0 : Nat)) (.exit 0) (sameSn D l m k)), l = l, m = m, (l.length : Int) = l.length, (0 : Int) = 0]) := by kernel_rfl

theorem first_differ : ∀ {l m : List Int}, l.length = m.length → l ≠ m → ∃ k, k < l.length ∧ l.getD k 0 ≠ m.getD k 0 ∧ ∀ j, j < k → l.getD j 0 = m.getD j 0
  | [], [], _, h => (h rfl).elim
  | a :: l, b :: m, hl, h => by
    by_cases hab : a = b
    · subst hab
      obtain ⟨k, h1, h2, h3⟩ := first_differ (l := l) (m := m) (by simpa using hl) (fun e => h (by rw [e]))
      refine ⟨k + 1, by simp; omega, by simpa using h2, fun j hj => ?_⟩
      cases j with
      | zero => rfl
      | succ j => simpa using h3 j (by omega)
    · exact ⟨0, by simp, by simpa using hab, fun j hj => by omega⟩

theorem same_ok : FnOK Try.prog D 16 (sameD D) := by
  refine fnOK_of gam_nil mixed Try.func16 (enters_of Try.func16 (by kernel_rfl) rfl) ?_
  intro xs r ps h hps
  unfold sameD at h
  split at h
  · rename_i l m
    simp only [Option.some.injEq, Prod.mk.injEq] at h
    obtain ⟨rfl, rfl⟩ := h
    have hl : l.length ≤ 9223372036854775807 := hps _ (by simp)
    have step : ∀ k, k < l.length → l.length = m.length → l.getD k 0 = m.getD k 0 → ∃ fuel nid ds ps, stepPs Try.prog D [] fuel (bodyOf Try.f16) nid (sameSn D l m k).st ds .normal (sameSn D l m ((k : Int) + 1)) = some ps ∧ AllQ ps := by
      intro k hk hlm he
      exact ⟨100, 100, _, _, same_round D l m k, AllP.all ⟨decide_eq_true (by omega), by omega, by omega, by omega, by omega, by rw [he]; simp, ⟨by omega, by omega⟩, rfl, rfl, rfl, rfl⟩⟩
    by_cases hlm : l.length = m.length
    · have hne : ((l.length : Int) != m.length) = false := by rw [hlm]; simp
      by_cases he : l = m
      · subst he
        refine ⟨_, 100, _, _, _, fun w vs h => h, same_yes D l l l.length, AllP.all ⟨hne, ?_, rfl, rfl, rfl, rfl⟩, fun E v hv => by rw [decide_eq_true rfl]; exact hv⟩
        refine sum_loop gam_nil mixed (fun k => sameSn D l l k) l.length rfl (fun k hk => step k hk rfl rfl) ?_
        exact ⟨100, 100, _, _, same_exit D l l l.length, AllP.all ⟨decide_eq_false (by omega), rfl, rfl, rfl, rfl⟩⟩
      · obtain ⟨n, hn, hd, hb⟩ := first_differ hlm he
        refine ⟨_, 100, _, _, _, fun w vs h => h, same_no D l m, AllP.all ⟨hne, ?_, rfl, rfl, rfl, rfl⟩, fun E v hv => by rw [decide_eq_false he]; exact hv⟩
        refine sum_loop gam_nil mixed (fun k => sameSn D l m k) n rfl (fun k hk => step k (by omega) hlm (hb k hk)) ?_
        exact ⟨100, 100, _, _, same_differ D l m n, AllP.all ⟨decide_eq_true (by omega), by omega, by omega, by omega, by omega, by show (l.getD n 0 != m.getD n 0) = true; exact bne_iff_ne.2 hd⟩⟩
    · refine ⟨_, 100, _, _, _, fun w vs h => h, same_long D l m, AllP.all ?_, fun E v hv => by rw [decide_eq_false (fun e => hlm (by rw [e]))]; exact hv⟩
      show ((l.length : Int) != m.length) = true
      rw [bne_iff_ne]
      omega
  · cases h

end Go.Num
