/- Go's own sums, differences and products of words, in this program. -/
import Derived.Test.YtbgcfmmkbocpoaaDom
import Derived.Test.YtbgcfmmkbocpoaaLib
import Derived.Laws.Externs
import Derived.Shelf.Spec.BitsCarry
import Derived.Shelf.Bits.Mul64
namespace Go.Num
open Go.Abs Go.Proofs Go.Shelf

theorem ok_value {P : Program} {D : Dom} {f : FuncId} {vs : List Value} {w : World} {r : AV D.τ} {v : Value} (h : (callFunc f vs.toArray).run P w = .ok (.value v) w) (hv : AVRel D (renv w w fun _ => undef) r v) : CallTo P D f vs w r :=
  ⟨_, h, fun _ => undef, fun _ _ _ _ h => by simp [undef, Value.ownBlock] at h, hv⟩

theorem ints3 {D : Dom} {E : Env} {k l m : IntKind} {x y z : Bool} {a b c : Int} {vs : List Value} (h : A0sRel D E [.one (.int k x a), .one (.int l y b), .one (.int m z c)] vs) : vs = [.int k a, .int l b, .int m c] := by
  obtain ⟨v1, u1, rfl, ⟨_, h1⟩, v2, u2, rfl, ⟨_, h2⟩, v3, u3, rfl, ⟨_, h3⟩, h4⟩ := h
  simp only [PartRel, List.cons.injEq, and_true] at h1 h2 h3
  cases h4
  rw [h1, h2, h3]

theorem ints2 {D : Dom} {E : Env} {k l : IntKind} {x y : Bool} {a b : Int} {vs : List Value} (h : A0sRel D E [.one (.int k x a), .one (.int l y b)] vs) : vs = [.int k a, .int l b] := by
  obtain ⟨v1, u1, rfl, ⟨_, h1⟩, v2, u2, rfl, ⟨_, h2⟩, h4⟩ := h
  simp only [PartRel, List.cons.injEq, and_true] at h1 h2
  cases h4
  rw [h1, h2]

theorem add64_ok (D : Dom) : FnOK Try.prog D 84 (add64D D) := by
  intro xs r ps h hps w vs hx
  unfold add64D at h
  split at h
  · rename_i _ a _ b _ c
    simp only [Option.some.injEq, Prod.mk.injEq] at h
    obtain ⟨rfl, rfl⟩ := h
    have ha : Rng a := hps _ (by simp)
    have hb : Rng b := hps _ (by simp)
    have hc : Bit c := hps _ (by simp)
    rw [ints3 hx]
    refine ok_value ?_ (tup2_rel D)
    show (callFunc 84 #[.int .u64 a, .int .u64 b, .int .u64 c]).run Try.prog w = _
    rw [run_callFunc_extern Try.func84 (by kernel_rfl) (by kernel_rfl) (by kernel_rfl) (e := add64Entry) (by kernel_rfl), run_add64 a b c ha.1 hb.1 hc.1 hc.2]
    rfl
  · cases h

theorem sub64_ok (D : Dom) : FnOK Try.prog D 85 (sub64D D) := by
  intro xs r ps h hps w vs hx
  unfold sub64D at h
  split at h
  · rename_i _ a _ b _ c
    simp only [Option.some.injEq, Prod.mk.injEq] at h
    obtain ⟨rfl, rfl⟩ := h
    have ha : Rng a := hps _ (by simp)
    have hb : Rng b := hps _ (by simp)
    have hc : Bit c := hps _ (by simp)
    rw [ints3 hx]
    refine ok_value ?_ (tup2_rel D)
    show (callFunc 85 #[.int .u64 a, .int .u64 b, .int .u64 c]).run Try.prog w = _
    obtain ⟨a, rfl⟩ := Int.eq_ofNat_of_zero_le ha.1
    obtain ⟨b, rfl⟩ := Int.eq_ofNat_of_zero_le hb.1
    obtain ⟨c, rfl⟩ := Int.eq_ofNat_of_zero_le hc.1
    have hc1 : c ≤ 1 := by have := hc.2; omega
    have ha1 : a < 18446744073709551616 := by have := ha.2; unfold B at this; omega
    have hb1 : b < 18446744073709551616 := by have := hb.2; unfold B at this; omega
    rw [run_callFunc_extern Try.func85 (by kernel_rfl) (by kernel_rfl) (by kernel_rfl) (e := sub64Entry) (by kernel_rfl), run_sub64 a b c hc1]
    have e1 : (((a + 18446744073709551616 - b - c) % 18446744073709551616 : Nat) : Int) = ((a : Int) + 18446744073709551616 - b - c) % 18446744073709551616 := by omega
    have e2 : ((if a < b + c then 1 else 0 : Nat) : Int) = if (a : Int) < b + c then 1 else 0 := by split <;> split <;> omega
    rw [e1, e2]
    rfl
  · cases h

def mulRen : Go.Shelf.Ren := ⟨fun n => if n = 264 then 83 else 0, fun n => if n = 46 then 45 else 31, fun n => n⟩

theorem mulLays : Lays.n264 Try.prog mulRen where
  mixed := by kernel_rfl
  f264 := Try.func83
  t46 := by kernel_rfl
  a46 := fun w => by kernel_rfl
  z46 := fun w => by kernel_rfl
  v46 := fun w => by kernel_rfl
  t53 := by kernel_rfl
  a53 := fun w => by kernel_rfl
  z53 := fun w => by kernel_rfl
  v53 := fun w => by kernel_rfl

theorem mul64_ok (D : Dom) : FnOK Try.prog D 83 (mul64D D) := by
  intro xs r ps h hps w vs hx
  unfold mul64D at h
  split at h
  · rename_i _ a _ b
    simp only [Option.some.injEq, Prod.mk.injEq] at h
    obtain ⟨rfl, rfl⟩ := h
    have ha : Rng a := hps _ (by simp)
    have hb : Rng b := hps _ (by simp)
    rw [ints2 hx]
    obtain ⟨a, rfl⟩ := Int.eq_ofNat_of_zero_le ha.1
    obtain ⟨b, rfl⟩ := Int.eq_ofNat_of_zero_le hb.1
    have ha1 : a < 18446744073709551616 := by have := ha.2; unfold B at this; omega
    have hb1 : b < 18446744073709551616 := by have := hb.2; unfold B at this; omega
    refine ⟨_, enters_of Try.func83 (by kernel_rfl) rfl _ w, ?_⟩
    refine (Any.bits_Mul64 mulLays a b ha1 hb1 w).mono ?_
    rintro e w' ⟨he, rfl⟩
    refine ⟨_, he, ⟨fun _ => undef, fun _ _ _ _ h => by simp [undef, Value.ownBlock] at h, ?_⟩, ⟨rfl, rfl, rfl, Nat.le_refl _, fun _ _ => rfl⟩⟩
    rw [show ((a * b / 18446744073709551616 : Nat) : Int) = (a : Int) * b / B from by unfold B; omega, show ((a * b % 18446744073709551616 : Nat) : Int) = (a : Int) * b % B from by unfold B; omega]
    exact tup2_rel D
  · cases h

end Go.Num
