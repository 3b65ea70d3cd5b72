/- FrCounts: small numbers are reckoned with as they are. -/
import Derived.Test.YtkmdaempfeocdaaLawB
namespace Go.Num
open Go.Abs Go.Proofs Go.Shelf Go.Alg

theorem counts_eq_r (a b : Int) : runF Try.prog FD gamZ 200 Try.f3 [.one (.int .u32 false a), .one (.int .u32 false b)] [.is false, .is false, .is true, .is true, .is true, .is true] =
    some ((Go.Abs.AV.v (Go.Abs.A0.one (Go.Abs.Part.bool Bool.true Bool.true))), [(Go.Num.Rng (Go.IntKind.wrap Go.IntKind.u64 a)), (Go.Num.Rng (Go.IntKind.wrap Go.IntKind.u64 b)), (Go.Num.Rng (Go.IntKind.wrap Go.IntKind.u64 ((Go.IntKind.wrap Go.IntKind.u64 a) + (Go.IntKind.wrap Go.IntKind.u64 b)))), ((!(decide ((((Go.IntKind.wrap Go.IntKind.u64 a) + (Go.IntKind.wrap Go.IntKind.u64 b)) % (Go.Num.Fld.m Go.Num.fld)) = ((Go.IntKind.wrap Go.IntKind.u64 ((Go.IntKind.wrap Go.IntKind.u64 a) + (Go.IntKind.wrap Go.IntKind.u64 b))) % (Go.Num.Fld.m Go.Num.fld))))) = Bool.false), (Go.Abs.EqT Go.Proofs.Try.prog (27 : Nat)), (Go.Num.Rng (Go.IntKind.wrap Go.IntKind.u64 ((Go.IntKind.wrap Go.IntKind.u64 a) * (Go.IntKind.wrap Go.IntKind.u64 b)))), ((!(decide ((((Go.IntKind.wrap Go.IntKind.u64 a) * (Go.IntKind.wrap Go.IntKind.u64 b)) % (Go.Num.Fld.m Go.Num.fld)) = ((Go.IntKind.wrap Go.IntKind.u64 ((Go.IntKind.wrap Go.IntKind.u64 a) * (Go.IntKind.wrap Go.IntKind.u64 b))) % (Go.Num.Fld.m Go.Num.fld))))) = Bool.false), (Go.Abs.EqT Go.Proofs.Try.prog (27 : Nat)), ((decide (((Go.IntKind.wrap Go.IntKind.u64 a) % (Go.Num.Fld.m Go.Num.fld)) = ((Go.IntKind.wrap Go.IntKind.u64 b) % (Go.Num.Fld.m Go.Num.fld)))) = Bool.true), (Go.Abs.EqT Go.Proofs.Try.prog (27 : Nat)), ((a == b) = Bool.true), ((decide (a ≥ b)) = Bool.true), (Go.Num.Rng (Go.IntKind.wrap Go.IntKind.u64 (Go.IntKind.wrap Go.IntKind.u32 (a - b)))), ((decide ((((Go.IntKind.wrap Go.IntKind.u64 a) - (Go.IntKind.wrap Go.IntKind.u64 b)) % (Go.Num.Fld.m Go.Num.fld)) = ((Go.IntKind.wrap Go.IntKind.u64 (Go.IntKind.wrap Go.IntKind.u32 (a - b))) % (Go.Num.Fld.m Go.Num.fld)))) = Bool.true), (Go.Abs.EqT Go.Proofs.Try.prog (27 : Nat))]) := by kernel_rfl
theorem counts_eq (a b : Int)
    (h1 : (Go.Num.Rng (Go.IntKind.wrap Go.IntKind.u64 a)))
    (h2 : (Go.Num.Rng (Go.IntKind.wrap Go.IntKind.u64 b)))
    (h3 : (Go.Num.Rng (Go.IntKind.wrap Go.IntKind.u64 ((Go.IntKind.wrap Go.IntKind.u64 a) + (Go.IntKind.wrap Go.IntKind.u64 b)))))
    (h4 : ((!(decide ((((Go.IntKind.wrap Go.IntKind.u64 a) + (Go.IntKind.wrap Go.IntKind.u64 b)) % (Go.Num.Fld.m Go.Num.fld)) = ((Go.IntKind.wrap Go.IntKind.u64 ((Go.IntKind.wrap Go.IntKind.u64 a) + (Go.IntKind.wrap Go.IntKind.u64 b))) % (Go.Num.Fld.m Go.Num.fld))))) = Bool.false))
    (h5 : (Go.Abs.EqT Go.Proofs.Try.prog (27 : Nat)))
    (h6 : (Go.Num.Rng (Go.IntKind.wrap Go.IntKind.u64 ((Go.IntKind.wrap Go.IntKind.u64 a) * (Go.IntKind.wrap Go.IntKind.u64 b)))))
    (h7 : ((!(decide ((((Go.IntKind.wrap Go.IntKind.u64 a) * (Go.IntKind.wrap Go.IntKind.u64 b)) % (Go.Num.Fld.m Go.Num.fld)) = ((Go.IntKind.wrap Go.IntKind.u64 ((Go.IntKind.wrap Go.IntKind.u64 a) * (Go.IntKind.wrap Go.IntKind.u64 b))) % (Go.Num.Fld.m Go.Num.fld))))) = Bool.false))
    (h8 : ((decide (((Go.IntKind.wrap Go.IntKind.u64 a) % (Go.Num.Fld.m Go.Num.fld)) = ((Go.IntKind.wrap Go.IntKind.u64 b) % (Go.Num.Fld.m Go.Num.fld)))) = Bool.true))
    (h9 : ((a == b) = Bool.true))
    (h10 : ((decide (a ≥ b)) = Bool.true))
    (h11 : (Go.Num.Rng (Go.IntKind.wrap Go.IntKind.u64 (Go.IntKind.wrap Go.IntKind.u32 (a - b)))))
    (h12 : ((decide ((((Go.IntKind.wrap Go.IntKind.u64 a) - (Go.IntKind.wrap Go.IntKind.u64 b)) % (Go.Num.Fld.m Go.Num.fld)) = ((Go.IntKind.wrap Go.IntKind.u64 (Go.IntKind.wrap Go.IntKind.u32 (a - b))) % (Go.Num.Fld.m Go.Num.fld)))) = Bool.true)) :
    ∃ ps, runF Try.prog FD gamZ 200 Try.f3 [.one (.int .u32 false a), .one (.int .u32 false b)] [.is false, .is false, .is true, .is true, .is true, .is true] = some ((Go.Abs.AV.v (Go.Abs.A0.one (Go.Abs.Part.bool Bool.true Bool.true))), ps) ∧ AllQ ps := ⟨_, counts_eq_r a b, AllP.all ⟨h1, h2, h3, h4, h5, h6, h7, h5, h8, h5, h9, h10, h11, h12, h5⟩⟩

theorem counts_gt_r (a b : Int) : runF Try.prog FD gamZ 200 Try.f3 [.one (.int .u32 false a), .one (.int .u32 false b)] [.is false, .is false, .is false, .is false, .is true, .is true] =
    some ((Go.Abs.AV.v (Go.Abs.A0.one (Go.Abs.Part.bool Bool.true Bool.true))), [(Go.Num.Rng (Go.IntKind.wrap Go.IntKind.u64 a)), (Go.Num.Rng (Go.IntKind.wrap Go.IntKind.u64 b)), (Go.Num.Rng (Go.IntKind.wrap Go.IntKind.u64 ((Go.IntKind.wrap Go.IntKind.u64 a) + (Go.IntKind.wrap Go.IntKind.u64 b)))), ((!(decide ((((Go.IntKind.wrap Go.IntKind.u64 a) + (Go.IntKind.wrap Go.IntKind.u64 b)) % (Go.Num.Fld.m Go.Num.fld)) = ((Go.IntKind.wrap Go.IntKind.u64 ((Go.IntKind.wrap Go.IntKind.u64 a) + (Go.IntKind.wrap Go.IntKind.u64 b))) % (Go.Num.Fld.m Go.Num.fld))))) = Bool.false), (Go.Abs.EqT Go.Proofs.Try.prog (27 : Nat)), (Go.Num.Rng (Go.IntKind.wrap Go.IntKind.u64 ((Go.IntKind.wrap Go.IntKind.u64 a) * (Go.IntKind.wrap Go.IntKind.u64 b)))), ((!(decide ((((Go.IntKind.wrap Go.IntKind.u64 a) * (Go.IntKind.wrap Go.IntKind.u64 b)) % (Go.Num.Fld.m Go.Num.fld)) = ((Go.IntKind.wrap Go.IntKind.u64 ((Go.IntKind.wrap Go.IntKind.u64 a) * (Go.IntKind.wrap Go.IntKind.u64 b))) % (Go.Num.Fld.m Go.Num.fld))))) = Bool.false), (Go.Abs.EqT Go.Proofs.Try.prog (27 : Nat)), ((decide (((Go.IntKind.wrap Go.IntKind.u64 a) % (Go.Num.Fld.m Go.Num.fld)) = ((Go.IntKind.wrap Go.IntKind.u64 b) % (Go.Num.Fld.m Go.Num.fld)))) = Bool.false), (Go.Abs.EqT Go.Proofs.Try.prog (27 : Nat)), ((a == b) = Bool.false), ((decide (a ≥ b)) = Bool.true), (Go.Num.Rng (Go.IntKind.wrap Go.IntKind.u64 (Go.IntKind.wrap Go.IntKind.u32 (a - b)))), ((decide ((((Go.IntKind.wrap Go.IntKind.u64 a) - (Go.IntKind.wrap Go.IntKind.u64 b)) % (Go.Num.Fld.m Go.Num.fld)) = ((Go.IntKind.wrap Go.IntKind.u64 (Go.IntKind.wrap Go.IntKind.u32 (a - b))) % (Go.Num.Fld.m Go.Num.fld)))) = Bool.true), (Go.Abs.EqT Go.Proofs.Try.prog (27 : Nat))]) := by kernel_rfl
theorem counts_gt (a b : Int)
    (h1 : (Go.Num.Rng (Go.IntKind.wrap Go.IntKind.u64 a)))
    (h2 : (Go.Num.Rng (Go.IntKind.wrap Go.IntKind.u64 b)))
    (h3 : (Go.Num.Rng (Go.IntKind.wrap Go.IntKind.u64 ((Go.IntKind.wrap Go.IntKind.u64 a) + (Go.IntKind.wrap Go.IntKind.u64 b)))))
    (h4 : ((!(decide ((((Go.IntKind.wrap Go.IntKind.u64 a) + (Go.IntKind.wrap Go.IntKind.u64 b)) % (Go.Num.Fld.m Go.Num.fld)) = ((Go.IntKind.wrap Go.IntKind.u64 ((Go.IntKind.wrap Go.IntKind.u64 a) + (Go.IntKind.wrap Go.IntKind.u64 b))) % (Go.Num.Fld.m Go.Num.fld))))) = Bool.false))
    (h5 : (Go.Abs.EqT Go.Proofs.Try.prog (27 : Nat)))
    (h6 : (Go.Num.Rng (Go.IntKind.wrap Go.IntKind.u64 ((Go.IntKind.wrap Go.IntKind.u64 a) * (Go.IntKind.wrap Go.IntKind.u64 b)))))
    (h7 : ((!(decide ((((Go.IntKind.wrap Go.IntKind.u64 a) * (Go.IntKind.wrap Go.IntKind.u64 b)) % (Go.Num.Fld.m Go.Num.fld)) = ((Go.IntKind.wrap Go.IntKind.u64 ((Go.IntKind.wrap Go.IntKind.u64 a) * (Go.IntKind.wrap Go.IntKind.u64 b))) % (Go.Num.Fld.m Go.Num.fld))))) = Bool.false))
    (h8 : ((decide (((Go.IntKind.wrap Go.IntKind.u64 a) % (Go.Num.Fld.m Go.Num.fld)) = ((Go.IntKind.wrap Go.IntKind.u64 b) % (Go.Num.Fld.m Go.Num.fld)))) = Bool.false))
    (h9 : ((a == b) = Bool.false))
    (h10 : ((decide (a ≥ b)) = Bool.true))
    (h11 : (Go.Num.Rng (Go.IntKind.wrap Go.IntKind.u64 (Go.IntKind.wrap Go.IntKind.u32 (a - b)))))
    (h12 : ((decide ((((Go.IntKind.wrap Go.IntKind.u64 a) - (Go.IntKind.wrap Go.IntKind.u64 b)) % (Go.Num.Fld.m Go.Num.fld)) = ((Go.IntKind.wrap Go.IntKind.u64 (Go.IntKind.wrap Go.IntKind.u32 (a - b))) % (Go.Num.Fld.m Go.Num.fld)))) = Bool.true)) :
    ∃ ps, runF Try.prog FD gamZ 200 Try.f3 [.one (.int .u32 false a), .one (.int .u32 false b)] [.is false, .is false, .is false, .is false, .is true, .is true] = some ((Go.Abs.AV.v (Go.Abs.A0.one (Go.Abs.Part.bool Bool.true Bool.true))), ps) ∧ AllQ ps := ⟨_, counts_gt_r a b, AllP.all ⟨h1, h2, h3, h4, h5, h6, h7, h5, h8, h5, h9, h10, h11, h12, h5⟩⟩

theorem counts_lt_r (a b : Int) : runF Try.prog FD gamZ 200 Try.f3 [.one (.int .u32 false a), .one (.int .u32 false b)] [.is false, .is false, .is false, .is false, .is false, .is true] =
    some ((Go.Abs.AV.v (Go.Abs.A0.one (Go.Abs.Part.bool Bool.true Bool.true))), [(Go.Num.Rng (Go.IntKind.wrap Go.IntKind.u64 a)), (Go.Num.Rng (Go.IntKind.wrap Go.IntKind.u64 b)), (Go.Num.Rng (Go.IntKind.wrap Go.IntKind.u64 ((Go.IntKind.wrap Go.IntKind.u64 a) + (Go.IntKind.wrap Go.IntKind.u64 b)))), ((!(decide ((((Go.IntKind.wrap Go.IntKind.u64 a) + (Go.IntKind.wrap Go.IntKind.u64 b)) % (Go.Num.Fld.m Go.Num.fld)) = ((Go.IntKind.wrap Go.IntKind.u64 ((Go.IntKind.wrap Go.IntKind.u64 a) + (Go.IntKind.wrap Go.IntKind.u64 b))) % (Go.Num.Fld.m Go.Num.fld))))) = Bool.false), (Go.Abs.EqT Go.Proofs.Try.prog (27 : Nat)), (Go.Num.Rng (Go.IntKind.wrap Go.IntKind.u64 ((Go.IntKind.wrap Go.IntKind.u64 a) * (Go.IntKind.wrap Go.IntKind.u64 b)))), ((!(decide ((((Go.IntKind.wrap Go.IntKind.u64 a) * (Go.IntKind.wrap Go.IntKind.u64 b)) % (Go.Num.Fld.m Go.Num.fld)) = ((Go.IntKind.wrap Go.IntKind.u64 ((Go.IntKind.wrap Go.IntKind.u64 a) * (Go.IntKind.wrap Go.IntKind.u64 b))) % (Go.Num.Fld.m Go.Num.fld))))) = Bool.false), (Go.Abs.EqT Go.Proofs.Try.prog (27 : Nat)), ((decide (((Go.IntKind.wrap Go.IntKind.u64 a) % (Go.Num.Fld.m Go.Num.fld)) = ((Go.IntKind.wrap Go.IntKind.u64 b) % (Go.Num.Fld.m Go.Num.fld)))) = Bool.false), (Go.Abs.EqT Go.Proofs.Try.prog (27 : Nat)), ((a == b) = Bool.false), ((decide (a ≥ b)) = Bool.false), (Go.Num.Rng (Go.IntKind.wrap Go.IntKind.u64 (Go.IntKind.wrap Go.IntKind.u32 (b - a)))), ((decide ((((Go.IntKind.wrap Go.IntKind.u64 a) - (Go.IntKind.wrap Go.IntKind.u64 b)) % (Go.Num.Fld.m Go.Num.fld)) = (((0 : Int) - (Go.IntKind.wrap Go.IntKind.u64 (Go.IntKind.wrap Go.IntKind.u32 (b - a)))) % (Go.Num.Fld.m Go.Num.fld)))) = Bool.true), (Go.Abs.EqT Go.Proofs.Try.prog (27 : Nat))]) := by kernel_rfl
theorem counts_lt (a b : Int)
    (h1 : (Go.Num.Rng (Go.IntKind.wrap Go.IntKind.u64 a)))
    (h2 : (Go.Num.Rng (Go.IntKind.wrap Go.IntKind.u64 b)))
    (h3 : (Go.Num.Rng (Go.IntKind.wrap Go.IntKind.u64 ((Go.IntKind.wrap Go.IntKind.u64 a) + (Go.IntKind.wrap Go.IntKind.u64 b)))))
    (h4 : ((!(decide ((((Go.IntKind.wrap Go.IntKind.u64 a) + (Go.IntKind.wrap Go.IntKind.u64 b)) % (Go.Num.Fld.m Go.Num.fld)) = ((Go.IntKind.wrap Go.IntKind.u64 ((Go.IntKind.wrap Go.IntKind.u64 a) + (Go.IntKind.wrap Go.IntKind.u64 b))) % (Go.Num.Fld.m Go.Num.fld))))) = Bool.false))
    (h5 : (Go.Abs.EqT Go.Proofs.Try.prog (27 : Nat)))
    (h6 : (Go.Num.Rng (Go.IntKind.wrap Go.IntKind.u64 ((Go.IntKind.wrap Go.IntKind.u64 a) * (Go.IntKind.wrap Go.IntKind.u64 b)))))
    (h7 : ((!(decide ((((Go.IntKind.wrap Go.IntKind.u64 a) * (Go.IntKind.wrap Go.IntKind.u64 b)) % (Go.Num.Fld.m Go.Num.fld)) = ((Go.IntKind.wrap Go.IntKind.u64 ((Go.IntKind.wrap Go.IntKind.u64 a) * (Go.IntKind.wrap Go.IntKind.u64 b))) % (Go.Num.Fld.m Go.Num.fld))))) = Bool.false))
    (h8 : ((decide (((Go.IntKind.wrap Go.IntKind.u64 a) % (Go.Num.Fld.m Go.Num.fld)) = ((Go.IntKind.wrap Go.IntKind.u64 b) % (Go.Num.Fld.m Go.Num.fld)))) = Bool.false))
    (h9 : ((a == b) = Bool.false))
    (h10 : ((decide (a ≥ b)) = Bool.false))
    (h11 : (Go.Num.Rng (Go.IntKind.wrap Go.IntKind.u64 (Go.IntKind.wrap Go.IntKind.u32 (b - a)))))
    (h12 : ((decide ((((Go.IntKind.wrap Go.IntKind.u64 a) - (Go.IntKind.wrap Go.IntKind.u64 b)) % (Go.Num.Fld.m Go.Num.fld)) = (((0 : Int) - (Go.IntKind.wrap Go.IntKind.u64 (Go.IntKind.wrap Go.IntKind.u32 (b - a)))) % (Go.Num.Fld.m Go.Num.fld)))) = Bool.true)) :
    ∃ ps, runF Try.prog FD gamZ 200 Try.f3 [.one (.int .u32 false a), .one (.int .u32 false b)] [.is false, .is false, .is false, .is false, .is false, .is true] = some ((Go.Abs.AV.v (Go.Abs.A0.one (Go.Abs.Part.bool Bool.true Bool.true))), ps) ∧ AllQ ps := ⟨_, counts_lt_r a b, AllP.all ⟨h1, h2, h3, h4, h5, h6, h7, h5, h8, h5, h9, h10, h11, h12, h5⟩⟩

theorem lawCounts {a b : Int} (ha : 0 ≤ a ∧ a < 4294967296) (hb : 0 ≤ b ∧ b < 4294967296) : LawOK Try.f3 [.one (.int .u32 false a), .one (.int .u32 false b)] := by
  have w1 : IntKind.u64.wrap a = a := by rw [IntKind.wrap_u64]; omega
  have w2 : IntKind.u64.wrap b = b := by rw [IntKind.wrap_u64]; omega
  have p0 : 0 ≤ a * b := Int.mul_nonneg ha.1 hb.1
  have p1 : a * b ≤ 4294967295 * 4294967295 := Int.mul_le_mul (by omega) (by omega) hb.1 (by decide)
  have w3 : IntKind.u64.wrap (a + b) = a + b := by rw [IntKind.wrap_u64]; omega
  have w4 : IntKind.u64.wrap (a * b) = a * b := by rw [IntKind.wrap_u64]; omega
  have r1 : Rng a := ⟨ha.1, by unfold B; omega⟩
  have r2 : Rng b := ⟨hb.1, by unfold B; omega⟩
  have r3 : Rng (a + b) := ⟨by omega, by unfold B; omega⟩
  have r4 : Rng (a * b) := ⟨p0, by unfold B; omega⟩
  have hm : 4294967296 < fld.m := by decide
  have e1 : a % fld.m = a := Int.emod_eq_of_lt ha.1 (by omega)
  have e2 : b % fld.m = b := Int.emod_eq_of_lt hb.1 (by omega)
  have n1 : ∀ x y : Int, x = y → (!(decide (x % fld.m = y % fld.m))) = false := by
    intro x y h
    rw [h, decide_eq_true rfl]
    rfl
  rcases Int.lt_trichotomy a b with h | h | h
  · have w5 : IntKind.u64.wrap (IntKind.u32.wrap (b - a)) = b - a := by rw [IntKind.wrap_u64, IntKind.wrap_u32]; omega
    obtain ⟨ps, h1, h2⟩ := counts_lt a b (by rw [w1]; exact r1) (by rw [w2]; exact r2) (by rw [w1, w2, w3]; exact r3) (by rw [w1, w2, w3]; exact n1 _ _ rfl) el_eqT (by rw [w1, w2, w4]; exact r4) (by rw [w1, w2, w4]; exact n1 _ _ rfl)
      (by rw [w1, w2, e1, e2]; exact decide_eq_false (by omega)) (beq_eq_false_iff_ne.2 (by omega)) (decide_eq_false (by omega)) (by rw [w5]; exact ⟨by omega, by unfold B; omega⟩) (by rw [w1, w2, w5]; exact decide_eq_true (by rw [show a - b = 0 - (b - a) from by omega]))
    exact ⟨gamZ, gamZ_ok, _, ps, h1, h2⟩
  · subst h
    have w5 : IntKind.u64.wrap (IntKind.u32.wrap (a - a)) = a - a := by rw [IntKind.wrap_u64, IntKind.wrap_u32]; omega
    obtain ⟨ps, h1, h2⟩ := counts_eq a a (by rw [w1]; exact r1) (by rw [w1]; exact r1) (by rw [w1, w3]; exact r3) (by rw [w1, w3]; exact n1 _ _ rfl) el_eqT (by rw [w1, w4]; exact r4) (by rw [w1, w4]; exact n1 _ _ rfl)
      (decide_eq_true rfl) (beq_self_eq_true _) (decide_eq_true (by omega)) (by rw [w5]; exact ⟨by omega, by unfold B; omega⟩) (by rw [w1, w5]; exact decide_eq_true rfl)
    exact ⟨gamZ, gamZ_ok, _, ps, h1, h2⟩
  · have w5 : IntKind.u64.wrap (IntKind.u32.wrap (a - b)) = a - b := by rw [IntKind.wrap_u64, IntKind.wrap_u32]; omega
    obtain ⟨ps, h1, h2⟩ := counts_gt a b (by rw [w1]; exact r1) (by rw [w2]; exact r2) (by rw [w1, w2, w3]; exact r3) (by rw [w1, w2, w3]; exact n1 _ _ rfl) el_eqT (by rw [w1, w2, w4]; exact r4) (by rw [w1, w2, w4]; exact n1 _ _ rfl)
      (by rw [w1, w2, e1, e2]; exact decide_eq_false (by omega)) (beq_eq_false_iff_ne.2 (by omega)) (decide_eq_true (by omega)) (by rw [w5]; exact ⟨by omega, by unfold B; omega⟩) (by rw [w1, w2, w5]; exact decide_eq_true rfl)
    exact ⟨gamZ, gamZ_ok, _, ps, h1, h2⟩

end Go.Num
