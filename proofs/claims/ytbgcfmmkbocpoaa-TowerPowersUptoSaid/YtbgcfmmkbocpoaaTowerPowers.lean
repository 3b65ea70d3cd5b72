/- TowerPowers. -/
import Derived.Test.YtbgcfmmkbocpoaaTw14
namespace Go.Num
open Go.Abs Go.Proofs Go.Shelf Go.Alg

theorem powers_long_r (a : List Int) (n m : Int) : runF Try.prog FD gam29 200 Try.f3 [.one (.words .u8 a), .one (.int .u16 false n), .one (.int .u16 false m)] [.is true] =
    some ((Go.Abs.AV.v (Go.Abs.A0.one (Go.Abs.Part.bool Bool.true Bool.true))), [((decide (((((List.length a) : Nat) : Int) > (2000 : Int)) ∨ ((((0 : Nat) : Nat) : Int) > (2000 : Int)))) = Bool.true)]) := by kernel_rfl
theorem powers_long (a : List Int) (n m : Int)
    (h1 : ((decide (((((List.length a) : Nat) : Int) > (2000 : Int)) ∨ ((((0 : Nat) : Nat) : Int) > (2000 : Int)))) = Bool.true)) :
    ∃ ps, runF Try.prog FD gam29 200 Try.f3 [.one (.words .u8 a), .one (.int .u16 false n), .one (.int .u16 false m)] [.is true] = some ((Go.Abs.AV.v (Go.Abs.A0.one (Go.Abs.Part.bool Bool.true Bool.true))), ps) ∧ AllQ ps := ⟨_, powers_long_r a n m, AllP.all h1⟩

theorem powers_run_r (a : List Int) (n m : Int) : runF Try.prog FD gam29 200 Try.f3 [.one (.words .u8 a), .one (.int .u16 false n), .one (.int .u16 false m)] [.is false, .is true, .is true, .is true] =
    some ((Go.Abs.AV.v (Go.Abs.A0.one (Go.Abs.Part.bool Bool.true Bool.true))), [((decide (((((List.length a) : Nat) : Int) > (2000 : Int)) ∨ ((((0 : Nat) : Nat) : Int) > (2000 : Int)))) = Bool.false), (Go.Num.InB a), ((List.length a) ≤ (1000000 : Nat)), (Go.Num.InB ((Go.IntKind.wrap Go.IntKind.u8 (Int.fdiv n ((2 : Int) ^ (min (8 : Nat) (16 : Nat))))) :: ((Go.IntKind.wrap Go.IntKind.u8 n) :: ([] : List (Int))))), ((2 : Nat) ≤ (9223372036854775806 : Nat)), (Go.Num.InB ((0 : Int) :: ((Go.IntKind.wrap Go.IntKind.u8 (Int.fdiv m ((2 : Int) ^ (min (8 : Nat) (16 : Nat))))) :: ((Go.IntKind.wrap Go.IntKind.u8 m) :: ([] : List (Int)))))), ((3 : Nat) ≤ (9223372036854775806 : Nat)), (Go.Num.InB ((Go.IntKind.wrap Go.IntKind.u8 (Int.fdiv (Go.IntKind.wrap Go.IntKind.u32 ((Go.IntKind.wrap Go.IntKind.u32 n) + (Go.IntKind.wrap Go.IntKind.u32 m))) ((2 : Int) ^ (min (16 : Nat) (32 : Nat))))) :: ((Go.IntKind.wrap Go.IntKind.u8 (Int.fdiv (Go.IntKind.wrap Go.IntKind.u32 ((Go.IntKind.wrap Go.IntKind.u32 n) + (Go.IntKind.wrap Go.IntKind.u32 m))) ((2 : Int) ^ (min (8 : Nat) (32 : Nat))))) :: ((Go.IntKind.wrap Go.IntKind.u8 (Go.IntKind.wrap Go.IntKind.u32 ((Go.IntKind.wrap Go.IntKind.u32 n) + (Go.IntKind.wrap Go.IntKind.u32 m)))) :: ([] : List (Int)))))), ((3 : Nat) ≤ (9223372036854775806 : Nat)), ((decide (Go.Alg.Q12 (Go.Num.Fld.m Go.Num.fld) (Go.Num.mul12 (Go.Alg.pw (Go.Num.numK a) (Go.Num.nb ((Go.IntKind.wrap Go.IntKind.u8 (Int.fdiv n ((2 : Int) ^ (min (8 : Nat) (16 : Nat))))) :: ((Go.IntKind.wrap Go.IntKind.u8 n) :: ([] : List (Int)))))) (Go.Alg.pw (Go.Num.numK a) (Go.Num.nb ((0 : Int) :: ((Go.IntKind.wrap Go.IntKind.u8 (Int.fdiv m ((2 : Int) ^ (min (8 : Nat) (16 : Nat))))) :: ((Go.IntKind.wrap Go.IntKind.u8 m) :: ([] : List (Int)))))))) (Go.Alg.pw (Go.Num.numK a) (Go.Num.nb ((Go.IntKind.wrap Go.IntKind.u8 (Int.fdiv (Go.IntKind.wrap Go.IntKind.u32 ((Go.IntKind.wrap Go.IntKind.u32 n) + (Go.IntKind.wrap Go.IntKind.u32 m))) ((2 : Int) ^ (min (16 : Nat) (32 : Nat))))) :: ((Go.IntKind.wrap Go.IntKind.u8 (Int.fdiv (Go.IntKind.wrap Go.IntKind.u32 ((Go.IntKind.wrap Go.IntKind.u32 n) + (Go.IntKind.wrap Go.IntKind.u32 m))) ((2 : Int) ^ (min (8 : Nat) (32 : Nat))))) :: ((Go.IntKind.wrap Go.IntKind.u8 (Go.IntKind.wrap Go.IntKind.u32 ((Go.IntKind.wrap Go.IntKind.u32 n) + (Go.IntKind.wrap Go.IntKind.u32 m)))) :: ([] : List (Int))))))))) = Bool.true), (Go.Abs.EqT Go.Proofs.Try.prog (40 : Nat)), (Go.Num.InB ([] : List (Int))), ((0 : Nat) ≤ (9223372036854775806 : Nat)), ((decide (Go.Alg.Q12 (Go.Num.Fld.m Go.Num.fld) (Go.Alg.pw (Go.Num.numK a) (0 : Nat)) (1 : K12))) = Bool.true), (Go.Abs.EqT Go.Proofs.Try.prog (40 : Nat)), (Go.Num.InB ((0 : Int) :: ((1 : Int) :: ([] : List (Int))))), ((2 : Nat) ≤ (9223372036854775806 : Nat)), ((decide (Go.Alg.Q12 (Go.Num.Fld.m Go.Num.fld) (Go.Alg.pw (Go.Num.numK a) (1 : Nat)) (Go.Num.numK a))) = Bool.true), (Go.Abs.EqT Go.Proofs.Try.prog (40 : Nat))]) := by kernel_rfl
theorem powers_run (a : List Int) (n m : Int)
    (h1 : ((decide (((((List.length a) : Nat) : Int) > (2000 : Int)) ∨ ((((0 : Nat) : Nat) : Int) > (2000 : Int)))) = Bool.false))
    (h2 : (Go.Num.InB a))
    (h3 : ((List.length a) ≤ (1000000 : Nat)))
    (h4 : (Go.Num.InB ((Go.IntKind.wrap Go.IntKind.u8 (Int.fdiv n ((2 : Int) ^ (min (8 : Nat) (16 : Nat))))) :: ((Go.IntKind.wrap Go.IntKind.u8 n) :: ([] : List (Int))))))
    (h5 : ((2 : Nat) ≤ (9223372036854775806 : Nat)))
    (h6 : (Go.Num.InB ((0 : Int) :: ((Go.IntKind.wrap Go.IntKind.u8 (Int.fdiv m ((2 : Int) ^ (min (8 : Nat) (16 : Nat))))) :: ((Go.IntKind.wrap Go.IntKind.u8 m) :: ([] : List (Int)))))))
    (h7 : ((3 : Nat) ≤ (9223372036854775806 : Nat)))
    (h8 : (Go.Num.InB ((Go.IntKind.wrap Go.IntKind.u8 (Int.fdiv (Go.IntKind.wrap Go.IntKind.u32 ((Go.IntKind.wrap Go.IntKind.u32 n) + (Go.IntKind.wrap Go.IntKind.u32 m))) ((2 : Int) ^ (min (16 : Nat) (32 : Nat))))) :: ((Go.IntKind.wrap Go.IntKind.u8 (Int.fdiv (Go.IntKind.wrap Go.IntKind.u32 ((Go.IntKind.wrap Go.IntKind.u32 n) + (Go.IntKind.wrap Go.IntKind.u32 m))) ((2 : Int) ^ (min (8 : Nat) (32 : Nat))))) :: ((Go.IntKind.wrap Go.IntKind.u8 (Go.IntKind.wrap Go.IntKind.u32 ((Go.IntKind.wrap Go.IntKind.u32 n) + (Go.IntKind.wrap Go.IntKind.u32 m)))) :: ([] : List (Int)))))))
    (h9 : ((decide (Go.Alg.Q12 (Go.Num.Fld.m Go.Num.fld) (Go.Num.mul12 (Go.Alg.pw (Go.Num.numK a) (Go.Num.nb ((Go.IntKind.wrap Go.IntKind.u8 (Int.fdiv n ((2 : Int) ^ (min (8 : Nat) (16 : Nat))))) :: ((Go.IntKind.wrap Go.IntKind.u8 n) :: ([] : List (Int)))))) (Go.Alg.pw (Go.Num.numK a) (Go.Num.nb ((0 : Int) :: ((Go.IntKind.wrap Go.IntKind.u8 (Int.fdiv m ((2 : Int) ^ (min (8 : Nat) (16 : Nat))))) :: ((Go.IntKind.wrap Go.IntKind.u8 m) :: ([] : List (Int)))))))) (Go.Alg.pw (Go.Num.numK a) (Go.Num.nb ((Go.IntKind.wrap Go.IntKind.u8 (Int.fdiv (Go.IntKind.wrap Go.IntKind.u32 ((Go.IntKind.wrap Go.IntKind.u32 n) + (Go.IntKind.wrap Go.IntKind.u32 m))) ((2 : Int) ^ (min (16 : Nat) (32 : Nat))))) :: ((Go.IntKind.wrap Go.IntKind.u8 (Int.fdiv (Go.IntKind.wrap Go.IntKind.u32 ((Go.IntKind.wrap Go.IntKind.u32 n) + (Go.IntKind.wrap Go.IntKind.u32 m))) ((2 : Int) ^ (min (8 : Nat) (32 : Nat))))) :: ((Go.IntKind.wrap Go.IntKind.u8 (Go.IntKind.wrap Go.IntKind.u32 ((Go.IntKind.wrap Go.IntKind.u32 n) + (Go.IntKind.wrap Go.IntKind.u32 m)))) :: ([] : List (Int))))))))) = Bool.true))
    (h10 : (Go.Abs.EqT Go.Proofs.Try.prog (40 : Nat)))
    (h11 : (Go.Num.InB ([] : List (Int))))
    (h12 : ((decide (Go.Alg.Q12 (Go.Num.Fld.m Go.Num.fld) (Go.Alg.pw (Go.Num.numK a) (0 : Nat)) (1 : K12))) = Bool.true))
    (h13 : (Go.Num.InB ((0 : Int) :: ((1 : Int) :: ([] : List (Int))))))
    (h14 : ((decide (Go.Alg.Q12 (Go.Num.Fld.m Go.Num.fld) (Go.Alg.pw (Go.Num.numK a) (1 : Nat)) (Go.Num.numK a))) = Bool.true)) :
    ∃ ps, runF Try.prog FD gam29 200 Try.f3 [.one (.words .u8 a), .one (.int .u16 false n), .one (.int .u16 false m)] [.is false, .is true, .is true, .is true] = some ((Go.Abs.AV.v (Go.Abs.A0.one (Go.Abs.Part.bool Bool.true Bool.true))), ps) ∧ AllQ ps := ⟨_, powers_run_r a n m, AllP.all ⟨h1, h2, h3, h4, h5, h6, h7, h8, h7, h9, h10, h11, (show ((0 : Nat) ≤ (9223372036854775806 : Nat)) from by decide), h12, h10, h13, (show ((2 : Nat) ≤ (9223372036854775806 : Nat)) from by decide), h14, h10⟩⟩

/-! proof -/

theorem fdiv_nn {x : Int} (k : Nat) : Int.fdiv x (2 ^ k) = x / 2 ^ k := Int.fdiv_eq_ediv_of_nonneg _ (by have : (0 : Int) < 2 ^ k := Int.pow_pos (by decide); omega)

theorem u8_two {n : Int} (h : 0 ≤ n ∧ n < 65536) : InB [IntKind.wrap .u8 (Int.fdiv n (2 ^ (min 8 16))), IntKind.wrap .u8 n] ∧ (nb [IntKind.wrap .u8 (Int.fdiv n (2 ^ (min 8 16))), IntKind.wrap .u8 n] : Int) = n := by
  rw [fdiv_nn, IntKind.wrap_u8, IntKind.wrap_u8]
  refine ⟨AllB ⟨by omega, by omega⟩ (AllB ⟨by omega, by omega⟩ (fun a ha => by cases ha)), ?_⟩
  show ((be [n / 2 ^ 8 % 256, n % 256]).toNat : Int) = n
  have e : be [n / 2 ^ 8 % 256, n % 256] = n := by
    show n / 2 ^ 8 % 256 * 256 ^ 1 + (n % 256 * 256 ^ 0 + 0) = n
    omega
  rw [e]
  omega
where
  AllB {a : Int} {l : List Int} (h : 0 ≤ a ∧ a < 256) (k : InB l) : InB (a :: l) := fun b hb => by
    rcases List.mem_cons.1 hb with rfl | hb
    · exact h
    · exact k b hb

theorem inB_cons {a : Int} {l : List Int} (h : 0 ≤ a ∧ a < 256) (k : InB l) : InB (a :: l) := fun b hb => by
  rcases List.mem_cons.1 hb with rfl | hb
  · exact h
  · exact k b hb
theorem inB_nil : InB [] := fun a ha => by cases ha

theorem u8_zero {m : Int} (h : 0 ≤ m ∧ m < 65536) : InB [0, IntKind.wrap .u8 (Int.fdiv m (2 ^ (min 8 16))), IntKind.wrap .u8 m] ∧ (nb [0, IntKind.wrap .u8 (Int.fdiv m (2 ^ (min 8 16))), IntKind.wrap .u8 m] : Int) = m := by
  have h1 := u8_two h
  refine ⟨inB_cons (by decide) h1.1, ?_⟩
  refine Eq.trans ?_ h1.2
  show ((0 * 256 ^ 2 + be [IntKind.wrap .u8 (Int.fdiv m (2 ^ (min 8 16))), IntKind.wrap .u8 m]).toNat : Int) = _
  rw [Int.zero_mul, Int.zero_add]
  rfl

theorem u8_three {n m : Int} (h : 0 ≤ n ∧ n < 65536) (k : 0 ≤ m ∧ m < 65536) :
    InB [IntKind.wrap .u8 (Int.fdiv (IntKind.wrap .u32 (IntKind.wrap .u32 n + IntKind.wrap .u32 m)) (2 ^ (min 16 32))), IntKind.wrap .u8 (Int.fdiv (IntKind.wrap .u32 (IntKind.wrap .u32 n + IntKind.wrap .u32 m)) (2 ^ (min 8 32))), IntKind.wrap .u8 (IntKind.wrap .u32 (IntKind.wrap .u32 n + IntKind.wrap .u32 m))] ∧
    (nb [IntKind.wrap .u8 (Int.fdiv (IntKind.wrap .u32 (IntKind.wrap .u32 n + IntKind.wrap .u32 m)) (2 ^ (min 16 32))), IntKind.wrap .u8 (Int.fdiv (IntKind.wrap .u32 (IntKind.wrap .u32 n + IntKind.wrap .u32 m)) (2 ^ (min 8 32))), IntKind.wrap .u8 (IntKind.wrap .u32 (IntKind.wrap .u32 n + IntKind.wrap .u32 m))] : Int) = n + m := by
  have e : IntKind.wrap .u32 (IntKind.wrap .u32 n + IntKind.wrap .u32 m) = n + m := by
    simp only [IntKind.wrap_u32]
    omega
  rw [e, fdiv_nn, fdiv_nn, IntKind.wrap_u8, IntKind.wrap_u8, IntKind.wrap_u8]
  refine ⟨inB_cons ⟨by omega, by omega⟩ (inB_cons ⟨by omega, by omega⟩ (inB_cons ⟨by omega, by omega⟩ inB_nil)), ?_⟩
  have e : be [(n + m) / 2 ^ (min 16 32) % 256, (n + m) / 2 ^ (min 8 32) % 256, (n + m) % 256] = n + m := by
    show (n + m) / 2 ^ 16 % 256 * 256 ^ 2 + ((n + m) / 2 ^ 8 % 256 * 256 ^ 1 + ((n + m) % 256 * 256 ^ 0 + 0)) = n + m
    omega
  show ((be [(n + m) / 2 ^ (min 16 32) % 256, (n + m) / 2 ^ (min 8 32) % 256, (n + m) % 256]).toNat : Int) = n + m
  rw [e]
  omega

theorem lawPowers {a : List Int} {n m : Int} (ha : InB a) (_la : a.length ≤ 140737488351232) (hn : 0 ≤ n ∧ n < 65536) (hm : 0 ≤ m ∧ m < 65536) : LawOK Try.f3 [.one (.words .u8 a), .one (.int .u16 false n), .one (.int .u16 false m)] := by
  by_cases h : (a.length : Int) > 2000 ∨ (0 : Int) > 2000
  · obtain ⟨ps, h1, h2⟩ := powers_long a n m (decide_eq_true h)
    exact ⟨gam29, gam29_ok, _, ps, h1, h2⟩
  have hl : a.length ≤ 2000 := by omega
  have p1 := u8_two hn
  have p2 := u8_zero hm
  have p3 := u8_three hn hm
  obtain ⟨ps, h1, h2⟩ := powers_run a n m (decide_eq_false h) ha (by omega) p1.1 (by decide) p2.1 (by decide) p3.1 (q12_of (Md.of (by
    rw [mul12, ← pw_add]
    refine congrArg (pw (numK a)) ?_
    have := p1.2
    have := p2.2
    have := p3.2
    omega))) e12_eqT inB_nil (q12_of (Md.of rfl)) (inB_lit rfl) (q12_of (Md.of (pw_one _)))
  exact ⟨gam29, gam29_ok, _, ps, h1, h2⟩

end Go.Num
