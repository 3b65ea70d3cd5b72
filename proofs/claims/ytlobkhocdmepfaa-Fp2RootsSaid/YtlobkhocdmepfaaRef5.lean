/- The reference's powers. -/
import Derived.Test.YtlobkhocdmepfaaRef4
namespace Go.Num
open Go.Abs Go.Proofs Go.Shelf

def gamQ (D : Dom) : Gam D := (64, mod3D D (fun a b _ => a * b) (fun _ _ _ => True)) :: gamA D
theorem gamQ_ok (D : Dom) : GamOK Try.prog D (gamQ D) := gam_cons (mul3_ok D) (gamA_ok D)

def powSn (D : Dom) (a e m y : List Int) (i : Int) : Sn D.τ where
  slots := [(0, .v (.one (.words .u32 a))), (1, .v (.one (.words .u32 e))), (2, .v (.one (.words .u32 m))), (7, .v (.one (.own 0))), (8, .v (.one (.int .i64 false i)))]
  boxes := [(0, .dyn 64 (.ints .u32 y))]
  nt := 40

theorem pow3_one_r (D : Dom) (a e m y y' : List Int) (i : Int) : stepPs Try.prog D (gamQ D) 100 (bodyOf Try.f69) 100 (powSn D a e m y i).st [.is true, .is true] .normal (powSn D a e m y' (i - 1)) =
    some [((decide (i ≥ (0 : Int))) = Bool.true), (Go.Num.In16 y), (Go.Num.In16 y), (Go.Num.In16 m), ((0 : Int) < (Go.Num.v16 m)), ((List.length y) ≤ (1000000 : Nat)), ((List.length y) ≤ (1000000 : Nat)), ((List.length m) ≤ (1000000 : Nat)), True, ((16 : Int) ≠ (0 : Int)), ((0 : Int) ≤ (Go.IntKind.wrap Go.IntKind.i64 (Int.tdiv i (16 : Int)))), ((Go.IntKind.wrap Go.IntKind.i64 (Int.tdiv i (16 : Int))) < (((List.length e) : Nat) : Int)), ((0 : Int) ≤ (Go.IntKind.wrap Go.IntKind.u64 (Int.tmod i (16 : Int)))), (((Go.Abs.bitsOf Go.BinOp.and Go.IntKind.u32 (Int.fdiv (List.getD e (Int.toNat (Go.IntKind.wrap Go.IntKind.i64 (Int.tdiv i (16 : Int)))) (0 : Int)) ((2 : Int) ^ (min (Int.toNat (Go.IntKind.wrap Go.IntKind.u64 (Int.tmod i (16 : Int)))) (32 : Nat)))) (1 : Int)) == (1 : Int)) = Bool.true), (Go.Num.In16 (Go.Num.W (List.length m) (((Go.Num.v16 y) * (Go.Num.v16 y)) % (Go.Num.v16 m)))), (Go.Num.In16 a), (Go.Num.In16 m), ((0 : Int) < (Go.Num.v16 m)), ((List.length (Go.Num.W (List.length m) (((Go.Num.v16 y) * (Go.Num.v16 y)) % (Go.Num.v16 m)))) ≤ (1000000 : Nat)), ((List.length a) ≤ (1000000 : Nat)), ((List.length m) ≤ (1000000 : Nat)), True, (Go.Abs.InI64 (i - (1 : Int))), (a = a), (e = e), (m = m), ((i - (1 : Int)) = (i - (1 : Int))), ((Go.Num.W (List.length m) (((Go.Num.v16 (Go.Num.W (List.length m) (((Go.Num.v16 y) * (Go.Num.v16 y)) % (Go.Num.v16 m)))) * (Go.Num.v16 a)) % (Go.Num.v16 m))) = y')] := by kernel_rfl
theorem pow3_one (D : Dom) (a e m y y' : List Int) (i : Int)
    (h1 : ((decide (i ≥ (0 : Int))) = Bool.true))
    (h2 : (Go.Num.In16 y))
    (h3 : (Go.Num.In16 m))
    (h4 : ((0 : Int) < (Go.Num.v16 m)))
    (h5 : ((List.length y) ≤ (1000000 : Nat)))
    (h6 : ((List.length m) ≤ (1000000 : Nat)))
    (h7 : ((0 : Int) ≤ (Go.IntKind.wrap Go.IntKind.i64 (Int.tdiv i (16 : Int)))))
    (h8 : ((Go.IntKind.wrap Go.IntKind.i64 (Int.tdiv i (16 : Int))) < (((List.length e) : Nat) : Int)))
    (h9 : ((0 : Int) ≤ (Go.IntKind.wrap Go.IntKind.u64 (Int.tmod i (16 : Int)))))
    (h10 : (((Go.Abs.bitsOf Go.BinOp.and Go.IntKind.u32 (Int.fdiv (List.getD e (Int.toNat (Go.IntKind.wrap Go.IntKind.i64 (Int.tdiv i (16 : Int)))) (0 : Int)) ((2 : Int) ^ (min (Int.toNat (Go.IntKind.wrap Go.IntKind.u64 (Int.tmod i (16 : Int)))) (32 : Nat)))) (1 : Int)) == (1 : Int)) = Bool.true))
    (h11 : (Go.Num.In16 (Go.Num.W (List.length m) (((Go.Num.v16 y) * (Go.Num.v16 y)) % (Go.Num.v16 m)))))
    (h12 : (Go.Num.In16 a))
    (h13 : ((List.length (Go.Num.W (List.length m) (((Go.Num.v16 y) * (Go.Num.v16 y)) % (Go.Num.v16 m)))) ≤ (1000000 : Nat)))
    (h14 : ((List.length a) ≤ (1000000 : Nat)))
    (h15 : (Go.Abs.InI64 (i - (1 : Int))))
    (h16 : ((Go.Num.W (List.length m) (((Go.Num.v16 (Go.Num.W (List.length m) (((Go.Num.v16 y) * (Go.Num.v16 y)) % (Go.Num.v16 m)))) * (Go.Num.v16 a)) % (Go.Num.v16 m))) = y')) :
    ∃ ps, stepPs Try.prog D (gamQ D) 100 (bodyOf Try.f69) 100 (powSn D a e m y i).st [.is true, .is true] .normal (powSn D a e m y' (i - 1)) = some ps ∧ AllQ ps := ⟨_, pow3_one_r D a e m y y' i, AllP.all ⟨h1, h2, h2, h3, h4, h5, h5, h6, (show True from by decide), (show ((16 : Int) ≠ (0 : Int)) from by decide), h7, h8, h9, h10, h11, h12, h3, h4, h13, h14, h6, (show True from by decide), h15, rfl, rfl, rfl, rfl, h16⟩⟩

theorem pow3_nought_r (D : Dom) (a e m y y' : List Int) (i : Int) : stepPs Try.prog D (gamQ D) 100 (bodyOf Try.f69) 100 (powSn D a e m y i).st [.is true, .is false] .normal (powSn D a e m y' (i - 1)) =
    some [((decide (i ≥ (0 : Int))) = Bool.true), (Go.Num.In16 y), (Go.Num.In16 y), (Go.Num.In16 m), ((0 : Int) < (Go.Num.v16 m)), ((List.length y) ≤ (1000000 : Nat)), ((List.length y) ≤ (1000000 : Nat)), ((List.length m) ≤ (1000000 : Nat)), True, ((16 : Int) ≠ (0 : Int)), ((0 : Int) ≤ (Go.IntKind.wrap Go.IntKind.i64 (Int.tdiv i (16 : Int)))), ((Go.IntKind.wrap Go.IntKind.i64 (Int.tdiv i (16 : Int))) < (((List.length e) : Nat) : Int)), ((0 : Int) ≤ (Go.IntKind.wrap Go.IntKind.u64 (Int.tmod i (16 : Int)))), (((Go.Abs.bitsOf Go.BinOp.and Go.IntKind.u32 (Int.fdiv (List.getD e (Int.toNat (Go.IntKind.wrap Go.IntKind.i64 (Int.tdiv i (16 : Int)))) (0 : Int)) ((2 : Int) ^ (min (Int.toNat (Go.IntKind.wrap Go.IntKind.u64 (Int.tmod i (16 : Int)))) (32 : Nat)))) (1 : Int)) == (1 : Int)) = Bool.false), (Go.Abs.InI64 (i - (1 : Int))), (a = a), (e = e), (m = m), ((i - (1 : Int)) = (i - (1 : Int))), ((Go.Num.W (List.length m) (((Go.Num.v16 y) * (Go.Num.v16 y)) % (Go.Num.v16 m))) = y')] := by kernel_rfl
theorem pow3_nought (D : Dom) (a e m y y' : List Int) (i : Int)
    (h1 : ((decide (i ≥ (0 : Int))) = Bool.true))
    (h2 : (Go.Num.In16 y))
    (h3 : (Go.Num.In16 m))
    (h4 : ((0 : Int) < (Go.Num.v16 m)))
    (h5 : ((List.length y) ≤ (1000000 : Nat)))
    (h6 : ((List.length m) ≤ (1000000 : Nat)))
    (h7 : ((0 : Int) ≤ (Go.IntKind.wrap Go.IntKind.i64 (Int.tdiv i (16 : Int)))))
    (h8 : ((Go.IntKind.wrap Go.IntKind.i64 (Int.tdiv i (16 : Int))) < (((List.length e) : Nat) : Int)))
    (h9 : ((0 : Int) ≤ (Go.IntKind.wrap Go.IntKind.u64 (Int.tmod i (16 : Int)))))
    (h10 : (((Go.Abs.bitsOf Go.BinOp.and Go.IntKind.u32 (Int.fdiv (List.getD e (Int.toNat (Go.IntKind.wrap Go.IntKind.i64 (Int.tdiv i (16 : Int)))) (0 : Int)) ((2 : Int) ^ (min (Int.toNat (Go.IntKind.wrap Go.IntKind.u64 (Int.tmod i (16 : Int)))) (32 : Nat)))) (1 : Int)) == (1 : Int)) = Bool.false))
    (h11 : (Go.Abs.InI64 (i - (1 : Int))))
    (h12 : ((Go.Num.W (List.length m) (((Go.Num.v16 y) * (Go.Num.v16 y)) % (Go.Num.v16 m))) = y')) :
    ∃ ps, stepPs Try.prog D (gamQ D) 100 (bodyOf Try.f69) 100 (powSn D a e m y i).st [.is true, .is false] .normal (powSn D a e m y' (i - 1)) = some ps ∧ AllQ ps := ⟨_, pow3_nought_r D a e m y y' i, AllP.all ⟨h1, h2, h2, h3, h4, h5, h5, h6, (show True from by decide), (show ((16 : Int) ≠ (0 : Int)) from by decide), h7, h8, h9, h10, h11, rfl, rfl, rfl, rfl, h12⟩⟩

theorem pow3_exit_r (D : Dom) (a e m y : List Int) (i : Int) : stepPs Try.prog D (gamQ D) 100 (bodyOf Try.f69) 100 (powSn D a e m y i).st [.is false] (.exit 0) (powSn D a e m y i) =
    some [((decide (i ≥ (0 : Int))) = Bool.false), (a = a), (e = e), (m = m), (i = i), (y = y)] := by kernel_rfl
theorem pow3_exit (D : Dom) (a e m y : List Int) (i : Int)
    (h1 : ((decide (i ≥ (0 : Int))) = Bool.false)) :
    ∃ ps, stepPs Try.prog D (gamQ D) 100 (bodyOf Try.f69) 100 (powSn D a e m y i).st [.is false] (.exit 0) (powSn D a e m y i) = some ps ∧ AllQ ps := ⟨_, pow3_exit_r D a e m y i, AllP.all ⟨h1, rfl, rfl, rfl, rfl, rfl⟩⟩

theorem pow3_run_r (D : Dom) (a e m y y' : List Int) (i i' : Int) : runF Try.prog D (gamQ D) 100 Try.f69 [.one (.words .u32 a), .one (.words .u32 e), .one (.words .u32 m)] [.loop (loopL D (powSn D a e m y i) (.exit 0) (powSn D a e m y' i'))] =
    some ((Go.Abs.AV.v (Go.Abs.A0.one (Go.Abs.Part.fresh (0 : Nat) (64 : TypeId) Go.IntKind.u32 y'))), [(Go.Num.In16 ((1 : Int) :: ([] : List (Int)))), (Go.Num.In16 m), ((0 : Int) < (Go.Num.v16 m)), ((1 : Nat) ≤ (1099511627776 : Nat)), ((List.length m) ≤ (1099511627775 : Nat)), (Go.Abs.InI64 ((16 : Int) * (((List.length e) : Nat) : Int))), (Go.Abs.InI64 (((16 : Int) * (((List.length e) : Nat) : Int)) - (1 : Int))), SumOK Try.prog D (bodyOf Try.f69) (loopL D (powSn D a e m y i) (.exit 0) (powSn D a e m y' i')), (a = a), (e = e), (m = m), ((((16 : Int) * (((List.length e) : Nat) : Int)) - (1 : Int)) = i), ((Go.Num.W (List.length m) ((Go.Num.v16 ((1 : Int) :: ([] : List (Int)))) % (Go.Num.v16 m))) = y)]) := by kernel_rfl
theorem pow3_run (D : Dom) (a e m y y' : List Int) (i i' : Int)
    (h1 : (Go.Num.In16 ((1 : Int) :: ([] : List (Int)))))
    (h2 : (Go.Num.In16 m))
    (h3 : ((0 : Int) < (Go.Num.v16 m)))
    (h4 : ((List.length m) ≤ (1099511627775 : Nat)))
    (h5 : (Go.Abs.InI64 ((16 : Int) * (((List.length e) : Nat) : Int))))
    (h6 : (Go.Abs.InI64 (((16 : Int) * (((List.length e) : Nat) : Int)) - (1 : Int))))
    (h7 : SumOK Try.prog D (bodyOf Try.f69) (loopL D (powSn D a e m y i) (.exit 0) (powSn D a e m y' i')))
    (h8 : ((((16 : Int) * (((List.length e) : Nat) : Int)) - (1 : Int)) = i))
    (h9 : ((Go.Num.W (List.length m) ((Go.Num.v16 ((1 : Int) :: ([] : List (Int)))) % (Go.Num.v16 m))) = y)) :
    ∃ ps, runF Try.prog D (gamQ D) 100 Try.f69 [.one (.words .u32 a), .one (.words .u32 e), .one (.words .u32 m)] [.loop (loopL D (powSn D a e m y i) (.exit 0) (powSn D a e m y' i'))] = some ((Go.Abs.AV.v (Go.Abs.A0.one (Go.Abs.Part.fresh (0 : Nat) (64 : TypeId) Go.IntKind.u32 y'))), ps) ∧ AllQ ps := ⟨_, pow3_run_r D a e m y y' i i', AllP.all ⟨h1, h2, h3, (show ((1 : Nat) ≤ (1099511627776 : Nat)) from by decide), h4, h5, h6, h7, rfl, rfl, rfl, h8, h9⟩⟩

def pow3D (D : Dom) : FnD D
  | [.one (.words .u32 a), .one (.words .u32 e), .one (.words .u32 m)] => some (.v (.one (.fresh 0 64 .u32 (W m.length (v16 a ^ (v16 e).toNat % v16 m)))), [In16 a, In16 e, In16 m, 0 < v16 m, a.length ≤ 1000000, e.length ≤ 1000000, m.length ≤ 1000000])
  | _ => none

theorem vW_mod {m : List Int} (hm : In16 m) (h0 : 0 < v16 m) (x : Int) : v16 (W m.length (x % v16 m)) = x % v16 m := by
  have r := v16_range hm
  have h1 := Int.emod_nonneg x (b := v16 m) (by omega)
  have h2 := Int.emod_lt_of_pos x h0
  exact mod_self_pow ⟨h1, by omega⟩

theorem pow3_loop (D : Dom) {a e m : List Int} (ha : In16 a) (he : In16 e) (hm : In16 m) (h0 : 0 < v16 m) (la : a.length ≤ 1000000) (le : e.length ≤ 1000000) (lm : m.length ≤ 1000000) {E : Nat} (hE : v16 e = E) :
    SumOK Try.prog D (bodyOf Try.f69) (loopL D (powSn D a e m (W m.length (v16 a ^ (E / 2 ^ (16 * e.length)) % v16 m)) (16 * e.length - 1)) (.exit 0) (powSn D a e m (W m.length (v16 a ^ E % v16 m)) (-1))) := by
  have key := sum_loop (gamQ_ok D) mixed (c := bodyOf Try.f69) (fun k => powSn D a e m (W m.length (v16 a ^ (E / 2 ^ (16 * e.length - k)) % v16 m)) (16 * e.length - 1 - k)) (16 * e.length) (e := .exit 0) (s := powSn D a e m (W m.length (v16 a ^ E % v16 m)) (-1)) rfl (fun k hk => ?_) ⟨100, 100, [.is false], ?_⟩
  · simp only [Nat.sub_zero, Int.natCast_zero, Int.sub_zero] at key
    exact key
  · obtain ⟨t, ht⟩ : ∃ t, 16 * e.length - (k + 1) = t := ⟨_, rfl⟩
    have hi : (16 * (e.length : Int) - 1 - k) = (t : Int) := by omega
    have hi2 : (16 * (e.length : Int) - 1 - (k + 1 : Nat)) = (t : Int) - 1 := by omega
    simp only [hi, hi2, show 16 * e.length - k = t + 1 from by omega, ht]
    generalize hx : v16 a ^ (E / 2 ^ (t + 1)) = x
    have hstep : E / 2 ^ t = 2 * (E / 2 ^ (t + 1)) + E / 2 ^ t % 2 := by
      rw [Nat.pow_succ, ← Nat.div_div_eq_div_mul]
      omega
    have hbit : v16 e / 2 ^ t % 2 = ((E / 2 ^ t % 2 : Nat) : Int) := by
      rw [hE]
      have : ((2 : Int) ^ t) = ((2 ^ t : Nat) : Int) := by simp
      rw [this]
      rfl
    have hnew : v16 a ^ (E / 2 ^ t) = x * x * v16 a ^ (E / 2 ^ t % 2) := by
      rw [hstep, Int.pow_add, Nat.two_mul, Int.pow_add, hx]
      congr 2
      omega
    generalize hb : E / 2 ^ t % 2 = b at *
    have hy := vW_mod hm h0
    have e2 := tdiv_wrap (k := t) (c := 16) (by omega)
    have e3 := tmod_nat t 16
    have e4 : IntKind.u64.wrap ((t % 16 : Nat) : Int) = ((t % 16 : Nat) : Int) := by rw [IntKind.wrap_u64]; omega
    have hw := in16_getD he (t / 16)
    have hcc : bitsOf .and .u32 (Int.fdiv (e.getD (IntKind.i64.wrap (Int.tdiv (t : Int) 16)).toNat 0) (2 ^ (min (IntKind.u64.wrap (Int.tmod (t : Int) 16)).toNat 32))) 1 = (b : Int) := by
      erw [e2, e3, e4]
      have hp : (0 : Int) < 2 ^ (t % 16) := Int.pow_pos (by decide)
      rw [show (((t / 16 : Nat) : Int)).toNat = t / 16 from by omega, show (((t % 16 : Nat) : Int)).toNat = t % 16 from by omega, show min (t % 16) 32 = t % 16 from by omega, Int.fdiv_eq_ediv_of_nonneg _ (by omega), and1]
      · rw [v16_getD he, bit_word, hbit]
      · refine ⟨Int.ediv_nonneg hw.1 (by omega), ?_⟩
        have : e.getD (t / 16) 0 / 2 ^ (t % 16) ≤ e.getD (t / 16) 0 := Int.ediv_le_self _ hw.1
        unfold H at hw
        omega
    have g1 : 0 ≤ IntKind.i64.wrap (Int.tdiv (t : Int) 16) := by erw [e2]; omega
    have g2 : IntKind.i64.wrap (Int.tdiv (t : Int) 16) < (e.length : Int) := by erw [e2]; omega
    have g3 : 0 ≤ IntKind.u64.wrap (Int.tmod (t : Int) 16) := by erw [e3, e4]; omega
    have hsq : (x % v16 m) * (x % v16 m) % v16 m = x * x % v16 m := (Int.mul_emod x x _).symm
    have hb2 : b < 2 := by omega
    rcases Nat.eq_zero_or_pos b with h | h
    · subst h
      refine ⟨100, 100, [.is true, .is false], pow3_nought D a e m _ _ t (decide_eq_true (by omega)) (W_in16 _ _) hm h0 (by rw [W_len]; exact lm) lm g1 g2 g3 (by rw [hcc]; rfl) ⟨by omega, by omega⟩ ?_⟩
      rw [hy, hsq, hnew, Int.pow_zero, Int.mul_one]
    · have h1 : b = 1 := by omega
      subst h1
      refine ⟨100, 100, [.is true, .is true], pow3_one D a e m _ _ t (decide_eq_true (by omega)) (W_in16 _ _) hm h0 (by rw [W_len]; exact lm) lm g1 g2 g3 (by rw [hcc]; rfl) (W_in16 _ _) ha (by rw [W_len]; exact lm) la ⟨by omega, by omega⟩ ?_⟩
      rw [hy, hy, hsq, hnew, Int.pow_succ, Int.pow_zero, Int.one_mul, Int.mul_emod (x * x % v16 m), Int.emod_emod, ← Int.mul_emod]
  · have := pow3_exit D a e m (W m.length (v16 a ^ E % v16 m)) (-1) (by decide)
    simp only [Nat.sub_self, Nat.pow_zero, Nat.div_one]
    rw [show (16 * (e.length : Int) - 1 - (16 * e.length : Nat)) = -1 from by omega]
    exact this

theorem pow3_ok (D : Dom) : FnOK Try.prog D 69 (pow3D D) := by
  refine fnOK_of (gamQ_ok D) mixed Try.func69 (enters_of Try.func69 (by kernel_rfl) rfl) ?_
  intro xs r ps h hps
  unfold pow3D at h
  split at h
  · rename_i a e m
    simp only [Option.some.injEq, Prod.mk.injEq] at h
    obtain ⟨rfl, rfl⟩ := h
    have ha : In16 a := hps _ (by simp)
    have he : In16 e := hps _ (by simp)
    have hm : In16 m := hps _ (by simp)
    have h0 : 0 < v16 m := hps _ (by simp)
    have la : a.length ≤ 1000000 := hps _ (by simp)
    have le : e.length ≤ 1000000 := hps _ (by simp)
    have lm : m.length ≤ 1000000 := hps _ (by simp)
    have re := v16_range he
    obtain ⟨E, hE⟩ := Int.eq_ofNat_of_zero_le re.1
    have hz : E / 2 ^ (16 * e.length) = 0 := by
      refine Nat.div_eq_of_lt ?_
      have h1 : ((E : Nat) : Int) < ((2 ^ (16 * e.length) : Nat) : Int) := by
        rw [← hE]
        have : ((2 ^ (16 * e.length) : Nat) : Int) = H ^ e.length := by
          rw [Nat.pow_mul]
          simp
        rw [this]
        exact re.2
      omega
    have hloop := pow3_loop D ha he hm h0 la le lm hE
    rw [hz, Int.pow_zero] at hloop
    have v1 : v16 [1] = 1 := rfl
    obtain ⟨ps, h1, h2⟩ := pow3_run D a e m _ _ _ _ (in16_cons (by decide) in16_nil) hm h0 (by omega) ⟨by omega, by omega⟩ ⟨by omega, by omega⟩ hloop rfl (by rw [v1])
    refine ⟨_, 100, _, _, _, fun w vs h => h, h1, h2, fun E' v hv => ?_⟩
    rw [hE]
    exact hv
  · cases h

end Go.Num
