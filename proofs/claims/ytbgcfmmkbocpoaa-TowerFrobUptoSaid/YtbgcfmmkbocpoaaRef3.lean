/- The reference's numbers in words of 16 bits: products and rests, the functions. -/
import Derived.Test.YtbgcfmmkbocpoaaRef2
namespace Go.Num
open Go.Abs Go.Proofs Go.Shelf

/-! Times -/

def tS (l m : List Int) (i : Nat) (wc : List Int × Int) (j : Nat) : List Int × Int :=
  (wc.1.set (i + j) ((wc.1.getD (i + j) 0 + l.getD i 0 * m.getD j 0 + wc.2) % H), (wc.1.getD (i + j) 0 + l.getD i 0 * m.getD j 0 + wc.2) / H)

def tI (l m w0 : List Int) (i : Nat) : Nat → List Int × Int
  | 0 => (w0, 0)
  | j + 1 => tS l m i (tI l m w0 i j) j

theorem tI_spec {l m w0 : List Int} (hl : In16 l) (hm : In16 m) (hw : In16 w0) {i : Nat} : ∀ {j : Nat}, i + j ≤ w0.length →
    In16 (tI l m w0 i j).1 ∧ (tI l m w0 i j).1.length = w0.length ∧ (0 ≤ (tI l m w0 i j).2 ∧ (tI l m w0 i j).2 < H) ∧
      v16 (tI l m w0 i j).1 + (tI l m w0 i j).2 * H ^ (i + j) = v16 w0 + l.getD i 0 * (v16 m % H ^ j) * H ^ i
  | 0, _ => ⟨hw, rfl, ⟨Int.le_refl _, by show (0 : Int) < H; decide⟩, by simp [tI, Int.emod_one]⟩
  | j + 1, h => by
    obtain ⟨i1, i2, i3, i4⟩ := tI_spec hl hm hw (i := i) (j := j) (by omega)
    have a1 := in16_getD hl i
    have a2 := in16_getD hm j
    have a3 := in16_getD i1 (i + j)
    simp only [tI, tS]
    have hs : 0 ≤ (tI l m w0 i j).1.getD (i + j) 0 + l.getD i 0 * m.getD j 0 + (tI l m w0 i j).2 ∧ (tI l m w0 i j).1.getD (i + j) 0 + l.getD i 0 * m.getD j 0 + (tI l m w0 i j).2 < H * H := by
      have b0 : 0 ≤ l.getD i 0 * m.getD j 0 := Int.mul_nonneg a1.1 a2.1
      have b1 : l.getD i 0 * m.getD j 0 ≤ (H - 1) * (H - 1) := Int.mul_le_mul (by omega) (by omega) a2.1 (by decide)
      unfold H at *
      omega
    have hset := v16_set (l := (tI l m w0 i j).1) (i := i + j) (((tI l m w0 i j).1.getD (i + j) 0 + l.getD i 0 * m.getD j 0 + (tI l m w0 i j).2) % H) (by omega)
    refine ⟨in16_set i1 (mod_H _), by rw [List.length_set, i2], ?_, ?_⟩
    · exact ⟨Int.ediv_nonneg hs.1 (by decide), Int.ediv_lt_of_lt_mul (by decide) hs.2⟩
    · rw [hset, mod_pow_succ, ← v16_getD hm, show i + (j + 1) = (i + j) + 1 from by omega, H_succ, Int.pow_add]
      rw [Int.pow_add] at i4
      have e := Int.emod_add_mul_ediv ((tI l m w0 i j).1.getD (i + j) 0 + l.getD i 0 * m.getD j 0 + (tI l m w0 i j).2) H
      generalize ((tI l m w0 i j).1.getD (i + j) 0 + l.getD i 0 * m.getD j 0 + (tI l m w0 i j).2) % H = p at *
      generalize ((tI l m w0 i j).1.getD (i + j) 0 + l.getD i 0 * m.getD j 0 + (tI l m w0 i j).2) / H = q at *
      generalize (tI l m w0 i j).1.getD (i + j) 0 = o at *
      generalize v16 m % H ^ j = mm at *
      generalize l.getD i 0 = a at *
      generalize m.getD j 0 = b at *
      generalize (tI l m w0 i j).2 = c at *
      generalize H ^ i = y at *
      generalize H ^ j = z at *
      generalize v16 (tI l m w0 i j).1 = u at *
      generalize v16 w0 = v at *
      generalize H = h0 at *
      clear hset hs a1 a2 a3 i3
      grind

theorem tim_inner_loop (D : Dom) {l m w0 : List Int} (hl : In16 l) (hm : In16 m) (hw : In16 w0) (hN : w0.length = l.length + m.length + 1) (hla : l.length ≤ 1099511627776) (hlm : m.length ≤ 1099511627776) {i : Nat} (hi : i < l.length) :
    SumOK Try.prog D (bodyOf2 Try.f80) (loopL D (timSn D l m w0 i 0 (0 : Nat)) (.exit 2) (timSn D l m (tI l m w0 i (m.length + 1)).1 i (tI l m w0 i (m.length + 1)).2 (m.length + 1 : Nat))) := by
  refine sum_loop (gamL_ok D) mixed (fun j => timSn D l m (tI l m w0 i j).1 i (tI l m w0 i j).2 j) (m.length + 1) rfl (fun j hj => ⟨100, 100, [.is true], ?_⟩) ⟨100, 100, [.is false], ?_⟩
  · obtain ⟨i1, i2, i3, i4⟩ := tI_spec hl hm hw (i := i) (j := j) (by omega)
    have a1 := in16_getD hl i
    have a2 := in16_getD hm j
    have a3 := in16_getD i1 (i + j)
    have hs : 0 ≤ (tI l m w0 i j).1.getD (i + j) 0 + l.getD i 0 * m.getD j 0 + (tI l m w0 i j).2 ∧ (tI l m w0 i j).1.getD (i + j) 0 + l.getD i 0 * m.getD j 0 + (tI l m w0 i j).2 < H * H := by
      have b0 : 0 ≤ l.getD i 0 * m.getD j 0 := Int.mul_nonneg a1.1 a2.1
      have b1 : l.getD i 0 * m.getD j 0 ≤ (H - 1) * (H - 1) := Int.mul_le_mul (by omega) (by omega) a2.1 (by decide)
      unfold H at *
      omega
    have hij : ((i : Int) + (j : Int)).toNat = i + j := by omega
    have hwr : IntKind.u64.wrap (IntKind.u64.wrap (IntKind.u64.wrap ((tI l m w0 i j).1.getD ((i : Int) + (j : Int)).toNat 0) + IntKind.u64.wrap (IntKind.u64.wrap (l.getD (i : Int).toNat 0) * IntKind.u64.wrap (m.getD (j : Int).toNat 0))) + (tI l m w0 i j).2) =
        (tI l m w0 i j).1.getD (i + j) 0 + l.getD i 0 * m.getD j 0 + (tI l m w0 i j).2 := by
      rw [hij, show (i : Int).toNat = i from rfl, show (j : Int).toNat = j from rfl]
      have b0 : 0 ≤ l.getD i 0 * m.getD j 0 := Int.mul_nonneg a1.1 a2.1
      have b1 : l.getD i 0 * m.getD j 0 ≤ (H - 1) * (H - 1) := Int.mul_le_mul (by omega) (by omega) a2.1 (by decide)
      have w1 : IntKind.u64.wrap (l.getD i 0) = l.getD i 0 := by rw [IntKind.wrap_u64]; unfold H at *; omega
      have w2 : IntKind.u64.wrap (m.getD j 0) = m.getD j 0 := by rw [IntKind.wrap_u64]; unfold H at *; omega
      rw [w1, w2]
      generalize l.getD i 0 * m.getD j 0 = ab at *
      rw [IntKind.wrap_u64, IntKind.wrap_u64, IntKind.wrap_u64, IntKind.wrap_u64]
      unfold H at *
      omega
    refine tim_inner D l m _ _ i _ _ j (decide_eq_true (by omega)) ⟨by omega, by omega⟩ (by omega) (by rw [i2]; omega) (by rw [i2]; omega) (by omega) (by omega) (by omega) ⟨by omega, by omega⟩ ?_ ?_
    · rw [hwr, Int.fdiv_eq_ediv_of_nonneg _ (by decide)]
      rfl
    · rw [hwr, hij, and64 (by unfold H at hs; omega), IntKind.wrap_u32]
      simp only [tI, tS]
      congr 1
      unfold H
      omega
  · exact tim_innerExit D l m _ i _ _ (decide_eq_false (by omega))

/-- A row of the product. -/
theorem tim_row {l m : List Int} (hl : In16 l) (hm : In16 m) {N : Nat} (hN : N = l.length + m.length + 1) {i : Nat} (hi : i < l.length) :
    (tI l m (W N ((v16 l % H ^ i) * v16 m)) i (m.length + 1)).1 = W N ((v16 l % H ^ (i + 1)) * v16 m) := by
  have hw := W_in16 N ((v16 l % H ^ i) * v16 m)
  obtain ⟨i1, i2, i3, i4⟩ := tI_spec hl hm hw (i := i) (j := m.length + 1) (by rw [W_len]; omega)
  rw [W_len] at i2
  have rm := v16_range hm
  have hp := H_pos i
  have hx : ∀ k, k ≤ l.length → 0 ≤ (v16 l % H ^ k) * v16 m ∧ (v16 l % H ^ k) * v16 m < H ^ (k + m.length) := by
    intro k _
    have hpk := H_pos k
    have h1 : 0 ≤ v16 l % H ^ k ∧ v16 l % H ^ k < H ^ k := ⟨Int.emod_nonneg _ (by omega), Int.emod_lt_of_pos _ hpk⟩
    refine ⟨Int.mul_nonneg h1.1 rm.1, ?_⟩
    rw [Int.pow_add]
    have : (v16 l % H ^ k) * v16 m ≤ (v16 l % H ^ k) * H ^ m.length := Int.mul_le_mul_of_nonneg_left (by omega) h1.1
    have h2 : (v16 l % H ^ k) * H ^ m.length < H ^ k * H ^ m.length := Int.mul_lt_mul_of_pos_right h1.2 (H_pos _)
    omega
  have hmono : ∀ {a b : Nat}, a ≤ b → H ^ a ≤ H ^ b := by
    intro a b h
    rcases Nat.lt_or_ge a b with h1 | h1
    · exact Int.le_of_lt (Int.pow_lt_pow_of_lt (by decide) h1)
    · rw [show a = b from by omega]; exact Int.le_refl _
  have e1 : v16 (W N ((v16 l % H ^ i) * v16 m)) = (v16 l % H ^ i) * v16 m := by
    rw [v16_W]
    exact Int.emod_eq_of_lt (hx i (by omega)).1 (by have := (hx i (by omega)).2; have := hmono (show i + m.length ≤ N by omega); omega)
  have e2 : v16 m % H ^ (m.length + 1) = v16 m := Int.emod_eq_of_lt rm.1 (by have := hmono (show m.length ≤ m.length + 1 by omega); omega)
  have e3 : (v16 l % H ^ (i + 1)) * v16 m = (v16 l % H ^ i) * v16 m + l.getD i 0 * v16 m * H ^ i := by
    rw [mod_pow_succ, ← v16_getD hl]
    generalize v16 l % H ^ i = a
    generalize l.getD i 0 = b
    generalize H ^ i = c
    grind
  rw [e1, e2, ← e3] at i4
  have hb := hx (i + 1) (by omega)
  rw [show i + 1 + m.length = i + (m.length + 1) from by omega] at hb
  have r1 := v16_range i1
  have hc0 : (tI l m (W N ((v16 l % H ^ i) * v16 m)) i (m.length + 1)).2 = 0 := by
    generalize (tI l m (W N ((v16 l % H ^ i) * v16 m)) i (m.length + 1)).2 = c at *
    rcases Int.lt_or_le 0 c with hc | hc
    · have : 1 * H ^ (i + (m.length + 1)) ≤ c * H ^ (i + (m.length + 1)) := Int.mul_le_mul_of_nonneg_right (by omega) (by have := H_pos (i + (m.length + 1)); omega)
      omega
    · omega
  rw [hc0, Int.zero_mul, Int.add_zero] at i4
  symm
  refine W_of i1 i2 ?_
  rw [i4]
  refine Int.emod_eq_of_lt hb.1 ?_
  have := hmono (show i + (m.length + 1) ≤ N by omega)
  omega

def timD (D : Dom) : FnD D
  | [.one (.words .u32 l), .one (.words .u32 m)] => some (.v (.one (.fresh 0 43 .u32 (W (l.length + m.length + 1) (v16 l * v16 m)))), [In16 l, In16 m, l.length ≤ 1099511627776, m.length ≤ 1099511627776])
  | _ => none

theorem tim_loop (D : Dom) {l m : List Int} (hl : In16 l) (hm : In16 m) (hla : l.length ≤ 1099511627776) (hlm : m.length ≤ 1099511627776) :
    SumOK Try.prog D (bodyOf Try.f80) (loopL D (timOut D l m (W (l.length + m.length + 1) ((v16 l % H ^ 0) * v16 m)) (0 : Nat)) (.exit 0) (timOut D l m (W (l.length + m.length + 1) ((v16 l % H ^ l.length) * v16 m)) l.length)) := by
  refine sum_loop (gamL_ok D) mixed (fun i => timOut D l m (W (l.length + m.length + 1) ((v16 l % H ^ i) * v16 m)) i) l.length rfl (fun i hi => ?_) ⟨100, 100, [.is false], ?_⟩
  · have hin := tim_inner_loop D hl hm (W_in16 (l.length + m.length + 1) ((v16 l % H ^ i) * v16 m)) (by rw [W_len]) hla hlm hi
    rw [tim_row hl hm rfl hi] at hin
    exact ⟨100, 100, [.is true, .loop _], tim_round D l m _ _ _ i _ _ _ _ (decide_eq_true (by omega)) hin rfl rfl ⟨by omega, by omega⟩ (by omega)⟩
  · exact tim_exit D l m _ _ (decide_eq_false (by omega))

theorem tim_ok (D : Dom) : FnOK Try.prog D 80 (timD D) := by
  refine fnOK_of (gamL_ok D) mixed Try.func80 (enters_of Try.func80 (by kernel_rfl) rfl) ?_
  intro xs r ps h hps
  unfold timD at h
  split at h
  · rename_i l m
    simp only [Option.some.injEq, Prod.mk.injEq] at h
    obtain ⟨rfl, rfl⟩ := h
    have hl16 : In16 l := hps _ (by simp)
    have hm16 : In16 m := hps _ (by simp)
    have hl : l.length ≤ 1099511627776 := hps _ (by simp)
    have hm : m.length ≤ 1099511627776 := hps _ (by simp)
    obtain ⟨ps, h1, h2⟩ := tim_run D l m _ _ _ ⟨by omega, by omega⟩ ⟨by omega, by omega⟩ (by omega) (Int.le_refl _) (by omega) (by omega) (tim_loop D hl16 hm16 hl hm) (by
      rw [show ((l.length : Int) + m.length + 1).toNat = l.length + m.length + 1 from by omega, Int.pow_zero, Int.emod_one, Int.zero_mul, W_zero])
    refine ⟨_, 100, _, _, _, fun w vs h => h, h1, h2, fun E v hv => ?_⟩
    rw [Int.emod_eq_of_lt (v16_range hl16).1 (v16_range hl16).2] at hv
    exact hv
  · cases h

/-! Mod -/

theorem or32b {b q t : Nat} (hb : b < 2 ^ t) (h : 2 ^ t * q + b < 4294967296) : bitsOf .or .u32 ((2 ^ t * q : Nat) : Int) (b : Int) = ((2 ^ t * q + b : Nat) : Int) := by
  have h1 : 2 ^ t * q ||| b < 2 ^ 32 := Nat.or_lt_two_pow (by omega) (by omega)
  show IntKind.u32.wrap (((BitVec.ofInt 32 ((2 ^ t * q : Nat) : Int) ||| BitVec.ofInt 32 (b : Int)).toNat : Nat) : Int) = _
  rw [BitVec.toNat_or, BitVec.ofInt_natCast, BitVec.ofInt_natCast, BitVec.toNat_ofNat, BitVec.toNat_ofNat, Nat.mod_eq_of_lt (by omega), Nat.mod_eq_of_lt (by omega), IntKind.wrap_u32, ← Nat.two_pow_add_eq_or_of_lt hb]
  omega

theorem dbl_or {r c : Int} (hr : 0 ≤ r ∧ r < H) (hc : 0 ≤ c ∧ c ≤ 1) : bitsOf .or .u32 (IntKind.u32.wrap (r * 2 ^ (min 1 32))) c = 2 * r + c := by
  obtain ⟨r, rfl⟩ := Int.eq_ofNat_of_zero_le hr.1
  obtain ⟨c, rfl⟩ := Int.eq_ofNat_of_zero_le hc.1
  have hr2 : r < 65536 := by have := hr.2; unfold H at this; omega
  have hw : IntKind.u32.wrap ((r : Int) * 2 ^ (min 1 32)) = ((2 ^ 1 * r : Nat) : Int) := by
    rw [IntKind.wrap_u32, show (2 : Int) ^ (min 1 32) = 2 from rfl]
    omega
  rw [hw, or32b (t := 1) (by omega) (by omega)]
  omega

theorem and1 {x : Int} (h : 0 ≤ x ∧ x < 4294967296) : bitsOf .and .u32 x 1 = x % 2 := by
  obtain ⟨x, rfl⟩ := Int.eq_ofNat_of_zero_le h.1
  show IntKind.u32.wrap (((BitVec.ofInt 32 (x : Int) &&& BitVec.ofInt 32 ((1 : Nat) : Int)).toNat : Nat) : Int) = _
  rw [BitVec.toNat_and, BitVec.ofInt_natCast, BitVec.ofInt_natCast, BitVec.toNat_ofNat, BitVec.toNat_ofNat, Nat.mod_eq_of_lt (by omega), Nat.mod_eq_of_lt (by omega), Nat.and_one_is_mod, IntKind.wrap_u32]
  omega

def mS (wc : List Int × Int) (j : Nat) : List Int × Int := (wc.1.set j ((2 * wc.1.getD j 0 + wc.2) % H), (2 * wc.1.getD j 0 + wc.2) / H)

def mI (w0 : List Int) (c0 : Int) : Nat → List Int × Int
  | 0 => (w0, c0)
  | j + 1 => mS (mI w0 c0 j) j

theorem mI_spec {w0 : List Int} (hw : In16 w0) {c0 : Int} (hc : 0 ≤ c0 ∧ c0 ≤ 1) : ∀ {j : Nat}, j ≤ w0.length →
    In16 (mI w0 c0 j).1 ∧ (mI w0 c0 j).1.length = w0.length ∧ (0 ≤ (mI w0 c0 j).2 ∧ (mI w0 c0 j).2 ≤ 1) ∧ (∀ k, j ≤ k → (mI w0 c0 j).1.getD k 0 = w0.getD k 0) ∧
      v16 (mI w0 c0 j).1 + (mI w0 c0 j).2 * H ^ j = v16 w0 + v16 w0 % H ^ j + c0
  | 0, _ => ⟨hw, rfl, hc, fun _ _ => rfl, by simp [mI, Int.emod_one]⟩
  | j + 1, h => by
    obtain ⟨i1, i2, i3, i4, i5⟩ := mI_spec hw hc (j := j) (by omega)
    have a3 := in16_getD i1 j
    have e4 := i4 j (Nat.le_refl _)
    simp only [mI, mS]
    have hset := v16_set (l := (mI w0 c0 j).1) (i := j) ((2 * (mI w0 c0 j).1.getD j 0 + (mI w0 c0 j).2) % H) (by omega)
    refine ⟨in16_set i1 (mod_H _), by rw [List.length_set, i2], ?_, fun k hk => ?_, ?_⟩
    · unfold H at *; omega
    · rw [← i4 k (by omega)]
      simp only [List.getD_eq_getElem?_getD]
      rw [List.getElem?_set_ne (by omega)]
    · rw [hset, mod_pow_succ, ← v16_getD hw, H_succ]
      have e := Int.emod_add_mul_ediv (2 * (mI w0 c0 j).1.getD j 0 + (mI w0 c0 j).2) H
      rw [e4] at *
      generalize (2 * w0.getD j 0 + (mI w0 c0 j).2) % H = p at *
      generalize (2 * w0.getD j 0 + (mI w0 c0 j).2) / H = q at *
      generalize v16 w0 % H ^ j = mm at *
      generalize w0.getD j 0 = a at *
      generalize (mI w0 c0 j).2 = c at *
      generalize H ^ j = z at *
      generalize v16 (mI w0 c0 j).1 = u at *
      generalize v16 w0 = v at *
      generalize H = h0 at *
      clear hset a3 i3 hc
      grind

theorem mod_inner_loop (D : Dom) {l m w0 : List Int} (hw : In16 w0) {c0 : Int} (hc : 0 ≤ c0 ∧ c0 ≤ 1) (hlw : w0.length ≤ 1099511627777) (i : Int) :
    SumOK Try.prog D (bodyOf2 Try.f60) (loopL D (modSn D l m w0 i c0 (0 : Nat)) (.exit 2) (modSn D l m (mI w0 c0 w0.length).1 i (mI w0 c0 w0.length).2 w0.length)) := by
  refine sum_loop (gamM_ok D) mixed (fun j => modSn D l m (mI w0 c0 j).1 i (mI w0 c0 j).2 j) w0.length rfl (fun j hj => ⟨100, 100, [.is true], ?_⟩) ⟨100, 100, [.is false], ?_⟩
  · obtain ⟨i1, i2, i3, i4, i5⟩ := mI_spec hw hc (j := j) (by omega)
    obtain ⟨_, k2, _⟩ := mI_spec hw hc (j := j + 1) (by omega)
    have a3 := in16_getD i1 j
    have hor := dbl_or a3 i3
    refine mod_inner D l m _ _ i _ _ j (decide_eq_true (by rw [i2]; omega)) (by omega) (by rw [i2]; omega) (by rw [i2]; omega) ⟨by omega, by omega⟩ ?_ (by rw [i2, k2]) ?_
    · rw [show (j : Int).toNat = j from rfl, hor, Int.fdiv_eq_ediv_of_nonneg _ (by decide)]
      rfl
    · rw [show (j : Int).toNat = j from rfl, hor, and32 (by unfold H at *; omega)]
      rfl
  · obtain ⟨_, i2, _⟩ := mI_spec hw hc (j := w0.length) (by omega)
    exact mod_innerExit D l m _ i _ _ (decide_eq_false (by rw [i2]; omega))

/-- A number doubled, and a bit. -/
theorem mod_dbl {N : Nat} {r c0 : Int} (hr : 0 ≤ r ∧ 2 * r + 1 < H ^ N) (hc : 0 ≤ c0 ∧ c0 ≤ 1) : (mI (W N r) c0 N).1 = W N (2 * r + c0) := by
  obtain ⟨i1, i2, i3, _, i5⟩ := mI_spec (W_in16 N r) hc (j := N) (by rw [W_len]; exact Nat.le_refl _)
  rw [W_len] at i2
  have hp := H_pos N
  have e1 : r % H ^ N = r := Int.emod_eq_of_lt hr.1 (by omega)
  rw [v16_W, Int.emod_emod, e1] at i5
  have r1 := v16_range i1
  have hc0 : (mI (W N r) c0 N).2 = 0 := by
    generalize (mI (W N r) c0 N).2 = c at *
    rcases Int.lt_or_le 0 c with h | h
    · have : c = 1 := by omega
      subst this
      omega
    · omega
  rw [hc0, Int.zero_mul, Int.add_zero] at i5
  symm
  refine W_of i1 i2 ?_
  rw [i5, Int.emod_eq_of_lt (by omega) (by omega)]
  omega

theorem bit_word {x : Int} (t : Nat) : x / H ^ (t / 16) % H / 2 ^ (t % 16) % 2 = x / 2 ^ t % 2 := by
  have e0 : (2 : Int) ^ t = H ^ (t / 16) * 2 ^ (t % 16) := by
    have h : t = 16 * (t / 16) + t % 16 := by omega
    calc (2 : Int) ^ t = 2 ^ (16 * (t / 16) + t % 16) := by rw [← h]
      _ = _ := by rw [Int.pow_add, Int.pow_mul]; rfl
  have hs : t % 16 < 16 := Nat.mod_lt _ (by decide)
  rw [e0, ← Int.ediv_ediv_of_nonneg (by have := H_pos (t / 16); omega)]
  generalize x / H ^ (t / 16) = z
  generalize t % 16 = s at *
  have hp : (0 : Int) < 2 ^ s := Int.pow_pos (by decide)
  have hq : ∃ q : Int, H = 2 ^ s * (2 * q) := by
    refine ⟨2 ^ (15 - s), ?_⟩
    have : (2 : Int) * 2 ^ (15 - s) = 2 ^ (15 - s + 1) := by rw [Int.pow_succ, Int.mul_comm]
    rw [this, ← Int.pow_add, show s + (15 - s + 1) = 16 from by omega]
    rfl
  obtain ⟨q, hq⟩ := hq
  have h1 := Int.emod_add_mul_ediv z H
  generalize z % H = r at *
  generalize z / H = k at *
  rw [← h1, hq]
  rw [show r + 2 ^ s * (2 * q) * k = r + 2 ^ s * (2 * (q * k)) from by grind, Int.add_mul_ediv_left _ _ (by omega), Int.add_mul_emod_self_left]

theorem half_step (x : Int) (t : Nat) : x / 2 ^ t = 2 * (x / 2 ^ (t + 1)) + x / 2 ^ t % 2 := by
  have hp : (0 : Int) < 2 ^ t := Int.pow_pos (by decide)
  rw [Int.pow_succ, ← Int.ediv_ediv_of_nonneg (by omega)]
  omega

def modD (D : Dom) : FnD D
  | [.one (.words .u32 l), .one (.words .u32 m)] => some (.v (.one (.fresh 0 43 .u32 (W m.length (v16 l % v16 m)))), [In16 l, In16 m, 0 < v16 m, l.length ≤ 1099511627776, m.length ≤ 1099511627775])
  | _ => none

theorem mod_loop (D : Dom) {l m : List Int} (hl : In16 l) (hm : In16 m) (hm0 : 0 < v16 m) (hla : l.length ≤ 1099511627776) (hlm : m.length ≤ 1099511627775) :
    SumOK Try.prog D (bodyOf Try.f60) (loopL D (modOut D l m (W (m.length + 1) (v16 l / 2 ^ (16 * l.length) % v16 m)) (16 * l.length - 1)) (.exit 0) (modOut D l m (W (m.length + 1) (v16 l % v16 m)) (-1))) := by
  have key := sum_loop (gamM_ok D) mixed (c := bodyOf Try.f60) (fun k => modOut D l m (W (m.length + 1) (v16 l / 2 ^ (16 * l.length - k) % v16 m)) (16 * l.length - 1 - k)) (16 * l.length) (e := .exit 0) (s := modOut D l m (W (m.length + 1) (v16 l % v16 m)) (-1)) rfl (fun k hk => ?_) ⟨100, 100, [.is false], ?_⟩
  · simp only [Nat.sub_zero, Int.natCast_zero, Int.sub_zero] at key
    exact key
  · -- a round
    generalize ht : 16 * l.length - k - 1 = t
    have hi : (16 * (l.length : Int) - 1 - k) = (t : Int) := by omega
    have hi2 : (16 * (l.length : Int) - 1 - (k + 1 : Nat)) = (t : Int) - 1 := by omega
    have rm := v16_range hm
    have hmono : H ^ m.length * H = H ^ (m.length + 1) := (Int.pow_succ _ _).symm
    have hpm := H_pos m.length
    simp only [hi, hi2, show 16 * l.length - k = t + 1 from by omega]
    generalize hr : v16 l / 2 ^ (t + 1) % v16 m = r
    have hr0 : 0 ≤ r ∧ r < v16 m := by rw [← hr]; exact ⟨Int.emod_nonneg _ (by omega), Int.emod_lt_of_pos _ hm0⟩
    have hbit : 0 ≤ v16 l / 2 ^ t % 2 ∧ v16 l / 2 ^ t % 2 ≤ 1 := by omega
    have hnew : v16 l / 2 ^ t % v16 m = (2 * r + v16 l / 2 ^ t % 2) % v16 m := by
      have h1 := half_step (v16 l) t
      generalize v16 l / 2 ^ t % 2 = b at *
      rw [h1, ← hr]
      have h2 := Int.emod_add_mul_ediv (v16 l / 2 ^ (t + 1)) (v16 m)
      generalize v16 l / 2 ^ (t + 1) % v16 m = p at *
      generalize v16 l / 2 ^ (t + 1) / v16 m = q at *
      rw [← h2]
      rw [show 2 * (p + v16 m * q) + b = 2 * p + b + v16 m * (2 * q) from by grind, Int.add_mul_emod_self_left]
    generalize hb : v16 l / 2 ^ t % 2 = b at *
    have hH : 2 * r + 1 < H ^ (m.length + 1) := by rw [← hmono]; unfold H at *; omega
    have hin := mod_inner_loop D (l := l) (m := m) (W_in16 (m.length + 1) r) hbit (by rw [W_len]; omega) (t : Int)
    rw [W_len, mod_dbl ⟨hr0.1, hH⟩ hbit] at hin
    have e2 := tdiv_wrap (k := t) (c := 16) (by omega)
    have e3 := tmod_nat t 16
    have e4 : IntKind.u64.wrap ((t % 16 : Nat) : Int) = ((t % 16 : Nat) : Int) := by rw [IntKind.wrap_u64]; omega
    have hw := in16_getD hl (t / 16)
    have hcc : bitsOf .and .u32 (Int.fdiv (l.getD (IntKind.i64.wrap (Int.tdiv (t : Int) 16)).toNat 0) (2 ^ (min (IntKind.u64.wrap (Int.tmod (t : Int) 16)).toNat 32))) 1 = b := by
      erw [e2, e3, e4]
      have hp : (0 : Int) < 2 ^ (t % 16) := Int.pow_pos (by decide)
      rw [show (((t / 16 : Nat) : Int)).toNat = t / 16 from by omega, show (((t % 16 : Nat) : Int)).toNat = t % 16 from by omega, show min (t % 16) 32 = t % 16 from by omega, Int.fdiv_eq_ediv_of_nonneg _ (by omega), and1]
      · rw [v16_getD hl, bit_word, hb]
      · refine ⟨Int.ediv_nonneg hw.1 (by omega), ?_⟩
        have : l.getD (t / 16) 0 / 2 ^ (t % 16) ≤ l.getD (t / 16) 0 := Int.ediv_le_self _ hw.1
        unfold H at hw
        omega
    have v1 : v16 (W (m.length + 1) (2 * r + b)) = 2 * r + b := by rw [v16_W]; exact Int.emod_eq_of_lt (by omega) (by omega)
    have g1 : 0 ≤ IntKind.i64.wrap (Int.tdiv (t : Int) 16) := by erw [e2]; omega
    have g2 : IntKind.i64.wrap (Int.tdiv (t : Int) 16) < (l.length : Int) := by erw [e2]; omega
    have g3 : 0 ≤ IntKind.u64.wrap (Int.tmod (t : Int) 16) := by erw [e3, e4]; omega
    by_cases hc : 2 * r + b < v16 m
    · refine ⟨100, 100, [.is true, .loop _, .is true], mod_less D l m _ _ _ t _ _ _ (decide_eq_true (by omega)) g1 g2 g3 hin hcc (decide_eq_true (by rw [v1]; exact hc)) (W_in16 _ _) hm (by rw [W_len]; omega) (by omega) ⟨by omega, by omega⟩ ?_⟩
      rw [hnew, Int.emod_eq_of_lt (by omega) hc]
    · refine ⟨100, 100, [.is true, .loop _, .is false], mod_more D l m _ _ _ t _ _ _ (decide_eq_true (by omega)) g1 g2 g3 hin hcc (decide_eq_false (by rw [v1]; exact hc)) (W_in16 _ _) hm (by rw [W_len]; omega) (by omega) (by rw [W_len]; omega) ⟨by omega, by omega⟩ ?_⟩
      rw [hnew, W_len, v1]
      congr 1
      rw [← Int.emod_eq_of_lt (a := 2 * r + b - v16 m) (b := v16 m) (by omega) (by omega), Int.sub_emod_right]
  · have := mod_exit D l m (W (m.length + 1) (v16 l % v16 m)) (-1) (by decide)
    simp only [Nat.sub_self, Int.pow_zero, Int.ediv_one]
    rw [show (16 * (l.length : Int) - 1 - (16 * l.length : Nat)) = -1 from by omega]
    exact this

theorem mod_ok (D : Dom) : FnOK Try.prog D 60 (modD D) := by
  refine fnOK_of (gamM_ok D) mixed Try.func60 (enters_of Try.func60 (by kernel_rfl) rfl) ?_
  intro xs r ps h hps
  unfold modD at h
  split at h
  · rename_i l m
    simp only [Option.some.injEq, Prod.mk.injEq] at h
    obtain ⟨rfl, rfl⟩ := h
    have hl16 : In16 l := hps _ (by simp)
    have hm16 : In16 m := hps _ (by simp)
    have hm0 : 0 < v16 m := hps _ (by simp)
    have hl : l.length ≤ 1099511627776 := hps _ (by simp)
    have hm : m.length ≤ 1099511627775 := hps _ (by simp)
    have hz : v16 l / 2 ^ (16 * l.length) = 0 := by
      have := v16_range hl16
      refine Int.ediv_eq_zero_of_lt this.1 ?_
      rw [Int.pow_mul]
      exact this.2
    have hloop := mod_loop D hl16 hm16 hm0 hl hm
    rw [hz, Int.zero_emod, W_zero] at hloop
    obtain ⟨ps, h1, h2⟩ := mod_run D l m _ _ _ _ ⟨by omega, by omega⟩ (by omega) (Int.le_refl _) (by omega) (by omega) ⟨by omega, by omega⟩ ⟨by omega, by omega⟩ hloop rfl
      (by rw [show ((m.length : Int) + 1).toNat = m.length + 1 from by omega]) (by omega) (by rw [W_len]; omega)
    refine ⟨_, 100, _, _, _, fun w vs h => h, h1, h2, fun E v hv => ?_⟩
    rw [show ((m.length : Int)).toNat = m.length from rfl, W_succ, List.take_append_of_le_length (by rw [W_len]; exact Nat.le_refl _), List.take_of_length_le (by rw [W_len]; exact Nat.le_refl _)] at hv
    exact hv
  · cases h

end Go.Num
