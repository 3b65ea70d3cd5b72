/- SHA-256: one block, by the program and by the reference: the same. -/
import Derived.Test.YtjglidfemgodiaaDoorS7
namespace Go.Num
open Go.Abs Go.Proofs Go.Shelf

theorem or_comm (k : IntKind) (x y : Int) : bitsOf .or k x y = bitsOf .or k y x := by
  show k.wrap (BitVec.ofInt k.bits x ||| BitVec.ofInt k.bits y).toNat = k.wrap (BitVec.ofInt k.bits y ||| BitVec.ofInt k.bits x).toNat
  rw [BitVec.or_comm]

theorem turn2 (x : Int) : turnF x 2 = sft x 30 2 := or_comm _ _ _
theorem turn6 (x : Int) : turnF x 6 = sft x 26 6 := or_comm _ _ _
theorem turn7 (x : Int) : turnF x 7 = sft x 25 7 := or_comm _ _ _
theorem turn11 (x : Int) : turnF x 11 = sft x 21 11 := or_comm _ _ _
theorem turn13 (x : Int) : turnF x 13 = sft x 19 13 := or_comm _ _ _
theorem turn17 (x : Int) : turnF x 17 = sft x 15 17 := or_comm _ _ _
theorem turn18 (x : Int) : turnF x 18 = sft x 14 18 := or_comm _ _ _
theorem turn19 (x : Int) : turnF x 19 = sft x 13 19 := or_comm _ _ _
theorem turn22 (x : Int) : turnF x 22 = sft x 10 22 := or_comm _ _ _
theorem turn25 (x : Int) : turnF x 25 = sft x 7 25 := or_comm _ _ _

theorem ad_eq (a b : Int) : ad a b = (a + b) % 4294967296 := IntKind.wrap_u32 _

theorem ad_assoc (a b c d e : Int) : ad (ad a b) (ad (ad c d) e) = ad (ad (ad (ad a b) c) d) e := by
  simp only [ad_eq]; omega

theorem or8 {x b : Int} (h0 : 0 ≤ b) (h1 : b < 256) : bitsOf .or .u32 (IntKind.u32.wrap (x * 2 ^ min 8 32)) (IntKind.u32.wrap b) = (x * 256 + b) % 4294967296 := by
  show IntKind.wrap .u32 (((BitVec.ofInt 32 (IntKind.wrap .u32 (x * 2 ^ 8)) ||| BitVec.ofInt 32 (IntKind.wrap .u32 b)).toNat : Nat) : Int) = _
  rw [BitVec.toNat_or, BitVec.toNat_ofInt, BitVec.toNat_ofInt]
  have e1 : (IntKind.wrap .u32 (x * 2 ^ 8) % ((2 ^ 32 : Nat) : Int)).toNat = 2 ^ 8 * ((x % 2 ^ 24).toNat) := by rw [IntKind.wrap_u32]; omega
  have e2 : (IntKind.wrap .u32 b % ((2 ^ 32 : Nat) : Int)).toNat = b.toNat := by rw [IntKind.wrap_u32]; omega
  rw [e1, e2, ← Nat.two_pow_add_eq_or_of_lt (by omega), IntKind.wrap_u32]
  omega

theorem or_add {a b : Int} {q k : Nat} (ha : a = 2 ^ k * (q : Int)) (h0 : 0 ≤ b) (hb : b < 2 ^ k) (hs : a + b < 4294967296) : bitsOf .or .u32 a b = a + b := by
  show IntKind.wrap .u32 (((BitVec.ofInt 32 a ||| BitVec.ofInt 32 b).toNat : Nat) : Int) = _
  rw [BitVec.toNat_or, BitVec.toNat_ofInt, BitVec.toNat_ofInt]
  have hq : a = ((2 ^ k * q : Nat) : Int) := by rw [ha]; push_cast; rfl
  have hb' : b.toNat < 2 ^ k := by
    have : ((b.toNat : Nat) : Int) < ((2 ^ k : Nat) : Int) := by rw [Int.toNat_of_nonneg h0]; push_cast; exact hb
    exact Int.ofNat_lt.1 this
  have e1 : (a % ((2 ^ 32 : Nat) : Int)).toNat = 2 ^ k * q := by
    rw [hq] at hs ⊢
    omega
  have e2 : (b % ((2 ^ 32 : Nat) : Int)).toNat = b.toNat := by
    have : 0 ≤ a := by rw [hq]; omega
    omega
  rw [e1, e2, ← Nat.two_pow_add_eq_or_of_lt hb', IntKind.wrap_u32]
  rw [hq] at hs ⊢
  omega

/-- A word out of four bytes. -/
def word4 (m : List Int) (p : Nat) : Int := m.getD p 0 * 16777216 + m.getD (p + 1) 0 * 65536 + m.getD (p + 2) 0 * 256 + m.getD (p + 3) 0

theorem inB_get {l : List Int} (h : InB l) (j : Nat) : 0 ≤ l.getD j 0 ∧ l.getD j 0 < 256 := by
  by_cases hj : j < l.length
  · have e : l.getD j 0 = l[j] := by simp [List.getD, hj]
    rw [e]
    exact h _ (List.getElem_mem hj)
  · have e : l.getD j 0 = 0 := by simp [List.getD, List.getElem?_eq_none (Nat.le_of_not_lt hj)]
    rw [e]
    omega

theorem rfWord_eq {m : List Int} (hm : InB m) (p : Nat) : rfWord m p = word4 m p := by
  have h0 := inB_get hm p
  have h1 := inB_get hm (p + 1)
  have h2 := inB_get hm (p + 2)
  have h3 := inB_get hm (p + 3)
  unfold rfWord word4
  rw [show ((p : Int)).toNat = p from by omega, show ((p : Int) + 1).toNat = p + 1 from by omega, show ((p : Int) + 2).toNat = p + 2 from by omega, show ((p : Int) + 3).toNat = p + 3 from by omega]
  generalize m.getD p 0 = a at *
  generalize m.getD (p + 1) 0 = b at *
  generalize m.getD (p + 2) 0 = c at *
  generalize m.getD (p + 3) 0 = d at *
  have wa : IntKind.u32.wrap (IntKind.u32.wrap a * 2 ^ min 24 32) = 2 ^ 24 * ((a.toNat : Nat) : Int) := by
    rw [IntKind.wrap_u32, IntKind.wrap_u32, show min 24 32 = 24 from rfl]; omega
  have wb : IntKind.u32.wrap (IntKind.u32.wrap b * 2 ^ min 16 32) = b * 65536 := by
    rw [IntKind.wrap_u32, IntKind.wrap_u32, show min 16 32 = 16 from rfl]; omega
  have wc : IntKind.u32.wrap (IntKind.u32.wrap c * 2 ^ min 8 32) = c * 256 := by
    rw [IntKind.wrap_u32, IntKind.wrap_u32, show min 8 32 = 8 from rfl]; omega
  have wd : IntKind.u32.wrap d = d := by rw [IntKind.wrap_u32]; omega
  have s1 : bitsOf .or .u32 (2 ^ 24 * ((a.toNat : Nat) : Int)) (b * 65536) = 2 ^ 24 * ((a.toNat : Nat) : Int) + b * 65536 := or_add (q := a.toNat) (k := 24) rfl (by omega) (by omega) (by omega)
  have s2 : bitsOf .or .u32 (2 ^ 24 * ((a.toNat : Nat) : Int) + b * 65536) (c * 256) = 2 ^ 24 * ((a.toNat : Nat) : Int) + b * 65536 + c * 256 := or_add (q := a.toNat * 256 + b.toNat) (k := 16) (by omega) (by omega) (by omega) (by omega)
  have s3 : bitsOf .or .u32 (2 ^ 24 * ((a.toNat : Nat) : Int) + b * 65536 + c * 256) d = 2 ^ 24 * ((a.toNat : Nat) : Int) + b * 65536 + c * 256 + d := or_add (q := a.toNat * 65536 + b.toNat * 256 + c.toNat) (k := 8) (by omega) (by omega) (by omega) (by omega)
  rw [wa, wb, wc, wd, s1, s2, s3]
  omega

theorem getD_set_self {l : List Int} {i : Nat} (x : Int) (h : i < l.length) : (l.set i x).getD i 0 = x := by
  simp [List.getD_eq_getElem?_getD, h]
theorem getD_set_other {l : List Int} {i j : Nat} (x : Int) (h : i ≠ j) : (l.set i x).getD j 0 = l.getD j 0 := by
  simp [List.getD_eq_getElem?_getD, List.getElem?_set_ne h]

theorem tw1_len (p w : List Int) (i : Int) : ∀ j, (tw1 p w i j).length = w.length
  | 0 => rfl
  | j + 1 => by simp [tw1, tw1_len p w i j]

theorem tw1_other (p w : List Int) {i k : Nat} (h : i ≠ k) : ∀ j, (tw1 p w i j).getD k 0 = w.getD k 0
  | 0 => rfl
  | j + 1 => by
    unfold tw1
    rw [getD_set_other _ (by rw [Int.toNat_natCast]; exact h)]
    exact tw1_other p w h j

theorem tw1_self {p w : List Int} (hp : InB p) {i : Nat} (hi : i < w.length) (hw : w.getD i 0 = 0) : (tw1 p w i 4).getD i 0 = word4 p (4 * i) := by
  have h0 := inB_get hp (4 * i)
  have h1 := inB_get hp (4 * i + 1)
  have h2 := inB_get hp (4 * i + 2)
  have h3 := inB_get hp (4 * i + 3)
  have step : ∀ j : Nat, (tw1 p w i (j + 1)).getD i 0 = ((tw1 p w i j).getD i 0 * 256 + p.getD (4 * i + j) 0) % 4294967296 := by
    intro j
    have hb := inB_get hp (4 * i + j)
    show ((tw1 p w i j).set (i : Int).toNat _).getD i 0 = _
    rw [Int.toNat_natCast, getD_set_self _ (by rw [tw1_len]; exact hi), show (4 * (i : Int) + (j : Int)).toNat = 4 * i + j from by omega]
    exact or8 hb.1 hb.2
  rw [step 3, step 2, step 1, step 0]
  show ((((w.getD i 0 * 256 + _) % _ * 256 + _) % _ * 256 + _) % _ * 256 + _) % _ = _
  rw [hw]
  unfold word4
  rw [Nat.add_zero]
  omega

theorem tw0_spec {p : List Int} (hp : InB p) : ∀ i, i ≤ 16 → (tw0 p i).length = 64 ∧ (∀ j, j < i → (tw0 p i).getD j 0 = word4 p (4 * j)) ∧ ∀ j, i ≤ j → (tw0 p i).getD j 0 = 0
  | 0, _ => ⟨rfl, fun j h => by omega, fun j _ => by
      show (List.replicate 64 (0 : Int)).getD j 0 = 0
      rw [List.getD_eq_getElem?_getD, List.getElem?_replicate]
      split <;> rfl⟩
  | i + 1, hi => by
    obtain ⟨h1, h2, h3⟩ := tw0_spec hp i (by omega)
    refine ⟨by show (tw1 p (tw0 p i) i 4).length = 64; rw [tw1_len]; exact h1, fun j hj => ?_, fun j hj => ?_⟩
    · show (tw1 p (tw0 p i) i 4).getD j 0 = _
      by_cases e : j = i
      · subst e; exact tw1_self hp (by omega) (h3 j (Nat.le_refl _))
      · rw [tw1_other _ _ (Ne.symm e)]; exact h2 j (by omega)
    · show (tw1 p (tw0 p i) i 4).getD j 0 = _
      rw [tw1_other _ _ (by omega)]; exact h3 j (by omega)

theorem getD_app_l {a b : List Int} {j : Nat} (h : j < a.length) : (a ++ b).getD j 0 = a.getD j 0 := by
  rw [List.getD_eq_getElem?_getD, List.getElem?_append_left h, ← List.getD_eq_getElem?_getD]
theorem getD_app_at {a : List Int} {x : Int} {j : Nat} (h : j = a.length) : (a ++ [x]).getD j 0 = x := by
  subst h
  simp [List.getD_eq_getElem?_getD]

theorem rw4_get {m : List Int} (hm : InB m) (a : Nat) : ∀ i j, j < i → (rw4 m a i).getD j 0 = word4 m (a + 4 * j)
  | 0, j, h => by omega
  | i + 1, j, h => by
    show (rw4 m a i ++ [_]).getD j 0 = _
    by_cases e : j = i
    · subst e
      rw [getD_app_at (rw4_len m a j).symm, show ((a : Int) + 4 * (j : Int)) = ((a + 4 * j : Nat) : Int) from by omega, rfWord_eq hm]
    · rw [getD_app_l (by rw [rw4_len]; omega)]
      exact rw4_get hm a i j (by omega)

theorem tw2_len (w : List Int) : ∀ k, (tw2 w k).length = w.length
  | 0 => rfl
  | k + 1 => by simp [tw2, twStep, tw2_len w k]

theorem words_agree {W w : List Int} (hW : W.length = 64) (hw : w.length = 16) (h : ∀ j, j < 16 → W.getD j 0 = w.getD j 0) : ∀ k, k ≤ 48 → ∀ j, j < 16 + k → (tw2 W k).getD j 0 = (rw5 w k).getD j 0
  | 0, _, j, hj => h j hj
  | k + 1, hk, j, hj => by
    have ih := words_agree hW hw h k (by omega)
    have hl := rw5_len w k
    have hL := tw2_len W k
    show (twStep (tw2 W k) k).getD j 0 = (rw5 w k ++ [_]).getD j 0
    unfold twStep
    rw [show ((k : Int) + 16).toNat = k + 16 from by omega]
    by_cases e : j = k + 16
    · subst e
      rw [getD_set_self _ (by omega), getD_app_at (by omega)]
      unfold rw5W
      rw [turn7, turn18, turn17, turn19]
      rw [show ((k : Int)).toNat = k from by omega, show ((k : Int) + 1).toNat = k + 1 from by omega, show ((k : Int) + 9).toNat = k + 9 from by omega, show ((k : Int) + 14).toNat = k + 14 from by omega,
        show (16 + (k : Int) - 16).toNat = k from by omega, show (16 + (k : Int) - 15).toNat = k + 1 from by omega, show (16 + (k : Int) - 7).toNat = k + 9 from by omega, show (16 + (k : Int) - 2).toNat = k + 14 from by omega]
      rw [ih k (by omega), ih (k + 1) (by omega), ih (k + 9) (by omega), ih (k + 14) (by omega)]
    · rw [getD_set_other _ (Ne.symm e), getD_app_l (by omega)]
      exact ih j (by omega)

theorem rounds_agree {W w : List Int} (h : ∀ j, j < 64 → W.getD j 0 = w.getD j 0) (v : List Int) : ∀ i, i ≤ 64 → tv3 W v i = rv6 rootsL w v i
  | 0, _ => rfl
  | i + 1, hi => by
    have ih := rounds_agree h v i (by omega)
    show tvStep W (tv3 W v i) i = rvStep rootsL w (rv6 rootsL w v i) i
    rw [ih]
    generalize rv6 rootsL w v i = u
    have hT : tvT W u i = rvT rootsL w u i := by
      unfold tvT rvT
      rw [turn6, turn11, turn25, ad_assoc, Int.toNat_natCast, h i (by omega)]
    have hU : tvU u = rvU u := by
      unfold tvU rvU
      rw [turn2, turn13, turn22]
    unfold tvStep rvStep
    rw [hT, hU]

theorem word4_block {m : List Int} {a j : Nat} (hj : j < 16) : word4 ((m.drop a).take 64) (4 * j) = word4 m (a + 4 * j) := by
  have hg : ∀ i, i < 64 → ((m.drop a).take 64).getD i 0 = m.getD (a + i) 0 := by
    intro i hi
    simp only [List.getD_eq_getElem?_getD, List.getElem?_take, List.getElem?_drop, if_pos hi]
  unfold word4
  rw [hg _ (by omega), hg _ (by omega), hg _ (by omega), hg _ (by omega)]
  simp only [Nat.add_assoc]

theorem inB_sub {m : List Int} (hm : InB m) (a n : Nat) : InB ((m.drop a).take n) := fun x hx => hm x (List.mem_of_mem_drop (List.mem_of_mem_take hx))

/-- A block is the same to both. -/
theorem block_same {m : List Int} (hm : InB m) (a : Nat) (h : List Int) : rfBlock rootsL h m a = takeF h ((m.drop a).take 64) := by
  obtain ⟨t1, t2, t3⟩ := tw0_spec (inB_sub hm a 64) 16 (Nat.le_refl _)
  have h16 : ∀ j, j < 16 → (tw0 ((m.drop a).take 64) 16).getD j 0 = (rw4 m a 16).getD j 0 := fun j hj => by
    rw [t2 j hj, rw4_get hm a 16 j hj, word4_block hj]
  have h64 := words_agree t1 (rw4_len m a 16) h16 48 (Nat.le_refl _)
  unfold rfBlock takeF
  rw [rounds_agree (w := rw5 (rw4 m a 16) 48) (fun j hj => h64 j (by omega)) h 64 (Nat.le_refl _)]

theorem rfH_eat {m : List Int} (hm : InB m) (h : List Int) : ∀ n, rfH rootsL h m n = eat h m n
  | 0 => rfl
  | n + 1 => by
    show rfBlock rootsL (rfH rootsL h m n) m (64 * (n : Int)) = takeF (eat h m n) ((m.drop (64 * n)).take 64)
    rw [rfH_eat hm h n, show (64 * (n : Int)) = ((64 * n : Nat) : Int) from by omega, block_same hm]

end Go.Num
