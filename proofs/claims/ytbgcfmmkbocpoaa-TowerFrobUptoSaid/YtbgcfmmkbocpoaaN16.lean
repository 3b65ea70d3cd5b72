/- Numbers in words of 16 bits. Plain mathematics: it states nothing of any program. -/
import Derived.Test.YtbgcfmmkbocpoaaByte
import Derived.Test.YtbgcfmmkbocpoaaAbs
namespace Go.Num

abbrev H : Int := 65536

/-- The number that words of 16 bits are, the lowest first. -/
def v16 : List Int → Int
  | [] => 0
  | a :: l => a + H * v16 l

def W : Nat → Int → List Int
  | 0, _ => []
  | n + 1, x => x % H :: W n (x / H)

def In16 (l : List Int) : Prop := ∀ a ∈ l, 0 ≤ a ∧ a < H

theorem In16.cons {a : Int} {l : List Int} (h : In16 (a :: l)) : (0 ≤ a ∧ a < H) ∧ In16 l := ⟨h a (List.mem_cons_self ..), fun b hb => h b (List.mem_cons_of_mem _ hb)⟩
theorem in16_cons {a : Int} {l : List Int} (h : 0 ≤ a ∧ a < H) (k : In16 l) : In16 (a :: l) := by
  intro b hb
  rcases List.mem_cons.1 hb with rfl | hb
  · exact h
  · exact k b hb
theorem in16_nil : In16 [] := fun a h => by cases h
theorem in16_append {l m : List Int} (h : In16 l) (k : In16 m) : In16 (l ++ m) := by
  intro b hb
  rcases List.mem_append.1 hb with hb | hb
  · exact h b hb
  · exact k b hb

theorem mod_H (x : Int) : 0 ≤ x % H ∧ x % H < H := ⟨Int.emod_nonneg _ (by decide), Int.emod_lt_of_pos _ (by decide)⟩

theorem W_len : ∀ (n : Nat) (x : Int), (W n x).length = n
  | 0, _ => rfl
  | n + 1, x => by simp [W, W_len n]

theorem W_in16 : ∀ (n : Nat) (x : Int), In16 (W n x)
  | 0, _ => in16_nil
  | n + 1, _ => in16_cons (mod_H _) (W_in16 n _)

theorem H_pos (n : Nat) : 0 < H ^ n := Int.pow_pos (by decide)
theorem H_succ (n : Nat) : H ^ (n + 1) = H * H ^ n := by rw [Int.pow_succ, Int.mul_comm]

theorem split_mod {b x : Int} (hb : 0 < b) (n : Nat) : x % b ^ (n + 1) = x % b + b * (x / b % b ^ n) := by
  have hs : b ^ (n + 1) = b * b ^ n := by rw [Int.pow_succ, Int.mul_comm]
  have hp : 0 < b ^ n := Int.pow_pos hb
  have h1 := Int.emod_add_mul_ediv x b
  have h2 := Int.emod_add_mul_ediv (x / b) (b ^ n)
  have h3 : 0 ≤ x % b ∧ x % b < b := ⟨Int.emod_nonneg _ (by omega), Int.emod_lt_of_pos _ hb⟩
  have h4 : 0 ≤ x / b % b ^ n ∧ x / b % b ^ n < b ^ n := ⟨Int.emod_nonneg _ (by omega), Int.emod_lt_of_pos _ hp⟩
  generalize hq : x / b % b ^ n = q at *
  generalize x / b / b ^ n = y at *
  have hx : x = (x % b + b * q) + b ^ (n + 1) * y := by
    rw [hs, Int.mul_assoc]
    calc x = x % b + b * (x / b) := h1.symm
      _ = x % b + b * (q + b ^ n * y) := by rw [h2]
      _ = _ := by rw [Int.mul_add, Int.add_assoc]
  have hr : 0 ≤ x % b + b * q ∧ x % b + b * q < b ^ (n + 1) := by
    have : b * q ≤ b * (b ^ n - 1) := Int.mul_le_mul_of_nonneg_left (by omega) (by omega)
    rw [hs]
    have h5 : b * (b ^ n - 1) = b * b ^ n - b := by rw [Int.mul_sub, Int.mul_one]
    have h6 : 0 ≤ b * q := Int.mul_nonneg (by omega) h4.1
    omega
  have h7 : x % b ^ (n + 1) = (x % b + b * q + b ^ (n + 1) * y) % b ^ (n + 1) := by rw [← hx]
  rw [h7, Int.add_mul_emod_self_left, Int.emod_eq_of_lt hr.1 hr.2]

theorem v16_W : ∀ (n : Nat) (x : Int), v16 (W n x) = x % H ^ n
  | 0, _ => by simp [W, v16, Int.emod_one]
  | n + 1, x => by rw [W, v16, v16_W n, split_mod (by decide)]

theorem v16_range : ∀ {l : List Int}, In16 l → 0 ≤ v16 l ∧ v16 l < H ^ l.length
  | [], _ => by simp [v16]
  | a :: l, h => by
    obtain ⟨ha, hl⟩ := h.cons
    have ih := v16_range hl
    rw [v16, List.length_cons, H_succ]
    have h1 : H * v16 l ≤ H * (H ^ l.length - 1) := Int.mul_le_mul_of_nonneg_left (by omega) (by decide)
    have h5 : H * (H ^ l.length - 1) = H * H ^ l.length - H := by rw [Int.mul_sub, Int.mul_one]
    have h6 : 0 ≤ H * v16 l := Int.mul_nonneg (by decide) ih.1
    omega

theorem W_v16 : ∀ {l : List Int}, In16 l → W l.length (v16 l) = l
  | [], _ => rfl
  | a :: l, h => by
    obtain ⟨ha, hl⟩ := h.cons
    have h1 : (a + H * v16 l) % H = a := by rw [Int.add_mul_emod_self_left]; exact Int.emod_eq_of_lt ha.1 ha.2
    have h2 : (a + H * v16 l) / H = v16 l := by
      rw [Int.add_mul_ediv_left _ _ (by decide), Int.ediv_eq_zero_of_lt ha.1 ha.2, Int.zero_add]
    simp only [List.length_cons, W, v16, h1, h2, W_v16 hl]

theorem W_of {n : Nat} {l : List Int} {x : Int} (hl : In16 l) (hn : l.length = n) (hx : x % H ^ n = v16 l) : W n x = l := by
  have h1 := W_v16 (W_in16 n x)
  rw [W_len, v16_W, hx, ← hn, W_v16 hl] at h1
  rw [← hn]; exact h1.symm

theorem W_eq {n : Nat} {x y : Int} : W n x = W n y ↔ x % H ^ n = y % H ^ n := by
  constructor
  · intro h; rw [← v16_W, ← v16_W, h]
  · intro h
    refine W_of (W_in16 n y) (W_len n y) ?_
    rw [v16_W, h]

theorem W_zero : ∀ n, W n 0 = List.replicate n 0
  | 0 => rfl
  | n + 1 => by simp [W, W_zero n, List.replicate_succ]

theorem W_getD : ∀ {n i : Nat} {x : Int}, i < n → (W n x).getD i 0 = x / H ^ i % H
  | n + 1, 0, x, _ => by simp [W]
  | n + 1, i + 1, x, h => by
    simp only [W, List.getD_cons_succ]
    rw [W_getD (by omega), H_succ, Int.ediv_ediv_of_nonneg (by decide)]

theorem W_succ : ∀ (n : Nat) (x : Int), W (n + 1) x = W n x ++ [x / H ^ n % H]
  | 0, x => by simp [W]
  | n + 1, x => by
    rw [W, W_succ n (x / H), W]
    rw [H_succ, Int.ediv_ediv_of_nonneg (by decide)]
    rfl

/-- A word of a list, the higher ones being nought. -/
theorem v16_getD {l : List Int} (h : In16 l) (i : Nat) : l.getD i 0 = v16 l / H ^ i % H := by
  by_cases hi : i < l.length
  · rw [← W_getD hi, W_v16 h]
  · have hr := v16_range h
    have hle : H ^ l.length ≤ H ^ i := by
      rcases Nat.lt_or_ge l.length i with h1 | h1
      · exact Int.le_of_lt (Int.pow_lt_pow_of_lt (by decide) h1)
      · rw [show l.length = i from by omega]; exact Int.le_refl _
    rw [Int.ediv_eq_zero_of_lt hr.1 (by omega), List.getD_eq_getElem?_getD, List.getElem?_eq_none (by omega)]
    rfl

theorem in16_getD {l : List Int} (h : In16 l) (i : Nat) : 0 ≤ l.getD i 0 ∧ l.getD i 0 < H := by rw [v16_getD h]; exact mod_H _

theorem v16_set : ∀ {l : List Int} {i : Nat} (x : Int), i < l.length → v16 (l.set i x) = v16 l + (x - l.getD i 0) * H ^ i
  | a :: l, 0, x, _ => by simp [v16]; omega
  | a :: l, i + 1, x, h => by
    have ih := v16_set (l := l) (i := i) x (by simpa using h)
    simp only [List.set_cons_succ, v16, ih, List.getD_cons_succ, H_succ]
    generalize H ^ i = Y
    generalize l.getD i 0 = y
    generalize H = b
    grind

theorem in16_set {l : List Int} {i : Nat} {x : Int} (h : In16 l) (hx : 0 ≤ x ∧ x < H) : In16 (l.set i x) := by
  intro a ha
  rcases List.mem_or_eq_of_mem_set ha with h1 | h1
  · exact h a h1
  · rw [h1]; exact hx

theorem v16_append : ∀ (l m : List Int), v16 (l ++ m) = v16 l + H ^ l.length * v16 m
  | [], m => by simp [v16]
  | a :: l, m => by
    simp only [List.cons_append, v16, v16_append l m, List.length_cons, H_succ]
    generalize H ^ l.length = Y
    generalize H = b
    grind

theorem mod_pow_succ (x : Int) (k : Nat) : x % H ^ (k + 1) = x % H ^ k + H ^ k * (x / H ^ k % H) := by
  have h := Int.emod_add_mul_ediv x (H ^ k)
  have h2 := Int.emod_add_mul_ediv (x / H ^ k) H
  have hp := H_pos k
  have h3 : 0 ≤ x % H ^ k ∧ x % H ^ k < H ^ k := ⟨Int.emod_nonneg _ (by omega), Int.emod_lt_of_pos _ hp⟩
  have h4 := mod_H (x / H ^ k)
  have hs : H ^ (k + 1) = H ^ k * H := Int.pow_succ _ _
  generalize x / H ^ k % H = q at *
  generalize x / H ^ k / H = y at *
  generalize hs0 : x % H ^ k = s at *
  have hx : x = (s + H ^ k * q) + H ^ (k + 1) * y := by
    rw [hs, ← h, ← h2]
    generalize H ^ k = p
    grind
  have h5 : H ^ k * q ≤ H ^ k * (H - 1) := Int.mul_le_mul_of_nonneg_left (by omega) (by omega)
  have h6 : 0 ≤ H ^ k * q := Int.mul_nonneg (by omega) h4.1
  have h7 : H ^ k * (H - 1) = H ^ k * H - H ^ k := by rw [Int.mul_sub, Int.mul_one]
  have h8 : x % H ^ (k + 1) = (s + H ^ k * q + H ^ (k + 1) * y) % H ^ (k + 1) := by rw [← hx]
  rw [h8, Int.add_mul_emod_self_left, Int.emod_eq_of_lt (by omega) (by omega)]

/-! Sums and differences, word by word. -/

def carA (x y : Int) (k : Nat) : Int := (x % H ^ k + y % H ^ k) / H ^ k

theorem add_split (x y : Int) (k : Nat) : (x + y) / H ^ k = x / H ^ k + y / H ^ k + carA x y k := by
  have h1 := Int.emod_add_mul_ediv x (H ^ k)
  have h2 := Int.emod_add_mul_ediv y (H ^ k)
  have hp := H_pos k
  unfold carA
  generalize H ^ k = p at *
  have e : x + y = x % p + y % p + p * (x / p + y / p) := by
    rw [Int.mul_add]
    generalize p * (x / p) = u at *
    generalize p * (y / p) = v at *
    omega
  have e2 : (x + y) / p = (x % p + y % p + p * (x / p + y / p)) / p := by rw [← e]
  rw [e2, Int.add_mul_ediv_left _ _ (by omega), Int.add_comm]

theorem carA_range (x y : Int) (k : Nat) : 0 ≤ carA x y k ∧ carA x y k ≤ 1 := by
  have hp := H_pos k
  have h3 : 0 ≤ x % H ^ k ∧ x % H ^ k < H ^ k := ⟨Int.emod_nonneg _ (by omega), Int.emod_lt_of_pos _ hp⟩
  have h4 : 0 ≤ y % H ^ k ∧ y % H ^ k < H ^ k := ⟨Int.emod_nonneg _ (by omega), Int.emod_lt_of_pos _ hp⟩
  unfold carA
  generalize x % H ^ k = u at *
  generalize y % H ^ k = v at *
  generalize H ^ k = p at *
  constructor
  · exact Int.ediv_nonneg (by omega) (by omega)
  · have : (u + v) / p < 2 := Int.ediv_lt_of_lt_mul (by omega) (by omega)
    omega

theorem carA_succ (x y : Int) (k : Nat) : carA x y (k + 1) = (x / H ^ k % H + y / H ^ k % H + carA x y k) / H := by
  have hp := H_pos k
  have hs : H ^ (k + 1) = H ^ k * H := Int.pow_succ _ _
  unfold carA
  rw [mod_pow_succ, mod_pow_succ, hs, ← Int.ediv_ediv_of_nonneg (by omega)]
  congr 1
  generalize x / H ^ k % H = a
  generalize y / H ^ k % H = b
  generalize x % H ^ k = u
  generalize y % H ^ k = v
  generalize H ^ k = p at *
  rw [show u + p * a + (v + p * b) = u + v + p * (a + b) from by grind, Int.add_mul_ediv_left _ _ (by omega)]
  omega

def borS (x y : Int) (k : Nat) : Int := if x % H ^ k < y % H ^ k then 1 else 0

theorem sub_split (x y : Int) (k : Nat) : (x - y) / H ^ k = x / H ^ k - y / H ^ k - borS x y k := by
  have h1 := Int.emod_add_mul_ediv x (H ^ k)
  have h2 := Int.emod_add_mul_ediv y (H ^ k)
  have hp := H_pos k
  have h3 : 0 ≤ x % H ^ k ∧ x % H ^ k < H ^ k := ⟨Int.emod_nonneg _ (by omega), Int.emod_lt_of_pos _ hp⟩
  have h4 : 0 ≤ y % H ^ k ∧ y % H ^ k < H ^ k := ⟨Int.emod_nonneg _ (by omega), Int.emod_lt_of_pos _ hp⟩
  unfold borS
  generalize H ^ k = p at *
  have e : x - y = x % p - y % p + p * (x / p - y / p) := by
    rw [Int.mul_sub]
    generalize p * (x / p) = u at *
    generalize p * (y / p) = v at *
    omega
  have e2 : (x - y) / p = (x % p - y % p + p * (x / p - y / p)) / p := by rw [← e]
  rw [e2, Int.add_mul_ediv_left _ _ (by omega)]
  split
  · have : (x % p - y % p) / p = -1 := by
      rw [show x % p - y % p = (x % p - y % p + p) + p * (-1) from by omega, Int.add_mul_ediv_left _ _ (by omega), Int.ediv_eq_zero_of_lt (by omega) (by omega)]
      rfl
    omega
  · rw [Int.ediv_eq_zero_of_lt (by omega) (by omega)]
    omega

theorem borS_range (x y : Int) (k : Nat) : 0 ≤ borS x y k ∧ borS x y k ≤ 1 := by unfold borS; split <;> omega

theorem borS_succ (x y : Int) (k : Nat) : borS x y (k + 1) = 1 - (x / H ^ k % H + H - y / H ^ k % H - borS x y k) / H := by
  have hp := H_pos k
  have hx := mod_pow_succ x k
  have hy := mod_pow_succ y k
  have h3 : 0 ≤ x % H ^ k ∧ x % H ^ k < H ^ k := ⟨Int.emod_nonneg _ (by omega), Int.emod_lt_of_pos _ hp⟩
  have h4 : 0 ≤ y % H ^ k ∧ y % H ^ k < H ^ k := ⟨Int.emod_nonneg _ (by omega), Int.emod_lt_of_pos _ hp⟩
  have h5 := mod_H (x / H ^ k)
  have h6 := mod_H (y / H ^ k)
  unfold borS
  rw [hx, hy]
  generalize x / H ^ k % H = a at *
  generalize y / H ^ k % H = b at *
  generalize x % H ^ k = u at *
  generalize y % H ^ k = v at *
  generalize H ^ k = p at *
  clear hx hy
  rcases Int.lt_trichotomy a b with hab | hab | hab
  · have : p * (a + 1) ≤ p * b := Int.mul_le_mul_of_nonneg_left (by omega) (by omega)
    rw [Int.mul_add, Int.mul_one] at this
    rw [if_pos (by omega)]
    have : (a + H - b - if u < v then 1 else 0) / H = 0 := by
      split <;> exact Int.ediv_eq_zero_of_lt (by omega) (by omega)
    omega
  · subst hab
    by_cases huv : u < v
    · rw [if_pos (by omega), if_pos huv, Int.ediv_eq_zero_of_lt (by omega) (by omega)]
      rfl
    · rw [if_neg (by omega), if_neg huv]
      have : (a + H - a - 0) / H = 1 := by rw [show a + H - a - 0 = H from by omega]; rfl
      omega
  · have : p * (b + 1) ≤ p * a := Int.mul_le_mul_of_nonneg_left (by omega) (by omega)
    rw [Int.mul_add, Int.mul_one] at this
    rw [if_neg (by omega)]
    have : (a + H - b - if u < v then 1 else 0) / H = 1 := by
      have : 0 ≤ (if u < v then (1 : Int) else 0) ∧ (if u < v then (1 : Int) else 0) ≤ 1 := by split <;> omega
      generalize (if u < v then (1 : Int) else 0) = c at *
      unfold H at *
      omega
    omega

/-- Where all higher words are the same, the highest unlike ones tell which is less. -/
theorem less_at {x y : Int} {k : Nat} (h : x / H ^ (k + 1) = y / H ^ (k + 1)) (hd : x / H ^ k % H ≠ y / H ^ k % H) : x < y ↔ x / H ^ k % H < y / H ^ k % H := by
  have hp := H_pos k
  have hs : H ^ (k + 1) = H ^ k * H := Int.pow_succ _ _
  rw [hs, ← Int.ediv_ediv_of_nonneg (by omega), ← Int.ediv_ediv_of_nonneg (by omega)] at h
  have h1 := Int.emod_add_mul_ediv (x / H ^ k) H
  have h2 := Int.emod_add_mul_ediv (y / H ^ k) H
  rw [h] at h1
  have key : x / H ^ k < y / H ^ k ↔ x / H ^ k % H < y / H ^ k % H := by omega
  rw [← key]
  have hx := Int.emod_add_mul_ediv x (H ^ k)
  have hy := Int.emod_add_mul_ediv y (H ^ k)
  have h3 : 0 ≤ x % H ^ k ∧ x % H ^ k < H ^ k := ⟨Int.emod_nonneg _ (by omega), Int.emod_lt_of_pos _ hp⟩
  have h4 : 0 ≤ y % H ^ k ∧ y % H ^ k < H ^ k := ⟨Int.emod_nonneg _ (by omega), Int.emod_lt_of_pos _ hp⟩
  have hne : x / H ^ k ≠ y / H ^ k := fun e => hd (by rw [e])
  generalize x / H ^ k = a at *
  generalize y / H ^ k = b at *
  generalize x % H ^ k = u at *
  generalize y % H ^ k = v at *
  generalize H ^ k = p at *
  constructor
  · intro hlt
    rcases Int.lt_trichotomy a b with hab | hab | hab
    · exact hab
    · exact (hne hab).elim
    · have : p * (b + 1) ≤ p * a := Int.mul_le_mul_of_nonneg_left (by omega) (by omega)
      rw [Int.mul_add, Int.mul_one] at this
      omega
  · intro hlt
    have : p * (a + 1) ≤ p * b := Int.mul_le_mul_of_nonneg_left (by omega) (by omega)
    rw [Int.mul_add, Int.mul_one] at this
    omega

theorem div_step {x y : Int} {k : Nat} (h : x / H ^ (k + 1) = y / H ^ (k + 1)) (hd : x / H ^ k % H = y / H ^ k % H) : x / H ^ k = y / H ^ k := by
  have hp := H_pos k
  have hs : H ^ (k + 1) = H ^ k * H := Int.pow_succ _ _
  rw [hs, ← Int.ediv_ediv_of_nonneg (by omega), ← Int.ediv_ediv_of_nonneg (by omega)] at h
  have h1 := Int.emod_add_mul_ediv (x / H ^ k) H
  have h2 := Int.emod_add_mul_ediv (y / H ^ k) H
  rw [h, hd] at h1
  exact h1.symm.trans h2

theorem v16_div_zero {l : List Int} (h : In16 l) {n : Nat} (hn : l.length ≤ n) : v16 l / H ^ n = 0 := by
  have hr := v16_range h
  have hle : H ^ l.length ≤ H ^ n := by
    rcases Nat.lt_or_ge l.length n with h1 | h1
    · exact Int.le_of_lt (Int.pow_lt_pow_of_lt (by decide) h1)
    · rw [show l.length = n from by omega]; exact Int.le_refl _
  exact Int.ediv_eq_zero_of_lt hr.1 (by omega)

/-! Bytes in words. -/

theorem byte_half {x : Int} {i : Nat} : x / H ^ (i / 2) % H / 2 ^ (8 * (i % 2)) % 256 = x / 256 ^ i % 256 := by
  have e0 : (256 : Int) ^ i = H ^ (i / 2) * 2 ^ (8 * (i % 2)) := by
    have h : i = 2 * (i / 2) + i % 2 := by omega
    calc (256 : Int) ^ i = 256 ^ (2 * (i / 2) + i % 2) := by rw [← h]
      _ = _ := by rw [Int.pow_add, Int.pow_mul, Int.pow_mul]; rfl
  rw [e0, ← Int.ediv_ediv_of_nonneg (by have := H_pos (i / 2); omega)]
  generalize x / H ^ (i / 2) = z
  have hi : i % 2 = 0 ∨ i % 2 = 1 := by omega
  unfold H
  rcases hi with h | h <;> rw [h]
  · show z % 65536 / 1 % 256 = z / 1 % 256
    omega
  · show z % 65536 / 256 % 256 = z / 256 % 256
    omega

end Go.Num
