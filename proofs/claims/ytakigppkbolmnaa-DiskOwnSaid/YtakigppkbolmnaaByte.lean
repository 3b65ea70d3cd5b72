/- Numbers in bytes. Plain mathematics. -/
import Derived.Test.YtakigppkbolmnaaNum
namespace Go.Num

theorem val_set : ∀ {l : List Int} {i : Nat} (x : Int), i < l.length → val (l.set i x) = val l + (x - l.getD i 0) * B ^ i
  | a :: l, 0, x, _ => by simp [val]; omega
  | a :: l, i + 1, x, h => by
    have ih := val_set (l := l) (i := i) x (by simpa using h)
    have hs : B ^ (i + 1) = B * B ^ i := by rw [Int.pow_succ, Int.mul_comm]
    simp only [List.set_cons_succ, val, ih, List.getD_cons_succ, hs]
    generalize B ^ i = W
    generalize l.getD i 0 = y
    generalize B = b
    grind

theorem inR_set {l : List Int} {i : Nat} {x : Int} (h : InR l) (hx : 0 ≤ x ∧ x < B) : InR (l.set i x) := by
  intro a ha
  rcases List.mem_or_eq_of_mem_set ha with h1 | h1
  · exact h a h1
  · rw [h1]; exact hx

/-- The number that bytes are, the highest first. -/
def be : List Int → Int
  | [] => 0
  | b :: l => b * 256 ^ l.length + be l

def InB (l : List Int) : Prop := ∀ a ∈ l, 0 ≤ a ∧ a < 256

theorem be_append : ∀ (l m : List Int), be (l ++ m) = be l * 256 ^ m.length + be m
  | [], m => by simp [be]
  | b :: l, m => by
    simp only [List.cons_append, be, be_append l m, List.length_append, Int.pow_add]
    generalize (256 : Int) ^ l.length = x
    generalize (256 : Int) ^ m.length = y
    grind

theorem be_range : ∀ {l : List Int}, InB l → 0 ≤ be l ∧ be l < 256 ^ l.length
  | [], _ => by simp [be]
  | b :: l, h => by
    have hb := h b (List.mem_cons_self ..)
    have ih := be_range (l := l) fun a ha => h a (List.mem_cons_of_mem _ ha)
    have h1 : b * 256 ^ l.length ≤ 255 * 256 ^ l.length := Int.mul_le_mul_of_nonneg_right (by omega) (by omega)
    have h2 : 0 ≤ b * 256 ^ l.length := Int.mul_nonneg hb.1 (by omega)
    simp only [be, List.length_cons, Int.pow_succ]
    omega

/-- So many bytes of a number, the highest first. -/
def beB : Nat → Int → List Int
  | 0, _ => []
  | n + 1, x => x / 256 ^ n % 256 :: beB n x

theorem beB_len : ∀ (n : Nat) (x : Int), (beB n x).length = n
  | 0, _ => rfl
  | n + 1, x => by simp [beB, beB_len n]

theorem beB_inB : ∀ (n : Nat) (x : Int), InB (beB n x)
  | 0, _ => fun a h => by cases h
  | n + 1, x => by
    intro a ha
    rcases List.mem_cons.1 ha with rfl | ha
    · exact ⟨Int.emod_nonneg _ (by decide), Int.emod_lt_of_pos _ (by decide)⟩
    · exact beB_inB n x a ha

theorem beB_range (x : Int) : ∀ n, (List.range n).map (fun i => x / 256 ^ (n - 1 - i) % 256) = beB n x
  | 0 => rfl
  | n + 1 => by
    rw [List.range_succ_eq_map, List.map_cons, List.map_map, beB, ← beB_range x n]
    congr 1
    refine List.map_congr_left fun i _ => ?_
    simp only [Function.comp]
    rw [show n + 1 - 1 - (i + 1) = n - 1 - i from by omega]

theorem be_beB : ∀ (n : Nat) (x : Int), be (beB n x) = x % 256 ^ n
  | 0, x => by simp [beB, be, Int.emod_one]
  | n + 1, x => by
    simp only [beB, be, beB_len, be_beB n x]
    have h1 := Int.emod_add_mul_ediv x (256 ^ n)
    have h2 := Int.emod_add_mul_ediv (x / 256 ^ n) 256
    have hp : (0 : Int) < 256 ^ n := Int.pow_pos (by decide)
    have h3 : 0 ≤ x % 256 ^ n ∧ x % 256 ^ n < 256 ^ n := ⟨Int.emod_nonneg _ (by omega), Int.emod_lt_of_pos _ hp⟩
    have h4 : 0 ≤ x / 256 ^ n % 256 ∧ x / 256 ^ n % 256 < 256 := ⟨Int.emod_nonneg _ (by decide), Int.emod_lt_of_pos _ (by decide)⟩
    have hs : (256 : Int) ^ (n + 1) = 256 ^ n * 256 := Int.pow_succ _ _
    generalize x / 256 ^ n % 256 = q at *
    generalize x / 256 ^ n / 256 = y at *
    generalize x % 256 ^ n = s at *
    have hx : x = (q * 256 ^ n + s) + 256 ^ (n + 1) * y := by
      rw [hs, ← h1, ← h2]
      generalize (256 : Int) ^ n = p
      grind
    have h5 : q * 256 ^ n ≤ 255 * 256 ^ n := Int.mul_le_mul_of_nonneg_right (by omega) (by omega)
    have h6 : 0 ≤ q * 256 ^ n := Int.mul_nonneg h4.1 (by omega)
    rw [hx, Int.add_mul_emod_self_left, Int.emod_eq_of_lt (by omega) (by omega)]

theorem beB_inj {n : Nat} {x y : Int} : beB n x = beB n y ↔ x % 256 ^ n = y % 256 ^ n := by
  constructor
  · intro h; rw [← be_beB, ← be_beB, h]
  · intro h
    have key : ∀ (n : Nat) {l m : List Int}, l.length = n → m.length = n → InB l → InB m → be l = be m → l = m := by
      intro n
      induction n with
      | zero => intro l m hl hm _ _ _; rw [List.length_eq_zero_iff.1 hl, List.length_eq_zero_iff.1 hm]
      | succ n ih =>
        intro l m hl hm hbl hbm he
        cases l with
        | nil => cases hl
        | cons a l =>
          cases m with
          | nil => cases hm
          | cons b m =>
            simp only [List.length_cons, Nat.add_right_cancel_iff] at hl hm
            have r1 := be_range (l := l) fun a ha => hbl a (List.mem_cons_of_mem _ ha)
            have r2 := be_range (l := m) fun a ha => hbm a (List.mem_cons_of_mem _ ha)
            rw [hl] at r1
            rw [hm] at r2
            simp only [be, hl, hm] at he
            have hab : a = b := by
              rcases Int.lt_trichotomy a b with h | h | h
              · have : (a + 1) * 256 ^ n ≤ b * 256 ^ n := Int.mul_le_mul_of_nonneg_right (by omega) (by omega)
                rw [Int.add_mul] at this
                omega
              · exact h
              · have : (b + 1) * 256 ^ n ≤ a * 256 ^ n := Int.mul_le_mul_of_nonneg_right (by omega) (by omega)
                rw [Int.add_mul] at this
                omega
            subst hab
            rw [ih hl hm (fun a ha => hbl a (List.mem_cons_of_mem _ ha)) (fun a ha => hbm a (List.mem_cons_of_mem _ ha)) (by omega)]
    refine key n (beB_len _ _) (beB_len _ _) (beB_inB _ _) (beB_inB _ _) ?_
    rw [be_beB, be_beB, h]

theorem be_inj {l m : List Int} (hl : InB l) (hm : InB m) (h : l.length = m.length) : be l = be m ↔ l = m := by
  constructor
  · intro he
    have h1 : beB l.length (be l) = beB l.length (be m) := by rw [he]
    have key : ∀ {l : List Int}, InB l → beB l.length (be l) = l := by
      intro l
      induction l with
      | nil => intro _; rfl
      | cons a l ih =>
        intro hl
        have ha := hl a (List.mem_cons_self ..)
        have r := be_range (l := l) fun a ha => hl a (List.mem_cons_of_mem _ ha)
        have hp : (0 : Int) < 256 ^ l.length := Int.pow_pos (by decide)
        have e1 : (a * 256 ^ l.length + be l) / 256 ^ l.length = a := by
          rw [Int.add_comm, Int.add_mul_ediv_right _ _ (by omega), Int.ediv_eq_zero_of_lt r.1 r.2, Int.zero_add]
        have e2 : beB l.length (a * 256 ^ l.length + be l) = beB l.length (be l) := by
          refine beB_inj.2 ?_
          rw [Int.add_comm, Int.add_mul_emod_self_right]
        simp only [List.length_cons, beB, be, e1, e2]
        rw [ih fun a ha => hl a (List.mem_cons_of_mem _ ha), Int.emod_eq_of_lt ha.1 ha.2]
    rw [key hl, h, key hm] at h1
    exact h1
  · intro h; rw [h]

theorem byte_word {x : Int} {j s : Nat} (hs : s < 8) : x / B ^ j % B / 2 ^ (8 * s) % 256 = x / 256 ^ (8 * j + s) % 256 := by
  have e0 : (256 : Int) ^ (8 * j + s) = B ^ j * 2 ^ (8 * s) := by
    rw [Int.pow_add, Int.pow_mul, Int.pow_mul]
    rfl
  have hp : (0 : Int) < 2 ^ (8 * s) := Int.pow_pos (by decide)
  have hq : ∃ q : Int, B = 2 ^ (8 * s) * (256 * q) := by
    refine ⟨2 ^ (8 * (7 - s)), ?_⟩
    have : (256 : Int) = 2 ^ 8 := by decide
    rw [this, ← Int.pow_add, ← Int.pow_add, show 8 * s + (8 + 8 * (7 - s)) = 64 from by omega]
    rfl
  obtain ⟨q, hq⟩ := hq
  rw [e0, ← Int.ediv_ediv_of_nonneg (by have := Bpow_pos j; omega)]
  generalize x / B ^ j = z
  have h1 := Int.emod_add_mul_ediv z B
  generalize z % B = r at *
  generalize z / B = k at *
  rw [← h1, hq]
  rw [show r + 2 ^ (8 * s) * (256 * q) * k = r + 2 ^ (8 * s) * (256 * (q * k)) from by grind, Int.add_mul_ediv_left _ _ (by omega), Int.add_mul_emod_self_left]

end Go.Num
