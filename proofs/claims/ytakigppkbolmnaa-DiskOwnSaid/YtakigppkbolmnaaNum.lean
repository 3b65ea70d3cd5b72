/- Numbers in words of 64 bits, and Montgomery's product. Plain mathematics: it states nothing of any program. -/
import Derived.WalkKit
namespace Go.Num

abbrev B : Int := 18446744073709551616

/-- The number that words are, the lowest first. -/
def val : List Int → Int
  | [] => 0
  | a :: l => a + B * val l

/-- The words of a number. -/
def limbs : Nat → Int → List Int
  | 0, _ => []
  | n + 1, x => x % B :: limbs n (x / B)

def InR (l : List Int) : Prop := ∀ a ∈ l, 0 ≤ a ∧ a < B

theorem InR.cons {a : Int} {l : List Int} (h : InR (a :: l)) : (0 ≤ a ∧ a < B) ∧ InR l := ⟨h a (List.mem_cons_self ..), fun b hb => h b (List.mem_cons_of_mem _ hb)⟩
theorem inR_cons {a : Int} {l : List Int} (h : 0 ≤ a ∧ a < B) (k : InR l) : InR (a :: l) := by
  intro b hb
  rcases List.mem_cons.1 hb with rfl | hb
  · exact h
  · exact k b hb
theorem inR_nil : InR [] := fun a h => by cases h

theorem limbs_len : ∀ (n : Nat) (x : Int), (limbs n x).length = n
  | 0, _ => rfl
  | n + 1, x => by simp [limbs, limbs_len n]

theorem limbs_inR : ∀ (n : Nat) (x : Int), InR (limbs n x)
  | 0, _ => inR_nil
  | n + 1, x => inR_cons ⟨Int.emod_nonneg _ (by decide), Int.emod_lt_of_pos _ (by decide)⟩ (limbs_inR n _)

theorem Bpow_pos (n : Nat) : 0 < B ^ n := Int.pow_pos (by decide)

theorem val_limbs : ∀ (n : Nat) (x : Int), val (limbs n x) = x % B ^ n
  | 0, x => by simp [limbs, val, Int.emod_one]
  | n + 1, x => by
    simp only [limbs, val, val_limbs n]
    have h1 := Int.emod_add_mul_ediv x B
    have h2 := Int.emod_add_mul_ediv (x / B) (B ^ n)
    have h3 : 0 ≤ x % B ∧ x % B < B := ⟨Int.emod_nonneg _ (by decide), Int.emod_lt_of_pos _ (by decide)⟩
    have h4 : 0 ≤ x / B % B ^ n ∧ x / B % B ^ n < B ^ n := ⟨Int.emod_nonneg _ (by have := Bpow_pos n; omega), Int.emod_lt_of_pos _ (Bpow_pos n)⟩
    have hs : B ^ (n + 1) = B * B ^ n := by rw [Int.pow_succ, Int.mul_comm]
    generalize hq : x / B % B ^ n = q at *
    generalize x / B / B ^ n = y at *
    have hx : x = (x % B + B * q) + B ^ (n + 1) * y := by
      rw [hs, Int.mul_assoc]
      calc x = x % B + B * (x / B) := h1.symm
        _ = x % B + B * (q + B ^ n * y) := by rw [h2]
        _ = _ := by rw [Int.mul_add, Int.add_assoc]
    have hr : 0 ≤ x % B + B * q ∧ x % B + B * q < B ^ (n + 1) := by
      have : B * q ≤ B * (B ^ n - 1) := Int.mul_le_mul_of_nonneg_left (by omega) (by decide)
      rw [hs]
      have h5 : B * (B ^ n - 1) = B * B ^ n - B := by rw [Int.mul_sub, Int.mul_one]
      have h6 : 0 ≤ B * q := Int.mul_nonneg (by decide) h4.1
      omega
    generalize hz : x % B + B * q = z at *
    rw [hx, Int.add_mul_emod_self_left, Int.emod_eq_of_lt hr.1 hr.2]

theorem limbs_val : ∀ {l : List Int}, InR l → limbs l.length (val l) = l
  | [], _ => rfl
  | a :: l, h => by
    obtain ⟨ha, hl⟩ := h.cons
    have h1 : (a + B * val l) % B = a := by rw [Int.add_mul_emod_self_left]; exact Int.emod_eq_of_lt ha.1 ha.2
    have h2 : (a + B * val l) / B = val l := by
      rw [Int.add_mul_ediv_left _ _ (by decide), Int.ediv_eq_zero_of_lt ha.1 ha.2, Int.zero_add]
    simp only [List.length_cons, limbs, val, h1, h2, limbs_val hl]

theorem val_range : ∀ {l : List Int}, InR l → 0 ≤ val l ∧ val l < B ^ l.length
  | [], _ => by simp [val]
  | a :: l, h => by
    obtain ⟨ha, hl⟩ := h.cons
    have ih := val_range hl
    have hs : B ^ (l.length + 1) = B * B ^ l.length := by rw [Int.pow_succ, Int.mul_comm]
    simp only [val, List.length_cons, hs]
    have h1 : B * val l ≤ B * (B ^ l.length - 1) := Int.mul_le_mul_of_nonneg_left (by omega) (by decide)
    have h5 : B * (B ^ l.length - 1) = B * B ^ l.length - B := by rw [Int.mul_sub, Int.mul_one]
    have h6 : 0 ≤ B * val l := Int.mul_nonneg (by decide) ih.1
    omega

theorem limbs_of {n : Nat} {l : List Int} {x : Int} (hl : InR l) (hn : l.length = n) (hx : x % B ^ n = val l) : limbs n x = l := by
  have h1 := limbs_val (limbs_inR n x)
  rw [limbs_len, val_limbs, hx, ← hn, limbs_val hl] at h1
  rw [← hn]; exact h1.symm

theorem limbs_eq {n : Nat} {x y : Int} : limbs n x = limbs n y ↔ x % B ^ n = y % B ^ n := by
  constructor
  · intro h; rw [← val_limbs, ← val_limbs, h]
  · intro h
    refine limbs_of (limbs_inR n y) (limbs_len n y) ?_
    rw [val_limbs, h]

/-- A difference word by word, with what is borrowed. -/
def subL : List Int → List Int → Int → List Int
  | a :: as, b :: bs, k => (a + B - b - k) % B :: subL as bs (if a < b + k then 1 else 0)
  | _, _, _ => []

def subK : List Int → List Int → Int → Int
  | a :: as, b :: bs, k => subK as bs (if a < b + k then 1 else 0)
  | _, _, k => k

theorem subL_spec : ∀ {as bs : List Int} {k : Int}, InR as → InR bs → as.length = bs.length → (0 ≤ k ∧ k ≤ 1) →
    InR (subL as bs k) ∧ (subL as bs k).length = as.length ∧ (0 ≤ subK as bs k ∧ subK as bs k ≤ 1) ∧ val (subL as bs k) = val as - val bs - k + B ^ as.length * subK as bs k
  | [], [], k, _, _, _, hk => by simp [subL, subK, val, inR_nil, hk]; omega
  | a :: as, b :: bs, k, ha, hb, hl, hk => by
    obtain ⟨ha1, ha2⟩ := ha.cons
    obtain ⟨hb1, hb2⟩ := hb.cons
    have hk' : 0 ≤ (if a < b + k then (1 : Int) else 0) ∧ (if a < b + k then (1 : Int) else 0) ≤ 1 := by split <;> omega
    obtain ⟨i1, i2, i3, i4⟩ := subL_spec (k := if a < b + k then 1 else 0) ha2 hb2 (by simpa using hl) hk'
    simp only [subL, subK, val, List.length_cons]
    refine ⟨inR_cons ⟨Int.emod_nonneg _ (by decide), Int.emod_lt_of_pos _ (by decide)⟩ i1, by omega, i3, ?_⟩
    rw [i4]
    have h1 : (a + B - b - k) % B = a - b - k + B * (if a < b + k then 1 else 0) := by unfold B at *; split <;> omega
    rw [h1]
    generalize (if a < b + k then (1 : Int) else 0) = k'
    have hs : B ^ (as.length + 1) = B * B ^ as.length := by rw [Int.pow_succ, Int.mul_comm]
    rw [hs]
    generalize B ^ as.length = W
    generalize subK as bs k' = K
    generalize B = b0
    grind

/-- A sum word by word. -/
def addL : List Int → List Int → Int → List Int
  | a :: as, b :: bs, k => (a + b + k) % B :: addL as bs ((a + b + k) / B)
  | _, _, _ => []

def addK : List Int → List Int → Int → Int
  | a :: as, b :: bs, k => addK as bs ((a + b + k) / B)
  | _, _, k => k

theorem addL_spec : ∀ {as bs : List Int} {k : Int}, InR as → InR bs → as.length = bs.length → (0 ≤ k ∧ k ≤ 1) →
    InR (addL as bs k) ∧ (addL as bs k).length = as.length ∧ (0 ≤ addK as bs k ∧ addK as bs k ≤ 1) ∧ val (addL as bs k) = val as + val bs + k - B ^ as.length * addK as bs k
  | [], [], k, _, _, _, hk => by simp [addL, addK, val, inR_nil, hk]
  | a :: as, b :: bs, k, ha, hb, hl, hk => by
    obtain ⟨ha1, ha2⟩ := ha.cons
    obtain ⟨hb1, hb2⟩ := hb.cons
    have hk' : 0 ≤ (a + b + k) / B ∧ (a + b + k) / B ≤ 1 := by unfold B at *; omega
    obtain ⟨i1, i2, i3, i4⟩ := addL_spec (k := (a + b + k) / B) ha2 hb2 (by simpa using hl) hk'
    simp only [addL, addK, val, List.length_cons]
    refine ⟨inR_cons ⟨Int.emod_nonneg _ (by decide), Int.emod_lt_of_pos _ (by decide)⟩ i1, by omega, i3, ?_⟩
    rw [i4]
    have h1 : (a + b + k) % B = a + b + k - B * ((a + b + k) / B) := by unfold B at *; omega
    rw [h1]
    generalize (a + b + k) / B = k'
    have hs : B ^ (as.length + 1) = B * B ^ as.length := by rw [Int.pow_succ, Int.mul_comm]
    rw [hs]
    generalize B ^ as.length = W
    generalize addK as bs k' = K
    generalize B = b0
    grind

/-- One round of a product after Montgomery, behind its lowest word. 'a', 'c': what is carried of x times v, and of m times the modulus. -/
def rowL (v m : Int) : List Int → List Int → List Int → Int → Int → List Int
  | x :: xs, t :: ts, r :: rs, a, c => (m * r + (x * v + t + a) % B + c) % B :: rowL v m xs ts rs ((x * v + t + a) / B) ((m * r + (x * v + t + a) % B + c) / B)
  | _, _, _, a, c => [a + c]

theorem carry_range {x v t a : Int} (hx : 0 ≤ x ∧ x < B) (hv : 0 ≤ v ∧ v < B) (ht : 0 ≤ t ∧ t < B) (ha : 0 ≤ a ∧ a < B) : 0 ≤ (x * v + t + a) / B ∧ (x * v + t + a) / B < B := by
  have h0 : 0 ≤ x * v := Int.mul_nonneg hx.1 hv.1
  have h1 : x * v ≤ (B - 1) * (B - 1) := Int.mul_le_mul (by omega) (by omega) hv.1 (by decide)
  have h2 : (B - 1) * (B - 1) + (B - 1) + (B - 1) = B * B - 1 := by decide
  constructor
  · exact Int.ediv_nonneg (by omega) (by decide)
  · exact Int.ediv_lt_of_lt_mul (by decide) (by omega)

theorem rowL_spec {v m : Int} (hv : 0 ≤ v ∧ v < B) (hm : 0 ≤ m ∧ m < B) : ∀ {xs ts rs : List Int} {a c : Int}, InR xs → InR ts → InR rs → xs.length = ts.length → xs.length = rs.length → (0 ≤ a ∧ a < B) → (0 ≤ c ∧ c < B) →
    (rowL v m xs ts rs a c).length = xs.length + 1 ∧ val (rowL v m xs ts rs a c) = v * val xs + val ts + m * val rs + a + c ∧
    (∃ ys a' c', rowL v m xs ts rs a c = ys ++ [a' + c'] ∧ InR ys ∧ (0 ≤ a' ∧ a' < B) ∧ (0 ≤ c' ∧ c' < B))
  | [], [], [], a, c, _, _, _, _, _, ha, hc => by
    refine ⟨rfl, by simp [rowL, val], [], a, c, rfl, inR_nil, ha, hc⟩
  | x :: xs, t :: ts, r :: rs, a, c, hx, ht, hr, h1, h2, ha, hc => by
    obtain ⟨hx1, hx2⟩ := hx.cons
    obtain ⟨ht1, ht2⟩ := ht.cons
    obtain ⟨hr1, hr2⟩ := hr.cons
    have hs : 0 ≤ (x * v + t + a) % B ∧ (x * v + t + a) % B < B := ⟨Int.emod_nonneg _ (by decide), Int.emod_lt_of_pos _ (by decide)⟩
    obtain ⟨i1, i2, ys, a', c', i3, i4, i5, i6⟩ := rowL_spec hv hm hx2 ht2 hr2 (by simpa using h1) (by simpa using h2) (carry_range hx1 hv ht1 ha) (carry_range hm hr1 hs hc)
    simp only [rowL, List.length_cons, val]
    refine ⟨by omega, ?_, _ :: ys, a', c', by rw [i3]; rfl, inR_cons ⟨Int.emod_nonneg _ (by decide), Int.emod_lt_of_pos _ (by decide)⟩ i4, i5, i6⟩
    rw [i2]
    have e1 := Int.emod_add_mul_ediv (x * v + t + a) B
    have e2 := Int.emod_add_mul_ediv (m * r + (x * v + t + a) % B + c) B
    generalize (m * r + (x * v + t + a) % B + c) % B = p1 at *
    generalize (m * r + (x * v + t + a) % B + c) / B = p2 at *
    generalize (x * v + t + a) % B = p3 at *
    generalize (x * v + t + a) / B = p4 at *
    generalize B = b0 at *
    grind

theorem val_append : ∀ (l m : List Int), val (l ++ m) = val l + B ^ l.length * val m
  | [], m => by simp [val]
  | a :: l, m => by
    have hs : B ^ (l.length + 1) = B * B ^ l.length := by rw [Int.pow_succ, Int.mul_comm]
    simp only [List.cons_append, val, val_append l m, List.length_cons, hs]
    generalize B ^ l.length = W
    generalize B = b0
    grind

/-- The words behind a round: the number is (t + v x + m r) / 2^64, if that is small enough. -/
theorem round_spec {x0 t0 r0 v m : Int} {xs ts rs : List Int} (hv : 0 ≤ v ∧ v < B) (hm : 0 ≤ m ∧ m < B) (hx : InR (x0 :: xs)) (ht : InR (t0 :: ts)) (hr : InR (r0 :: rs)) (h1 : xs.length = ts.length) (h2 : xs.length = rs.length)
    (hz : (m * r0 + (x0 * v + t0) % B) % B = 0) (hb : val (t0 :: ts) + v * val (x0 :: xs) + m * val (r0 :: rs) < B * B ^ (xs.length + 1)) :
    let l := rowL v m xs ts rs ((x0 * v + t0) / B) ((m * r0 + (x0 * v + t0) % B) / B)
    InR l ∧ l.length = xs.length + 1 ∧ B * val l = val (t0 :: ts) + v * val (x0 :: xs) + m * val (r0 :: rs) := by
  intro l
  obtain ⟨hx1, hx2⟩ := hx.cons
  obtain ⟨ht1, ht2⟩ := ht.cons
  obtain ⟨hr1, hr2⟩ := hr.cons
  have hs : 0 ≤ (x0 * v + t0) % B ∧ (x0 * v + t0) % B < B := ⟨Int.emod_nonneg _ (by decide), Int.emod_lt_of_pos _ (by decide)⟩
  have ca := carry_range (a := 0) hx1 hv ht1 (by decide)
  have cc := carry_range (a := 0) hm hr1 hs (by decide)
  rw [Int.add_zero] at ca cc
  obtain ⟨i1, i2, ys, a', c', i3, i4, i5, i6⟩ := rowL_spec hv hm hx2 ht2 hr2 h1 h2 ca cc
  have e1 := Int.emod_add_mul_ediv (x0 * v + t0) B
  have e2 := Int.emod_add_mul_ediv (m * r0 + (x0 * v + t0) % B) B
  rw [hz] at e2
  have hv' : B * val l = val (t0 :: ts) + v * val (x0 :: xs) + m * val (r0 :: rs) := by
    show B * val (rowL v m xs ts rs ((x0 * v + t0) / B) ((m * r0 + (x0 * v + t0) % B) / B)) = _
    rw [i2]
    simp only [val]
    generalize (m * r0 + (x0 * v + t0) % B) / B = p1 at *
    generalize (x0 * v + t0) % B = p2 at *
    generalize (x0 * v + t0) / B = p3 at *
    generalize B = b0 at *
    grind
  have hlt : val l < B ^ (xs.length + 1) := by
    rw [← hv'] at hb
    exact Int.lt_of_mul_lt_mul_left hb (by decide)
  refine ⟨?_, i1, hv'⟩
  have hl : l = ys ++ [a' + c'] := i3
  have hlen : ys.length = xs.length := by
    have : l.length = xs.length + 1 := i1
    rw [hl] at this
    simpa using this
  have hsum : a' + c' < B := by
    rw [hl, val_append] at hlt
    simp only [val, Int.mul_zero, Int.add_zero, hlen] at hlt
    have h0 := (val_range i4).1
    have hs : B ^ (xs.length + 1) = B ^ xs.length * B := Int.pow_succ _ _
    rw [hs] at hlt
    exact Int.lt_of_mul_lt_mul_left (a := B ^ xs.length) (by omega) (by have := Bpow_pos xs.length; omega)
  rw [hl]
  intro y hy
  rcases List.mem_append.1 hy with hy | hy
  · exact i4 y hy
  · simp only [List.mem_cons, List.not_mem_nil, or_false] at hy
    subst hy
    omega

end Go.Num
