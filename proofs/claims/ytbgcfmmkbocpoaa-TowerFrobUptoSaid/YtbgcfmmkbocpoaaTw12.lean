/- The tower's laws: the reference's product is the product. -/
import Derived.Test.YtbgcfmmkbocpoaaTw11
namespace Go.Num
open Go.Abs Go.Proofs Go.Shelf Go.Alg

/-- The pair that the k-th two words are. -/
def pk (o : List (List Int)) (k : Nat) : K2 := ⟨v16 (o.getD (2 * k) []), v16 (o.getD (2 * k + 1) [])⟩

def sStep (X Y : Nat → K2) (s : Nat → K2) (i j : Nat) : Nat → K2 := fun k => bif Nat.beq k ((i + j) % 6) then s k + (bif Nat.ble 6 (i + j) then X i * Y j * xi else X i * Y j) else s k
def sAll (X Y : Nat → K2) : List (Nat × Nat) → (Nat → K2) → Nat → K2
  | [], s => s
  | (i, j) :: r, s => sAll X Y r (sStep X Y s i j)

theorem sum0 (X Y : Nat → K2) : sAll X Y idx (fun _ => 0) 0 = (((((0 + X 0 * Y 0) + X 1 * Y 5 * xi) + X 2 * Y 4 * xi) + X 3 * Y 3 * xi) + X 4 * Y 2 * xi) + X 5 * Y 1 * xi := by kernel_rfl
theorem sum1 (X Y : Nat → K2) : sAll X Y idx (fun _ => 0) 1 = (((((0 + X 0 * Y 1) + X 1 * Y 0) + X 2 * Y 5 * xi) + X 3 * Y 4 * xi) + X 4 * Y 3 * xi) + X 5 * Y 2 * xi := by kernel_rfl
theorem sum2 (X Y : Nat → K2) : sAll X Y idx (fun _ => 0) 2 = (((((0 + X 0 * Y 2) + X 1 * Y 1) + X 2 * Y 0) + X 3 * Y 5 * xi) + X 4 * Y 4 * xi) + X 5 * Y 3 * xi := by kernel_rfl
theorem sum3 (X Y : Nat → K2) : sAll X Y idx (fun _ => 0) 3 = (((((0 + X 0 * Y 3) + X 1 * Y 2) + X 2 * Y 1) + X 3 * Y 0) + X 4 * Y 5 * xi) + X 5 * Y 4 * xi := by kernel_rfl
theorem sum4 (X Y : Nat → K2) : sAll X Y idx (fun _ => 0) 4 = (((((0 + X 0 * Y 4) + X 1 * Y 3) + X 2 * Y 2) + X 3 * Y 1) + X 4 * Y 0) + X 5 * Y 5 * xi := by kernel_rfl
theorem sum5 (X Y : Nat → K2) : sAll X Y idx (fun _ => 0) 5 = (((((0 + X 0 * Y 5) + X 1 * Y 4) + X 2 * Y 3) + X 3 * Y 2) + X 4 * Y 1) + X 5 * Y 0 := by kernel_rfl

theorem md_mod (x : Int) : Md MN (x % fld.m) x := by
  rw [md_int, m_MN]
  exact Int.emod_emod ..

theorem v_mod (x : Int) : Md MN (v16 (W 24 (x % fld.m))) x := by
  rw [vX]
  exact md_mod x

theorem md_pair {x y : K2} (h1 : Md MN x.a y.a) (h2 : Md MN x.b y.b) : Md MN x y := md_quad.2 ⟨h1, h2⟩

theorem mAB (a b c d : List Int) : Md MN (⟨v16 (mA a b c d), v16 (mB a b c d)⟩ : K2) (⟨v16 a, v16 b⟩ * ⟨v16 c, v16 d⟩) := by
  refine md_pair ((v_mod _).trans (Md.of ?_)) (v_mod _)
  show v16 a * v16 c - v16 b * v16 d = v16 a * v16 c + -1 * (v16 b * v16 d)
  generalize v16 b * v16 d = t
  omega

theorem u12 (x y : List (List Int)) (i j : Nat) : Md MN (⟨v16 (u1 x y i j), v16 (u2 x y i j)⟩ : K2) (bif Nat.ble 6 (i + j) then pk x i * pk y j * xi else pk x i * pk y j) := by
  unfold u1 u2
  cases Nat.ble 6 (i + j)
  · exact mAB _ _ _ _
  · exact (mAB _ _ _ _).trans ((mAB _ _ _ _).mul (Md.of rfl))

theorem getD_set_same {o : List (List Int)} {n : Nat} {v : List Int} (h : n < o.length) : (o.set n v).getD n [] = v := by simp [List.getD, h]
theorem getD_set_ne {o : List (List Int)} {n m : Nat} {v : List Int} (h : n ≠ m) : (o.set n v).getD m [] = o.getD m [] := by simp [List.getD, List.getElem?_set_ne h]

theorem step_val {x y o : List (List Int)} {s : Nat → K2} {i j : Nat} (ho : o.length = 12) (h : ∀ k, k < 6 → Md MN (pk o k) (s k)) : ∀ k, k < 6 → Md MN (pk (rStep x y o i j) k) (sStep (pk x) (pk y) s i j k) := by
  intro k hk
  have hκ : (i + j) % 6 < 6 := Nat.mod_lt _ (by decide)
  unfold rStep sStep
  generalize (i + j) % 6 = κ at *
  cases hb : Nat.beq k κ
  · have hne : k ≠ κ := Nat.ne_of_beq_eq_false hb
    unfold pk
    rw [getD_set_ne (by omega), getD_set_ne (by omega), getD_set_ne (by omega), getD_set_ne (by omega)]
    exact h k hk
  · have he := Nat.eq_of_beq_eq_true hb
    subst he
    unfold pk
    rw [getD_set_ne (by omega), getD_set_same (by omega), getD_set_same (by rw [List.length_set]; omega)]
    have h1 := (h k hk).add (u12 x y i j)
    refine Md.trans ?_ h1
    exact md_pair (v_mod _) (v_mod _)

theorem all_val {x y : List (List Int)} : ∀ {ps : List (Nat × Nat)} {o : List (List Int)} {s : Nat → K2}, o.length = 12 → (∀ k, k < 6 → Md MN (pk o k) (s k)) → ∀ k, k < 6 → Md MN (pk (rAll x y ps o).1 k) (sAll (pk x) (pk y) ps s k)
  | [], _, _, _, h => h
  | (i, j) :: r, o, s, ho, h => all_val (ps := r) (by rw [rStep, List.length_set, List.length_set]; exact ho) (step_val ho h)

theorem wd_nil : Wd [] := ⟨fun _ h => (List.not_mem_nil h).elim, Nat.zero_le _⟩
theorem wd_one : Wd [1] := ⟨fun a h => by rw [List.mem_singleton.1 h]; decide, by decide⟩
theorem wd24 (x : Int) : Wd (W 24 x) := wd_W 24 x (by decide)
theorem wd_get {o : List (List Int)} (h : ∀ l ∈ o, Wd l) (n : Nat) : Wd (o.getD n []) := by
  by_cases hn : n < o.length
  · have e : o.getD n [] = o[n] := by simp [List.getD, hn]
    rw [e]
    exact h _ (List.getElem_mem hn)
  · have e : o.getD n [] = [] := by simp [List.getD, List.getElem?_eq_none (Nat.le_of_not_lt hn)]
    rw [e]
    exact wd_nil

theorem wd_u1 (x y : List (List Int)) (i j : Nat) : Wd (u1 x y i j) := by
  unfold u1
  cases Nat.ble 6 (i + j) <;> exact wd24 _
theorem wd_u2 (x y : List (List Int)) (i j : Nat) : Wd (u2 x y i j) := by
  unfold u2
  cases Nat.ble 6 (i + j) <;> exact wd24 _

theorem wd_step {x y o : List (List Int)} {i j : Nat} (h : ∀ l ∈ o, Wd l) : ∀ l ∈ rStep x y o i j, Wd l := by
  intro l hl
  rcases List.mem_or_eq_of_mem_set hl with hl | rfl
  · rcases List.mem_or_eq_of_mem_set hl with hl | rfl
    · exact h l hl
    · exact wd24 _
  · exact wd24 _

theorem rPs_all {x y o : List (List Int)} (hx : ∀ l ∈ x, Wd l) (hy : ∀ l ∈ y, Wd l) (ho : ∀ l ∈ o, Wd l) (i j : Nat) : AllQ (rPs x y o i j) := by
  refine allQ_append ?_ (allQ_append ?_ ?_)
  · exact AllP.all ⟨wd_get hx _, wd_get hx _, wd_get hy _, wd_get hy _, trivial⟩
  · cases Nat.ble 6 (i + j)
    · exact allQ_nil
    · exact AllP.all ⟨wd24 _, wd24 _, wd_one, wd_one, trivial⟩
  · exact AllP.all ⟨wd_get ho _, wd_get ho _, wd_u1 x y i j, wd_u2 x y i j, trivial⟩

theorem rAll_all {x y : List (List Int)} (hx : ∀ l ∈ x, Wd l) (hy : ∀ l ∈ y, Wd l) : ∀ {ps : List (Nat × Nat)} {o : List (List Int)}, (∀ l ∈ o, Wd l) → AllQ (rAll x y ps o).2
  | [], _, _ => allQ_nil
  | (i, j) :: r, _, ho => allQ_append (rPs_all hx hy ho i j) (rAll_all hx hy (ps := r) (wd_step ho))

/-- The number of the twelve words. -/
def kvP (X : Nat → K2) : K12 := ⟨⟨X 0, X 2, X 4⟩, ⟨X 1, X 3, X 5⟩⟩

theorem kv_mul (X Y : Nat → K2) : kvP X * kvP Y = kvP (sAll X Y idx fun _ => 0) := by
  have e : kvP X * kvP Y = ⟨(⟨X 0, X 2, X 4⟩ : K6) * ⟨Y 0, Y 2, Y 4⟩ + vee * ((⟨X 1, X 3, X 5⟩ : K6) * ⟨Y 1, Y 3, Y 5⟩), (⟨X 0, X 2, X 4⟩ : K6) * ⟨Y 1, Y 3, Y 5⟩ + (⟨X 1, X 3, X 5⟩ : K6) * ⟨Y 0, Y 2, Y 4⟩⟩ := rfl
  rw [e, vee_eq, kvP, sum0, sum1, sum2, sum3, sum4, sum5]
  have k := ring_id (vars [X 0, X 1, X 2, X 3, X 4, X 5, Y 0, Y 1, Y 2, Y 3, Y 4, Y 5, xi])
  refine Quad.eq (Cub.eq ?_ ?_ ?_) (Cub.eq ?_ ?_ ?_)
  · exact k (u 0 * u 6 + u 12 * (u 2 * u 10 + u 4 * u 8) + u 12 * (u 1 * u 11 + u 3 * u 9 + u 5 * u 7)) ((((((0 + u 0 * u 6) + u 1 * u 11 * u 12) + u 2 * u 10 * u 12) + u 3 * u 9 * u 12) + u 4 * u 8 * u 12) + u 5 * u 7 * u 12) (by kernel_rfl)
  · exact k (u 0 * u 8 + u 2 * u 6 + u 12 * (u 4 * u 10) + (u 1 * u 7 + u 12 * (u 3 * u 11 + u 5 * u 9))) ((((((0 + u 0 * u 8) + u 1 * u 7) + u 2 * u 6) + u 3 * u 11 * u 12) + u 4 * u 10 * u 12) + u 5 * u 9 * u 12) (by kernel_rfl)
  · exact k (u 0 * u 10 + u 2 * u 8 + u 4 * u 6 + (u 1 * u 9 + u 3 * u 7 + u 12 * (u 5 * u 11))) ((((((0 + u 0 * u 10) + u 1 * u 9) + u 2 * u 8) + u 3 * u 7) + u 4 * u 6) + u 5 * u 11 * u 12) (by kernel_rfl)
  · exact k (u 0 * u 7 + u 12 * (u 2 * u 11 + u 4 * u 9) + (u 1 * u 6 + u 12 * (u 3 * u 10 + u 5 * u 8))) ((((((0 + u 0 * u 7) + u 1 * u 6) + u 2 * u 11 * u 12) + u 3 * u 10 * u 12) + u 4 * u 9 * u 12) + u 5 * u 8 * u 12) (by kernel_rfl)
  · exact k (u 0 * u 9 + u 2 * u 7 + u 12 * (u 4 * u 11) + (u 1 * u 8 + u 3 * u 6 + u 12 * (u 5 * u 10))) ((((((0 + u 0 * u 9) + u 1 * u 8) + u 2 * u 7) + u 3 * u 6) + u 4 * u 11 * u 12) + u 5 * u 10 * u 12) (by kernel_rfl)
  · exact k (u 0 * u 11 + u 2 * u 9 + u 4 * u 7 + (u 1 * u 10 + u 3 * u 8 + u 5 * u 6)) ((((((0 + u 0 * u 11) + u 1 * u 10) + u 2 * u 9) + u 3 * u 8) + u 4 * u 7) + u 5 * u 6) (by kernel_rfl)

/-- The words of the reference's number. -/
def wl (z : K12) : List (List Int) := [W 24 (z.a.a.a % fld.m), W 24 (z.a.a.b % fld.m), W 24 (z.b.a.a % fld.m), W 24 (z.b.a.b % fld.m), W 24 (z.a.b.a % fld.m), W 24 (z.a.b.b % fld.m), W 24 (z.b.b.a % fld.m), W 24 (z.b.b.b % fld.m), W 24 (z.a.c.a % fld.m), W 24 (z.a.c.b % fld.m), W 24 (z.b.c.a % fld.m), W 24 (z.b.c.b % fld.m)]

theorem wl_all (z : K12) : ∀ l ∈ wl z, Wd l := by
  intro l hl
  simp only [wl, List.mem_cons, List.not_mem_nil, or_false] at hl
  rcases hl with rfl | rfl | rfl | rfl | rfl | rfl | rfl | rfl | rfl | rfl | rfl | rfl <;> exact wd24 _

theorem rAll_len {x y : List (List Int)} : ∀ {ps : List (Nat × Nat)} {o : List (List Int)}, (rAll x y ps o).1.length = o.length
  | [], _ => rfl
  | (i, j) :: r, o => by
    show (rAll x y r (rStep x y o i j)).1.length = _
    rw [rAll_len, rStep, List.length_set, List.length_set]

theorem W_cg {x y : Int} (h : Md MN x y) : W 24 (x % fld.m) = W 24 (y % fld.m) := by
  rw [md_int] at h
  have h' : x % fld.m = y % fld.m := by rw [m_MN]; exact h
  rw [h']

theorem set_keep {x y o : List (List Int)} {i j n : Nat} (ho : o.length = 12) (h : (i + j) % 6 = n / 2 ∨ ∃ p q, o.getD n [] = aA p q) : ∃ p q, (rStep x y o i j).getD n [] = aA p q := by
  have hκ : (i + j) % 6 < 6 := Nat.mod_lt _ (by decide)
  unfold rStep
  generalize (i + j) % 6 = κ at *
  by_cases h1 : 2 * κ + 1 = n
  · subst h1
    exact ⟨_, _, getD_set_same (by rw [List.length_set]; omega)⟩
  · rw [getD_set_ne h1]
    by_cases h2 : 2 * κ = n
    · subst h2
      exact ⟨_, _, getD_set_same (by omega)⟩
    · rw [getD_set_ne h2]
      exact h.resolve_left (by omega)

theorem all_keep {x y : List (List Int)} {n : Nat} : ∀ {ps : List (Nat × Nat)} {o : List (List Int)}, o.length = 12 → ((∃ ij ∈ ps, (ij.1 + ij.2) % 6 = n / 2) ∨ ∃ p q, o.getD n [] = aA p q) → ∃ p q, (rAll x y ps o).1.getD n [] = aA p q
  | [], _, _, h => by
    rcases h with ⟨ij, h, _⟩ | h
    · cases h
    · exact h
  | (i, j) :: r, o, ho, h => by
    refine all_keep (ps := r) (by rw [rStep, List.length_set, List.length_set]; exact ho) ?_
    rcases h with ⟨ij, h, he⟩ | h
    · rcases List.mem_cons.1 h with rfl | h
      · exact .inr (set_keep ho (.inl he))
      · exact .inl ⟨ij, h, he⟩
    · exact .inr (set_keep ho (.inr h))

theorem out_red {x y : List (List Int)} {n : Nat} (hn : n < 12) : (rAll x y idx nils).1.getD n [] = W 24 (v16 ((rAll x y idx nils).1.getD n []) % fld.m) := by
  obtain ⟨p, q, h⟩ := all_keep (x := x) (y := y) (n := n) (ps := idx) (o := nils) rfl (.inl ⟨(0, n / 2), by
    have : ∀ k, k < 6 → (0, k) ∈ idx := by decide
    exact this _ (by omega), by show (0 + n / 2) % 6 = n / 2; omega⟩)
  rw [h, aA, vX, Int.emod_emod]

theorem md_2 {x y : K2} (h : Md MN x y) : Md MN x.a y.a ∧ Md MN x.b y.b := md_quad.1 h

theorem out_val {x y : List (List Int)} {z : K12} (hz : kvP (pk x) * kvP (pk y) = z) : (rAll x y idx nils).1 = wl z := by
  have hv := all_val (x := x) (y := y) (ps := idx) (o := nils) (s := fun _ => 0) rfl (by
    intro k hk
    match k, hk with
    | 0, _ => exact Md.refl _ _
    | 1, _ => exact Md.refl _ _
    | 2, _ => exact Md.refl _ _
    | 3, _ => exact Md.refl _ _
    | 4, _ => exact Md.refl _ _
    | 5, _ => exact Md.refl _ _)
  have e : z = kvP (sAll (pk x) (pk y) idx fun _ => 0) := by rw [← hz, kv_mul]
  have hl : (rAll x y idx nils).1.length = 12 := rAll_len
  have hr := fun n hn => out_red (x := x) (y := y) (n := n) hn
  generalize (rAll x y idx nils).1 = o at *
  have ha := fun k hk => W_cg (md_2 (hv k hk)).1
  have hb := fun k hk => W_cg (md_2 (hv k hk)).2
  subst e
  have e12 : o = [o.getD 0 [], o.getD 1 [], o.getD 2 [], o.getD 3 [], o.getD 4 [], o.getD 5 [], o.getD 6 [], o.getD 7 [], o.getD 8 [], o.getD 9 [], o.getD 10 [], o.getD 11 []] := by
    match o, hl with
    | [_, _, _, _, _, _, _, _, _, _, _, _], _ => rfl
  rw [e12, hr 0 (by decide), hr 1 (by decide), hr 2 (by decide), hr 3 (by decide), hr 4 (by decide), hr 5 (by decide), hr 6 (by decide), hr 7 (by decide), hr 8 (by decide), hr 9 (by decide), hr 10 (by decide), hr 11 (by decide)]
  rw [show W 24 (v16 (o.getD 0 []) % fld.m) = _ from ha 0 (by decide), show W 24 (v16 (o.getD 1 []) % fld.m) = _ from hb 0 (by decide), show W 24 (v16 (o.getD 2 []) % fld.m) = _ from ha 1 (by decide), show W 24 (v16 (o.getD 3 []) % fld.m) = _ from hb 1 (by decide),
    show W 24 (v16 (o.getD 4 []) % fld.m) = _ from ha 2 (by decide), show W 24 (v16 (o.getD 5 []) % fld.m) = _ from hb 2 (by decide), show W 24 (v16 (o.getD 6 []) % fld.m) = _ from ha 3 (by decide), show W 24 (v16 (o.getD 7 []) % fld.m) = _ from hb 3 (by decide),
    show W 24 (v16 (o.getD 8 []) % fld.m) = _ from ha 4 (by decide), show W 24 (v16 (o.getD 9 []) % fld.m) = _ from hb 4 (by decide), show W 24 (v16 (o.getD 10 []) % fld.m) = _ from ha 5 (by decide), show W 24 (v16 (o.getD 11 []) % fld.m) = _ from hb 5 (by decide)]
  rfl

/-- Words whose number is one. -/
theorem fresh_wl (z : K12) : freshL 0 (wl z) = fr12 z := rfl

def kvW (ls : List (List Int)) : K12 := kvP (pk ls)

def WdA (x : List (List Int)) : Prop := ∀ l ∈ x, Wd l

def refMulD : FnD FD
  | [.agg p, .agg q] => match w5s p, w5s q with
    | some x, some y => bif Nat.beq x.length 12 && Nat.beq y.length 12 then some (.v (.agg (fr12 (kvW x * kvW y))), [WdA x, WdA y]) else none
    | _, _ => none
  | _ => none

theorem nils_wd : ∀ l ∈ nils, Wd l := by
  intro l hl
  simp only [nils, List.mem_cons, List.not_mem_nil, or_false, or_self] at hl
  rw [hl]
  exact wd_nil

theorem refMul_ok : FnOK Try.prog FD 18 refMulD := by
  refine fnOK_of gam27_ok mixed Try.func18 (enters_of Try.func18 (by kernel_rfl) rfl) ?_
  intro xs r ps h hps
  unfold refMulD at h
  split at h
  · rename_i p q
    split at h
    · rename_i x y hx hy
      obtain ⟨hl, h'⟩ := bif_some h
      clear h
      simp only [Option.some.injEq, Prod.mk.injEq] at h'
      obtain ⟨rfl, rfl⟩ := h'
      have g1 : WdA x := hps _ (by simp)
      have g2 : WdA y := hps _ (by simp)
      simp only [Bool.and_eq_true] at hl
      have l1 := Nat.eq_of_beq_eq_true hl.1
      have l2 := Nat.eq_of_beq_eq_true hl.2
      match x, l1, y, l2 with
      | [x0, x1, x2, x3, x4, x5, x6, x7, x8, x9, x10, x11], _, [y0, y1, y2, y3, y4, y5, y6, y7, y8, y9, y10, y11], _ =>
        refine ⟨_, 200, _, _, _, fun w vs h => args2 (fun v hv => w5s_arg hx hv) (fun v hv => w5s_arg hy hv) h, ref_run x0 x1 x2 x3 x4 x5 x6 x7 x8 x9 x10 x11 y0 y1 y2 y3 y4 y5 y6 y7 y8 y9 y10 y11, rAll_all g1 g2 nils_wd, fun E v hv => ?_⟩
        rw [out_val rfl, fresh_wl] at hv
        exact hv
    · cases h
  · cases h

/-! What the laws ask of the reference's words. -/

theorem sameB_of {x z : Int} (h : Md MN x z) : sameB x (W 24 (z % fld.m)) := by
  unfold sameB
  rw [vX, pX]
  have := md_int.1 h
  show x % fld.m = z % fld.m
  rw [m_MN]
  exact this

theorem isN_of {x z : K12} (h : Md MN x z) : IsN x (wl z) := by
  obtain ⟨h1, h2⟩ := md_quad.1 h
  obtain ⟨a, b, c⟩ := md_cub.1 h1
  obtain ⟨d, e, f⟩ := md_cub.1 h2
  refine AllP.all ⟨wd24 _, wd24 _, wd24 _, wd24 _, wd24 _, wd24 _, wd24 _, wd24 _, wd24 _, wd24 _, wd24 _, wd24 _, ?_, ?_, ?_, ?_, ?_, ?_, ?_, ?_, ?_, ?_, ?_, ?_⟩
  · exact sameB_of (md_2 a).1
  · exact sameB_of (md_2 a).2
  · exact sameB_of (md_2 d).1
  · exact sameB_of (md_2 d).2
  · exact sameB_of (md_2 b).1
  · exact sameB_of (md_2 b).2
  · exact sameB_of (md_2 e).1
  · exact sameB_of (md_2 e).2
  · exact sameB_of (md_2 c).1
  · exact sameB_of (md_2 c).2
  · exact sameB_of (md_2 f).1
  · exact sameB_of (md_2 f).2

theorem kvW_wl (z : K12) : Md MN (kvW (wl z)) z :=
  md_quad.2 ⟨md_cub.2 ⟨md_pair (v_mod _) (v_mod _), md_pair (v_mod _) (v_mod _), md_pair (v_mod _) (v_mod _)⟩, md_cub.2 ⟨md_pair (v_mod _) (v_mod _), md_pair (v_mod _) (v_mod _), md_pair (v_mod _) (v_mod _)⟩⟩

end Go.Num
