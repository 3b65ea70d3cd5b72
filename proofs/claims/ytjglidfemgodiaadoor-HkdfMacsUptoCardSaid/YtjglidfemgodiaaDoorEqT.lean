/- Of which types '==' tells whether all cells are the same. -/
import Derived.Test.YtjglidfemgodiaaDoorAbsL
import Derived.ChangeKeysEq
namespace Go.Abs
open Go.RowKit

section
variable (P : Program)

/-- The cells of a value of numbers, arrays and structs alone, without gaps: how many there are. -/
def eqOK : Nat → TypeId → Option Nat
  | 0, _ => none
  | d + 1, t => match P.underlying t with
    | some (.int _) => bif szOf P t == some 1 then some 1 else none
    | some (.array len e) => match eqOK d e with
      | some n => bif P.cellsOf e == n && szOf P e == some n && szOf P t == some (len * n) then some (len * n) else none
      | none => none
    | some (.struct fs) => bif P.stoodInHeld t then none else match eqFs (eqOK d) 0 fs.toList with
      | some n => bif szOf P t == some n then some n else none
      | none => none
    | _ => none
where eqFs (f : TypeId → Option Nat) : Nat → List Field → Option Nat
  | off, [] => some off
  | off, g :: gs => bif g.name != "_" && Nat.beq g.offset off then (match f g.type with
    | some n => bif szOf P g.type == some n then eqFs f (off + n) gs else none
    | none => none) else none

end
section
variable {P : Program}

def IntsP (xs ys : List Value) : Prop := ∀ (i : Nat) u v, xs[i]? = some u → ys[i]? = some v → ∃ k a b, u = .int k a ∧ v = .int k b

def zall (xs ys : List Value) : Bool := (xs.zip ys).all fun c => intOf c.1 == intOf c.2

def valT (P : Program) (t : TypeId) (xs : List Value) : Value := if aggB P t = true then .agg xs.toArray else xs.headD undef

theorem IntsP.left {xs ys us vs : List Value} (h : IntsP (xs ++ us) (ys ++ vs)) (hl : xs.length = ys.length) : IntsP xs ys := by
  intro i u v hu hv
  have h1 := (List.getElem?_eq_some_iff.1 hu).1
  exact h i u v (by rw [List.getElem?_append_left h1]; exact hu) (by rw [List.getElem?_append_left (by omega)]; exact hv)

theorem IntsP.right {xs ys us vs : List Value} (h : IntsP (xs ++ us) (ys ++ vs)) (hl : xs.length = ys.length) : IntsP us vs := by
  intro i u v hu hv
  exact h (xs.length + i) u v (by rw [List.getElem?_append_right (by omega), Nat.add_sub_cancel_left]; exact hu) (by rw [hl, List.getElem?_append_right (by omega), Nat.add_sub_cancel_left]; exact hv)

theorem zall_append {xs ys us vs : List Value} (hl : xs.length = ys.length) : zall (xs ++ us) (ys ++ vs) = (zall xs ys && zall us vs) := by
  unfold zall
  rw [List.zip_append hl, List.all_append]

def EqIn (P : Program) (d : Nat) (t : TypeId) (n : Nat) : Prop := ∀ w xs ys, xs.length = n → ys.length = n → IntsP xs ys → (Op.equalIn d t (valT P t xs) (valT P t ys)).run P w = .ok (zall xs ys) w

theorem cut3 {α : Type} (xs : List α) (off n : Nat) (h : off + n ≤ xs.length) : ∃ c1 c2 c3, xs = c1 ++ (c2 ++ c3) ∧ c1.length = off ∧ c2.length = n :=
  ⟨xs.take off, (xs.drop off).take n, (xs.drop off).drop n, by rw [List.take_append_drop, List.take_append_drop], by simp; omega, by simp; omega⟩

theorem part_val {t : TypeId} {c1 c2 c3 : List Value} {off n : Nat} {w : World} (hs : szOf P t = some n) (h1 : c1.length = off) (h2 : c2.length = n) (hn : aggB P t = false → n = 1) :
    (part t (c1 ++ (c2 ++ c3)).toArray off).run P w = .ok (valT P t c2) w := by
  have h := run_partB (P := P) (w := w) (c1 := c1) (c2 := c2) (c3 := c3) (cs := (c1 ++ (c2 ++ c3)).toArray) hs rfl h1 h2
  unfold valT
  cases hg : aggB P t
  · have hn1 := hn hg
    rw [hn1] at h2
    obtain ⟨v, rfl⟩ := List.length_eq_one_iff.1 h2
    simpa using h.2 hg v rfl
  · simpa using h.1 hg

theorem eqFields_sound {d : Nat} {xs ys : List Value} {w : World} {f : TypeId → Option Nat} (hf : ∀ t n, f t = some n → EqIn P d t n ∧ (aggB P t = false → n = 1)) (hl : xs.length = ys.length) : ∀ {fs : List Field} {off n : Nat} {c1 c2 d1 d2 : List Value},
    eqOK.eqFs P f off fs = some n → xs = c1 ++ c2 → ys = d1 ++ d2 → c1.length = off → d1.length = off → xs.length = n → IntsP c2 d2 → (Op.eqFields d xs.toArray ys.toArray fs).run P w = .ok (zall c2 d2) w
  | [], off, n, c1, c2, d1, d2, h, hx, hy, h1, h2, hn, hi => by
    simp only [eqOK.eqFs, Option.some.injEq] at h
    subst h
    have e1 : c2 = [] := List.length_eq_zero_iff.1 (by rw [hx, List.length_append] at hn; omega)
    have e2 : d2 = [] := List.length_eq_zero_iff.1 (by rw [hl, hy, List.length_append] at hn; omega)
    subst e1
    subst e2
    simp [Op.eqFields, zall]
  | g :: gs, off, n, c1, c2, d1, d2, h, hx, hy, h1, h2, hn, hi => by
    simp only [eqOK.eqFs] at h
    cases hb : (g.name != "_" && Nat.beq g.offset off) <;> simp only [hb, cond_true, cond_false] at h
    · cases h
    simp only [Bool.and_eq_true, bne_iff_ne, ne_eq] at hb
    obtain ⟨hname, hoff⟩ := hb
    have hoff := Nat.eq_of_beq_eq_true hoff
    split at h
    · rename_i m hm
      cases hs : (szOf P g.type == some m) <;> simp only [hs, cond_true, cond_false] at h
      · cases h
      have hs := eq_of_beq hs
      obtain ⟨hE, h1m⟩ := hf _ _ hm
      have hle : ∀ {fs : List Field} {off n : Nat}, eqOK.eqFs P f off fs = some n → off ≤ n := by
        intro fs
        induction fs with
        | nil => intro off n h; simp only [eqOK.eqFs, Option.some.injEq] at h; omega
        | cons a fs ih =>
          intro off n h
          simp only [eqOK.eqFs] at h
          cases hb : (a.name != "_" && Nat.beq a.offset off) <;> simp only [hb, cond_true, cond_false] at h
          · cases h
          split at h
          · rename_i m' _
            cases hs' : (szOf P a.type == some m') <;> simp only [hs', cond_true, cond_false] at h
            · cases h
            · have := ih h; omega
          · cases h
      have hmn := hle h
      have l2 : c2.length = n - off := by rw [hx, List.length_append] at hn; omega
      have l3 : d2.length = n - off := by rw [hl, hy, List.length_append] at hn; omega
      obtain ⟨a0, a1, a2, ea, ha0, ha1⟩ := cut3 c2 0 m (by omega)
      obtain ⟨b0, b1, b2, eb, hb0, hb1⟩ := cut3 d2 0 m (by omega)
      have ea0 := List.length_eq_zero_iff.1 ha0
      have eb0 := List.length_eq_zero_iff.1 hb0
      subst ea0
      subst eb0
      rw [List.nil_append] at ea eb
      subst ea
      subst eb
      have p1 := part_val (P := P) (w := w) (c1 := c1) (c2 := a1) (c3 := a2) hs h1 ha1 h1m
      have p2 := part_val (P := P) (w := w) (c1 := d1) (c2 := b1) (c3 := b2) hs h2 hb1 h1m
      rw [← hx] at p1
      rw [← hy] at p2
      have hll : a1.length = b1.length := by omega
      have p3 := hE w a1 b1 ha1 hb1 (hi.left hll)
      simp only [Op.eqFields, hname, ne_eq, not_false_eq_true, if_true, hoff, Sem.run_bind, p1, p2, p3, Result.andThen_ok]
      rw [zall_append hll]
      cases zall a1 b1
      · simp
      · have := eqFields_sound (w := w) hf hl (c1 := c1 ++ a1) (c2 := a2) (d1 := d1 ++ b1) (d2 := b2) h (by rw [hx, List.append_assoc]) (by rw [hy, List.append_assoc]) (by rw [List.length_append]; omega) (by rw [List.length_append]; omega) hn (hi.right hll)
        simpa using this
    · cases h

theorem eqItems_sound {d n : Nat} {e : TypeId} {xs ys : List Value} {w : World} (hE : EqIn P d e n) (h1n : aggB P e = false → n = 1) (hs : szOf P e = some n) (hl : xs.length = ys.length) : ∀ {m j : Nat} {c1 c2 d1 d2 : List Value},
    xs = c1 ++ c2 → ys = d1 ++ d2 → c1.length = j * n → d1.length = j * n → xs.length = (j + m) * n → IntsP c2 d2 → (Op.eqItems d e n xs.toArray ys.toArray (List.range' j m)).run P w = .ok (zall c2 d2) w
  | 0, j, c1, c2, d1, d2, hx, hy, h1, h2, hn, hi => by
    rw [Nat.add_zero] at hn
    have e1 : c2 = [] := List.length_eq_zero_iff.1 (by rw [hx, List.length_append] at hn; omega)
    have e2 : d2 = [] := List.length_eq_zero_iff.1 (by rw [hl, hy, List.length_append] at hn; omega)
    subst e1
    subst e2
    simp [Op.eqItems, zall]
  | m + 1, j, c1, c2, d1, d2, hx, hy, h1, h2, hn, hi => by
    have hn' : xs.length = j * n + (n + m * n) := by rw [hn, Nat.add_mul, Nat.add_mul, Nat.one_mul]; omega
    have l2 : c2.length = n + m * n := by rw [hx, List.length_append] at hn'; omega
    have l3 : d2.length = n + m * n := by rw [hl, hy, List.length_append] at hn'; omega
    obtain ⟨a0, a1, a2, ea, ha0, ha1⟩ := cut3 c2 0 n (by omega)
    obtain ⟨b0, b1, b2, eb, hb0, hb1⟩ := cut3 d2 0 n (by omega)
    have ea0 := List.length_eq_zero_iff.1 ha0
    have eb0 := List.length_eq_zero_iff.1 hb0
    subst ea0
    subst eb0
    rw [List.nil_append] at ea eb
    subst ea
    subst eb
    have p1 := part_val (P := P) (w := w) (c1 := c1) (c2 := a1) (c3 := a2) hs h1 ha1 h1n
    have p2 := part_val (P := P) (w := w) (c1 := d1) (c2 := b1) (c3 := b2) hs h2 hb1 h1n
    rw [← hx] at p1
    rw [← hy] at p2
    have hll : a1.length = b1.length := by omega
    have p3 := hE w a1 b1 ha1 hb1 (hi.left hll)
    simp only [List.range'_succ, Op.eqItems, Sem.run_bind, p1, p2, p3, Result.andThen_ok]
    rw [zall_append hll]
    cases zall a1 b1
    · simp
    · have := eqItems_sound (w := w) hE h1n hs hl (m := m) (j := j + 1) (c1 := c1 ++ a1) (c2 := a2) (d1 := d1 ++ b1) (d2 := b2) (by rw [hx, List.append_assoc]) (by rw [hy, List.append_assoc]) (by rw [List.length_append, Nat.add_mul, Nat.one_mul]; omega) (by rw [List.length_append, Nat.add_mul, Nat.one_mul]; omega) (by rw [hn]; congr 1; omega) (hi.right hll)
      simpa using this

theorem eqOK_agg {d n : Nat} {t : TypeId} (h : eqOK P d t = some n) (hg : aggB P t = false) : n = 1 := by
  cases d with
  | zero => cases h
  | succ d =>
    simp only [eqOK] at h
    unfold aggB at hg
    split at h
    · cases hs : (szOf P t == some 1) <;> simp only [hs, cond_true, cond_false, Option.some.injEq] at h
      · cases h
      · exact h.symm
    · rename_i hu; rw [hu] at hg; cases hg
    · rename_i hu; rw [hu] at hg; cases hg
    · cases h

theorem eqOK_sound (e : Nat) : ∀ {d : Nat} {t : TypeId} {n : Nat}, eqOK P d t = some n → EqIn P (d + e) t n
  | 0, t, n, h => by cases h
  | d + 1, t, n, h => by
    intro w xs ys hx hy hi
    have hd : d + 1 + e = (d + e) + 1 := by omega
    rw [hd]
    have h0 := h
    simp only [eqOK] at h
    split at h
    · rename_i k hu
      cases hs : (szOf P t == some 1) <;> simp only [hs, cond_true, cond_false, Option.some.injEq] at h
      · cases h
      subst h
      obtain ⟨u, rfl⟩ := List.length_eq_one_iff.1 hx
      obtain ⟨v, rfl⟩ := List.length_eq_one_iff.1 hy
      obtain ⟨k', a, b, rfl, rfl⟩ := hi 0 u v rfl rfl
      have hg : aggB P t = false := by unfold aggB; rw [hu]
      simp only [valT, hg, Bool.false_eq_true, if_false, List.headD_cons]
      rw [run_equalIn_int w (d + e) t k' k a b hu]
      simp [zall, intOf]
    · rename_i len el hu
      split at h
      · rename_i m hm
        cases hs : (P.cellsOf el == m && szOf P el == some m && szOf P t == some (len * m)) <;> simp only [hs, cond_true, cond_false, Option.some.injEq] at h
        · cases h
        subst h
        simp only [Bool.and_eq_true, beq_iff_eq] at hs
        obtain ⟨⟨hc, hse⟩, _⟩ := hs
        obtain ⟨i, _, hinfo, _, _⟩ := szOf_spec hse
        have hg : aggB P t = true := by unfold aggB; rw [hu]
        simp only [valT, hg, if_true]
        rw [run_equalIn_array (w := w) (d + e) xs.toArray ys.toArray hu hinfo, hc, List.range_eq_range']
        exact eqItems_sound (eqOK_sound e hm) (eqOK_agg hm) hse (by omega) (c1 := []) (d1 := []) rfl rfl (by simp) (by simp) (by rw [hx, Nat.zero_add]) hi
      · cases h
    · rename_i fs hu
      cases hst : P.stoodInHeld t <;> simp only [hst, cond_true, cond_false] at h
      · split at h
        · rename_i m hm
          cases hs : (szOf P t == some m) <;> simp only [hs, cond_true, cond_false, Option.some.injEq] at h
          · cases h
          subst h
          have hg : aggB P t = true := by unfold aggB; rw [hu]
          have hfo : P.fieldsOf t = fs := by simp [Program.fieldsOf, hu]
          simp only [valT, hg, if_true]
          rw [run_equalIn_struct w (d + e) t xs.toArray ys.toArray (by rw [hfo]; exact hu) hst, hfo]
          exact eqFields_sound (fun t n h => ⟨eqOK_sound e h, eqOK_agg h⟩) (by omega) hm (c1 := []) (d1 := []) rfl rfl rfl rfl hx hi
        · cases h
      · cases h
    · cases h

/-- Of such types '==' tells whether all cells are the same. -/
theorem eqT_of {t : TypeId} {n : Nat} (h : eqOK P 20 t = some n) (hs : szOf P t = some n) (hg : aggB P t = true) (he : P.eqGuardType P.depth t = false) : EqT P t := by
  intro w xs ys hl hn hi
  rw [hs, Option.getD_some] at hn
  refine ⟨?_, he⟩
  have := eqOK_sound (P := P) 9980 h w xs ys hn (by omega) hi
  simp only [valT, hg, if_true] at this
  exact this

end
end Go.Abs
