/- The words for a field's numbers. -/
import Derived.Test.YtnjcnfaopdgjgaaFld
namespace Go.Num
open Go.Abs

/-- Words of 64 bits: those of a number, or those that are kept for a number of the field. -/
inductive T where
  | num (x : Int)
  | el (a : Int)
  | pow (a : Int) (n : Nat)

def Fld.num (F : Fld) : T → Int
  | .num x => x
  | .el a => F.enc a
  | .pow a n => F.enc (a ^ n)

def Fld.eqT (F : Fld) : T → T → Option Bool
  | .num x, .num y => some (decide (x % F.R = y % F.R))
  | .el a, .el b => some (decide (a % F.m = b % F.m))
  | _, _ => none

theorem Fld.R_pos (F : Fld) : F.m < F.R := by have := F.hm2; have := F.hm; show F.m < B ^ F.n; omega

theorem Fld.enc_R (F : Fld) (a : Int) : F.enc a % F.R = F.enc a := Int.emod_eq_of_lt (F.enc_range a).1 (by have := (F.enc_range a).2; have := F.R_pos; omega)

theorem Fld.eqT_spec (F : Fld) {s t : T} {c : Bool} (h : F.eqT s t = some c) : decide (limbs F.n (F.num s) = limbs F.n (F.num t)) = c := by
  unfold Fld.eqT at h
  split at h
  · simp only [Option.some.injEq] at h
    subst h
    simp only [Fld.num, limbs_eq]
  · simp only [Option.some.injEq] at h
    subst h
    refine decide_eq_decide.2 ?_
    simp only [Fld.num, limbs_eq]
    rw [show F.enc _ % B ^ F.n = F.enc _ from F.enc_R _, show F.enc _ % B ^ F.n = F.enc _ from F.enc_R _, F.enc_eq]
  · cases h

theorem limbs_zero : ∀ n, limbs n 0 = List.replicate n 0
  | 0 => rfl
  | n + 1 => by simp [limbs, limbs_zero n, List.replicate_succ]

def Fld.dom (F : Fld) : Dom where
  τ := T
  size _ := F.n
  rel t cs := cs = (limbs F.n (F.num t)).map (Value.int .u64)
  eqv := F.eqT
  eqs := by
    intro s t c xs ys h hx hy
    subst hx
    subst hy
    have hl : (limbs F.n (F.num s)).length = (limbs F.n (F.num t)).length := by rw [limbs_len, limbs_len]
    refine ⟨by simp [limbs_len], by rw [ints_all hl]; exact F.eqT_spec h, fun i u v hu hv => ?_⟩
    rw [List.getElem?_map] at hu hv
    obtain ⟨a, _, rfl⟩ := Option.map_eq_some_iff.1 hu
    obtain ⟨b, _, rfl⟩ := Option.map_eq_some_iff.1 hv
    exact ⟨.u64, a, b, rfl, rfl⟩
  len := by intro t cs h; subst h; simp [limbs_len]
  one := by
    intro t cs h c hc
    subst h
    obtain ⟨_, _, rfl⟩ := List.mem_map.1 hc
    rfl
  zero := some (.u64, .el 0)
  zeros := by
    intro k t h
    simp only [Option.some.injEq, Prod.mk.injEq] at h
    obtain ⟨rfl, rfl⟩ := h
    simp [Fld.num, Fld.enc, limbs_zero]

variable (F : Fld)

abbrev Fld.A := A0 F.dom.τ

/-- Words, each by itself. -/
def wordsP (l : List Int) : List (Part F.dom.τ) := l.map (.int .u64 false)

/-- The number that an array of words is. -/
def numOf (ps : List (Part F.dom.τ)) : Option (Int × List Prop) :=
  match ps with
  | [.tag t] => some (F.num t, [])
  | ps => match allInts .u64 ps with
    | some l => some (val l, [InR l, l.length = F.n])
    | none => none

theorem wordsP_rel {E : Env} : ∀ {l : List Int} {cs : List Value}, PartsRel F.dom E (wordsP F l) cs ↔ cs = l.map (Value.int .u64)
  | [], cs => Iff.rfl
  | a :: l, cs => by
    constructor
    · rintro ⟨c1, c2, rfl, h1, h2⟩
      have h1' : c1 = [.int .u64 a] := h1
      rw [h1', (wordsP_rel (l := l)).1 h2]
      rfl
    · rintro rfl
      exact ⟨[.int .u64 a], _, rfl, rfl, (wordsP_rel (l := l)).2 rfl⟩

theorem tag_rel {E : Env} {t : T} {cs : List Value} : PartsRel F.dom E [.tag t] cs ↔ cs = (limbs F.n (F.num t)).map (Value.int .u64) := by
  constructor
  · rintro ⟨c1, c2, rfl, h1, h2⟩
    cases h2
    rw [List.append_nil]
    exact h1
  · intro h
    exact ⟨cs, [], by simp, h, rfl⟩

theorem numOf_rel {E : Env} {ps : List (Part F.dom.τ)} {x : Int} {c : List Prop} {cs : List Value} (h : numOf F ps = some (x, c)) (hc : AllQ c) (hp : PartsRel F.dom E ps cs) : cs = (limbs F.n x).map (Value.int .u64) := by
  unfold numOf at h
  split at h
  · rename_i t
    simp only [Option.some.injEq, Prod.mk.injEq] at h
    obtain ⟨rfl, rfl⟩ := h
    exact (tag_rel F).1 hp
  · split at h
    · rename_i l hl
      simp only [Option.some.injEq, Prod.mk.injEq] at h
      obtain ⟨rfl, rfl⟩ := h
      have h1 : InR l := hc _ (List.mem_cons_self ..)
      have h2 : l.length = F.n := hc _ (List.mem_cons_of_mem _ (List.mem_cons_self ..))
      rw [← h2, limbs_val h1]
      exact allInts_rel hl hp
    · cases h

theorem numOf_words {E : Env} {ps : List (Part F.dom.τ)} {x : Int} {c : List Prop} {v : Value} (h : numOf F ps = some (x, c)) (hc : AllQ c) (hp : A0Rel F.dom E (.agg ps) v) : A0Rel F.dom E (.agg (wordsP F (limbs F.n x))) v := by
  obtain ⟨cs, e, hp⟩ := hp
  exact ⟨cs, e, (wordsP_rel F).2 (numOf_rel F h hc hp)⟩

theorem numOf_tag {E : Env} {ps : List (Part F.dom.τ)} {x : Int} {c : List Prop} {v : Value} (h : numOf F ps = some (x, c)) (hc : AllQ c) (hp : A0Rel F.dom E (.agg ps) v) : A0Rel F.dom E (.agg [.tag (.num x)]) v := by
  obtain ⟨cs, e, hp⟩ := hp
  exact ⟨cs, e, (tag_rel F).2 (numOf_rel F h hc hp)⟩

theorem words_num {E : Env} {l : List Int} {x : Int} {v : Value} (h : limbs F.n x = l) (hv : A0Rel F.dom E (.agg (wordsP F l)) v) : A0Rel F.dom E (.agg [.tag (.num x)]) v := by
  obtain ⟨cs, e, hp⟩ := hv
  refine ⟨cs, e, (tag_rel F).2 ?_⟩
  rw [(wordsP_rel F).1 hp, ← h]
  rfl

theorem num_num {E : Env} {x y : Int} {v : Value} (h : x % F.R = y % F.R) (hv : A0Rel F.dom E (.agg [.tag (.num x)]) v) : A0Rel F.dom E (.agg [.tag (.num y)]) v := by
  obtain ⟨cs, e, hp⟩ := hv
  refine ⟨cs, e, (tag_rel F).2 ?_⟩
  rw [(tag_rel F).1 hp]
  simp only [Fld.num]
  rw [limbs_eq.2 h]

theorem el_num {E : Env} {a : Int} {v : Value} : A0Rel F.dom E (.agg [.tag (.el a)]) v ↔ A0Rel F.dom E (.agg [.tag (.num (F.enc a))]) v := Iff.rfl

theorem el_el {E : Env} {a b : Int} {v : Value} (h : a % F.m = b % F.m) (hv : A0Rel F.dom E (.agg [.tag (.el a)]) v) : A0Rel F.dom E (.agg [.tag (.el b)]) v := by
  refine (el_num F).2 ?_
  rw [← F.enc_eq.2 h]
  exact (el_num F).1 hv

theorem le_el {a b : Int} (h : a % F.m = b % F.m) : TagLe F.dom (.el a) (.el b) := by
  intro cs hc
  have hc' : cs = (limbs F.n (F.enc a)).map (Value.int .u64) := hc
  rw [F.enc_eq.2 h] at hc'
  exact hc'

theorem le_num {s t : T} (h : F.num s % F.R = F.num t % F.R) : TagLe F.dom s t := by
  intro cs hc
  have hc' : cs = (limbs F.n (F.num s)).map (Value.int .u64) := hc
  rw [limbs_eq.2 h] at hc'
  exact hc'

theorem le_refl {D : Dom} (t : D.τ) : TagLe D t t := fun _ h => h

def Rng (a : Int) : Prop := 0 ≤ a ∧ a < B
def Bit (a : Int) : Prop := 0 ≤ a ∧ a ≤ 1

theorem rng_mod (x : Int) : Rng (x % B) := ⟨Int.emod_nonneg _ (by decide), Int.emod_lt_of_pos _ (by decide)⟩
theorem rng_hi {a b c d : Int} (ha : Rng a) (hb : Rng b) (hc : Rng c) (hd : Rng d) : Rng ((a * b + c + d) / B) := by
  have h0 : 0 ≤ a * b := Int.mul_nonneg ha.1 hb.1
  have h1 : a * b ≤ (B - 1) * (B - 1) := Int.mul_le_mul (by have := ha.2; omega) (by have := hb.2; omega) hb.1 (by decide)
  have h2 : (B - 1) * (B - 1) + (B - 1) + (B - 1) = B * B - 1 := by decide
  obtain ⟨hc1, hc2⟩ := hc
  obtain ⟨hd1, hd2⟩ := hd
  constructor
  · exact Int.ediv_nonneg (by omega) (by decide)
  · exact Int.ediv_lt_of_lt_mul (by decide) (by omega)
theorem bit_ite (p : Prop) [Decidable p] : Bit (if p then 1 else 0) := by unfold Bit; split <;> decide
theorem bit_sum {a b c : Int} (ha : Rng a) (hb : Rng b) (hc : Bit c) : Bit ((a + b + c) / B) := by
  unfold Rng Bit B at *
  omega
theorem rng_bit {a : Int} (h : Bit a) : Rng a := ⟨h.1, by have := h.2; unfold B; omega⟩
instance (a : Int) : Decidable (Bit a) := inferInstanceAs (Decidable (_ ∧ _))
instance (a : Int) : Decidable (Rng a) := inferInstanceAs (Decidable (_ ∧ _))
theorem bit_zero : Bit 0 := by decide
theorem rng_zero : Rng 0 := by decide

/-! Go's own sums, differences and products of words. -/
variable (D : Dom)

def add64D : FnD D
  | [.one (.int .u64 _ a), .one (.int .u64 _ b), .one (.int .u64 _ c)] => some (.tup [.one (.int .u64 false ((a + b + c) % B)), .one (.int .u64 false ((a + b + c) / B))], [Rng a, Rng b, Bit c])
  | _ => none

def sub64D : FnD D
  | [.one (.int .u64 _ a), .one (.int .u64 _ b), .one (.int .u64 _ c)] => some (.tup [.one (.int .u64 false ((a + B - b - c) % B)), .one (.int .u64 false (if a < b + c then 1 else 0))], [Rng a, Rng b, Bit c])
  | _ => none

def mul64D : FnD D
  | [.one (.int .u64 _ a), .one (.int .u64 _ b)] => some (.tup [.one (.int .u64 false ((a * b) / B)), .one (.int .u64 false ((a * b) % B))], [Rng a, Rng b])
  | _ => none

/-- a times b, and c and d. -/
def mulAddD : FnD D
  | [.one (.int .u64 _ a), .one (.int .u64 _ b), .one (.int .u64 _ c), .one (.int .u64 _ d)] => some (.tup [.one (.int .u64 false ((a * b + c + d) / B)), .one (.int .u64 false ((a * b + c + d) % B))], [Rng a, Rng b, Rng c, Rng d])
  | _ => none

/-- The value of a call that is answered at once. -/
theorem tup2_rel {E : Env} {k l : IntKind} {a b : Int} : AVRel D E (.tup [.one (.int k false a), .one (.int l false b)]) (.tuple #[.int k a, .int l b]) :=
  ⟨[.int k a, .int l b], rfl, _, _, rfl, ⟨rfl, rfl⟩, _, _, rfl, ⟨rfl, rfl⟩, rfl⟩

end Go.Num
