/- The words for a field's numbers. -/
import Derived.Test.YtbgcfmmkbocpoaaFld
import Derived.Test.YtbgcfmmkbocpoaaTow
namespace Go.Num
open Go.Abs Go.Alg

/-- Words of 64 bits: those of a number, or those that are kept for a number of the field, or for several. -/
inductive T where
  | num (x : Int)
  | el (a : Int)
  | pow (a : Int) (n : Nat)
  | e2 (x : K2)
  | e4 (x y : K2)
  | e6 (x : K6)
  | e12 (x : K12)

def Fld.num (F : Fld) : T → Int
  | .num x => x
  | .el a => F.enc a
  | .pow a n => F.enc (a ^ n)
  | _ => 0

def T.one : T → Bool
  | .num _ => true
  | .el _ => true
  | .pow _ _ => true
  | _ => false

def Fld.w2 (F : Fld) (x : K2) : List Int := limbs F.n (F.enc x.a) ++ limbs F.n (F.enc x.b)
def Fld.w6 (F : Fld) (x : K6) : List Int := F.w2 x.a ++ (F.w2 x.b ++ F.w2 x.c)

def Fld.ws (F : Fld) : T → List Int
  | .num x => limbs F.n x
  | .el a => limbs F.n (F.enc a)
  | .pow a n => limbs F.n (F.enc (a ^ n))
  | .e2 x => F.w2 x
  | .e4 x y => F.w2 x ++ F.w2 y
  | .e6 x => F.w6 x
  | .e12 x => F.w6 x.a ++ F.w6 x.b

def Fld.sz (F : Fld) : T → Nat
  | .num _ => F.n
  | .el _ => F.n
  | .pow _ _ => F.n
  | .e2 _ => 2 * F.n
  | .e4 _ _ => 4 * F.n
  | .e6 _ => 6 * F.n
  | .e12 _ => 12 * F.n

def T.split : T → Option (T × T)
  | .e2 x => some (.el x.a, .el x.b)
  | .e4 x y => some (.e2 x, .e2 y)
  | .e6 x => some (.e2 x.a, .e4 x.b x.c)
  | .e12 x => some (.e6 x.a, .e6 x.b)
  | _ => none

/-- Whether a number of the field is what a word stands for. -/
def Fld.Is (F : Fld) (t : T) (a : Int) : Prop :=
  match t with
  | .num x => x % B ^ F.n = F.enc a
  | .el b => F.enc b % B ^ F.n = F.enc a
  | .pow b n => F.enc (b ^ n) % B ^ F.n = F.enc a
  | _ => False

def Fld.eqT (F : Fld) : T → T → Option Bool
  | .num x, .num y => some (decide (x % F.R = y % F.R))
  | .el a, .el b => some (decide (a % F.m = b % F.m))
  | .e2 x, .e2 y => some (decide (Q2 F.m x y))
  | .e6 x, .e6 y => some (decide (Q6 F.m x y))
  | .e12 x, .e12 y => some (decide (Q12 F.m x y))
  | _, _ => none

theorem Fld.R_pos (F : Fld) : F.m < F.R := by have := F.hm2; have := F.hm; show F.m < B ^ F.n; omega

theorem Fld.enc_R (F : Fld) (a : Int) : F.enc a % F.R = F.enc a := Int.emod_eq_of_lt (F.enc_range a).1 (by have := (F.enc_range a).2; have := F.R_pos; omega)

theorem Fld.enc_limbs (F : Fld) {a b : Int} : limbs F.n (F.enc a) = limbs F.n (F.enc b) ↔ a % F.m = b % F.m := by
  rw [limbs_eq, show F.enc a % B ^ F.n = F.enc a from F.enc_R _, show F.enc b % B ^ F.n = F.enc b from F.enc_R _, F.enc_eq]

theorem Fld.w2_len (F : Fld) (x : K2) : (F.w2 x).length = 2 * F.n := by simp [Fld.w2, limbs_len]; omega
theorem Fld.w6_len (F : Fld) (x : K6) : (F.w6 x).length = 6 * F.n := by simp [Fld.w6, F.w2_len]; omega

theorem Fld.w2_eq (F : Fld) {x y : K2} : F.w2 x = F.w2 y ↔ Q2 F.m x y := by
  unfold Fld.w2 Q2
  constructor
  · intro h
    have h1 := List.append_inj h (by rw [limbs_len, limbs_len])
    exact ⟨F.enc_limbs.1 h1.1, F.enc_limbs.1 h1.2⟩
  · rintro ⟨h1, h2⟩
    rw [F.enc_limbs.2 h1, F.enc_limbs.2 h2]

theorem Fld.w6_eq (F : Fld) {x y : K6} : F.w6 x = F.w6 y ↔ Q6 F.m x y := by
  unfold Fld.w6 Q6
  constructor
  · intro h
    have h1 := List.append_inj h (by rw [F.w2_len, F.w2_len])
    have h2 := List.append_inj h1.2 (by rw [F.w2_len, F.w2_len])
    exact ⟨F.w2_eq.1 h1.1, F.w2_eq.1 h2.1, F.w2_eq.1 h2.2⟩
  · rintro ⟨h1, h2, h3⟩
    rw [F.w2_eq.2 h1, F.w2_eq.2 h2, F.w2_eq.2 h3]

theorem Fld.ws_len (F : Fld) (t : T) : (F.ws t).length = F.sz t := by
  cases t <;> simp [Fld.ws, Fld.sz, limbs_len, F.w2_len, F.w6_len] <;> omega

theorem Fld.ws_one (F : Fld) {t : T} (h : t.one = true) : F.ws t = limbs F.n (F.num t) := by
  cases t <;> first | rfl | cases h

theorem Fld.eqT_spec (F : Fld) {s t : T} {c : Bool} (h : F.eqT s t = some c) : decide (F.ws s = F.ws t) = c ∧ (F.ws s).length = (F.ws t).length := by
  unfold Fld.eqT at h
  split at h
  · simp only [Option.some.injEq] at h
    subst h
    exact ⟨decide_eq_decide.2 limbs_eq, by rw [F.ws_len, F.ws_len]; rfl⟩
  · simp only [Option.some.injEq] at h
    subst h
    exact ⟨decide_eq_decide.2 F.enc_limbs, by rw [F.ws_len, F.ws_len]; rfl⟩
  · simp only [Option.some.injEq] at h
    subst h
    exact ⟨decide_eq_decide.2 F.w2_eq, by rw [F.ws_len, F.ws_len]; rfl⟩
  · simp only [Option.some.injEq] at h
    subst h
    exact ⟨decide_eq_decide.2 F.w6_eq, by rw [F.ws_len, F.ws_len]; rfl⟩
  · rename_i x y
    simp only [Option.some.injEq] at h
    subst h
    refine ⟨decide_eq_decide.2 ?_, by rw [F.ws_len, F.ws_len]; rfl⟩
    show F.w6 x.a ++ F.w6 x.b = F.w6 y.a ++ F.w6 y.b ↔ Q6 F.m x.a y.a ∧ Q6 F.m x.b y.b
    constructor
    · intro h
      have h1 := List.append_inj h (by rw [F.w6_len, F.w6_len])
      exact ⟨F.w6_eq.1 h1.1, F.w6_eq.1 h1.2⟩
    · rintro ⟨h1, h2⟩
      rw [F.w6_eq.2 h1, F.w6_eq.2 h2]
  · cases h

theorem Fld.ws_split (F : Fld) {t a b : T} (h : t.split = some (a, b)) : F.ws t = F.ws a ++ F.ws b := by
  unfold T.split at h
  split at h
  · cases h
    rfl
  · cases h
    rfl
  · cases h
    rfl
  · cases h
    rfl
  · cases h

theorem limbs_zero : ∀ n, limbs n 0 = List.replicate n 0
  | 0 => rfl
  | n + 1 => by simp [limbs, limbs_zero n, List.replicate_succ]

def Fld.dom (F : Fld) : Dom where
  τ := T
  size := F.sz
  rel t cs := cs = (F.ws t).map (Value.int .u64)
  eqv := F.eqT
  eqs := by
    intro s t c xs ys h hx hy
    subst hx
    subst hy
    obtain ⟨he, hl⟩ := F.eqT_spec h
    refine ⟨by simp [hl], by rw [ints_all hl]; exact he, fun i u v hu hv => ?_⟩
    rw [List.getElem?_map] at hu hv
    obtain ⟨a, _, rfl⟩ := Option.map_eq_some_iff.1 hu
    obtain ⟨b, _, rfl⟩ := Option.map_eq_some_iff.1 hv
    exact ⟨.u64, a, b, rfl, rfl⟩
  len := by intro t cs h; subst h; simp [F.ws_len]
  one := by
    intro t cs h c hc
    subst h
    obtain ⟨_, _, rfl⟩ := List.mem_map.1 hc
    rfl
  zero := some (.u64, .el 0)
  zeros := by
    intro k t h
    simp only [Option.some.injEq, Prod.mk.injEq] at h
    obtain ⟨rfl, rfl⟩ := h
    simp [Fld.ws, Fld.sz, Fld.enc, limbs_zero]
  split := T.split
  splits := by
    intro t a b cs h hc
    subst hc
    exact ⟨_, _, by rw [F.ws_split h, List.map_append], rfl, rfl⟩

variable (F : Fld)

abbrev Fld.A := A0 F.dom.τ

/-- Words, each by itself. -/
def wordsP (l : List Int) : List (Part F.dom.τ) := l.map (.int .u64 false)

/-- The number that an array of words is. -/
def numOf (ps : List (Part F.dom.τ)) : Option (Int × List Prop) :=
  match ps with
  | [.tag t] => bif t.one then some (F.num t, []) else none
  | ps => match allInts .u64 ps with
    | some l => some (val l, [InR l, l.length = F.n])
    | none => none

theorem wordsP_rel {E : Env} : ∀ {l : List Int} {cs : List Value}, PartsRel F.dom E (wordsP F l) cs ↔ cs = l.map (Value.int .u64)
  | [], cs => Iff.rfl
  | a :: l, cs => by
    constructor
    · rintro ⟨c1, c2, rfl, h1, h2⟩
      have h1' : c1 = [.int .u64 a] := h1
      rw [h1', (wordsP_rel (l := l)).1 h2]
      rfl
    · rintro rfl
      exact ⟨[.int .u64 a], _, rfl, rfl, (wordsP_rel (l := l)).2 rfl⟩

theorem tag_rel {E : Env} {t : T} {cs : List Value} : PartsRel F.dom E [.tag t] cs ↔ cs = (F.ws t).map (Value.int .u64) := by
  constructor
  · rintro ⟨c1, c2, rfl, h1, h2⟩
    cases h2
    rw [List.append_nil]
    exact h1
  · intro h
    exact ⟨cs, [], by simp, h, rfl⟩

theorem numOf_rel {E : Env} {ps : List (Part F.dom.τ)} {x : Int} {c : List Prop} {cs : List Value} (h : numOf F ps = some (x, c)) (hc : AllQ c) (hp : PartsRel F.dom E ps cs) : cs = (limbs F.n x).map (Value.int .u64) := by
  unfold numOf at h
  split at h
  · rename_i t
    cases ho : t.one <;> simp only [ho, cond_true, cond_false] at h
    · cases h
    · simp only [Option.some.injEq, Prod.mk.injEq] at h
      obtain ⟨rfl, rfl⟩ := h
      rw [← F.ws_one ho]
      exact (tag_rel F).1 hp
  · split at h
    · rename_i l hl
      simp only [Option.some.injEq, Prod.mk.injEq] at h
      obtain ⟨rfl, rfl⟩ := h
      have h1 : InR l := hc _ (List.mem_cons_self ..)
      have h2 : l.length = F.n := hc _ (List.mem_cons_of_mem _ (List.mem_cons_self ..))
      rw [← h2, limbs_val h1]
      exact allInts_rel hl hp
    · cases h

theorem numOf_words {E : Env} {ps : List (Part F.dom.τ)} {x : Int} {c : List Prop} {v : Value} (h : numOf F ps = some (x, c)) (hc : AllQ c) (hp : A0Rel F.dom E (.agg ps) v) : A0Rel F.dom E (.agg (wordsP F (limbs F.n x))) v := by
  obtain ⟨cs, e, hp⟩ := hp
  exact ⟨cs, e, (wordsP_rel F).2 (numOf_rel F h hc hp)⟩

theorem numOf_tag {E : Env} {ps : List (Part F.dom.τ)} {x : Int} {c : List Prop} {v : Value} (h : numOf F ps = some (x, c)) (hc : AllQ c) (hp : A0Rel F.dom E (.agg ps) v) : A0Rel F.dom E (.agg [.tag (.num x)]) v := by
  obtain ⟨cs, e, hp⟩ := hp
  exact ⟨cs, e, (tag_rel F).2 (numOf_rel F h hc hp)⟩

theorem words_num {E : Env} {l : List Int} {x : Int} {v : Value} (h : limbs F.n x = l) (hv : A0Rel F.dom E (.agg (wordsP F l)) v) : A0Rel F.dom E (.agg [.tag (.num x)]) v := by
  obtain ⟨cs, e, hp⟩ := hv
  refine ⟨cs, e, (tag_rel F).2 ?_⟩
  rw [(wordsP_rel F).1 hp, ← h]
  rfl

theorem num_num {E : Env} {x y : Int} {v : Value} (h : x % F.R = y % F.R) (hv : A0Rel F.dom E (.agg [.tag (.num x)]) v) : A0Rel F.dom E (.agg [.tag (.num y)]) v := by
  obtain ⟨cs, e, hp⟩ := hv
  refine ⟨cs, e, (tag_rel F).2 ?_⟩
  rw [(tag_rel F).1 hp]
  simp only [Fld.ws]
  rw [limbs_eq.2 h]

theorem el_num {E : Env} {a : Int} {v : Value} : A0Rel F.dom E (.agg [.tag (.el a)]) v ↔ A0Rel F.dom E (.agg [.tag (.num (F.enc a))]) v := Iff.rfl

theorem el_el {E : Env} {a b : Int} {v : Value} (h : a % F.m = b % F.m) (hv : A0Rel F.dom E (.agg [.tag (.el a)]) v) : A0Rel F.dom E (.agg [.tag (.el b)]) v := by
  refine (el_num F).2 ?_
  rw [← F.enc_eq.2 h]
  exact (el_num F).1 hv

theorem is_el {E : Env} {t : T} {a : Int} {v : Value} (h : F.Is t a) (hv : A0Rel F.dom E (.agg [.tag t]) v) : A0Rel F.dom E (.agg [.tag (.el a)]) v := by
  obtain ⟨cs, e, hp⟩ := hv
  refine ⟨cs, e, (tag_rel F).2 ?_⟩
  rw [(tag_rel F).1 hp]
  have k : ∀ x : Int, x % B ^ F.n = F.enc a → limbs F.n x = limbs F.n (F.enc a) := fun x hx => limbs_eq.2 (by rw [hx]; exact (F.enc_R a).symm)
  cases t <;> first | (exact congrArg _ (k _ h)) | cases h

theorem le_el {a b : Int} (h : a % F.m = b % F.m) : TagLe F.dom (.el a) (.el b) := by
  intro cs hc
  have hc' : cs = (limbs F.n (F.enc a)).map (Value.int .u64) := hc
  rw [F.enc_eq.2 h] at hc'
  exact hc'

theorem le_num {s t : T} (hs : s.one = true) (ht : t.one = true) (h : F.num s % F.R = F.num t % F.R) : TagLe F.dom s t := by
  intro cs hc
  have hc' : cs = (F.ws s).map (Value.int .u64) := hc
  rw [F.ws_one hs, limbs_eq.2 h, ← F.ws_one ht] at hc'
  exact hc'

theorem le_refl {D : Dom} (t : D.τ) : TagLe D t t := fun _ h => h

def Rng (a : Int) : Prop := 0 ≤ a ∧ a < B
def Bit (a : Int) : Prop := 0 ≤ a ∧ a ≤ 1

theorem rng_mod (x : Int) : Rng (x % B) := ⟨Int.emod_nonneg _ (by decide), Int.emod_lt_of_pos _ (by decide)⟩
theorem rng_hi {a b c d : Int} (ha : Rng a) (hb : Rng b) (hc : Rng c) (hd : Rng d) : Rng ((a * b + c + d) / B) := by
  have h0 : 0 ≤ a * b := Int.mul_nonneg ha.1 hb.1
  have h1 : a * b ≤ (B - 1) * (B - 1) := Int.mul_le_mul (by have := ha.2; omega) (by have := hb.2; omega) hb.1 (by decide)
  have h2 : (B - 1) * (B - 1) + (B - 1) + (B - 1) = B * B - 1 := by decide
  obtain ⟨hc1, hc2⟩ := hc
  obtain ⟨hd1, hd2⟩ := hd
  constructor
  · exact Int.ediv_nonneg (by omega) (by decide)
  · exact Int.ediv_lt_of_lt_mul (by decide) (by omega)
theorem bit_ite (p : Prop) [Decidable p] : Bit (if p then 1 else 0) := by unfold Bit; split <;> decide
theorem bit_sum {a b c : Int} (ha : Rng a) (hb : Rng b) (hc : Bit c) : Bit ((a + b + c) / B) := by
  unfold Rng Bit B at *
  omega
theorem rng_bit {a : Int} (h : Bit a) : Rng a := ⟨h.1, by have := h.2; unfold B; omega⟩
instance (a : Int) : Decidable (Bit a) := inferInstanceAs (Decidable (_ ∧ _))
instance (a : Int) : Decidable (Rng a) := inferInstanceAs (Decidable (_ ∧ _))
theorem bit_zero : Bit 0 := by decide
theorem rng_zero : Rng 0 := by decide

/-! Go's own sums, differences and products of words. -/
variable (D : Dom)

def add64D : FnD D
  | [.one (.int .u64 _ a), .one (.int .u64 _ b), .one (.int .u64 _ c)] => some (.tup [.one (.int .u64 false ((a + b + c) % B)), .one (.int .u64 false ((a + b + c) / B))], [Rng a, Rng b, Bit c])
  | _ => none

def sub64D : FnD D
  | [.one (.int .u64 _ a), .one (.int .u64 _ b), .one (.int .u64 _ c)] => some (.tup [.one (.int .u64 false ((a + B - b - c) % B)), .one (.int .u64 false (if a < b + c then 1 else 0))], [Rng a, Rng b, Bit c])
  | _ => none

def mul64D : FnD D
  | [.one (.int .u64 _ a), .one (.int .u64 _ b)] => some (.tup [.one (.int .u64 false ((a * b) / B)), .one (.int .u64 false ((a * b) % B))], [Rng a, Rng b])
  | _ => none

/-- a times b, and c and d. -/
def mulAddD : FnD D
  | [.one (.int .u64 _ a), .one (.int .u64 _ b), .one (.int .u64 _ c), .one (.int .u64 _ d)] => some (.tup [.one (.int .u64 false ((a * b + c + d) / B)), .one (.int .u64 false ((a * b + c + d) % B))], [Rng a, Rng b, Rng c, Rng d])
  | _ => none

/-- The value of a call that is answered at once. -/
theorem tup2_rel {E : Env} {k l : IntKind} {a b : Int} : AVRel D E (.tup [.one (.int k false a), .one (.int l false b)]) (.tuple #[.int k a, .int l b]) :=
  ⟨[.int k a, .int l b], rfl, _, _, rfl, ⟨rfl, rfl⟩, _, _, rfl, ⟨rfl, rfl⟩, rfl⟩

end Go.Num
