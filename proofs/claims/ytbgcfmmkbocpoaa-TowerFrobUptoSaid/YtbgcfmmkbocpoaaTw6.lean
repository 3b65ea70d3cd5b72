/- Triples of pairs, and their pairs: sums, differences, products, inverses. -/
import Derived.Test.YtbgcfmmkbocpoaaTwMath
import Derived.Test.YtbgcfmmkbocpoaaTw2
namespace Go.Num
open Go.Abs Go.Proofs Go.Shelf Go.Alg

/-- The triple that parts begin with, and the other parts. -/
def tk6 (ps : List (Part FD.τ)) : Option (K6 × List (Part FD.τ)) :=
  match ps with
  | .tag (.e6 x) :: r => some (x, r)
  | .tag (.e12 x) :: r => some (x.a, .tag (.e6 x.b) :: r)
  | ps => match tk2 ps with
    | some (a, r) => match tk2 r with
      | some (b, r) => match tk2 r with
        | some (c, r) => some (⟨a, b, c⟩, r)
        | none => none
      | none => none
    | none => none

def tk12 (ps : List (Part FD.τ)) : Option (K12 × List (Part FD.τ)) :=
  match ps with
  | .tag (.e12 x) :: r => some (x, r)
  | ps => match tk6 ps with
    | some (a, r) => match tk6 r with
      | some (b, r) => some (⟨a, b⟩, r)
      | none => none
    | none => none

theorem tag_cut {E : Env} {t a b : T} (h : t.split = some (a, b)) {r : List (Part FD.τ)} {cs : List Value} : PartsRel FD E (.tag t :: r) cs ↔ PartsRel FD E (.tag a :: .tag b :: r) cs := by
  constructor
  · rintro ⟨c1, c2, rfl, h1, h2⟩
    have h1' : c1 = (fld.ws t).map (Value.int .u64) := h1
    exact ⟨(fld.ws a).map (Value.int .u64), (fld.ws b).map (Value.int .u64) ++ c2, by rw [h1', fld.ws_split h, List.map_append, List.append_assoc], rfl, _, c2, rfl, rfl, h2⟩
  · rintro ⟨c1, c2, rfl, h1, d1, d2, rfl, h2, h3⟩
    have h1' : c1 = (fld.ws a).map (Value.int .u64) := h1
    have h2' : d1 = (fld.ws b).map (Value.int .u64) := h2
    exact ⟨(fld.ws t).map (Value.int .u64), d2, by rw [h1', h2', fld.ws_split h, List.map_append, List.append_assoc], rfl, h3⟩

theorem parts_tail {E : Env} {p : Part FD.τ} {r s : List (Part FD.τ)} (h : ∀ cs, PartsRel FD E r cs → PartsRel FD E s cs) : ∀ {cs : List Value}, PartsRel FD E (p :: r) cs → PartsRel FD E (p :: s) cs := by
  rintro cs ⟨c1, c2, rfl, h1, h2⟩
  exact ⟨c1, c2, rfl, h1, h _ h2⟩

theorem e6_cut {E : Env} {x : K6} {r : List (Part FD.τ)} {cs : List Value} : PartsRel FD E (.tag (.e6 x) :: r) cs ↔ PartsRel FD E (.tag (.e2 x.a) :: .tag (.e2 x.b) :: .tag (.e2 x.c) :: r) cs := by
  rw [tag_cut (t := .e6 x) rfl]
  exact ⟨parts_tail fun cs => (tag_cut (t := .e4 x.b x.c) rfl).1, parts_tail fun cs => (tag_cut (t := .e4 x.b x.c) rfl).2⟩

theorem tk6_rel {E : Env} {ps r : List (Part FD.τ)} {x : K6} {cs : List Value} (h : tk6 ps = some (x, r)) (hp : PartsRel FD E ps cs) : PartsRel FD E (.tag (.e6 x) :: r) cs := by
  unfold tk6 at h
  split at h
  · simp only [Option.some.injEq, Prod.mk.injEq] at h
    obtain ⟨rfl, rfl⟩ := h
    exact hp
  · simp only [Option.some.injEq, Prod.mk.injEq] at h
    obtain ⟨rfl, rfl⟩ := h
    exact (tag_cut (t := .e12 _) rfl).1 hp
  · split at h
    · rename_i a r1 h1
      split at h
      · rename_i b r2 h2
        split at h
        · rename_i c r3 h3
          simp only [Option.some.injEq, Prod.mk.injEq] at h
          obtain ⟨rfl, rfl⟩ := h
          exact e6_cut.2 (parts_tail (fun cs hc => parts_tail (fun cs hc => tk2_rel h3 hc) (tk2_rel h2 hc)) (tk2_rel h1 hp))
        · cases h
      · cases h
    · cases h

theorem tk12_rel {E : Env} {ps r : List (Part FD.τ)} {x : K12} {cs : List Value} (h : tk12 ps = some (x, r)) (hp : PartsRel FD E ps cs) : PartsRel FD E (.tag (.e12 x) :: r) cs := by
  unfold tk12 at h
  split at h
  · simp only [Option.some.injEq, Prod.mk.injEq] at h
    obtain ⟨rfl, rfl⟩ := h
    exact hp
  · split at h
    · rename_i a r1 h1
      split at h
      · rename_i b r2 h2
        simp only [Option.some.injEq, Prod.mk.injEq] at h
        obtain ⟨rfl, rfl⟩ := h
        exact (tag_cut (t := .e12 ⟨a, b⟩) rfl).2 (parts_tail (fun cs hc => tk6_rel h2 hc) (tk6_rel h1 hp))
      · cases h
    · cases h

/-- What kinds of numbers functions take: how they are read off the parts, and the word for them. -/
structure Sh where
  α : Type
  of : List (Part FD.τ) → Option (α × List (Part FD.τ))
  tg : α → T
  rel : ∀ {E : Env} {ps r : List (Part FD.τ)} {x : α} {cs : List Value}, of ps = some (x, r) → PartsRel FD E ps cs → PartsRel FD E (.tag (tg x) :: r) cs

def s2 : Sh := ⟨K2, tk2, .e2, tk2_rel⟩
def s6 : Sh := ⟨K6, tk6, .e6, tk6_rel⟩
def s12 : Sh := ⟨K12, tk12, .e12, tk12_rel⟩

def Sh.all (A : Sh) (ps : List (Part FD.τ)) : Option A.α :=
  match A.of ps with
  | some (x, []) => some x
  | _ => none

def Sh.arg (A : Sh) (x : A.α) : A0 FD.τ := .agg [.tag (A.tg x)]

theorem Sh.all_rel (A : Sh) {E : Env} {ps : List (Part FD.τ)} {x : A.α} {v : Value} (h : A.all ps = some x) (hv : A0Rel FD E (.agg ps) v) : A0Rel FD E (A.arg x) v := by
  unfold Sh.all at h
  split at h
  · rename_i y hy
    simp only [Option.some.injEq] at h
    subst h
    obtain ⟨cs, e, hp⟩ := hv
    exact ⟨cs, e, A.rel hy hp⟩
  · cases h

def c1D (A R : Sh) (f : A.α → R.α) : FnD FD
  | [.agg p] => match A.all p with
    | some x => some (.v (R.arg (f x)), [])
    | _ => none
  | _ => none

def c2D (A B R : Sh) (f : A.α → B.α → R.α) : FnD FD
  | [.agg p, .agg q] => match A.all p, B.all q with
    | some x, some y => some (.v (R.arg (f x y)), [])
    | _, _ => none
  | _ => none

def c3D (A B C R : Sh) (f : A.α → B.α → C.α → R.α) : FnD FD
  | [.agg p, .agg q, .agg r] => match A.all p, B.all q, C.all r with
    | some x, some y, some z => some (.v (R.arg (f x y z)), [])
    | _, _, _ => none
  | _ => none

def c4D (A B C D R : Sh) (f : A.α → B.α → C.α → D.α → R.α) : FnD FD
  | [.agg p, .agg q, .agg r, .agg s] => match A.all p, B.all q, C.all r, D.all s with
    | some x, some y, some z, some w => some (.v (R.arg (f x y z w)), [])
    | _, _, _, _ => none
  | _ => none

theorem args3 {D : Dom} {w : World} {a b c a' b' c' : A0 D.τ} {vs : List Value} (ha : ∀ v, A0Rel D (cenv w) a v → A0Rel D (cenv w) a' v) (hb : ∀ v, A0Rel D (cenv w) b v → A0Rel D (cenv w) b' v)
    (hc : ∀ v, A0Rel D (cenv w) c v → A0Rel D (cenv w) c' v) (h : A0sRel D (cenv w) [a, b, c] vs) : A0sRel D (cenv w) [a', b', c'] vs := by
  obtain ⟨v, us, rfl, h1, h2⟩ := h
  exact ⟨v, us, rfl, ha v h1, args2 hb hc h2⟩

theorem args4 {D : Dom} {w : World} {a b c d a' b' c' d' : A0 D.τ} {vs : List Value} (ha : ∀ v, A0Rel D (cenv w) a v → A0Rel D (cenv w) a' v) (hb : ∀ v, A0Rel D (cenv w) b v → A0Rel D (cenv w) b' v)
    (hc : ∀ v, A0Rel D (cenv w) c v → A0Rel D (cenv w) c' v) (hd : ∀ v, A0Rel D (cenv w) d v → A0Rel D (cenv w) d' v) (h : A0sRel D (cenv w) [a, b, c, d] vs) : A0sRel D (cenv w) [a', b', c', d'] vs := by
  obtain ⟨v, us, rfl, h1, h2⟩ := h
  exact ⟨v, us, rfl, ha v h1, args3 hb hc hd h2⟩

section
variable {Γ : Gam FD} {f : FuncId} {fn : Func} {A B C D R : Sh}

theorem c1_ok {g : A.α → R.α} (hΓ : GamOK Try.prog FD Γ) (hf : Try.prog.funcs[f]? = some fn) (hc : ∀ args w, (callFunc f args).run Try.prog w = .ok (.enter f args) w)
    (h : ∀ x, ∃ fuel ds rs ps z, runF Try.prog FD Γ fuel fn [A.arg x] ds = some (.v (.agg rs), ps) ∧ AllQ ps ∧ R.all rs = some z ∧ z = g x) : FnOK Try.prog FD f (c1D A R g) := by
  refine fnOK_of hΓ mixed hf hc ?_
  intro xs r ps h2 hps
  unfold c1D at h2
  split at h2
  · split at h2
    · rename_i x hx
      simp only [Option.some.injEq, Prod.mk.injEq] at h2
      obtain ⟨rfl, rfl⟩ := h2
      obtain ⟨fuel, ds, rs, ps, z, h3, h4, h5, rfl⟩ := h x
      exact ⟨_, fuel, ds, _, ps, fun w vs h => args1 (fun v hv => A.all_rel hx hv) h, h3, h4, fun E v hv => R.all_rel h5 hv⟩
    · cases h2
  · cases h2

theorem c2_ok {g : A.α → B.α → R.α} (hΓ : GamOK Try.prog FD Γ) (hf : Try.prog.funcs[f]? = some fn) (hc : ∀ args w, (callFunc f args).run Try.prog w = .ok (.enter f args) w)
    (h : ∀ x y, ∃ fuel ds rs ps z, runF Try.prog FD Γ fuel fn [A.arg x, B.arg y] ds = some (.v (.agg rs), ps) ∧ AllQ ps ∧ R.all rs = some z ∧ z = g x y) : FnOK Try.prog FD f (c2D A B R g) := by
  refine fnOK_of hΓ mixed hf hc ?_
  intro xs r ps h2 hps
  unfold c2D at h2
  split at h2
  · split at h2
    · rename_i x y hx hy
      simp only [Option.some.injEq, Prod.mk.injEq] at h2
      obtain ⟨rfl, rfl⟩ := h2
      obtain ⟨fuel, ds, rs, ps, z, h3, h4, h5, rfl⟩ := h x y
      exact ⟨_, fuel, ds, _, ps, fun w vs h => args2 (fun v hv => A.all_rel hx hv) (fun v hv => B.all_rel hy hv) h, h3, h4, fun E v hv => R.all_rel h5 hv⟩
    · cases h2
  · cases h2

theorem c3_ok {g : A.α → B.α → C.α → R.α} (hΓ : GamOK Try.prog FD Γ) (hf : Try.prog.funcs[f]? = some fn) (hc : ∀ args w, (callFunc f args).run Try.prog w = .ok (.enter f args) w)
    (h : ∀ x y z, ∃ fuel ds rs ps r, runF Try.prog FD Γ fuel fn [A.arg x, B.arg y, C.arg z] ds = some (.v (.agg rs), ps) ∧ AllQ ps ∧ R.all rs = some r ∧ r = g x y z) : FnOK Try.prog FD f (c3D A B C R g) := by
  refine fnOK_of hΓ mixed hf hc ?_
  intro xs r ps h2 hps
  unfold c3D at h2
  split at h2
  · split at h2
    · rename_i x y z hx hy hz
      simp only [Option.some.injEq, Prod.mk.injEq] at h2
      obtain ⟨rfl, rfl⟩ := h2
      obtain ⟨fuel, ds, rs, ps, _, h3, h4, h5, rfl⟩ := h x y z
      exact ⟨_, fuel, ds, _, ps, fun w vs h => args3 (fun v hv => A.all_rel hx hv) (fun v hv => B.all_rel hy hv) (fun v hv => C.all_rel hz hv) h, h3, h4, fun E v hv => R.all_rel h5 hv⟩
    · cases h2
  · cases h2

theorem c4_ok {g : A.α → B.α → C.α → D.α → R.α} (hΓ : GamOK Try.prog FD Γ) (hf : Try.prog.funcs[f]? = some fn) (hc : ∀ args w, (callFunc f args).run Try.prog w = .ok (.enter f args) w)
    (h : ∀ x y z u, ∃ fuel ds rs ps r, runF Try.prog FD Γ fuel fn [A.arg x, B.arg y, C.arg z, D.arg u] ds = some (.v (.agg rs), ps) ∧ AllQ ps ∧ R.all rs = some r ∧ r = g x y z u) : FnOK Try.prog FD f (c4D A B C D R g) := by
  refine fnOK_of hΓ mixed hf hc ?_
  intro xs r ps h2 hps
  unfold c4D at h2
  split at h2
  · split at h2
    · rename_i x y z u hx hy hz hu
      simp only [Option.some.injEq, Prod.mk.injEq] at h2
      obtain ⟨rfl, rfl⟩ := h2
      obtain ⟨fuel, ds, rs, ps, _, h3, h4, h5, rfl⟩ := h x y z u
      exact ⟨_, fuel, ds, _, ps, fun w vs h => args4 (fun v hv => A.all_rel hx hv) (fun v hv => B.all_rel hy hv) (fun v hv => C.all_rel hz hv) (fun v hv => D.all_rel hu hv) h, h3, h4, fun E v hv => R.all_rel h5 hv⟩
    · cases h2
  · cases h2

end

/-- Times 1 + i. -/
def trn (x : K2) : K2 := xi * x
/-- Times the cube root of 1 + i. -/
def shf (x : K6) : K6 := vee * x

def add6 (x y : K6) : K6 := x + y

def gam20 : Gam FD := (52, p12D inv2) :: (29, el1D fun x => 0 - x) :: gam9
theorem gam20_ok : GamOK Try.prog FD gam20 := gam_cons inv2_ok (gam_cons neg_ok gam9_ok)

theorem turn_run_r (x : K2) : runF Try.prog FD gam20 100 Try.f50 [s2.arg x] [] =
    some ((Go.Abs.AV.v (Go.Abs.A0.agg ((Go.Abs.Part.tag (Go.Num.T.el ((x).1 - (x).2))) :: ((Go.Abs.Part.tag (Go.Num.T.el ((x).1 + (x).2))) :: ([] : List (Part FD.τ)))))), []) := by kernel_rfl
theorem turn_run (x : K2) :
    ∃ ps, runF Try.prog FD gam20 100 Try.f50 [s2.arg x] [] = some ((Go.Abs.AV.v (Go.Abs.A0.agg ((Go.Abs.Part.tag (Go.Num.T.el ((x).1 - (x).2))) :: ((Go.Abs.Part.tag (Go.Num.T.el ((x).1 + (x).2))) :: ([] : List (Part FD.τ)))))), ps) ∧ AllQ ps := ⟨_, turn_run_r x, allQ_nil⟩

theorem turn_ok : FnOK Try.prog FD 50 (c1D s2 s2 trn) := by
  refine c1_ok gam20_ok Try.func50 (enters_of Try.func50 (by kernel_rfl) rfl) (fun x => ?_)
  obtain ⟨ps, h1, h2⟩ := turn_run x
  refine ⟨_, _, _, _, _, h1, h2, rfl, Quad.eq ?_ ?_⟩
  · show x.a - x.b = 1 * x.a + -1 * (1 * x.b)
    omega
  · show x.a + x.b = 1 * x.b + 1 * x.a
    omega

theorem add6_run_r (x y : K6) : runF Try.prog FD gam20 100 Try.f24 [s6.arg x, s6.arg y] [] =
    some ((Go.Abs.AV.v (Go.Abs.A0.agg ((Go.Abs.Part.tag (Go.Num.T.e2 ((x).1 + (y).1))) :: ((Go.Abs.Part.tag (Go.Num.T.e2 ((x).2 + (y).2))) :: ((Go.Abs.Part.tag (Go.Num.T.e2 ((x).3 + (y).3))) :: ([] : List (Part FD.τ))))))), []) := by kernel_rfl
theorem add6_run (x y : K6) :
    ∃ ps, runF Try.prog FD gam20 100 Try.f24 [s6.arg x, s6.arg y] [] = some ((Go.Abs.AV.v (Go.Abs.A0.agg ((Go.Abs.Part.tag (Go.Num.T.e2 ((x).1 + (y).1))) :: ((Go.Abs.Part.tag (Go.Num.T.e2 ((x).2 + (y).2))) :: ((Go.Abs.Part.tag (Go.Num.T.e2 ((x).3 + (y).3))) :: ([] : List (Part FD.τ))))))), ps) ∧ AllQ ps := ⟨_, add6_run_r x y, allQ_nil⟩

theorem add6_ok : FnOK Try.prog FD 24 (c2D s6 s6 s6 add6) := by
  refine c2_ok gam20_ok Try.func24 (enters_of Try.func24 (by kernel_rfl) rfl) (fun x y => ?_)
  obtain ⟨ps, h1, h2⟩ := add6_run x y
  exact ⟨_, _, _, _, _, h1, h2, rfl, rfl⟩

def sub6 (x y : K6) : K6 := x + -y

theorem sub6_run_r (x y : K6) : runF Try.prog FD gam20 100 Try.f25 [s6.arg x, s6.arg y] [] =
    some ((Go.Abs.AV.v (Go.Abs.A0.agg ((Go.Abs.Part.tag (Go.Num.T.e2 ((x).1 + (-(y).1)))) :: ((Go.Abs.Part.tag (Go.Num.T.e2 ((x).2 + (-(y).2)))) :: ((Go.Abs.Part.tag (Go.Num.T.e2 ((x).3 + (-(y).3)))) :: ([] : List (Part FD.τ))))))), []) := by kernel_rfl
theorem sub6_run (x y : K6) :
    ∃ ps, runF Try.prog FD gam20 100 Try.f25 [s6.arg x, s6.arg y] [] = some ((Go.Abs.AV.v (Go.Abs.A0.agg ((Go.Abs.Part.tag (Go.Num.T.e2 ((x).1 + (-(y).1)))) :: ((Go.Abs.Part.tag (Go.Num.T.e2 ((x).2 + (-(y).2)))) :: ((Go.Abs.Part.tag (Go.Num.T.e2 ((x).3 + (-(y).3)))) :: ([] : List (Part FD.τ))))))), ps) ∧ AllQ ps := ⟨_, sub6_run_r x y, allQ_nil⟩

theorem sub6_ok : FnOK Try.prog FD 25 (c2D s6 s6 s6 sub6) := by
  refine c2_ok gam20_ok Try.func25 (enters_of Try.func25 (by kernel_rfl) rfl) (fun x y => ?_)
  obtain ⟨ps, h1, h2⟩ := sub6_run x y
  exact ⟨_, _, _, _, _, h1, h2, rfl, rfl⟩

def gam21 : Gam FD := (50, c1D s2 s2 trn) :: (24, c2D s6 s6 s6 add6) :: (25, c2D s6 s6 s6 sub6) :: gam20
theorem gam21_ok : GamOK Try.prog FD gam21 := gam_cons turn_ok (gam_cons add6_ok (gam_cons sub6_ok gam20_ok))

theorem shf_run_r (x : K6) : runF Try.prog FD gam21 100 Try.f23 [s6.arg x] [] =
    some ((Go.Abs.AV.v (Go.Abs.A0.agg ((Go.Abs.Part.tag (Go.Num.T.e2 (Go.Alg.xi * (x).3))) :: ((Go.Abs.Part.tag (Go.Num.T.e2 (x).1)) :: ((Go.Abs.Part.tag (Go.Num.T.e2 (x).2)) :: ([] : List (Part FD.τ))))))), []) := by kernel_rfl
theorem shf_run (x : K6) :
    ∃ ps, runF Try.prog FD gam21 100 Try.f23 [s6.arg x] [] = some ((Go.Abs.AV.v (Go.Abs.A0.agg ((Go.Abs.Part.tag (Go.Num.T.e2 (Go.Alg.xi * (x).3))) :: ((Go.Abs.Part.tag (Go.Num.T.e2 (x).1)) :: ((Go.Abs.Part.tag (Go.Num.T.e2 (x).2)) :: ([] : List (Part FD.τ))))))), ps) ∧ AllQ ps := ⟨_, shf_run_r x, allQ_nil⟩

theorem shf_ok : FnOK Try.prog FD 23 (c1D s6 s6 shf) := by
  refine c1_ok gam21_ok Try.func23 (enters_of Try.func23 (by kernel_rfl) rfl) (fun x => ?_)
  obtain ⟨ps, h1, h2⟩ := shf_run x
  refine ⟨_, _, _, _, _, h1, h2, rfl, ?_⟩
  have k := ring_id (vars [x.a, x.b, x.c, xi])
  refine Cub.eq ?_ ?_ ?_
  · exact k (u 3 * u 2) (0 * u 0 + u 3 * (1 * u 2 + 0 * u 1)) (by kernel_rfl)
  · exact k (u 0) (0 * u 1 + 1 * u 0 + u 3 * (0 * u 2)) (by kernel_rfl)
  · exact k (u 1) (0 * u 2 + 1 * u 1 + 0 * u 0) (by kernel_rfl)

def mul6 (x y : K6) : K6 := x * y

theorem mul6_run_r (x y : K6) : runF Try.prog FD gam21 100 Try.f22 [s6.arg x, s6.arg y] [] =
    some ((Go.Abs.AV.v (Go.Abs.A0.agg ((Go.Abs.Part.tag (Go.Num.T.e2 (((x).1 * (y).1) + (Go.Alg.xi * (((((x).2 + (x).3) * ((y).2 + (y).3)) + (-((x).2 * (y).2))) + (-((x).3 * (y).3))))))) :: ((Go.Abs.Part.tag (Go.Num.T.e2 ((((((x).1 + (x).2) * ((y).1 + (y).2)) + (-((x).1 * (y).1))) + (-((x).2 * (y).2))) + (Go.Alg.xi * ((x).3 * (y).3))))) :: ((Go.Abs.Part.tag (Go.Num.T.e2 ((((((x).1 + (x).3) * ((y).1 + (y).3)) + (-((x).1 * (y).1))) + (-((x).3 * (y).3))) + ((x).2 * (y).2)))) :: ([] : List (Part FD.τ))))))), []) := by kernel_rfl
theorem mul6_run (x y : K6) :
    ∃ ps, runF Try.prog FD gam21 100 Try.f22 [s6.arg x, s6.arg y] [] = some ((Go.Abs.AV.v (Go.Abs.A0.agg ((Go.Abs.Part.tag (Go.Num.T.e2 (((x).1 * (y).1) + (Go.Alg.xi * (((((x).2 + (x).3) * ((y).2 + (y).3)) + (-((x).2 * (y).2))) + (-((x).3 * (y).3))))))) :: ((Go.Abs.Part.tag (Go.Num.T.e2 ((((((x).1 + (x).2) * ((y).1 + (y).2)) + (-((x).1 * (y).1))) + (-((x).2 * (y).2))) + (Go.Alg.xi * ((x).3 * (y).3))))) :: ((Go.Abs.Part.tag (Go.Num.T.e2 ((((((x).1 + (x).3) * ((y).1 + (y).3)) + (-((x).1 * (y).1))) + (-((x).3 * (y).3))) + ((x).2 * (y).2)))) :: ([] : List (Part FD.τ))))))), ps) ∧ AllQ ps := ⟨_, mul6_run_r x y, allQ_nil⟩

theorem mul6_ok : FnOK Try.prog FD 22 (c2D s6 s6 s6 mul6) := by
  refine c2_ok gam21_ok Try.func22 (enters_of Try.func22 (by kernel_rfl) rfl) (fun x y => ?_)
  obtain ⟨ps, h1, h2⟩ := mul6_run x y
  refine ⟨_, _, _, _, _, h1, h2, rfl, ?_⟩
  have k := ring_id (vars [x.a, x.b, x.c, y.a, y.b, y.c, xi])
  refine Cub.eq ?_ ?_ ?_
  · exact k (u 0 * u 3 + u 6 * ((u 1 + u 2) * (u 4 + u 5) + -(u 1 * u 4) + -(u 2 * u 5))) (u 0 * u 3 + u 6 * (u 1 * u 5 + u 2 * u 4)) (by kernel_rfl)
  · exact k ((u 0 + u 1) * (u 3 + u 4) + -(u 0 * u 3) + -(u 1 * u 4) + u 6 * (u 2 * u 5)) (u 0 * u 4 + u 1 * u 3 + u 6 * (u 2 * u 5)) (by kernel_rfl)
  · exact k ((u 0 + u 2) * (u 3 + u 5) + -(u 0 * u 3) + -(u 2 * u 5) + u 1 * u 4) (u 0 * u 5 + u 1 * u 4 + u 2 * u 3) (by kernel_rfl)

def pr6 (x : K6) (a b : K2) : K6 := x * ⟨a, b, 0⟩

theorem pair_run_r (x : K6) (a b : K2) : runF Try.prog FD gam21 100 Try.f40 [s6.arg x, s2.arg a, s2.arg b] [] =
    some ((Go.Abs.AV.v (Go.Abs.A0.agg ((Go.Abs.Part.tag (Go.Num.T.e2 (((x).1 * a) + (Go.Alg.xi * ((x).3 * b))))) :: ((Go.Abs.Part.tag (Go.Num.T.e2 (((((x).1 + (x).2) * (a + b)) + (-((x).1 * a))) + (-((x).2 * b))))) :: ((Go.Abs.Part.tag (Go.Num.T.e2 (((x).2 * b) + ((x).3 * a)))) :: ([] : List (Part FD.τ))))))), []) := by kernel_rfl
theorem pair_run (x : K6) (a b : K2) :
    ∃ ps, runF Try.prog FD gam21 100 Try.f40 [s6.arg x, s2.arg a, s2.arg b] [] = some ((Go.Abs.AV.v (Go.Abs.A0.agg ((Go.Abs.Part.tag (Go.Num.T.e2 (((x).1 * a) + (Go.Alg.xi * ((x).3 * b))))) :: ((Go.Abs.Part.tag (Go.Num.T.e2 (((((x).1 + (x).2) * (a + b)) + (-((x).1 * a))) + (-((x).2 * b))))) :: ((Go.Abs.Part.tag (Go.Num.T.e2 (((x).2 * b) + ((x).3 * a)))) :: ([] : List (Part FD.τ))))))), ps) ∧ AllQ ps := ⟨_, pair_run_r x a b, allQ_nil⟩

theorem pair_ok : FnOK Try.prog FD 40 (c3D s6 s2 s2 s6 pr6) := by
  refine c3_ok gam21_ok Try.func40 (enters_of Try.func40 (by kernel_rfl) rfl) (fun x a b => ?_)
  obtain ⟨ps, h1, h2⟩ := pair_run x a b
  refine ⟨_, _, _, _, _, h1, h2, rfl, ?_⟩
  have k := ring_id (vars [x.a, x.b, x.c, a, b, xi])
  refine Cub.eq ?_ ?_ ?_
  · exact k (u 0 * u 3 + u 5 * (u 2 * u 4)) (u 0 * u 3 + u 5 * (u 1 * 0 + u 2 * u 4)) (by kernel_rfl)
  · exact k ((u 0 + u 1) * (u 3 + u 4) + -(u 0 * u 3) + -(u 1 * u 4)) (u 0 * u 4 + u 1 * u 3 + u 5 * (u 2 * 0)) (by kernel_rfl)
  · exact k (u 1 * u 4 + u 2 * u 3) (u 0 * 0 + u 1 * u 4 + u 2 * u 3) (by kernel_rfl)

theorem scale_run_r (x : K6) (a : K2) : runF Try.prog FD gam21 100 Try.f41 [s6.arg x, s2.arg a] [] =
    some ((Go.Abs.AV.v (Go.Abs.A0.agg ((Go.Abs.Part.tag (Go.Num.T.e2 ((x).1 * a))) :: ((Go.Abs.Part.tag (Go.Num.T.e2 ((x).2 * a))) :: ((Go.Abs.Part.tag (Go.Num.T.e2 ((x).3 * a))) :: ([] : List (Part FD.τ))))))), []) := by kernel_rfl
theorem scale_run (x : K6) (a : K2) :
    ∃ ps, runF Try.prog FD gam21 100 Try.f41 [s6.arg x, s2.arg a] [] = some ((Go.Abs.AV.v (Go.Abs.A0.agg ((Go.Abs.Part.tag (Go.Num.T.e2 ((x).1 * a))) :: ((Go.Abs.Part.tag (Go.Num.T.e2 ((x).2 * a))) :: ((Go.Abs.Part.tag (Go.Num.T.e2 ((x).3 * a))) :: ([] : List (Part FD.τ))))))), ps) ∧ AllQ ps := ⟨_, scale_run_r x a, allQ_nil⟩

theorem scale_ok : FnOK Try.prog FD 41 (c2D s6 s2 s6 scl6) := by
  refine c2_ok gam21_ok Try.func41 (enters_of Try.func41 (by kernel_rfl) rfl) (fun x a => ?_)
  obtain ⟨ps, h1, h2⟩ := scale_run x a
  exact ⟨_, _, _, _, _, h1, h2, rfl, rfl⟩

def gam22 : Gam FD := (23, c1D s6 s6 shf) :: (22, c2D s6 s6 s6 mul6) :: (40, c3D s6 s2 s2 s6 pr6) :: (41, c2D s6 s2 s6 scl6) :: gam21
theorem gam22_ok : GamOK Try.prog FD gam22 := gam_cons shf_ok (gam_cons mul6_ok (gam_cons pair_ok (gam_cons scale_ok gam21_ok)))

theorem inv6_run_r (x : K6) : runF Try.prog FD gam22 100 Try.f26 [s6.arg x] [] =
    some ((Go.Abs.AV.v (Go.Abs.A0.agg ((Go.Abs.Part.tag (Go.Num.T.e6 (Go.Num.scl6 (@Go.Alg.Cub.mk Go.Alg.K2 Go.Alg.xi (((x).1 * (x).1) + (-(Go.Alg.xi * ((x).2 * (x).3)))) ((Go.Alg.xi * ((x).3 * (x).3)) + (-((x).1 * (x).2))) (((x).2 * (x).2) + (-((x).1 * (x).3)))) (Go.Num.inv2 (((x).1 * (((x).1 * (x).1) + (-(Go.Alg.xi * ((x).2 * (x).3))))) + (Go.Alg.xi * (((x).3 * ((Go.Alg.xi * ((x).3 * (x).3)) + (-((x).1 * (x).2)))) + ((x).2 * (((x).2 * (x).2) + (-((x).1 * (x).3))))))))))) :: ([] : List (Part FD.τ))))), []) := by kernel_rfl
theorem inv6_run (x : K6) :
    ∃ ps, runF Try.prog FD gam22 100 Try.f26 [s6.arg x] [] = some ((Go.Abs.AV.v (Go.Abs.A0.agg ((Go.Abs.Part.tag (Go.Num.T.e6 (Go.Num.scl6 (@Go.Alg.Cub.mk Go.Alg.K2 Go.Alg.xi (((x).1 * (x).1) + (-(Go.Alg.xi * ((x).2 * (x).3)))) ((Go.Alg.xi * ((x).3 * (x).3)) + (-((x).1 * (x).2))) (((x).2 * (x).2) + (-((x).1 * (x).3)))) (Go.Num.inv2 (((x).1 * (((x).1 * (x).1) + (-(Go.Alg.xi * ((x).2 * (x).3))))) + (Go.Alg.xi * (((x).3 * ((Go.Alg.xi * ((x).3 * (x).3)) + (-((x).1 * (x).2)))) + ((x).2 * (((x).2 * (x).2) + (-((x).1 * (x).3))))))))))) :: ([] : List (Part FD.τ))))), ps) ∧ AllQ ps := ⟨_, inv6_run_r x, allQ_nil⟩

theorem inv6_ok : FnOK Try.prog FD 26 (c1D s6 s6 inv6) := by
  refine c1_ok gam22_ok Try.func26 (enters_of Try.func26 (by kernel_rfl) rfl) (fun x => ?_)
  obtain ⟨ps, h1, h2⟩ := inv6_run x
  exact ⟨_, _, _, _, _, h1, h2, rfl, rfl⟩

def mul12 (x y : K12) : K12 := x * y
def line12 (x : K12) (a b c : K2) : K12 := x * ⟨⟨a, b, 0⟩, ⟨0, c, 0⟩⟩
def sq12 (x : K12) : K12 := x * x
def cj12 (x : K12) : K12 := ⟨x.a, 0 + -x.b⟩

theorem mul12_run_r (x y : K12) : runF Try.prog FD gam22 100 Try.f13 [s12.arg x, s12.arg y] [] =
    some ((Go.Abs.AV.v (Go.Abs.A0.agg ((Go.Abs.Part.tag (Go.Num.T.e6 (((x).1 * (y).1) + (Go.Alg.vee * ((x).2 * (y).2))))) :: ((Go.Abs.Part.tag (Go.Num.T.e6 (((((x).1 + (x).2) * ((y).1 + (y).2)) + (-((x).1 * (y).1))) + (-((x).2 * (y).2))))) :: ([] : List (Part FD.τ)))))), []) := by kernel_rfl
theorem mul12_run (x y : K12) :
    ∃ ps, runF Try.prog FD gam22 100 Try.f13 [s12.arg x, s12.arg y] [] = some ((Go.Abs.AV.v (Go.Abs.A0.agg ((Go.Abs.Part.tag (Go.Num.T.e6 (((x).1 * (y).1) + (Go.Alg.vee * ((x).2 * (y).2))))) :: ((Go.Abs.Part.tag (Go.Num.T.e6 (((((x).1 + (x).2) * ((y).1 + (y).2)) + (-((x).1 * (y).1))) + (-((x).2 * (y).2))))) :: ([] : List (Part FD.τ)))))), ps) ∧ AllQ ps := ⟨_, mul12_run_r x y, allQ_nil⟩

theorem mul12_ok : FnOK Try.prog FD 13 (c2D s12 s12 s12 mul12) := by
  refine c2_ok gam22_ok Try.func13 (enters_of Try.func13 (by kernel_rfl) rfl) (fun (x y : K12) => ?_)
  obtain ⟨ps, h1, h2⟩ := mul12_run x y
  refine ⟨_, _, _, _, _, h1, h2, rfl, Quad.eq rfl ?_⟩
  exact ring_id (vars [x.a, x.b, y.a, y.b]) ((u 0 + u 1) * (u 2 + u 3) + -(u 0 * u 2) + -(u 1 * u 3)) (u 0 * u 3 + u 1 * u 2) (by kernel_rfl)

theorem sq12_run_r (x : K12) : runF Try.prog FD gam22 100 Try.f19 [s12.arg x] [] =
    some ((Go.Abs.AV.v (Go.Abs.A0.agg ((Go.Abs.Part.tag (Go.Num.T.e6 (((((x).1 + (x).2) * ((x).1 + (Go.Alg.vee * (x).2))) + (-((x).1 * (x).2))) + (-(Go.Alg.vee * ((x).1 * (x).2)))))) :: ((Go.Abs.Part.tag (Go.Num.T.e6 (((x).1 * (x).2) + ((x).1 * (x).2)))) :: ([] : List (Part FD.τ)))))), []) := by kernel_rfl
theorem sq12_run (x : K12) :
    ∃ ps, runF Try.prog FD gam22 100 Try.f19 [s12.arg x] [] = some ((Go.Abs.AV.v (Go.Abs.A0.agg ((Go.Abs.Part.tag (Go.Num.T.e6 (((((x).1 + (x).2) * ((x).1 + (Go.Alg.vee * (x).2))) + (-((x).1 * (x).2))) + (-(Go.Alg.vee * ((x).1 * (x).2)))))) :: ((Go.Abs.Part.tag (Go.Num.T.e6 (((x).1 * (x).2) + ((x).1 * (x).2)))) :: ([] : List (Part FD.τ)))))), ps) ∧ AllQ ps := ⟨_, sq12_run_r x, allQ_nil⟩

theorem sq12_ok : FnOK Try.prog FD 19 (c1D s12 s12 sq12) := by
  refine c1_ok gam22_ok Try.func19 (enters_of Try.func19 (by kernel_rfl) rfl) (fun (x : K12) => ?_)
  obtain ⟨ps, h1, h2⟩ := sq12_run x
  refine ⟨_, _, _, _, _, h1, h2, rfl, Quad.eq ?_ ?_⟩
  · exact ring_id (vars [x.a, x.b, vee]) ((u 0 + u 1) * (u 0 + u 2 * u 1) + -(u 0 * u 1) + -(u 2 * (u 0 * u 1))) (u 0 * u 0 + u 2 * (u 1 * u 1)) (by kernel_rfl)
  · exact ring_id (vars [x.a, x.b]) (u 0 * u 1 + u 0 * u 1) (u 0 * u 1 + u 1 * u 0) (by kernel_rfl)

theorem line12_run_r (x : K12) (a b c : K2) : runF Try.prog FD gam22 100 Try.f15 [s12.arg x, s2.arg a, s2.arg b, s2.arg c] [] =
    some ((Go.Abs.AV.v (Go.Abs.A0.agg ((Go.Abs.Part.tag (Go.Num.T.e6 ((Go.Num.pr6 (x).1 a b) + (Go.Alg.vee * (Go.Alg.vee * (Go.Num.scl6 (x).2 c)))))) :: ((Go.Abs.Part.tag (Go.Num.T.e6 (((Go.Num.pr6 ((x).1 + (x).2) a (b + c)) + (-(Go.Num.pr6 (x).1 a b))) + (-(Go.Alg.vee * (Go.Num.scl6 (x).2 c)))))) :: ([] : List (Part FD.τ)))))), []) := by kernel_rfl
theorem line12_run (x : K12) (a b c : K2) :
    ∃ ps, runF Try.prog FD gam22 100 Try.f15 [s12.arg x, s2.arg a, s2.arg b, s2.arg c] [] = some ((Go.Abs.AV.v (Go.Abs.A0.agg ((Go.Abs.Part.tag (Go.Num.T.e6 ((Go.Num.pr6 (x).1 a b) + (Go.Alg.vee * (Go.Alg.vee * (Go.Num.scl6 (x).2 c)))))) :: ((Go.Abs.Part.tag (Go.Num.T.e6 (((Go.Num.pr6 ((x).1 + (x).2) a (b + c)) + (-(Go.Num.pr6 (x).1 a b))) + (-(Go.Alg.vee * (Go.Num.scl6 (x).2 c)))))) :: ([] : List (Part FD.τ)))))), ps) ∧ AllQ ps := ⟨_, line12_run_r x a b c, allQ_nil⟩

/-- A triple's multiple by a pair is a product. -/
theorem scl6_eq (x : K6) (c : K2) : scl6 x c = x * ⟨c, 0, 0⟩ := by
  have k := ring_id (vars [x.a, x.b, x.c, c, xi])
  refine Cub.eq ?_ ?_ ?_
  · exact k (u 0 * u 3) (u 0 * u 3 + u 4 * (u 1 * 0 + u 2 * 0)) (by kernel_rfl)
  · exact k (u 1 * u 3) (u 0 * 0 + u 1 * u 3 + u 4 * (u 2 * 0)) (by kernel_rfl)
  · exact k (u 2 * u 3) (u 0 * 0 + u 1 * 0 + u 2 * u 3) (by kernel_rfl)

theorem vee_mul (c : K2) : vee * (⟨c, 0, 0⟩ : K6) = ⟨0, c, 0⟩ := by
  have k := ring_id (vars [c, xi])
  refine Cub.eq ?_ ?_ ?_
  · exact k (0 * u 0 + u 1 * (1 * 0 + 0 * 0)) 0 (by kernel_rfl)
  · exact k (0 * 0 + 1 * u 0 + u 1 * (0 * 0)) (u 0) (by kernel_rfl)
  · exact k (0 * 0 + 1 * 0 + 0 * u 0) 0 (by kernel_rfl)

theorem line_sum (a b c : K2) : (⟨a, b + c, 0⟩ : K6) = ⟨a, b, 0⟩ + vee * ⟨c, 0, 0⟩ := by
  rw [vee_mul]
  exact Cub.eq (by rw [cadd_a, add_zero]) rfl (by rw [cadd_c, add_zero])

theorem line_b {R : Type} [CR R] (a b p q v : R) : (a + b) * (p + v * q) + -(a * p) + -(v * (b * q)) = a * (v * q) + b * p :=
  ring_id (vars [a, b, p, q, v]) ((u 0 + u 1) * (u 2 + u 4 * u 3) + -(u 0 * u 2) + -(u 4 * (u 1 * u 3))) (u 0 * (u 4 * u 3) + u 1 * u 2) (by kernel_rfl)

theorem line12_ok : FnOK Try.prog FD 15 (c4D s12 s2 s2 s2 s12 line12) := by
  refine c4_ok gam22_ok Try.func15 (enters_of Try.func15 (by kernel_rfl) rfl) (fun (x : K12) (a b c : K2) => ?_)
  obtain ⟨ps, h1, h2⟩ := line12_run x a b c
  refine ⟨_, _, _, _, _, h1, h2, rfl, Quad.eq ?_ ?_⟩
  · show pr6 x.a a b + vee * (vee * scl6 x.b c) = x.a * ⟨a, b, 0⟩ + vee * (x.b * ⟨0, c, 0⟩)
    rw [scl6_eq, ← vee_mul, pr6]
    exact ring_id (vars [x.a, x.b, ⟨a, b, 0⟩, ⟨c, 0, 0⟩, vee]) (u 0 * u 2 + u 4 * (u 4 * (u 1 * u 3))) (u 0 * u 2 + u 4 * (u 1 * (u 4 * u 3))) (by kernel_rfl)
  · show pr6 (x.a + x.b) a (b + c) + -pr6 x.a a b + -(vee * scl6 x.b c) = x.a * ⟨0, c, 0⟩ + x.b * ⟨a, b, 0⟩
    rw [scl6_eq, ← vee_mul]
    show (x.a + x.b) * (⟨a, b + c, 0⟩ : K6) + -(x.a * ⟨a, b, 0⟩) + -(vee * (x.b * ⟨c, 0, 0⟩)) = x.a * (vee * ⟨c, 0, 0⟩) + x.b * ⟨a, b, 0⟩
    rw [line_sum]
    exact line_b x.a x.b ⟨a, b, 0⟩ ⟨c, 0, 0⟩ vee

theorem cj12_run_r (x : K12) : runF Try.prog FD gam22 100 Try.f21 [s12.arg x] [] =
    some ((Go.Abs.AV.v (Go.Abs.A0.agg ((Go.Abs.Part.tag (Go.Num.T.e6 (x).1)) :: ((Go.Abs.Part.tag (Go.Num.T.e6 ((@Go.Alg.Cub.mk Go.Alg.K2 Go.Alg.xi (@Go.Alg.Quad.mk Int (-(1 : Int)) (0 : Int) (0 : Int)) (@Go.Alg.Quad.mk Int (-(1 : Int)) (0 : Int) (0 : Int)) (@Go.Alg.Quad.mk Int (-(1 : Int)) (0 : Int) (0 : Int))) + (-(x).2)))) :: ([] : List (Part FD.τ)))))), []) := by kernel_rfl
theorem cj12_run (x : K12) :
    ∃ ps, runF Try.prog FD gam22 100 Try.f21 [s12.arg x] [] = some ((Go.Abs.AV.v (Go.Abs.A0.agg ((Go.Abs.Part.tag (Go.Num.T.e6 (x).1)) :: ((Go.Abs.Part.tag (Go.Num.T.e6 ((@Go.Alg.Cub.mk Go.Alg.K2 Go.Alg.xi (@Go.Alg.Quad.mk Int (-(1 : Int)) (0 : Int) (0 : Int)) (@Go.Alg.Quad.mk Int (-(1 : Int)) (0 : Int) (0 : Int)) (@Go.Alg.Quad.mk Int (-(1 : Int)) (0 : Int) (0 : Int))) + (-(x).2)))) :: ([] : List (Part FD.τ)))))), ps) ∧ AllQ ps := ⟨_, cj12_run_r x, allQ_nil⟩

theorem cj12_ok : FnOK Try.prog FD 21 (c1D s12 s12 cj12) := by
  refine c1_ok gam22_ok Try.func21 (enters_of Try.func21 (by kernel_rfl) rfl) (fun x => ?_)
  obtain ⟨ps, h1, h2⟩ := cj12_run x
  exact ⟨_, _, _, _, _, h1, h2, rfl, rfl⟩

def gam23 : Gam FD := (26, c1D s6 s6 inv6) :: (13, c2D s12 s12 s12 mul12) :: (19, c1D s12 s12 sq12) :: (15, c4D s12 s2 s2 s2 s12 line12) :: (21, c1D s12 s12 cj12) :: gam22
theorem gam23_ok : GamOK Try.prog FD gam23 := gam_cons inv6_ok (gam_cons mul12_ok (gam_cons sq12_ok (gam_cons line12_ok (gam_cons cj12_ok gam22_ok))))

theorem inv12_run_r (x : K12) : runF Try.prog FD gam23 100 Try.f27 [s12.arg x] [] =
    some ((Go.Abs.AV.v (Go.Abs.A0.agg ((Go.Abs.Part.tag (Go.Num.T.e6 ((x).1 * (Go.Num.inv6 (((x).1 * (x).1) + (-(Go.Alg.vee * ((x).2 * (x).2)))))))) :: ((Go.Abs.Part.tag (Go.Num.T.e6 ((@Go.Alg.Cub.mk Go.Alg.K2 Go.Alg.xi (@Go.Alg.Quad.mk Int (-(1 : Int)) (0 : Int) (0 : Int)) (@Go.Alg.Quad.mk Int (-(1 : Int)) (0 : Int) (0 : Int)) (@Go.Alg.Quad.mk Int (-(1 : Int)) (0 : Int) (0 : Int))) + (-((x).2 * (Go.Num.inv6 (((x).1 * (x).1) + (-(Go.Alg.vee * ((x).2 * (x).2)))))))))) :: ([] : List (Part FD.τ)))))), []) := by kernel_rfl
theorem inv12_run (x : K12) :
    ∃ ps, runF Try.prog FD gam23 100 Try.f27 [s12.arg x] [] = some ((Go.Abs.AV.v (Go.Abs.A0.agg ((Go.Abs.Part.tag (Go.Num.T.e6 ((x).1 * (Go.Num.inv6 (((x).1 * (x).1) + (-(Go.Alg.vee * ((x).2 * (x).2)))))))) :: ((Go.Abs.Part.tag (Go.Num.T.e6 ((@Go.Alg.Cub.mk Go.Alg.K2 Go.Alg.xi (@Go.Alg.Quad.mk Int (-(1 : Int)) (0 : Int) (0 : Int)) (@Go.Alg.Quad.mk Int (-(1 : Int)) (0 : Int) (0 : Int)) (@Go.Alg.Quad.mk Int (-(1 : Int)) (0 : Int) (0 : Int))) + (-((x).2 * (Go.Num.inv6 (((x).1 * (x).1) + (-(Go.Alg.vee * ((x).2 * (x).2)))))))))) :: ([] : List (Part FD.τ)))))), ps) ∧ AllQ ps := ⟨_, inv12_run_r x, allQ_nil⟩

theorem inv12_ok : FnOK Try.prog FD 27 (c1D s12 s12 inv12) := by
  refine c1_ok gam23_ok Try.func27 (enters_of Try.func27 (by kernel_rfl) rfl) (fun x => ?_)
  obtain ⟨ps, h1, h2⟩ := inv12_run x
  exact ⟨_, _, _, _, _, h1, h2, rfl, rfl⟩

def k0D (R : Sh) (x : R.α) : FnD FD
  | [] => some (.v (R.arg x), [])
  | _ => none

theorem one12_run_r  : runF Try.prog FD gam23 100 Try.f14 [] [] =
    some ((Go.Abs.AV.v (Go.Abs.A0.agg ((Go.Abs.Part.tag (Go.Num.T.e2 (@Go.Alg.Quad.mk Int (-(1 : Int)) (1 : Int) (0 : Int)))) :: ((Go.Abs.Part.int Go.IntKind.u64 Bool.true (0 : Int)) :: ((Go.Abs.Part.int Go.IntKind.u64 Bool.true (0 : Int)) :: ((Go.Abs.Part.int Go.IntKind.u64 Bool.true (0 : Int)) :: ((Go.Abs.Part.int Go.IntKind.u64 Bool.true (0 : Int)) :: ((Go.Abs.Part.int Go.IntKind.u64 Bool.true (0 : Int)) :: ((Go.Abs.Part.int Go.IntKind.u64 Bool.true (0 : Int)) :: ((Go.Abs.Part.int Go.IntKind.u64 Bool.true (0 : Int)) :: ((Go.Abs.Part.int Go.IntKind.u64 Bool.true (0 : Int)) :: ((Go.Abs.Part.int Go.IntKind.u64 Bool.true (0 : Int)) :: ((Go.Abs.Part.int Go.IntKind.u64 Bool.true (0 : Int)) :: ((Go.Abs.Part.int Go.IntKind.u64 Bool.true (0 : Int)) :: ((Go.Abs.Part.int Go.IntKind.u64 Bool.true (0 : Int)) :: ((Go.Abs.Part.int Go.IntKind.u64 Bool.true (0 : Int)) :: ((Go.Abs.Part.int Go.IntKind.u64 Bool.true (0 : Int)) :: ((Go.Abs.Part.int Go.IntKind.u64 Bool.true (0 : Int)) :: ((Go.Abs.Part.int Go.IntKind.u64 Bool.true (0 : Int)) :: ((Go.Abs.Part.int Go.IntKind.u64 Bool.true (0 : Int)) :: ((Go.Abs.Part.int Go.IntKind.u64 Bool.true (0 : Int)) :: ((Go.Abs.Part.int Go.IntKind.u64 Bool.true (0 : Int)) :: ((Go.Abs.Part.int Go.IntKind.u64 Bool.true (0 : Int)) :: ((Go.Abs.Part.int Go.IntKind.u64 Bool.true (0 : Int)) :: ((Go.Abs.Part.int Go.IntKind.u64 Bool.true (0 : Int)) :: ((Go.Abs.Part.int Go.IntKind.u64 Bool.true (0 : Int)) :: ((Go.Abs.Part.int Go.IntKind.u64 Bool.true (0 : Int)) :: ((Go.Abs.Part.int Go.IntKind.u64 Bool.true (0 : Int)) :: ((Go.Abs.Part.int Go.IntKind.u64 Bool.true (0 : Int)) :: ((Go.Abs.Part.int Go.IntKind.u64 Bool.true (0 : Int)) :: ((Go.Abs.Part.int Go.IntKind.u64 Bool.true (0 : Int)) :: ((Go.Abs.Part.int Go.IntKind.u64 Bool.true (0 : Int)) :: ((Go.Abs.Part.int Go.IntKind.u64 Bool.true (0 : Int)) :: ((Go.Abs.Part.int Go.IntKind.u64 Bool.true (0 : Int)) :: ((Go.Abs.Part.int Go.IntKind.u64 Bool.true (0 : Int)) :: ((Go.Abs.Part.int Go.IntKind.u64 Bool.true (0 : Int)) :: ((Go.Abs.Part.int Go.IntKind.u64 Bool.true (0 : Int)) :: ((Go.Abs.Part.int Go.IntKind.u64 Bool.true (0 : Int)) :: ((Go.Abs.Part.int Go.IntKind.u64 Bool.true (0 : Int)) :: ((Go.Abs.Part.int Go.IntKind.u64 Bool.true (0 : Int)) :: ((Go.Abs.Part.int Go.IntKind.u64 Bool.true (0 : Int)) :: ((Go.Abs.Part.int Go.IntKind.u64 Bool.true (0 : Int)) :: ((Go.Abs.Part.int Go.IntKind.u64 Bool.true (0 : Int)) :: ((Go.Abs.Part.int Go.IntKind.u64 Bool.true (0 : Int)) :: ((Go.Abs.Part.int Go.IntKind.u64 Bool.true (0 : Int)) :: ((Go.Abs.Part.int Go.IntKind.u64 Bool.true (0 : Int)) :: ((Go.Abs.Part.int Go.IntKind.u64 Bool.true (0 : Int)) :: ((Go.Abs.Part.int Go.IntKind.u64 Bool.true (0 : Int)) :: ((Go.Abs.Part.int Go.IntKind.u64 Bool.true (0 : Int)) :: ((Go.Abs.Part.int Go.IntKind.u64 Bool.true (0 : Int)) :: ((Go.Abs.Part.int Go.IntKind.u64 Bool.true (0 : Int)) :: ((Go.Abs.Part.int Go.IntKind.u64 Bool.true (0 : Int)) :: ((Go.Abs.Part.int Go.IntKind.u64 Bool.true (0 : Int)) :: ((Go.Abs.Part.int Go.IntKind.u64 Bool.true (0 : Int)) :: ((Go.Abs.Part.int Go.IntKind.u64 Bool.true (0 : Int)) :: ((Go.Abs.Part.int Go.IntKind.u64 Bool.true (0 : Int)) :: ((Go.Abs.Part.int Go.IntKind.u64 Bool.true (0 : Int)) :: ((Go.Abs.Part.int Go.IntKind.u64 Bool.true (0 : Int)) :: ((Go.Abs.Part.int Go.IntKind.u64 Bool.true (0 : Int)) :: ((Go.Abs.Part.int Go.IntKind.u64 Bool.true (0 : Int)) :: ((Go.Abs.Part.int Go.IntKind.u64 Bool.true (0 : Int)) :: ((Go.Abs.Part.int Go.IntKind.u64 Bool.true (0 : Int)) :: ((Go.Abs.Part.int Go.IntKind.u64 Bool.true (0 : Int)) :: ([] : List (Part FD.τ))))))))))))))))))))))))))))))))))))))))))))))))))))))))))))))))), [(Go.Num.Rng (1 : Int)), (Go.Num.Rng (0 : Int))]) := by kernel_rfl
theorem one12_run  :
    ∃ ps, runF Try.prog FD gam23 100 Try.f14 [] [] = some ((Go.Abs.AV.v (Go.Abs.A0.agg ((Go.Abs.Part.tag (Go.Num.T.e2 (@Go.Alg.Quad.mk Int (-(1 : Int)) (1 : Int) (0 : Int)))) :: ((Go.Abs.Part.int Go.IntKind.u64 Bool.true (0 : Int)) :: ((Go.Abs.Part.int Go.IntKind.u64 Bool.true (0 : Int)) :: ((Go.Abs.Part.int Go.IntKind.u64 Bool.true (0 : Int)) :: ((Go.Abs.Part.int Go.IntKind.u64 Bool.true (0 : Int)) :: ((Go.Abs.Part.int Go.IntKind.u64 Bool.true (0 : Int)) :: ((Go.Abs.Part.int Go.IntKind.u64 Bool.true (0 : Int)) :: ((Go.Abs.Part.int Go.IntKind.u64 Bool.true (0 : Int)) :: ((Go.Abs.Part.int Go.IntKind.u64 Bool.true (0 : Int)) :: ((Go.Abs.Part.int Go.IntKind.u64 Bool.true (0 : Int)) :: ((Go.Abs.Part.int Go.IntKind.u64 Bool.true (0 : Int)) :: ((Go.Abs.Part.int Go.IntKind.u64 Bool.true (0 : Int)) :: ((Go.Abs.Part.int Go.IntKind.u64 Bool.true (0 : Int)) :: ((Go.Abs.Part.int Go.IntKind.u64 Bool.true (0 : Int)) :: ((Go.Abs.Part.int Go.IntKind.u64 Bool.true (0 : Int)) :: ((Go.Abs.Part.int Go.IntKind.u64 Bool.true (0 : Int)) :: ((Go.Abs.Part.int Go.IntKind.u64 Bool.true (0 : Int)) :: ((Go.Abs.Part.int Go.IntKind.u64 Bool.true (0 : Int)) :: ((Go.Abs.Part.int Go.IntKind.u64 Bool.true (0 : Int)) :: ((Go.Abs.Part.int Go.IntKind.u64 Bool.true (0 : Int)) :: ((Go.Abs.Part.int Go.IntKind.u64 Bool.true (0 : Int)) :: ((Go.Abs.Part.int Go.IntKind.u64 Bool.true (0 : Int)) :: ((Go.Abs.Part.int Go.IntKind.u64 Bool.true (0 : Int)) :: ((Go.Abs.Part.int Go.IntKind.u64 Bool.true (0 : Int)) :: ((Go.Abs.Part.int Go.IntKind.u64 Bool.true (0 : Int)) :: ((Go.Abs.Part.int Go.IntKind.u64 Bool.true (0 : Int)) :: ((Go.Abs.Part.int Go.IntKind.u64 Bool.true (0 : Int)) :: ((Go.Abs.Part.int Go.IntKind.u64 Bool.true (0 : Int)) :: ((Go.Abs.Part.int Go.IntKind.u64 Bool.true (0 : Int)) :: ((Go.Abs.Part.int Go.IntKind.u64 Bool.true (0 : Int)) :: ((Go.Abs.Part.int Go.IntKind.u64 Bool.true (0 : Int)) :: ((Go.Abs.Part.int Go.IntKind.u64 Bool.true (0 : Int)) :: ((Go.Abs.Part.int Go.IntKind.u64 Bool.true (0 : Int)) :: ((Go.Abs.Part.int Go.IntKind.u64 Bool.true (0 : Int)) :: ((Go.Abs.Part.int Go.IntKind.u64 Bool.true (0 : Int)) :: ((Go.Abs.Part.int Go.IntKind.u64 Bool.true (0 : Int)) :: ((Go.Abs.Part.int Go.IntKind.u64 Bool.true (0 : Int)) :: ((Go.Abs.Part.int Go.IntKind.u64 Bool.true (0 : Int)) :: ((Go.Abs.Part.int Go.IntKind.u64 Bool.true (0 : Int)) :: ((Go.Abs.Part.int Go.IntKind.u64 Bool.true (0 : Int)) :: ((Go.Abs.Part.int Go.IntKind.u64 Bool.true (0 : Int)) :: ((Go.Abs.Part.int Go.IntKind.u64 Bool.true (0 : Int)) :: ((Go.Abs.Part.int Go.IntKind.u64 Bool.true (0 : Int)) :: ((Go.Abs.Part.int Go.IntKind.u64 Bool.true (0 : Int)) :: ((Go.Abs.Part.int Go.IntKind.u64 Bool.true (0 : Int)) :: ((Go.Abs.Part.int Go.IntKind.u64 Bool.true (0 : Int)) :: ((Go.Abs.Part.int Go.IntKind.u64 Bool.true (0 : Int)) :: ((Go.Abs.Part.int Go.IntKind.u64 Bool.true (0 : Int)) :: ((Go.Abs.Part.int Go.IntKind.u64 Bool.true (0 : Int)) :: ((Go.Abs.Part.int Go.IntKind.u64 Bool.true (0 : Int)) :: ((Go.Abs.Part.int Go.IntKind.u64 Bool.true (0 : Int)) :: ((Go.Abs.Part.int Go.IntKind.u64 Bool.true (0 : Int)) :: ((Go.Abs.Part.int Go.IntKind.u64 Bool.true (0 : Int)) :: ((Go.Abs.Part.int Go.IntKind.u64 Bool.true (0 : Int)) :: ((Go.Abs.Part.int Go.IntKind.u64 Bool.true (0 : Int)) :: ((Go.Abs.Part.int Go.IntKind.u64 Bool.true (0 : Int)) :: ((Go.Abs.Part.int Go.IntKind.u64 Bool.true (0 : Int)) :: ((Go.Abs.Part.int Go.IntKind.u64 Bool.true (0 : Int)) :: ((Go.Abs.Part.int Go.IntKind.u64 Bool.true (0 : Int)) :: ((Go.Abs.Part.int Go.IntKind.u64 Bool.true (0 : Int)) :: ((Go.Abs.Part.int Go.IntKind.u64 Bool.true (0 : Int)) :: ([] : List (Part FD.τ))))))))))))))))))))))))))))))))))))))))))))))))))))))))))))))))), ps) ∧ AllQ ps := ⟨_, one12_run_r , AllP.all ⟨(show (Go.Num.Rng (1 : Int)) from by decide), (show (Go.Num.Rng (0 : Int)) from by decide)⟩⟩

theorem one12_ok : FnOK Try.prog FD 14 (k0D s12 (1 : K12)) := by
  refine fnOK_of gam23_ok mixed Try.func14 (enters_of Try.func14 (by kernel_rfl) rfl) ?_
  intro xs r ps h hps
  unfold k0D at h
  split at h
  · simp only [Option.some.injEq, Prod.mk.injEq] at h
    obtain ⟨rfl, rfl⟩ := h
    obtain ⟨ps, h1, h2⟩ := one12_run
    exact ⟨[], 100, _, _, _, fun w vs h => h, h1, h2, fun E v hv => s12.all_rel (x := (1 : K12)) (by kernel_rfl) hv⟩
  · cases h

end Go.Num
