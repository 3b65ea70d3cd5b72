/- Pairs of a field's numbers: sums, differences and products. -/
import Derived.Test.YtbgcfmmkbocpoaaLawM
namespace Go.Num
open Go.Abs Go.Proofs Go.Shelf Go.Alg

def tk1 (ps : List (Part FD.τ)) : Option (Int × List (Part FD.τ)) :=
  match ps with
  | .tag (.el a) :: r => some (a, r)
  | ps => match takeZ .u64 6 ps with
    | some r => some (0, r)
    | none => none

/-- The pair that parts begin with, and the other parts. -/
def tk2 (ps : List (Part FD.τ)) : Option (K2 × List (Part FD.τ)) :=
  match ps with
  | .tag (.e2 x) :: r => some (x, r)
  | .tag (.e4 x y) :: r => some (x, .tag (.e2 y) :: r)
  | ps => match tk1 ps with
    | some (a, r) => match tk1 r with
      | some (b, r) => some (⟨a, b⟩, r)
      | none => none
    | none => none

def k2Of (ps : List (Part FD.τ)) : Option K2 :=
  match tk2 ps with
  | some (x, []) => some x
  | _ => none

theorem tk1_rel {E : Env} {ps r : List (Part FD.τ)} {a : Int} {cs : List Value} (h : tk1 ps = some (a, r)) (hp : PartsRel FD E ps cs) : PartsRel FD E (.tag (.el a) :: r) cs := by
  unfold tk1 at h
  split at h
  · simp only [Option.some.injEq, Prod.mk.injEq] at h
    obtain ⟨rfl, rfl⟩ := h
    exact hp
  · split at h
    · rename_i r' hr
      simp only [Option.some.injEq, Prod.mk.injEq] at h
      obtain ⟨rfl, rfl⟩ := h
      obtain ⟨c2, rfl, h2⟩ := takeZ_rel hr hp
      exact ⟨_, c2, rfl, FD.zeros .u64 (.el 0) rfl, h2⟩
    · cases h

theorem e2_cut {E : Env} {x : K2} {r : List (Part FD.τ)} {cs : List Value} : PartsRel FD E (.tag (.e2 x) :: r) cs ↔ PartsRel FD E (.tag (.el x.a) :: .tag (.el x.b) :: r) cs := by
  constructor
  · rintro ⟨c1, c2, rfl, h1, h2⟩
    have h1' : c1 = (fld.ws (.e2 x)).map (Value.int .u64) := h1
    exact ⟨(fld.ws (.el x.a)).map (Value.int .u64), (fld.ws (.el x.b)).map (Value.int .u64) ++ c2, by rw [h1', fld.ws_split (t := .e2 x) rfl, List.map_append, List.append_assoc], rfl, _, c2, rfl, rfl, h2⟩
  · rintro ⟨c1, c2, rfl, h1, d1, d2, rfl, h2, h3⟩
    have h1' : c1 = (fld.ws (.el x.a)).map (Value.int .u64) := h1
    have h2' : d1 = (fld.ws (.el x.b)).map (Value.int .u64) := h2
    exact ⟨(fld.ws (.e2 x)).map (Value.int .u64), d2, by rw [h1', h2', fld.ws_split (t := .e2 x) rfl, List.map_append, List.append_assoc], rfl, h3⟩

theorem e4_cut {E : Env} {x y : K2} {r : List (Part FD.τ)} {cs : List Value} (h : PartsRel FD E (.tag (.e4 x y) :: r) cs) : PartsRel FD E (.tag (.e2 x) :: .tag (.e2 y) :: r) cs := by
  obtain ⟨c1, c2, rfl, h1, h2⟩ := h
  have h1' : c1 = (fld.ws (.e4 x y)).map (Value.int .u64) := h1
  exact ⟨(fld.ws (.e2 x)).map (Value.int .u64), (fld.ws (.e2 y)).map (Value.int .u64) ++ c2, by rw [h1', fld.ws_split (t := .e4 x y) rfl, List.map_append, List.append_assoc], rfl, _, c2, rfl, rfl, h2⟩

theorem tk2_rel {E : Env} {ps r : List (Part FD.τ)} {x : K2} {cs : List Value} (h : tk2 ps = some (x, r)) (hp : PartsRel FD E ps cs) : PartsRel FD E (.tag (.e2 x) :: r) cs := by
  unfold tk2 at h
  split at h
  · simp only [Option.some.injEq, Prod.mk.injEq] at h
    obtain ⟨rfl, rfl⟩ := h
    exact hp
  · simp only [Option.some.injEq, Prod.mk.injEq] at h
    obtain ⟨rfl, rfl⟩ := h
    exact e4_cut hp
  · split at h
    · rename_i a r1 h1
      split at h
      · rename_i b r2 h2
        simp only [Option.some.injEq, Prod.mk.injEq] at h
        obtain ⟨rfl, rfl⟩ := h
        obtain ⟨c1, c2, rfl, k1, k2⟩ := tk1_rel h1 hp
        exact e2_cut.2 ⟨c1, c2, rfl, k1, tk1_rel h2 k2⟩
      · cases h
    · cases h

theorem k2_rel {E : Env} {ps : List (Part FD.τ)} {x : K2} {v : Value} (h : k2Of ps = some x) (hv : A0Rel FD E (.agg ps) v) : A0Rel FD E (.agg [.tag (.e2 x)]) v := by
  unfold k2Of at h
  split at h
  · rename_i y hy
    simp only [Option.some.injEq] at h
    subst h
    obtain ⟨cs, e, hp⟩ := hv
    exact ⟨cs, e, tk2_rel hy hp⟩
  · cases h

theorem e2_els {E : Env} {x : K2} {v : Value} : A0Rel FD E (.agg [.tag (.e2 x)]) v ↔ A0Rel FD E (.agg [.tag (.el x.a), .tag (.el x.b)]) v := by
  constructor
  · rintro ⟨cs, e, hp⟩
    exact ⟨cs, e, e2_cut.1 hp⟩
  · rintro ⟨cs, e, hp⟩
    exact ⟨cs, e, e2_cut.2 hp⟩

theorem k2_els {E : Env} {ps : List (Part FD.τ)} {x : K2} {v : Value} (h : k2Of ps = some x) (hv : A0Rel FD E (.agg ps) v) : A0Rel FD E (.agg [.tag (.el x.a), .tag (.el x.b)]) v := e2_els.1 (k2_rel h hv)

theorem le_e2 {x y : K2} (h : Q2 fld.m x y) : TagLe FD (.e2 x) (.e2 y) := by
  intro cs hc
  have hc' : cs = (fld.w2 x).map (Value.int .u64) := hc
  rw [fld.w2_eq.2 h] at hc'
  exact hc'

theorem e2_e2 {E : Env} {x y : K2} {v : Value} (h : Q2 fld.m x y) (hv : A0Rel FD E (.agg [.tag (.e2 x)]) v) : A0Rel FD E (.agg [.tag (.e2 y)]) v := by
  obtain ⟨cs, e, c1, c2, rfl, h1, h2⟩ := hv
  exact ⟨_, e, c1, c2, rfl, le_e2 h _ h1, h2⟩

/-- What a run leaves as a pair: two parts, or one. -/
theorem e2_of {E : Env} {ps : List (Part FD.τ)} {x y : K2} {v : Value} (h : k2Of ps = some x) (hq : Q2 fld.m x y) (hv : A0Rel FD E (.agg ps) v) : A0Rel FD E (.agg [.tag (.e2 y)]) v := e2_e2 hq (k2_rel h hv)

def p22D (f : K2 → K2 → K2) : FnD FD
  | [.agg p, .agg q] => match k2Of p, k2Of q with
    | some x, some y => some (.v (.agg [.tag (.e2 (f x y))]), [])
    | _, _ => none
  | _ => none

def p12D (f : K2 → K2) : FnD FD
  | [.agg p] => match k2Of p with
    | some x => some (.v (.agg [.tag (.e2 (f x))]), [])
    | _ => none
  | _ => none

def eP (x : K2) : A0 FD.τ := .agg [.tag (.el x.a), .tag (.el x.b)]

theorem p22_ok {Γ : Gam FD} (hΓ : GamOK Try.prog FD Γ) {f : FuncId} {fn : Func} {g : K2 → K2 → K2} (hf : Try.prog.funcs[f]? = some fn) (hc : ∀ args w, (callFunc f args).run Try.prog w = .ok (.enter f args) w)
    (h : ∀ x y : K2, ∃ fuel ds rs ps z, runF Try.prog FD Γ fuel fn [eP x, eP y] ds = some (.v (.agg rs), ps) ∧ AllQ ps ∧ k2Of rs = some z ∧ Q2 fld.m z (g x y)) : FnOK Try.prog FD f (p22D g) := by
  refine fnOK_of hΓ mixed hf hc ?_
  intro xs r ps h2 hps
  unfold p22D at h2
  split at h2
  · rename_i p q
    split at h2
    · rename_i x y hx hy
      simp only [Option.some.injEq, Prod.mk.injEq] at h2
      obtain ⟨rfl, rfl⟩ := h2
      obtain ⟨fuel, ds, rs, ps, z, h3, h4, h5, h6⟩ := h x y
      exact ⟨_, fuel, ds, _, ps, fun w vs h => args2 (fun v hv => k2_els hx hv) (fun v hv => k2_els hy hv) h, h3, h4, fun E v hv => e2_of h5 h6 hv⟩
    · cases h2
  · cases h2

theorem p12_ok {Γ : Gam FD} (hΓ : GamOK Try.prog FD Γ) {f : FuncId} {fn : Func} {g : K2 → K2} (hf : Try.prog.funcs[f]? = some fn) (hc : ∀ args w, (callFunc f args).run Try.prog w = .ok (.enter f args) w)
    (h : ∀ x : K2, ∃ fuel ds rs ps z, runF Try.prog FD Γ fuel fn [eP x] ds = some (.v (.agg rs), ps) ∧ AllQ ps ∧ k2Of rs = some z ∧ Q2 fld.m z (g x)) : FnOK Try.prog FD f (p12D g) := by
  refine fnOK_of hΓ mixed hf hc ?_
  intro xs r ps h2 hps
  unfold p12D at h2
  split at h2
  · rename_i p
    split at h2
    · rename_i x hx
      simp only [Option.some.injEq, Prod.mk.injEq] at h2
      obtain ⟨rfl, rfl⟩ := h2
      obtain ⟨fuel, ds, rs, ps, z, h3, h4, h5, h6⟩ := h x
      exact ⟨_, fuel, ds, _, ps, fun w vs h => args1 (fun v hv => k2_els hx hv) h, h3, h4, fun E v hv => e2_of h5 h6 hv⟩
    · cases h2
  · cases h2

theorem q2_of {x y : K2} (h1 : x.a = y.a) (h2 : x.b = y.b) : Q2 fld.m x y := ⟨by rw [h1], by rw [h2]⟩
theorem q2_refl (x : K2) : Q2 fld.m x x := ⟨rfl, rfl⟩

/-- The mirror image. -/
def cj (x : K2) : K2 := ⟨x.a, -x.b⟩
def scl (x : K2) (k : Int) : K2 := ⟨x.a * k, x.b * k⟩
def nrm (x : K2) : Int := x.a * x.a + x.b * x.b
def sub2 (x y : K2) : K2 := x + -y
def dbl2 (x : K2) : K2 := x + x
def sq2 (x : K2) : K2 := x * x
def inv2 (x : K2) : K2 := scl (cj x) (invOf (nrm x))


def gam7 : Gam FD := (71, el1D invOf) :: (28, ofD) :: gam6
theorem gam7_ok : GamOK Try.prog FD gam7 := gam_cons inv_ok (gam_cons of_ok gam6_ok)

theorem add2_run_r (x y : K2) : runF Try.prog FD gam7 100 Try.f42 [eP x, eP y] [] =
    some ((Go.Abs.AV.v (Go.Abs.A0.agg ((Go.Abs.Part.tag (Go.Num.T.el ((x).1 + (y).1))) :: ((Go.Abs.Part.tag (Go.Num.T.el ((x).2 + (y).2))) :: ([] : List (Part FD.τ)))))), []) := by kernel_rfl
theorem add2_run (x y : K2) :
    ∃ ps, runF Try.prog FD gam7 100 Try.f42 [eP x, eP y] [] = some ((Go.Abs.AV.v (Go.Abs.A0.agg ((Go.Abs.Part.tag (Go.Num.T.el ((x).1 + (y).1))) :: ((Go.Abs.Part.tag (Go.Num.T.el ((x).2 + (y).2))) :: ([] : List (Part FD.τ)))))), ps) ∧ AllQ ps := ⟨_, add2_run_r x y, allQ_nil⟩

theorem add2_ok : FnOK Try.prog FD 42 (p22D fun x y => x + y) := by
  refine p22_ok gam7_ok Try.func42 (enters_of Try.func42 (by kernel_rfl) rfl) (fun x y => ?_)
  obtain ⟨ps, h1, h2⟩ := add2_run x y
  exact ⟨_, _, _, _, _, h1, h2, rfl, q2_of rfl rfl⟩

theorem sub2_run_r (x y : K2) : runF Try.prog FD gam7 100 Try.f49 [eP x, eP y] [] =
    some ((Go.Abs.AV.v (Go.Abs.A0.agg ((Go.Abs.Part.tag (Go.Num.T.el ((x).1 - (y).1))) :: ((Go.Abs.Part.tag (Go.Num.T.el ((x).2 - (y).2))) :: ([] : List (Part FD.τ)))))), []) := by kernel_rfl
theorem sub2_run (x y : K2) :
    ∃ ps, runF Try.prog FD gam7 100 Try.f49 [eP x, eP y] [] = some ((Go.Abs.AV.v (Go.Abs.A0.agg ((Go.Abs.Part.tag (Go.Num.T.el ((x).1 - (y).1))) :: ((Go.Abs.Part.tag (Go.Num.T.el ((x).2 - (y).2))) :: ([] : List (Part FD.τ)))))), ps) ∧ AllQ ps := ⟨_, sub2_run_r x y, allQ_nil⟩

theorem sub2_ok : FnOK Try.prog FD 49 (p22D sub2) := by
  refine p22_ok gam7_ok Try.func49 (enters_of Try.func49 (by kernel_rfl) rfl) (fun x y => ?_)
  obtain ⟨ps, h1, h2⟩ := sub2_run x y
  exact ⟨_, _, _, _, _, h1, h2, rfl, q2_of Int.sub_eq_add_neg Int.sub_eq_add_neg⟩



theorem cj_run_r (x : K2) : runF Try.prog FD gam7 100 Try.f34 [eP x] [] =
    some ((Go.Abs.AV.v (Go.Abs.A0.agg ((Go.Abs.Part.tag (Go.Num.T.el (x).1)) :: ((Go.Abs.Part.tag (Go.Num.T.el ((0 : Int) - (x).2))) :: ([] : List (Part FD.τ)))))), []) := by kernel_rfl
theorem cj_run (x : K2) :
    ∃ ps, runF Try.prog FD gam7 100 Try.f34 [eP x] [] = some ((Go.Abs.AV.v (Go.Abs.A0.agg ((Go.Abs.Part.tag (Go.Num.T.el (x).1)) :: ((Go.Abs.Part.tag (Go.Num.T.el ((0 : Int) - (x).2))) :: ([] : List (Part FD.τ)))))), ps) ∧ AllQ ps := ⟨_, cj_run_r x, allQ_nil⟩

theorem cj_ok : FnOK Try.prog FD 34 (p12D cj) := by
  refine p12_ok gam7_ok Try.func34 (enters_of Try.func34 (by kernel_rfl) rfl) (fun x => ?_)
  obtain ⟨ps, h1, h2⟩ := cj_run x
  exact ⟨_, _, _, _, _, h1, h2, rfl, q2_of rfl (Int.zero_sub _)⟩

theorem mul2_run_r (x y : K2) : runF Try.prog FD gam7 100 Try.f32 [eP x, eP y] [] =
    some ((Go.Abs.AV.v (Go.Abs.A0.agg ((Go.Abs.Part.tag (Go.Num.T.el (((x).1 * (y).1) - ((x).2 * (y).2)))) :: ((Go.Abs.Part.tag (Go.Num.T.el (((((x).1 + (x).2) * ((y).1 + (y).2)) - ((x).1 * (y).1)) - ((x).2 * (y).2)))) :: ([] : List (Part FD.τ)))))), []) := by kernel_rfl
theorem mul2_run (x y : K2) :
    ∃ ps, runF Try.prog FD gam7 100 Try.f32 [eP x, eP y] [] = some ((Go.Abs.AV.v (Go.Abs.A0.agg ((Go.Abs.Part.tag (Go.Num.T.el (((x).1 * (y).1) - ((x).2 * (y).2)))) :: ((Go.Abs.Part.tag (Go.Num.T.el (((((x).1 + (x).2) * ((y).1 + (y).2)) - ((x).1 * (y).1)) - ((x).2 * (y).2)))) :: ([] : List (Part FD.τ)))))), ps) ∧ AllQ ps := ⟨_, mul2_run_r x y, allQ_nil⟩

theorem mul2_ok : FnOK Try.prog FD 32 (p22D fun x y => x * y) := by
  refine p22_ok gam7_ok Try.func32 (enters_of Try.func32 (by kernel_rfl) rfl) (fun x y => ?_)
  obtain ⟨ps, h1, h2⟩ := mul2_run x y
  refine ⟨_, _, _, _, _, h1, h2, rfl, q2_of ?_ ?_⟩
  · simp only [qmul_a]
    grind
  · simp only [qmul_b]
    grind

theorem square2_run_r (x : K2) : runF Try.prog FD gam7 100 Try.f51 [eP x] [] =
    some ((Go.Abs.AV.v (Go.Abs.A0.agg ((Go.Abs.Part.tag (Go.Num.T.el (((x).1 + (x).2) * ((x).1 - (x).2)))) :: ((Go.Abs.Part.tag (Go.Num.T.el (((x).1 * (x).2) + ((x).1 * (x).2)))) :: ([] : List (Part FD.τ)))))), []) := by kernel_rfl
theorem square2_run (x : K2) :
    ∃ ps, runF Try.prog FD gam7 100 Try.f51 [eP x] [] = some ((Go.Abs.AV.v (Go.Abs.A0.agg ((Go.Abs.Part.tag (Go.Num.T.el (((x).1 + (x).2) * ((x).1 - (x).2)))) :: ((Go.Abs.Part.tag (Go.Num.T.el (((x).1 * (x).2) + ((x).1 * (x).2)))) :: ([] : List (Part FD.τ)))))), ps) ∧ AllQ ps := ⟨_, square2_run_r x, allQ_nil⟩

theorem square2_ok : FnOK Try.prog FD 51 (p12D sq2) := by
  refine p12_ok gam7_ok Try.func51 (enters_of Try.func51 (by kernel_rfl) rfl) (fun x => ?_)
  obtain ⟨ps, h1, h2⟩ := square2_run x
  refine ⟨_, _, _, _, _, h1, h2, rfl, q2_of ?_ ?_⟩
  · simp only [sq2, qmul_a]
    grind
  · simp only [sq2, qmul_b]
    grind




def sclD : FnD FD
  | [.agg p, .agg q] => match k2Of p, elOf q with
    | some x, some k => some (.v (.agg [.tag (.e2 (scl x k))]), [])
    | _, _ => none
  | _ => none

def gam8 : Gam FD := (42, p22D fun x y => x + y) :: (49, p22D sub2) :: (34, p12D cj) :: (32, p22D fun x y => x * y) :: (51, p12D sq2) :: gam7
theorem gam8_ok : GamOK Try.prog FD gam8 := gam_cons add2_ok (gam_cons sub2_ok (gam_cons cj_ok (gam_cons mul2_ok (gam_cons square2_ok gam7_ok))))

theorem scl_run_r (x : K2) (k : Int) : runF Try.prog FD gam8 100 Try.f69 [eP x, .agg [.tag (.el k)]] [] =
    some ((Go.Abs.AV.v (Go.Abs.A0.agg ((Go.Abs.Part.tag (Go.Num.T.el ((x).1 * k))) :: ((Go.Abs.Part.tag (Go.Num.T.el ((x).2 * k))) :: ([] : List (Part FD.τ)))))), []) := by kernel_rfl
theorem scl_run (x : K2) (k : Int) :
    ∃ ps, runF Try.prog FD gam8 100 Try.f69 [eP x, .agg [.tag (.el k)]] [] = some ((Go.Abs.AV.v (Go.Abs.A0.agg ((Go.Abs.Part.tag (Go.Num.T.el ((x).1 * k))) :: ((Go.Abs.Part.tag (Go.Num.T.el ((x).2 * k))) :: ([] : List (Part FD.τ)))))), ps) ∧ AllQ ps := ⟨_, scl_run_r x k, allQ_nil⟩

theorem scl_ok : FnOK Try.prog FD 69 sclD := by
  refine fnOK_of gam8_ok mixed Try.func69 (enters_of Try.func69 (by kernel_rfl) rfl) ?_
  intro xs r ps h hps
  unfold sclD at h
  split at h
  · rename_i p q
    split at h
    · rename_i x k hx hk
      simp only [Option.some.injEq, Prod.mk.injEq] at h
      obtain ⟨rfl, rfl⟩ := h
      obtain ⟨ps, h1, h2⟩ := scl_run x k
      exact ⟨_, 100, _, _, _, fun w vs h => args2 (fun v hv => k2_els hx hv) (fun v hv => elOf_rel hk hv) h, h1, h2, fun E v hv => e2_of (y := scl x k) rfl (q2_refl _) hv⟩
    · cases h
  · cases h

def nrmD : FnD FD
  | [.agg p] => match k2Of p with
    | some x => some (.v (.agg [.tag (.el (nrm x))]), [])
    | _ => none
  | _ => none

theorem nrm_run_r (x : K2) : runF Try.prog FD gam8 100 Try.f70 [eP x] [] =
    some ((Go.Abs.AV.v (Go.Abs.A0.agg ((Go.Abs.Part.tag (Go.Num.T.el (((x).1 * (x).1) + ((x).2 * (x).2)))) :: ([] : List (Part FD.τ))))), []) := by kernel_rfl
theorem nrm_run (x : K2) :
    ∃ ps, runF Try.prog FD gam8 100 Try.f70 [eP x] [] = some ((Go.Abs.AV.v (Go.Abs.A0.agg ((Go.Abs.Part.tag (Go.Num.T.el (((x).1 * (x).1) + ((x).2 * (x).2)))) :: ([] : List (Part FD.τ))))), ps) ∧ AllQ ps := ⟨_, nrm_run_r x, allQ_nil⟩

theorem nrm_ok : FnOK Try.prog FD 70 nrmD := by
  refine fnOK_of gam8_ok mixed Try.func70 (enters_of Try.func70 (by kernel_rfl) rfl) ?_
  intro xs r ps h hps
  unfold nrmD at h
  split at h
  · rename_i p
    split at h
    · rename_i x hx
      simp only [Option.some.injEq, Prod.mk.injEq] at h
      obtain ⟨rfl, rfl⟩ := h
      obtain ⟨ps, h1, h2⟩ := nrm_run x
      exact ⟨_, 100, _, _, _, fun w vs h => args1 (fun v hv => k2_els hx hv) h, h1, h2, fun E v hv => hv⟩
    · cases h
  · cases h

def small2D : FnD FD
  | [.one (.int .u64 _ a), .one (.int .u64 _ b)] => some (.v (.agg [.tag (.e2 ⟨a, b⟩)]), [Rng a, Rng b])
  | _ => none

theorem small2_run_r (a b : Int) (s t : Bool) : runF Try.prog FD gam8 100 Try.f16 [.one (.int .u64 s a), .one (.int .u64 t b)] [] =
    some ((Go.Abs.AV.v (Go.Abs.A0.agg ((Go.Abs.Part.tag (Go.Num.T.el a)) :: ((Go.Abs.Part.tag (Go.Num.T.el b)) :: ([] : List (Part FD.τ)))))), [(Go.Num.Rng a), (Go.Num.Rng b)]) := by kernel_rfl
theorem small2_run (a b : Int) (s t : Bool)
    (h1 : (Go.Num.Rng a))
    (h2 : (Go.Num.Rng b)) :
    ∃ ps, runF Try.prog FD gam8 100 Try.f16 [.one (.int .u64 s a), .one (.int .u64 t b)] [] = some ((Go.Abs.AV.v (Go.Abs.A0.agg ((Go.Abs.Part.tag (Go.Num.T.el a)) :: ((Go.Abs.Part.tag (Go.Num.T.el b)) :: ([] : List (Part FD.τ)))))), ps) ∧ AllQ ps := ⟨_, small2_run_r a b s t, AllP.all ⟨h1, h2⟩⟩

theorem small2_ok : FnOK Try.prog FD 16 small2D := by
  refine fnOK_of gam8_ok mixed Try.func16 (enters_of Try.func16 (by kernel_rfl) rfl) ?_
  intro xs r ps h hps
  unfold small2D at h
  split at h
  · rename_i s a t b
    simp only [Option.some.injEq, Prod.mk.injEq] at h
    obtain ⟨rfl, rfl⟩ := h
    have ha : Rng a := hps _ (by simp)
    have hb : Rng b := hps _ (by simp)
    obtain ⟨ps, h1, h2⟩ := small2_run a b s t ha hb
    exact ⟨_, 100, _, _, _, fun w vs h => h, h1, h2, fun E v hv => e2_of (y := ⟨a, b⟩) rfl (q2_refl _) hv⟩
  · cases h

end Go.Num
