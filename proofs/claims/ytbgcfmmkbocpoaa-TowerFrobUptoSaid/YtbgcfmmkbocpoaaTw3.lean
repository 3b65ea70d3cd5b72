/- Pairs of a field's numbers: the reference's pairs. -/
import Derived.Test.YtbgcfmmkbocpoaaTw2
namespace Go.Num
open Go.Abs Go.Proofs Go.Shelf Go.Alg

/-- The words of a part of a pair of the reference. -/
def w5 : Part FD.τ → Option (List Int)
  | .words .u32 l => some l
  | .nil => some []
  | _ => none

def n5 : List (Part FD.τ) → Option (List Int × List Int)
  | [p, q] => match w5 p, w5 q with
    | some l, some m => some (l, m)
    | _, _ => none
  | _ => none

def nP (l m : List Int) : A0 FD.τ := .agg [.words .u32 l, .words .u32 m]

theorem w5_rel {E : Env} {p : Part FD.τ} {l : List Int} {cs : List Value} (h : w5 p = some l) (hp : PartRel FD E p cs) : PartRel FD E (.words .u32 l) cs := by
  unfold w5 at h
  split at h
  · simp only [Option.some.injEq] at h
    subst h
    exact hp
  · simp only [Option.some.injEq] at h
    subst h
    exact ⟨_, hp, none, 0, rfl, Nat.le_refl _, Nat.zero_le _, fun _ => rfl, fun i hi => by simp at hi⟩
  · cases h

theorem n5_rel {E : Env} {ps : List (Part FD.τ)} {x : List Int × List Int} {v : Value} (h : n5 ps = some x) (hv : A0Rel FD E (.agg ps) v) : A0Rel FD E (nP x.1 x.2) v := by
  unfold n5 at h
  split at h
  · rename_i p q
    split at h
    · rename_i l m hl hm
      simp only [Option.some.injEq] at h
      subst h
      obtain ⟨cs, e, c1, c2, rfl, h1, d1, d2, rfl, h2, h3⟩ := hv
      exact ⟨_, e, c1, _, rfl, w5_rel hl h1, d1, d2, rfl, w5_rel hm h2, h3⟩
    · cases h
  · cases h

def fr2 (x y : Int) : List (Part FD.τ) := [.fresh 0 43 .u32 (W 24 x), .fresh 1 43 .u32 (W 24 y)]

/-- What is asked of the words of a number: 16 bits each, not too many. -/
def Wd (l : List Int) : Prop := In16 l ∧ l.length ≤ 1000000

def n22D (f g : Int → Int → Int → Int → Int) (c : Int → Int → Int → Int → Prop) : FnD FD
  | [.agg p, .agg q] => match n5 p, n5 q with
    | some x, some y => some (.v (.agg (fr2 (f (v16 x.1) (v16 x.2) (v16 y.1) (v16 y.2) % fld.m) (g (v16 x.1) (v16 x.2) (v16 y.1) (v16 y.2) % fld.m))),
        [Wd x.1, Wd x.2, Wd y.1, Wd y.2, c (v16 x.1) (v16 x.2) (v16 y.1) (v16 y.2)])
    | _, _ => none
  | _ => none

def gam5r : Gam FD := (47, modRefD) :: (65, mod3D FD (fun a b _ => a + b) (fun _ _ _ => True)) :: (48, mod3D FD (fun a b c => a + c - b) (fun a b c => b ≤ a + c)) ::
  (64, mod3D FD (fun a b _ => a * b) (fun _ _ _ => True)) :: (60, modD FD) :: (61, numD FD) :: (63, bytD FD) :: gam10
theorem gam5r_ok : GamOK Try.prog FD gam5r := gam_cons modRef_ok (gam_cons (add3_ok FD) (gam_cons (sub3_ok FD) (gam_cons (mul3_ok FD) (gam_cons (mod_ok FD) (gam_cons (num_ok FD) (gam_cons (byt_ok FD) gam10_ok))))))

theorem add5_run_r (x y z w : List Int) : runF Try.prog FD gam5r 100 Try.f46 [nP x y, nP z w] [] =
    some ((Go.Abs.AV.v (Go.Abs.A0.agg ((Go.Abs.Part.fresh (0 : Nat) (43 : TypeId) Go.IntKind.u32 (Go.Num.W (List.length (Go.Num.W (24 : Nat) (Go.Num.Fld.m Go.Num.fld))) (((Go.Num.v16 x) + (Go.Num.v16 z)) % (Go.Num.v16 (Go.Num.W (24 : Nat) (Go.Num.Fld.m Go.Num.fld)))))) :: ((Go.Abs.Part.fresh (1 : Nat) (43 : TypeId) Go.IntKind.u32 (Go.Num.W (List.length (Go.Num.W (24 : Nat) (Go.Num.Fld.m Go.Num.fld))) (((Go.Num.v16 y) + (Go.Num.v16 w)) % (Go.Num.v16 (Go.Num.W (24 : Nat) (Go.Num.Fld.m Go.Num.fld)))))) :: ([] : List (Part FD.τ)))))), [(Go.Num.In16 x), (Go.Num.In16 z), (Go.Num.In16 (Go.Num.W (24 : Nat) (Go.Num.Fld.m Go.Num.fld))), ((0 : Int) < (Go.Num.v16 (Go.Num.W (24 : Nat) (Go.Num.Fld.m Go.Num.fld)))), ((List.length x) ≤ (1000000 : Nat)), ((List.length z) ≤ (1000000 : Nat)), ((List.length (Go.Num.W (24 : Nat) (Go.Num.Fld.m Go.Num.fld))) ≤ (1000000 : Nat)), True, (Go.Num.In16 y), (Go.Num.In16 w), (Go.Num.In16 (Go.Num.W (24 : Nat) (Go.Num.Fld.m Go.Num.fld))), ((0 : Int) < (Go.Num.v16 (Go.Num.W (24 : Nat) (Go.Num.Fld.m Go.Num.fld)))), ((List.length y) ≤ (1000000 : Nat)), ((List.length w) ≤ (1000000 : Nat)), ((List.length (Go.Num.W (24 : Nat) (Go.Num.Fld.m Go.Num.fld))) ≤ (1000000 : Nat)), True]) := by kernel_rfl
theorem add5_run (x y z w : List Int)
    (h1 : (Go.Num.In16 x))
    (h2 : (Go.Num.In16 z))
    (h3 : (Go.Num.In16 (Go.Num.W (24 : Nat) (Go.Num.Fld.m Go.Num.fld))))
    (h4 : ((List.length x) ≤ (1000000 : Nat)))
    (h5 : ((List.length z) ≤ (1000000 : Nat)))
    (h6 : (Go.Num.In16 y))
    (h7 : (Go.Num.In16 w))
    (h8 : ((List.length y) ≤ (1000000 : Nat)))
    (h9 : ((List.length w) ≤ (1000000 : Nat))) :
    ∃ ps, runF Try.prog FD gam5r 100 Try.f46 [nP x y, nP z w] [] = some ((Go.Abs.AV.v (Go.Abs.A0.agg ((Go.Abs.Part.fresh (0 : Nat) (43 : TypeId) Go.IntKind.u32 (Go.Num.W (List.length (Go.Num.W (24 : Nat) (Go.Num.Fld.m Go.Num.fld))) (((Go.Num.v16 x) + (Go.Num.v16 z)) % (Go.Num.v16 (Go.Num.W (24 : Nat) (Go.Num.Fld.m Go.Num.fld)))))) :: ((Go.Abs.Part.fresh (1 : Nat) (43 : TypeId) Go.IntKind.u32 (Go.Num.W (List.length (Go.Num.W (24 : Nat) (Go.Num.Fld.m Go.Num.fld))) (((Go.Num.v16 y) + (Go.Num.v16 w)) % (Go.Num.v16 (Go.Num.W (24 : Nat) (Go.Num.Fld.m Go.Num.fld)))))) :: ([] : List (Part FD.τ)))))), ps) ∧ AllQ ps := ⟨_, add5_run_r x y z w, AllP.all ⟨h1, h2, h3, (show ((0 : Int) < (Go.Num.v16 (Go.Num.W (24 : Nat) (Go.Num.Fld.m Go.Num.fld)))) from by decide), h4, h5, (show ((List.length (Go.Num.W (24 : Nat) (Go.Num.Fld.m Go.Num.fld))) ≤ (1000000 : Nat)) from by decide), (show True from by decide), h6, h7, h3, (show ((0 : Int) < (Go.Num.v16 (Go.Num.W (24 : Nat) (Go.Num.Fld.m Go.Num.fld)))) from by decide), h8, h9, (show ((List.length (Go.Num.W (24 : Nat) (Go.Num.Fld.m Go.Num.fld))) ≤ (1000000 : Nat)) from by decide), (show True from by decide)⟩⟩

theorem sub5_run_r (x y z w : List Int) : runF Try.prog FD gam5r 100 Try.f20 [nP x y, nP z w] [] =
    some ((Go.Abs.AV.v (Go.Abs.A0.agg ((Go.Abs.Part.fresh (0 : Nat) (43 : TypeId) Go.IntKind.u32 (Go.Num.W (List.length (Go.Num.W (24 : Nat) (Go.Num.Fld.m Go.Num.fld))) ((((Go.Num.v16 x) + (Go.Num.v16 (Go.Num.W (24 : Nat) (Go.Num.Fld.m Go.Num.fld)))) - (Go.Num.v16 z)) % (Go.Num.v16 (Go.Num.W (24 : Nat) (Go.Num.Fld.m Go.Num.fld)))))) :: ((Go.Abs.Part.fresh (1 : Nat) (43 : TypeId) Go.IntKind.u32 (Go.Num.W (List.length (Go.Num.W (24 : Nat) (Go.Num.Fld.m Go.Num.fld))) ((((Go.Num.v16 y) + (Go.Num.v16 (Go.Num.W (24 : Nat) (Go.Num.Fld.m Go.Num.fld)))) - (Go.Num.v16 w)) % (Go.Num.v16 (Go.Num.W (24 : Nat) (Go.Num.Fld.m Go.Num.fld)))))) :: ([] : List (Part FD.τ)))))), [(Go.Num.In16 x), (Go.Num.In16 z), (Go.Num.In16 (Go.Num.W (24 : Nat) (Go.Num.Fld.m Go.Num.fld))), ((0 : Int) < (Go.Num.v16 (Go.Num.W (24 : Nat) (Go.Num.Fld.m Go.Num.fld)))), ((List.length x) ≤ (1000000 : Nat)), ((List.length z) ≤ (1000000 : Nat)), ((List.length (Go.Num.W (24 : Nat) (Go.Num.Fld.m Go.Num.fld))) ≤ (1000000 : Nat)), ((Go.Num.v16 z) ≤ ((Go.Num.v16 x) + (Go.Num.v16 (Go.Num.W (24 : Nat) (Go.Num.Fld.m Go.Num.fld))))), (Go.Num.In16 y), (Go.Num.In16 w), (Go.Num.In16 (Go.Num.W (24 : Nat) (Go.Num.Fld.m Go.Num.fld))), ((0 : Int) < (Go.Num.v16 (Go.Num.W (24 : Nat) (Go.Num.Fld.m Go.Num.fld)))), ((List.length y) ≤ (1000000 : Nat)), ((List.length w) ≤ (1000000 : Nat)), ((List.length (Go.Num.W (24 : Nat) (Go.Num.Fld.m Go.Num.fld))) ≤ (1000000 : Nat)), ((Go.Num.v16 w) ≤ ((Go.Num.v16 y) + (Go.Num.v16 (Go.Num.W (24 : Nat) (Go.Num.Fld.m Go.Num.fld)))))]) := by kernel_rfl
theorem sub5_run (x y z w : List Int)
    (h1 : (Go.Num.In16 x))
    (h2 : (Go.Num.In16 z))
    (h3 : (Go.Num.In16 (Go.Num.W (24 : Nat) (Go.Num.Fld.m Go.Num.fld))))
    (h4 : ((List.length x) ≤ (1000000 : Nat)))
    (h5 : ((List.length z) ≤ (1000000 : Nat)))
    (h6 : ((Go.Num.v16 z) ≤ ((Go.Num.v16 x) + (Go.Num.v16 (Go.Num.W (24 : Nat) (Go.Num.Fld.m Go.Num.fld))))))
    (h7 : (Go.Num.In16 y))
    (h8 : (Go.Num.In16 w))
    (h9 : ((List.length y) ≤ (1000000 : Nat)))
    (h10 : ((List.length w) ≤ (1000000 : Nat)))
    (h11 : ((Go.Num.v16 w) ≤ ((Go.Num.v16 y) + (Go.Num.v16 (Go.Num.W (24 : Nat) (Go.Num.Fld.m Go.Num.fld)))))) :
    ∃ ps, runF Try.prog FD gam5r 100 Try.f20 [nP x y, nP z w] [] = some ((Go.Abs.AV.v (Go.Abs.A0.agg ((Go.Abs.Part.fresh (0 : Nat) (43 : TypeId) Go.IntKind.u32 (Go.Num.W (List.length (Go.Num.W (24 : Nat) (Go.Num.Fld.m Go.Num.fld))) ((((Go.Num.v16 x) + (Go.Num.v16 (Go.Num.W (24 : Nat) (Go.Num.Fld.m Go.Num.fld)))) - (Go.Num.v16 z)) % (Go.Num.v16 (Go.Num.W (24 : Nat) (Go.Num.Fld.m Go.Num.fld)))))) :: ((Go.Abs.Part.fresh (1 : Nat) (43 : TypeId) Go.IntKind.u32 (Go.Num.W (List.length (Go.Num.W (24 : Nat) (Go.Num.Fld.m Go.Num.fld))) ((((Go.Num.v16 y) + (Go.Num.v16 (Go.Num.W (24 : Nat) (Go.Num.Fld.m Go.Num.fld)))) - (Go.Num.v16 w)) % (Go.Num.v16 (Go.Num.W (24 : Nat) (Go.Num.Fld.m Go.Num.fld)))))) :: ([] : List (Part FD.τ)))))), ps) ∧ AllQ ps := ⟨_, sub5_run_r x y z w, AllP.all ⟨h1, h2, h3, (show ((0 : Int) < (Go.Num.v16 (Go.Num.W (24 : Nat) (Go.Num.Fld.m Go.Num.fld)))) from by decide), h4, h5, (show ((List.length (Go.Num.W (24 : Nat) (Go.Num.Fld.m Go.Num.fld))) ≤ (1000000 : Nat)) from by decide), h6, h7, h8, h3, (show ((0 : Int) < (Go.Num.v16 (Go.Num.W (24 : Nat) (Go.Num.Fld.m Go.Num.fld)))) from by decide), h9, h10, (show ((List.length (Go.Num.W (24 : Nat) (Go.Num.Fld.m Go.Num.fld))) ≤ (1000000 : Nat)) from by decide), h11⟩⟩

theorem mul5_run_r (x y z w : List Int) : runF Try.prog FD gam5r 100 Try.f45 [nP x y, nP z w] [] =
    some ((Go.Abs.AV.v (Go.Abs.A0.agg ((Go.Abs.Part.fresh (0 : Nat) (43 : TypeId) Go.IntKind.u32 (Go.Num.W (List.length (Go.Num.W (24 : Nat) (Go.Num.Fld.m Go.Num.fld))) ((((Go.Num.v16 (Go.Num.W (List.length (Go.Num.W (24 : Nat) (Go.Num.Fld.m Go.Num.fld))) (((Go.Num.v16 x) * (Go.Num.v16 z)) % (Go.Num.v16 (Go.Num.W (24 : Nat) (Go.Num.Fld.m Go.Num.fld)))))) + (Go.Num.v16 (Go.Num.W (24 : Nat) (Go.Num.Fld.m Go.Num.fld)))) - (Go.Num.v16 (Go.Num.W (List.length (Go.Num.W (24 : Nat) (Go.Num.Fld.m Go.Num.fld))) (((Go.Num.v16 y) * (Go.Num.v16 w)) % (Go.Num.v16 (Go.Num.W (24 : Nat) (Go.Num.Fld.m Go.Num.fld))))))) % (Go.Num.v16 (Go.Num.W (24 : Nat) (Go.Num.Fld.m Go.Num.fld)))))) :: ((Go.Abs.Part.fresh (1 : Nat) (43 : TypeId) Go.IntKind.u32 (Go.Num.W (List.length (Go.Num.W (24 : Nat) (Go.Num.Fld.m Go.Num.fld))) (((Go.Num.v16 (Go.Num.W (List.length (Go.Num.W (24 : Nat) (Go.Num.Fld.m Go.Num.fld))) (((Go.Num.v16 x) * (Go.Num.v16 w)) % (Go.Num.v16 (Go.Num.W (24 : Nat) (Go.Num.Fld.m Go.Num.fld)))))) + (Go.Num.v16 (Go.Num.W (List.length (Go.Num.W (24 : Nat) (Go.Num.Fld.m Go.Num.fld))) (((Go.Num.v16 y) * (Go.Num.v16 z)) % (Go.Num.v16 (Go.Num.W (24 : Nat) (Go.Num.Fld.m Go.Num.fld))))))) % (Go.Num.v16 (Go.Num.W (24 : Nat) (Go.Num.Fld.m Go.Num.fld)))))) :: ([] : List (Part FD.τ)))))), [(Go.Num.In16 x), (Go.Num.In16 z), (Go.Num.In16 (Go.Num.W (24 : Nat) (Go.Num.Fld.m Go.Num.fld))), ((0 : Int) < (Go.Num.v16 (Go.Num.W (24 : Nat) (Go.Num.Fld.m Go.Num.fld)))), ((List.length x) ≤ (1000000 : Nat)), ((List.length z) ≤ (1000000 : Nat)), ((List.length (Go.Num.W (24 : Nat) (Go.Num.Fld.m Go.Num.fld))) ≤ (1000000 : Nat)), True, (Go.Num.In16 y), (Go.Num.In16 w), (Go.Num.In16 (Go.Num.W (24 : Nat) (Go.Num.Fld.m Go.Num.fld))), ((0 : Int) < (Go.Num.v16 (Go.Num.W (24 : Nat) (Go.Num.Fld.m Go.Num.fld)))), ((List.length y) ≤ (1000000 : Nat)), ((List.length w) ≤ (1000000 : Nat)), ((List.length (Go.Num.W (24 : Nat) (Go.Num.Fld.m Go.Num.fld))) ≤ (1000000 : Nat)), True, (Go.Num.In16 (Go.Num.W (List.length (Go.Num.W (24 : Nat) (Go.Num.Fld.m Go.Num.fld))) (((Go.Num.v16 x) * (Go.Num.v16 z)) % (Go.Num.v16 (Go.Num.W (24 : Nat) (Go.Num.Fld.m Go.Num.fld)))))), (Go.Num.In16 (Go.Num.W (List.length (Go.Num.W (24 : Nat) (Go.Num.Fld.m Go.Num.fld))) (((Go.Num.v16 y) * (Go.Num.v16 w)) % (Go.Num.v16 (Go.Num.W (24 : Nat) (Go.Num.Fld.m Go.Num.fld)))))), (Go.Num.In16 (Go.Num.W (24 : Nat) (Go.Num.Fld.m Go.Num.fld))), ((0 : Int) < (Go.Num.v16 (Go.Num.W (24 : Nat) (Go.Num.Fld.m Go.Num.fld)))), ((List.length (Go.Num.W (List.length (Go.Num.W (24 : Nat) (Go.Num.Fld.m Go.Num.fld))) (((Go.Num.v16 x) * (Go.Num.v16 z)) % (Go.Num.v16 (Go.Num.W (24 : Nat) (Go.Num.Fld.m Go.Num.fld)))))) ≤ (1000000 : Nat)), ((List.length (Go.Num.W (List.length (Go.Num.W (24 : Nat) (Go.Num.Fld.m Go.Num.fld))) (((Go.Num.v16 y) * (Go.Num.v16 w)) % (Go.Num.v16 (Go.Num.W (24 : Nat) (Go.Num.Fld.m Go.Num.fld)))))) ≤ (1000000 : Nat)), ((List.length (Go.Num.W (24 : Nat) (Go.Num.Fld.m Go.Num.fld))) ≤ (1000000 : Nat)), ((Go.Num.v16 (Go.Num.W (List.length (Go.Num.W (24 : Nat) (Go.Num.Fld.m Go.Num.fld))) (((Go.Num.v16 y) * (Go.Num.v16 w)) % (Go.Num.v16 (Go.Num.W (24 : Nat) (Go.Num.Fld.m Go.Num.fld)))))) ≤ ((Go.Num.v16 (Go.Num.W (List.length (Go.Num.W (24 : Nat) (Go.Num.Fld.m Go.Num.fld))) (((Go.Num.v16 x) * (Go.Num.v16 z)) % (Go.Num.v16 (Go.Num.W (24 : Nat) (Go.Num.Fld.m Go.Num.fld)))))) + (Go.Num.v16 (Go.Num.W (24 : Nat) (Go.Num.Fld.m Go.Num.fld))))), (Go.Num.In16 x), (Go.Num.In16 w), (Go.Num.In16 (Go.Num.W (24 : Nat) (Go.Num.Fld.m Go.Num.fld))), ((0 : Int) < (Go.Num.v16 (Go.Num.W (24 : Nat) (Go.Num.Fld.m Go.Num.fld)))), ((List.length x) ≤ (1000000 : Nat)), ((List.length w) ≤ (1000000 : Nat)), ((List.length (Go.Num.W (24 : Nat) (Go.Num.Fld.m Go.Num.fld))) ≤ (1000000 : Nat)), True, (Go.Num.In16 y), (Go.Num.In16 z), (Go.Num.In16 (Go.Num.W (24 : Nat) (Go.Num.Fld.m Go.Num.fld))), ((0 : Int) < (Go.Num.v16 (Go.Num.W (24 : Nat) (Go.Num.Fld.m Go.Num.fld)))), ((List.length y) ≤ (1000000 : Nat)), ((List.length z) ≤ (1000000 : Nat)), ((List.length (Go.Num.W (24 : Nat) (Go.Num.Fld.m Go.Num.fld))) ≤ (1000000 : Nat)), True, (Go.Num.In16 (Go.Num.W (List.length (Go.Num.W (24 : Nat) (Go.Num.Fld.m Go.Num.fld))) (((Go.Num.v16 x) * (Go.Num.v16 w)) % (Go.Num.v16 (Go.Num.W (24 : Nat) (Go.Num.Fld.m Go.Num.fld)))))), (Go.Num.In16 (Go.Num.W (List.length (Go.Num.W (24 : Nat) (Go.Num.Fld.m Go.Num.fld))) (((Go.Num.v16 y) * (Go.Num.v16 z)) % (Go.Num.v16 (Go.Num.W (24 : Nat) (Go.Num.Fld.m Go.Num.fld)))))), (Go.Num.In16 (Go.Num.W (24 : Nat) (Go.Num.Fld.m Go.Num.fld))), ((0 : Int) < (Go.Num.v16 (Go.Num.W (24 : Nat) (Go.Num.Fld.m Go.Num.fld)))), ((List.length (Go.Num.W (List.length (Go.Num.W (24 : Nat) (Go.Num.Fld.m Go.Num.fld))) (((Go.Num.v16 x) * (Go.Num.v16 w)) % (Go.Num.v16 (Go.Num.W (24 : Nat) (Go.Num.Fld.m Go.Num.fld)))))) ≤ (1000000 : Nat)), ((List.length (Go.Num.W (List.length (Go.Num.W (24 : Nat) (Go.Num.Fld.m Go.Num.fld))) (((Go.Num.v16 y) * (Go.Num.v16 z)) % (Go.Num.v16 (Go.Num.W (24 : Nat) (Go.Num.Fld.m Go.Num.fld)))))) ≤ (1000000 : Nat)), ((List.length (Go.Num.W (24 : Nat) (Go.Num.Fld.m Go.Num.fld))) ≤ (1000000 : Nat)), True]) := by kernel_rfl
theorem mul5_run (x y z w : List Int)
    (h1 : (Go.Num.In16 x))
    (h2 : (Go.Num.In16 z))
    (h3 : (Go.Num.In16 (Go.Num.W (24 : Nat) (Go.Num.Fld.m Go.Num.fld))))
    (h4 : ((List.length x) ≤ (1000000 : Nat)))
    (h5 : ((List.length z) ≤ (1000000 : Nat)))
    (h6 : (Go.Num.In16 y))
    (h7 : (Go.Num.In16 w))
    (h8 : ((List.length y) ≤ (1000000 : Nat)))
    (h9 : ((List.length w) ≤ (1000000 : Nat)))
    (h10 : (Go.Num.In16 (Go.Num.W (List.length (Go.Num.W (24 : Nat) (Go.Num.Fld.m Go.Num.fld))) (((Go.Num.v16 x) * (Go.Num.v16 z)) % (Go.Num.v16 (Go.Num.W (24 : Nat) (Go.Num.Fld.m Go.Num.fld)))))))
    (h11 : (Go.Num.In16 (Go.Num.W (List.length (Go.Num.W (24 : Nat) (Go.Num.Fld.m Go.Num.fld))) (((Go.Num.v16 y) * (Go.Num.v16 w)) % (Go.Num.v16 (Go.Num.W (24 : Nat) (Go.Num.Fld.m Go.Num.fld)))))))
    (h12 : ((List.length (Go.Num.W (List.length (Go.Num.W (24 : Nat) (Go.Num.Fld.m Go.Num.fld))) (((Go.Num.v16 x) * (Go.Num.v16 z)) % (Go.Num.v16 (Go.Num.W (24 : Nat) (Go.Num.Fld.m Go.Num.fld)))))) ≤ (1000000 : Nat)))
    (h13 : ((List.length (Go.Num.W (List.length (Go.Num.W (24 : Nat) (Go.Num.Fld.m Go.Num.fld))) (((Go.Num.v16 y) * (Go.Num.v16 w)) % (Go.Num.v16 (Go.Num.W (24 : Nat) (Go.Num.Fld.m Go.Num.fld)))))) ≤ (1000000 : Nat)))
    (h14 : ((Go.Num.v16 (Go.Num.W (List.length (Go.Num.W (24 : Nat) (Go.Num.Fld.m Go.Num.fld))) (((Go.Num.v16 y) * (Go.Num.v16 w)) % (Go.Num.v16 (Go.Num.W (24 : Nat) (Go.Num.Fld.m Go.Num.fld)))))) ≤ ((Go.Num.v16 (Go.Num.W (List.length (Go.Num.W (24 : Nat) (Go.Num.Fld.m Go.Num.fld))) (((Go.Num.v16 x) * (Go.Num.v16 z)) % (Go.Num.v16 (Go.Num.W (24 : Nat) (Go.Num.Fld.m Go.Num.fld)))))) + (Go.Num.v16 (Go.Num.W (24 : Nat) (Go.Num.Fld.m Go.Num.fld))))))
    (h15 : (Go.Num.In16 (Go.Num.W (List.length (Go.Num.W (24 : Nat) (Go.Num.Fld.m Go.Num.fld))) (((Go.Num.v16 x) * (Go.Num.v16 w)) % (Go.Num.v16 (Go.Num.W (24 : Nat) (Go.Num.Fld.m Go.Num.fld)))))))
    (h16 : (Go.Num.In16 (Go.Num.W (List.length (Go.Num.W (24 : Nat) (Go.Num.Fld.m Go.Num.fld))) (((Go.Num.v16 y) * (Go.Num.v16 z)) % (Go.Num.v16 (Go.Num.W (24 : Nat) (Go.Num.Fld.m Go.Num.fld)))))))
    (h17 : ((List.length (Go.Num.W (List.length (Go.Num.W (24 : Nat) (Go.Num.Fld.m Go.Num.fld))) (((Go.Num.v16 x) * (Go.Num.v16 w)) % (Go.Num.v16 (Go.Num.W (24 : Nat) (Go.Num.Fld.m Go.Num.fld)))))) ≤ (1000000 : Nat)))
    (h18 : ((List.length (Go.Num.W (List.length (Go.Num.W (24 : Nat) (Go.Num.Fld.m Go.Num.fld))) (((Go.Num.v16 y) * (Go.Num.v16 z)) % (Go.Num.v16 (Go.Num.W (24 : Nat) (Go.Num.Fld.m Go.Num.fld)))))) ≤ (1000000 : Nat))) :
    ∃ ps, runF Try.prog FD gam5r 100 Try.f45 [nP x y, nP z w] [] = some ((Go.Abs.AV.v (Go.Abs.A0.agg ((Go.Abs.Part.fresh (0 : Nat) (43 : TypeId) Go.IntKind.u32 (Go.Num.W (List.length (Go.Num.W (24 : Nat) (Go.Num.Fld.m Go.Num.fld))) ((((Go.Num.v16 (Go.Num.W (List.length (Go.Num.W (24 : Nat) (Go.Num.Fld.m Go.Num.fld))) (((Go.Num.v16 x) * (Go.Num.v16 z)) % (Go.Num.v16 (Go.Num.W (24 : Nat) (Go.Num.Fld.m Go.Num.fld)))))) + (Go.Num.v16 (Go.Num.W (24 : Nat) (Go.Num.Fld.m Go.Num.fld)))) - (Go.Num.v16 (Go.Num.W (List.length (Go.Num.W (24 : Nat) (Go.Num.Fld.m Go.Num.fld))) (((Go.Num.v16 y) * (Go.Num.v16 w)) % (Go.Num.v16 (Go.Num.W (24 : Nat) (Go.Num.Fld.m Go.Num.fld))))))) % (Go.Num.v16 (Go.Num.W (24 : Nat) (Go.Num.Fld.m Go.Num.fld)))))) :: ((Go.Abs.Part.fresh (1 : Nat) (43 : TypeId) Go.IntKind.u32 (Go.Num.W (List.length (Go.Num.W (24 : Nat) (Go.Num.Fld.m Go.Num.fld))) (((Go.Num.v16 (Go.Num.W (List.length (Go.Num.W (24 : Nat) (Go.Num.Fld.m Go.Num.fld))) (((Go.Num.v16 x) * (Go.Num.v16 w)) % (Go.Num.v16 (Go.Num.W (24 : Nat) (Go.Num.Fld.m Go.Num.fld)))))) + (Go.Num.v16 (Go.Num.W (List.length (Go.Num.W (24 : Nat) (Go.Num.Fld.m Go.Num.fld))) (((Go.Num.v16 y) * (Go.Num.v16 z)) % (Go.Num.v16 (Go.Num.W (24 : Nat) (Go.Num.Fld.m Go.Num.fld))))))) % (Go.Num.v16 (Go.Num.W (24 : Nat) (Go.Num.Fld.m Go.Num.fld)))))) :: ([] : List (Part FD.τ)))))), ps) ∧ AllQ ps := ⟨_, mul5_run_r x y z w, AllP.all ⟨h1, h2, h3, (show ((0 : Int) < (Go.Num.v16 (Go.Num.W (24 : Nat) (Go.Num.Fld.m Go.Num.fld)))) from by decide), h4, h5, (show ((List.length (Go.Num.W (24 : Nat) (Go.Num.Fld.m Go.Num.fld))) ≤ (1000000 : Nat)) from by decide), (show True from by decide), h6, h7, h3, (show ((0 : Int) < (Go.Num.v16 (Go.Num.W (24 : Nat) (Go.Num.Fld.m Go.Num.fld)))) from by decide), h8, h9, (show ((List.length (Go.Num.W (24 : Nat) (Go.Num.Fld.m Go.Num.fld))) ≤ (1000000 : Nat)) from by decide), (show True from by decide), h10, h11, h3, (show ((0 : Int) < (Go.Num.v16 (Go.Num.W (24 : Nat) (Go.Num.Fld.m Go.Num.fld)))) from by decide), h12, h13, (show ((List.length (Go.Num.W (24 : Nat) (Go.Num.Fld.m Go.Num.fld))) ≤ (1000000 : Nat)) from by decide), h14, h1, h7, h3, (show ((0 : Int) < (Go.Num.v16 (Go.Num.W (24 : Nat) (Go.Num.Fld.m Go.Num.fld)))) from by decide), h4, h9, (show ((List.length (Go.Num.W (24 : Nat) (Go.Num.Fld.m Go.Num.fld))) ≤ (1000000 : Nat)) from by decide), (show True from by decide), h6, h2, h3, (show ((0 : Int) < (Go.Num.v16 (Go.Num.W (24 : Nat) (Go.Num.Fld.m Go.Num.fld)))) from by decide), h8, h5, (show ((List.length (Go.Num.W (24 : Nat) (Go.Num.Fld.m Go.Num.fld))) ≤ (1000000 : Nat)) from by decide), (show True from by decide), h15, h16, h3, (show ((0 : Int) < (Go.Num.v16 (Go.Num.W (24 : Nat) (Go.Num.Fld.m Go.Num.fld)))) from by decide), h17, h18, (show ((List.length (Go.Num.W (24 : Nat) (Go.Num.Fld.m Go.Num.fld))) ≤ (1000000 : Nat)) from by decide), (show True from by decide)⟩⟩

theorem of5_run_r (x y : List Int) : runF Try.prog FD gam5r 100 Try.f36 [.one (.words .u8 x), .one (.words .u8 y)] [] =
    some ((Go.Abs.AV.v (Go.Abs.A0.agg ((Go.Abs.Part.fresh (0 : Nat) (43 : TypeId) Go.IntKind.u32 (Go.Num.W (List.length (Go.Num.W (24 : Nat) (Go.Num.Fld.m Go.Num.fld))) ((Go.Num.v16 (Go.Num.W (((List.length x) + (1 : Nat)) / (2 : Nat)) (Go.Num.be x))) % (Go.Num.v16 (Go.Num.W (24 : Nat) (Go.Num.Fld.m Go.Num.fld)))))) :: ((Go.Abs.Part.fresh (1 : Nat) (43 : TypeId) Go.IntKind.u32 (Go.Num.W (List.length (Go.Num.W (24 : Nat) (Go.Num.Fld.m Go.Num.fld))) ((Go.Num.v16 (Go.Num.W (((List.length y) + (1 : Nat)) / (2 : Nat)) (Go.Num.be y))) % (Go.Num.v16 (Go.Num.W (24 : Nat) (Go.Num.Fld.m Go.Num.fld)))))) :: ([] : List (Part FD.τ)))))), [(Go.Num.InB x), ((List.length x) ≤ (140737488351232 : Nat)), (Go.Num.In16 (Go.Num.W (((List.length x) + (1 : Nat)) / (2 : Nat)) (Go.Num.be x))), (Go.Num.In16 (Go.Num.W (24 : Nat) (Go.Num.Fld.m Go.Num.fld))), ((0 : Int) < (Go.Num.v16 (Go.Num.W (24 : Nat) (Go.Num.Fld.m Go.Num.fld)))), ((List.length (Go.Num.W (((List.length x) + (1 : Nat)) / (2 : Nat)) (Go.Num.be x))) ≤ (1099511627776 : Nat)), ((List.length (Go.Num.W (24 : Nat) (Go.Num.Fld.m Go.Num.fld))) ≤ (1099511627775 : Nat)), (Go.Num.InB y), ((List.length y) ≤ (140737488351232 : Nat)), (Go.Num.In16 (Go.Num.W (((List.length y) + (1 : Nat)) / (2 : Nat)) (Go.Num.be y))), (Go.Num.In16 (Go.Num.W (24 : Nat) (Go.Num.Fld.m Go.Num.fld))), ((0 : Int) < (Go.Num.v16 (Go.Num.W (24 : Nat) (Go.Num.Fld.m Go.Num.fld)))), ((List.length (Go.Num.W (((List.length y) + (1 : Nat)) / (2 : Nat)) (Go.Num.be y))) ≤ (1099511627776 : Nat)), ((List.length (Go.Num.W (24 : Nat) (Go.Num.Fld.m Go.Num.fld))) ≤ (1099511627775 : Nat))]) := by kernel_rfl
theorem of5_run (x y : List Int)
    (h1 : (Go.Num.InB x))
    (h2 : ((List.length x) ≤ (140737488351232 : Nat)))
    (h3 : (Go.Num.In16 (Go.Num.W (((List.length x) + (1 : Nat)) / (2 : Nat)) (Go.Num.be x))))
    (h4 : (Go.Num.In16 (Go.Num.W (24 : Nat) (Go.Num.Fld.m Go.Num.fld))))
    (h5 : ((List.length (Go.Num.W (((List.length x) + (1 : Nat)) / (2 : Nat)) (Go.Num.be x))) ≤ (1099511627776 : Nat)))
    (h6 : (Go.Num.InB y))
    (h7 : ((List.length y) ≤ (140737488351232 : Nat)))
    (h8 : (Go.Num.In16 (Go.Num.W (((List.length y) + (1 : Nat)) / (2 : Nat)) (Go.Num.be y))))
    (h9 : ((List.length (Go.Num.W (((List.length y) + (1 : Nat)) / (2 : Nat)) (Go.Num.be y))) ≤ (1099511627776 : Nat))) :
    ∃ ps, runF Try.prog FD gam5r 100 Try.f36 [.one (.words .u8 x), .one (.words .u8 y)] [] = some ((Go.Abs.AV.v (Go.Abs.A0.agg ((Go.Abs.Part.fresh (0 : Nat) (43 : TypeId) Go.IntKind.u32 (Go.Num.W (List.length (Go.Num.W (24 : Nat) (Go.Num.Fld.m Go.Num.fld))) ((Go.Num.v16 (Go.Num.W (((List.length x) + (1 : Nat)) / (2 : Nat)) (Go.Num.be x))) % (Go.Num.v16 (Go.Num.W (24 : Nat) (Go.Num.Fld.m Go.Num.fld)))))) :: ((Go.Abs.Part.fresh (1 : Nat) (43 : TypeId) Go.IntKind.u32 (Go.Num.W (List.length (Go.Num.W (24 : Nat) (Go.Num.Fld.m Go.Num.fld))) ((Go.Num.v16 (Go.Num.W (((List.length y) + (1 : Nat)) / (2 : Nat)) (Go.Num.be y))) % (Go.Num.v16 (Go.Num.W (24 : Nat) (Go.Num.Fld.m Go.Num.fld)))))) :: ([] : List (Part FD.τ)))))), ps) ∧ AllQ ps := ⟨_, of5_run_r x y, AllP.all ⟨h1, h2, h3, h4, (show ((0 : Int) < (Go.Num.v16 (Go.Num.W (24 : Nat) (Go.Num.Fld.m Go.Num.fld)))) from by decide), h5, (show ((List.length (Go.Num.W (24 : Nat) (Go.Num.Fld.m Go.Num.fld))) ≤ (1099511627775 : Nat)) from by decide), h6, h7, h8, h4, (show ((0 : Int) < (Go.Num.v16 (Go.Num.W (24 : Nat) (Go.Num.Fld.m Go.Num.fld)))) from by decide), h9, (show ((List.length (Go.Num.W (24 : Nat) (Go.Num.Fld.m Go.Num.fld))) ≤ (1099511627775 : Nat)) from by decide)⟩⟩

theorem bytes5_run_r (x y : List Int) : runF Try.prog FD gam5r 100 Try.f39 [nP x y] [] =
    some ((Go.Abs.AV.v (Go.Abs.A0.one (Go.Abs.Part.fresh (0 : Nat) (5 : Nat) Go.IntKind.u8 ((Go.Num.beB (48 : Nat) (Go.Num.v16 y)) ++ (Go.Num.beB (48 : Nat) (Go.Num.v16 x)))))), [(Go.Num.In16 y), ((0 : Int) ≤ (48 : Int)), ((48 : Int) ≤ (281474976710656 : Int)), (Go.Num.In16 x), ((0 : Int) ≤ (48 : Int)), ((48 : Int) ≤ (281474976710656 : Int)), (((List.length (Go.Num.beB (48 : Nat) (Go.Num.v16 y))) + (List.length (Go.Num.beB (48 : Nat) (Go.Num.v16 x)))) ≤ (9223372036854775807 : Nat)), ((((List.length (Go.Num.beB (48 : Nat) (Go.Num.v16 y))) + (List.length (Go.Num.beB (48 : Nat) (Go.Num.v16 x)))) * (1 : Nat)) ≤ (140737488355328 : Nat))]) := by kernel_rfl
theorem bytes5_run (x y : List Int)
    (h1 : (Go.Num.In16 y))
    (h2 : (Go.Num.In16 x))
    (h3 : (((List.length (Go.Num.beB (48 : Nat) (Go.Num.v16 y))) + (List.length (Go.Num.beB (48 : Nat) (Go.Num.v16 x)))) ≤ (9223372036854775807 : Nat)))
    (h4 : ((((List.length (Go.Num.beB (48 : Nat) (Go.Num.v16 y))) + (List.length (Go.Num.beB (48 : Nat) (Go.Num.v16 x)))) * (1 : Nat)) ≤ (140737488355328 : Nat))) :
    ∃ ps, runF Try.prog FD gam5r 100 Try.f39 [nP x y] [] = some ((Go.Abs.AV.v (Go.Abs.A0.one (Go.Abs.Part.fresh (0 : Nat) (5 : Nat) Go.IntKind.u8 ((Go.Num.beB (48 : Nat) (Go.Num.v16 y)) ++ (Go.Num.beB (48 : Nat) (Go.Num.v16 x)))))), ps) ∧ AllQ ps := ⟨_, bytes5_run_r x y, AllP.all ⟨h1, (show ((0 : Int) ≤ (48 : Int)) from by decide), (show ((48 : Int) ≤ (281474976710656 : Int)) from by decide), h2, (show ((0 : Int) ≤ (48 : Int)) from by decide), (show ((48 : Int) ≤ (281474976710656 : Int)) from by decide), h3, h4⟩⟩

theorem in16_M : In16 (W 24 fld.m) := W_in16 _ _
theorem lenW (n : Nat) (x : Int) : (W n x).length ≤ 1000000 ↔ n ≤ 1000000 := by rw [W_len]

theorem sub_m (a b : Int) : (a % fld.m + fld.m - b % fld.m) % fld.m = (a - b) % fld.m := by
  rw [show a % fld.m + fld.m - b % fld.m = (a % fld.m - b % fld.m) + fld.m from by omega, Int.add_emod_right, ← Int.sub_emod]

theorem sub_m' (a b : Int) : (a + fld.m - b) % fld.m = (a - b) % fld.m := by
  rw [show a + fld.m - b = (a - b) + fld.m from by omega, Int.add_emod_right]

theorem add5_ok : FnOK Try.prog FD 46 (n22D (fun a _ c _ => a + c) (fun _ b _ d => b + d) (fun _ _ _ _ => True)) := by
  refine fnOK_of gam5r_ok mixed Try.func46 (enters_of Try.func46 (by kernel_rfl) rfl) ?_
  intro xs r ps h hps
  unfold n22D at h
  split at h
  · rename_i p q
    split at h
    · rename_i x y hx hy
      simp only [Option.some.injEq, Prod.mk.injEq] at h
      obtain ⟨rfl, rfl⟩ := h
      have w1 : Wd x.1 := hps _ (by simp)
      have w2 : Wd x.2 := hps _ (by simp)
      have w3 : Wd y.1 := hps _ (by simp)
      have w4 : Wd y.2 := hps _ (by simp)
      obtain ⟨ps, h1, h2⟩ := add5_run x.1 x.2 y.1 y.2 w1.1 w3.1 in16_M w1.2 w3.2 w2.1 w4.1 w2.2 w4.2
      refine ⟨_, 100, _, _, _, fun w vs h => args2 (fun v hv => n5_rel hx hv) (fun v hv => n5_rel hy hv) h, h1, h2, fun E v hv => ?_⟩
      rw [W_len, vM] at hv
      exact hv
    · cases h
  · cases h

theorem sub5_ok : FnOK Try.prog FD 20 (n22D (fun a _ c _ => a - c) (fun _ b _ d => b - d) (fun a b c d => c ≤ a + fld.m ∧ d ≤ b + fld.m)) := by
  refine fnOK_of gam5r_ok mixed Try.func20 (enters_of Try.func20 (by kernel_rfl) rfl) ?_
  intro xs r ps h hps
  unfold n22D at h
  split at h
  · rename_i p q
    split at h
    · rename_i x y hx hy
      simp only [Option.some.injEq, Prod.mk.injEq] at h
      obtain ⟨rfl, rfl⟩ := h
      have w1 : Wd x.1 := hps _ (by simp)
      have w2 : Wd x.2 := hps _ (by simp)
      have w3 : Wd y.1 := hps _ (by simp)
      have w4 : Wd y.2 := hps _ (by simp)
      have hc : v16 y.1 ≤ v16 x.1 + fld.m ∧ v16 y.2 ≤ v16 x.2 + fld.m := hps _ (by simp)
      obtain ⟨ps, h1, h2⟩ := sub5_run x.1 x.2 y.1 y.2 w1.1 w3.1 in16_M w1.2 w3.2 (by rw [vM]; exact hc.1) w2.1 w4.1 w2.2 w4.2 (by rw [vM]; exact hc.2)
      refine ⟨_, 100, _, _, _, fun w vs h => args2 (fun v hv => n5_rel hx hv) (fun v hv => n5_rel hy hv) h, h1, h2, fun E v hv => ?_⟩
      rw [W_len, vM, sub_m', sub_m'] at hv
      exact hv
    · cases h
  · cases h

theorem mul5_ok : FnOK Try.prog FD 45 (n22D (fun a b c d => a * c - b * d) (fun a b c d => a * d + b * c) (fun _ _ _ _ => True)) := by
  refine fnOK_of gam5r_ok mixed Try.func45 (enters_of Try.func45 (by kernel_rfl) rfl) ?_
  intro xs r ps h hps
  unfold n22D at h
  split at h
  · rename_i p q
    split at h
    · rename_i x y hx hy
      simp only [Option.some.injEq, Prod.mk.injEq] at h
      obtain ⟨rfl, rfl⟩ := h
      have w1 : Wd x.1 := hps _ (by simp)
      have w2 : Wd x.2 := hps _ (by simp)
      have w3 : Wd y.1 := hps _ (by simp)
      have w4 : Wd y.2 := hps _ (by simp)
      have hl : ∀ z : Int, (W (W 24 fld.m).length z).length ≤ 1000000 := fun z => by rw [W_len, W_len]; omega
      have ha := mod_m (v16 x.1 * v16 y.1)
      have hb := mod_m (v16 x.2 * v16 y.2)
      obtain ⟨ps, h1, h2⟩ := mul5_run x.1 x.2 y.1 y.2 w1.1 w3.1 in16_M w1.2 w3.2 w2.1 w4.1 w2.2 w4.2 (W_in16 _ _) (W_in16 _ _) (hl _) (hl _) (by rw [W_len, vM, vX, vX]; omega) (W_in16 _ _) (W_in16 _ _) (hl _) (hl _)
      refine ⟨_, 100, _, _, _, fun w vs h => args2 (fun v hv => n5_rel hx hv) (fun v hv => n5_rel hy hv) h, h1, h2, fun E v hv => ?_⟩
      rw [W_len, vM, vX, vX, vX, vX, sub_m, ← Int.add_emod] at hv
      exact hv
    · cases h
  · cases h



def of5D : FnD FD
  | [.one (.words .u8 l), .one (.words .u8 m)] => some (.v (.agg (fr2 (be l % fld.m) (be m % fld.m))), [InB l, l.length ≤ 1000000, InB m, m.length ≤ 1000000])
  | _ => none

theorem of5_ok : FnOK Try.prog FD 36 of5D := by
  refine fnOK_of gam5r_ok mixed Try.func36 (enters_of Try.func36 (by kernel_rfl) rfl) ?_
  intro xs r ps h hps
  unfold of5D at h
  split at h
  · rename_i l m
    simp only [Option.some.injEq, Prod.mk.injEq] at h
    obtain ⟨rfl, rfl⟩ := h
    have b1 : InB l := hps _ (by simp)
    have l1 : l.length ≤ 1000000 := hps _ (by simp)
    have b2 : InB m := hps _ (by simp)
    have l2 : m.length ≤ 1000000 := hps _ (by simp)
    obtain ⟨ps, h1, h2⟩ := of5_run l m b1 (by omega) (W_in16 _ _) in16_M (by rw [W_len]; omega) b2 (by omega) (W_in16 _ _) (by rw [W_len]; omega)
    refine ⟨_, 100, _, _, _, fun w vs h => h, h1, h2, fun E v hv => ?_⟩
    rw [W_len, vM, vbe b1, vbe b2] at hv
    exact hv
  · cases h

def bytes5D : FnD FD
  | [.agg p] => match n5 p with
    | some x => some (.v (.one (.fresh 0 5 .u8 (beB 48 (v16 x.2) ++ beB 48 (v16 x.1)))), [Wd x.1, Wd x.2])
    | _ => none
  | _ => none

theorem bytes5_ok : FnOK Try.prog FD 39 bytes5D := by
  refine fnOK_of gam5r_ok mixed Try.func39 (enters_of Try.func39 (by kernel_rfl) rfl) ?_
  intro xs r ps h hps
  unfold bytes5D at h
  split at h
  · rename_i p
    split at h
    · rename_i x hx
      simp only [Option.some.injEq, Prod.mk.injEq] at h
      obtain ⟨rfl, rfl⟩ := h
      have w1 : Wd x.1 := hps _ (by simp)
      have w2 : Wd x.2 := hps _ (by simp)
      obtain ⟨ps, h1, h2⟩ := bytes5_run x.1 x.2 w2.1 w1.1 (by rw [beB_len, beB_len]; omega) (by rw [beB_len, beB_len]; omega)
      exact ⟨_, 100, _, _, _, fun w vs h => args1 (fun v hv => n5_rel hx hv) h, h1, h2, fun E v hv => hv⟩
    · cases h
  · cases h

end Go.Num
