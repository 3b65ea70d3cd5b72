/- Pairs of a field's numbers: what their laws call. -/
import Derived.Test.YtlobkhocdmepfaaTw3
namespace Go.Num
open Go.Abs Go.Proofs Go.Shelf Go.Alg

def gam11 : Gam FD := (60, of5D) :: (61, bytes5D) :: (40, nrm5D) :: (34, n22D (fun a _ c _ => a + c) (fun _ b _ d => b + d) (fun _ _ _ _ => True)) ::
  (35, n22D (fun a _ c _ => a - c) (fun _ b _ d => b - d) (fun a b c d => c ≤ a + fld.m ∧ d ≤ b + fld.m)) :: (36, n22D (fun a b c d => a * c - b * d) (fun a b c d => a * d + b * c) (fun _ _ _ _ => True)) ::
  (25, read2D) :: (30, bytes2D) :: (26, sameD FD) :: (12, copyD FD) :: (11, wideD) :: (28, lessD FD) :: (47, same3D FD) :: gam5r
theorem gam11_ok : GamOK Try.prog FD gam11 := gam_cons of5_ok (gam_cons bytes5_ok (gam_cons nrm5_ok (gam_cons add5_ok (gam_cons sub5_ok (gam_cons mul5_ok (gam_cons read2_ok (gam_cons bytes2_ok
  (gam_cons (same_ok FD) (gam_cons (copy_ok FD) (gam_cons wide_ok (gam_cons (less_ok FD) (gam_cons (same3_ok FD) gam5r_ok))))))))))))

theorem head2_run_r  : runF Try.prog FD gam11 100 Try.f9 [] [.is true, .is true, .is true, .is true, .is true] =
    some ((Go.Abs.AV.v (Go.Abs.A0.one (Go.Abs.Part.bool Bool.true Bool.true))), [(Go.Num.Rng (1 : Int)), (Go.Num.Rng (0 : Int)), ((!((decide (((1 : Int) % (Go.Num.Fld.m Go.Num.fld)) = ((0 : Int) % (Go.Num.Fld.m Go.Num.fld)))) && (decide (((0 : Int) % (Go.Num.Fld.m Go.Num.fld)) = ((0 : Int) % (Go.Num.Fld.m Go.Num.fld)))))) = Bool.true), (Go.Abs.EqT Go.Proofs.Try.prog (32 : Nat)), (Go.Num.Rng (0 : Int)), (Go.Num.Rng (1 : Int)), (Go.Num.Rng (1 : Int)), (Go.Num.Rng (0 : Int)), ((decide (Go.Alg.Q2 (Go.Num.Fld.m Go.Num.fld) ((Go.Alg.Quad.mk (0 : Int) (1 : Int)) * (Go.Alg.Quad.mk (0 : Int) (1 : Int))) (-(Go.Alg.Quad.mk (1 : Int) (0 : Int))))) = Bool.true), (Go.Abs.EqT Go.Proofs.Try.prog (32 : Nat)), (Go.Num.Rng (1 : Int)), (Go.Num.Rng (2 : Int)), (Go.Num.Rng (3 : Int)), (Go.Num.Rng (1 : Int)), (Go.Num.Rng (1 : Int)), (Go.Num.Rng (7 : Int)), ((decide (Go.Alg.Q2 (Go.Num.Fld.m Go.Num.fld) ((Go.Alg.Quad.mk (1 : Int) (2 : Int)) * (Go.Alg.Quad.mk (3 : Int) (1 : Int))) (Go.Alg.Quad.mk (1 : Int) (7 : Int)))) = Bool.true), (Go.Abs.EqT Go.Proofs.Try.prog (32 : Nat)), (Go.Num.Rng (3 : Int)), (Go.Num.Rng (4 : Int)), (Go.Num.Rng (25 : Int)), ((decide (((((3 : Int) * (3 : Int)) + ((4 : Int) * (4 : Int))) % (Go.Num.Fld.m Go.Num.fld)) = ((25 : Int) % (Go.Num.Fld.m Go.Num.fld)))) = Bool.true), (Go.Abs.EqT Go.Proofs.Try.prog (28 : Nat))]) := by kernel_rfl
theorem head2_run 
    (h1 : (Go.Abs.EqT Go.Proofs.Try.prog (32 : Nat)))
    (h2 : (Go.Abs.EqT Go.Proofs.Try.prog (28 : Nat))) :
    ∃ ps, runF Try.prog FD gam11 100 Try.f9 [] [.is true, .is true, .is true, .is true, .is true] = some ((Go.Abs.AV.v (Go.Abs.A0.one (Go.Abs.Part.bool Bool.true Bool.true))), ps) ∧ AllQ ps := ⟨_, head2_run_r , AllP.all ⟨(show (Go.Num.Rng (1 : Int)) from by decide), (show (Go.Num.Rng (0 : Int)) from by decide), (show ((!((decide (((1 : Int) % (Go.Num.Fld.m Go.Num.fld)) = ((0 : Int) % (Go.Num.Fld.m Go.Num.fld)))) && (decide (((0 : Int) % (Go.Num.Fld.m Go.Num.fld)) = ((0 : Int) % (Go.Num.Fld.m Go.Num.fld)))))) = Bool.true) from by decide), h1, (show (Go.Num.Rng (0 : Int)) from by decide), (show (Go.Num.Rng (1 : Int)) from by decide), (show (Go.Num.Rng (1 : Int)) from by decide), (show (Go.Num.Rng (0 : Int)) from by decide), (show ((decide (Go.Alg.Q2 (Go.Num.Fld.m Go.Num.fld) ((Go.Alg.Quad.mk (0 : Int) (1 : Int)) * (Go.Alg.Quad.mk (0 : Int) (1 : Int))) (-(Go.Alg.Quad.mk (1 : Int) (0 : Int))))) = Bool.true) from by decide), h1, (show (Go.Num.Rng (1 : Int)) from by decide), (show (Go.Num.Rng (2 : Int)) from by decide), (show (Go.Num.Rng (3 : Int)) from by decide), (show (Go.Num.Rng (1 : Int)) from by decide), (show (Go.Num.Rng (1 : Int)) from by decide), (show (Go.Num.Rng (7 : Int)) from by decide), (show ((decide (Go.Alg.Q2 (Go.Num.Fld.m Go.Num.fld) ((Go.Alg.Quad.mk (1 : Int) (2 : Int)) * (Go.Alg.Quad.mk (3 : Int) (1 : Int))) (Go.Alg.Quad.mk (1 : Int) (7 : Int)))) = Bool.true) from by decide), h1, (show (Go.Num.Rng (3 : Int)) from by decide), (show (Go.Num.Rng (4 : Int)) from by decide), (show (Go.Num.Rng (25 : Int)) from by decide), (show ((decide (((((3 : Int) * (3 : Int)) + ((4 : Int) * (4 : Int))) % (Go.Num.Fld.m Go.Num.fld)) = ((25 : Int) % (Go.Num.Fld.m Go.Num.fld)))) = Bool.true) from by decide), h2⟩⟩

theorem is2_run_r (x : K2) (l m : List Int) : runF Try.prog FD gam11 100 Try.f33 [.agg [.tag (.e2 x)], nP l m] [.keep, .keep] =
    some ((Go.Abs.AV.v (Go.Abs.A0.one (Go.Abs.Part.bool Bool.false (decide (((Go.Num.beB (48 : Nat) ((x.2) % (Go.Num.Fld.m Go.Num.fld))) ++ (Go.Num.beB (48 : Nat) ((x.1) % (Go.Num.Fld.m Go.Num.fld)))) = ((Go.Num.beB (48 : Nat) (Go.Num.v16 m)) ++ (Go.Num.beB (48 : Nat) (Go.Num.v16 l)))))))), [((Go.Num.In16 l) ∧ ((List.length l) ≤ (1000000 : Nat))), ((Go.Num.In16 m) ∧ ((List.length m) ≤ (1000000 : Nat))), ((List.length ((Go.Num.beB (48 : Nat) ((x.2) % (Go.Num.Fld.m Go.Num.fld))) ++ (Go.Num.beB (48 : Nat) ((x.1) % (Go.Num.Fld.m Go.Num.fld))))) ≤ (9223372036854775807 : Nat)), ((List.length ((Go.Num.beB (48 : Nat) (Go.Num.v16 m)) ++ (Go.Num.beB (48 : Nat) (Go.Num.v16 l)))) ≤ (9223372036854775807 : Nat))]) := by kernel_rfl
theorem is2_run (x : K2) (l m : List Int)
    (h1 : ((Go.Num.In16 l) ∧ ((List.length l) ≤ (1000000 : Nat))))
    (h2 : ((Go.Num.In16 m) ∧ ((List.length m) ≤ (1000000 : Nat))))
    (h3 : ((List.length ((Go.Num.beB (48 : Nat) ((x.2) % (Go.Num.Fld.m Go.Num.fld))) ++ (Go.Num.beB (48 : Nat) ((x.1) % (Go.Num.Fld.m Go.Num.fld))))) ≤ (9223372036854775807 : Nat)))
    (h4 : ((List.length ((Go.Num.beB (48 : Nat) (Go.Num.v16 m)) ++ (Go.Num.beB (48 : Nat) (Go.Num.v16 l)))) ≤ (9223372036854775807 : Nat))) :
    ∃ ps, runF Try.prog FD gam11 100 Try.f33 [.agg [.tag (.e2 x)], nP l m] [.keep, .keep] = some ((Go.Abs.AV.v (Go.Abs.A0.one (Go.Abs.Part.bool Bool.false (decide (((Go.Num.beB (48 : Nat) ((x.2) % (Go.Num.Fld.m Go.Num.fld))) ++ (Go.Num.beB (48 : Nat) ((x.1) % (Go.Num.Fld.m Go.Num.fld)))) = ((Go.Num.beB (48 : Nat) (Go.Num.v16 m)) ++ (Go.Num.beB (48 : Nat) (Go.Num.v16 l)))))))), ps) ∧ AllQ ps := ⟨_, is2_run_r x l m, AllP.all ⟨h1, h2, h3, h4⟩⟩

theorem number2_run_r (l m : List Int) : runF Try.prog FD gam11 100 Try.f32 [.one (.words .u8 l), .one (.words .u8 m)] [] =
    some ((Go.Abs.AV.tup ((Go.Abs.A0.agg ((Go.Abs.Part.fresh (0 : Nat) (64 : TypeId) Go.IntKind.u32 (Go.Num.W (24 : Nat) ((Go.Num.be l) % (Go.Num.Fld.m Go.Num.fld)))) :: ((Go.Abs.Part.fresh (1 : Nat) (64 : TypeId) Go.IntKind.u32 (Go.Num.W (24 : Nat) ((Go.Num.be m) % (Go.Num.Fld.m Go.Num.fld)))) :: ([] : List (Part FD.τ))))) :: ((Go.Abs.A0.agg ((Go.Abs.Part.tag (Go.Num.T.e2 (Go.Num.read2N ((Go.Num.beB (48 : Nat) (Go.Num.v16 (Go.Num.W (24 : Nat) ((Go.Num.be m) % (Go.Num.Fld.m Go.Num.fld))))) ++ (Go.Num.beB (48 : Nat) (Go.Num.v16 (Go.Num.W (24 : Nat) ((Go.Num.be l) % (Go.Num.Fld.m Go.Num.fld))))))))) :: ([] : List (Part FD.τ)))) :: ([] : List (A0 FD.τ))))), [(Go.Num.InB l), ((List.length l) ≤ (1000000 : Nat)), (Go.Num.InB m), ((List.length m) ≤ (1000000 : Nat)), ((Go.Num.In16 (Go.Num.W (24 : Nat) ((Go.Num.be l) % (Go.Num.Fld.m Go.Num.fld)))) ∧ ((List.length (Go.Num.W (24 : Nat) ((Go.Num.be l) % (Go.Num.Fld.m Go.Num.fld)))) ≤ (1000000 : Nat))), ((Go.Num.In16 (Go.Num.W (24 : Nat) ((Go.Num.be m) % (Go.Num.Fld.m Go.Num.fld)))) ∧ ((List.length (Go.Num.W (24 : Nat) ((Go.Num.be m) % (Go.Num.Fld.m Go.Num.fld)))) ≤ (1000000 : Nat))), (Go.Num.InB ((Go.Num.beB (48 : Nat) (Go.Num.v16 (Go.Num.W (24 : Nat) ((Go.Num.be m) % (Go.Num.Fld.m Go.Num.fld))))) ++ (Go.Num.beB (48 : Nat) (Go.Num.v16 (Go.Num.W (24 : Nat) ((Go.Num.be l) % (Go.Num.Fld.m Go.Num.fld))))))), ((List.length ((Go.Num.beB (48 : Nat) (Go.Num.v16 (Go.Num.W (24 : Nat) ((Go.Num.be m) % (Go.Num.Fld.m Go.Num.fld))))) ++ (Go.Num.beB (48 : Nat) (Go.Num.v16 (Go.Num.W (24 : Nat) ((Go.Num.be l) % (Go.Num.Fld.m Go.Num.fld))))))) ≤ (9223372036854775807 : Nat))]) := by kernel_rfl
theorem number2_run (l m : List Int)
    (h1 : (Go.Num.InB l))
    (h2 : ((List.length l) ≤ (1000000 : Nat)))
    (h3 : (Go.Num.InB m))
    (h4 : ((List.length m) ≤ (1000000 : Nat)))
    (h5 : ((Go.Num.In16 (Go.Num.W (24 : Nat) ((Go.Num.be l) % (Go.Num.Fld.m Go.Num.fld)))) ∧ ((List.length (Go.Num.W (24 : Nat) ((Go.Num.be l) % (Go.Num.Fld.m Go.Num.fld)))) ≤ (1000000 : Nat))))
    (h6 : ((Go.Num.In16 (Go.Num.W (24 : Nat) ((Go.Num.be m) % (Go.Num.Fld.m Go.Num.fld)))) ∧ ((List.length (Go.Num.W (24 : Nat) ((Go.Num.be m) % (Go.Num.Fld.m Go.Num.fld)))) ≤ (1000000 : Nat))))
    (h7 : (Go.Num.InB ((Go.Num.beB (48 : Nat) (Go.Num.v16 (Go.Num.W (24 : Nat) ((Go.Num.be m) % (Go.Num.Fld.m Go.Num.fld))))) ++ (Go.Num.beB (48 : Nat) (Go.Num.v16 (Go.Num.W (24 : Nat) ((Go.Num.be l) % (Go.Num.Fld.m Go.Num.fld))))))))
    (h8 : ((List.length ((Go.Num.beB (48 : Nat) (Go.Num.v16 (Go.Num.W (24 : Nat) ((Go.Num.be m) % (Go.Num.Fld.m Go.Num.fld))))) ++ (Go.Num.beB (48 : Nat) (Go.Num.v16 (Go.Num.W (24 : Nat) ((Go.Num.be l) % (Go.Num.Fld.m Go.Num.fld))))))) ≤ (9223372036854775807 : Nat))) :
    ∃ ps, runF Try.prog FD gam11 100 Try.f32 [.one (.words .u8 l), .one (.words .u8 m)] [] = some ((Go.Abs.AV.tup ((Go.Abs.A0.agg ((Go.Abs.Part.fresh (0 : Nat) (64 : TypeId) Go.IntKind.u32 (Go.Num.W (24 : Nat) ((Go.Num.be l) % (Go.Num.Fld.m Go.Num.fld)))) :: ((Go.Abs.Part.fresh (1 : Nat) (64 : TypeId) Go.IntKind.u32 (Go.Num.W (24 : Nat) ((Go.Num.be m) % (Go.Num.Fld.m Go.Num.fld)))) :: ([] : List (Part FD.τ))))) :: ((Go.Abs.A0.agg ((Go.Abs.Part.tag (Go.Num.T.e2 (Go.Num.read2N ((Go.Num.beB (48 : Nat) (Go.Num.v16 (Go.Num.W (24 : Nat) ((Go.Num.be m) % (Go.Num.Fld.m Go.Num.fld))))) ++ (Go.Num.beB (48 : Nat) (Go.Num.v16 (Go.Num.W (24 : Nat) ((Go.Num.be l) % (Go.Num.Fld.m Go.Num.fld))))))))) :: ([] : List (Part FD.τ)))) :: ([] : List (A0 FD.τ))))), ps) ∧ AllQ ps := ⟨_, number2_run_r l m, AllP.all ⟨h1, h2, h3, h4, h5, h6, h7, h8⟩⟩

theorem long_a_r (a b c d : List Int) : runF Try.prog FD gam11 100 Try.f10 [.one (.words .u8 a), .one (.words .u8 b), .one (.words .u8 c), .one (.words .u8 d)] [.is true] =
    some ((Go.Abs.AV.v (Go.Abs.A0.one (Go.Abs.Part.bool Bool.true Bool.true))), [((decide ((((List.length a) : Nat) : Int) > (64 : Int))) = Bool.true)]) := by kernel_rfl
theorem long_a (a b c d : List Int)
    (h1 : ((decide ((((List.length a) : Nat) : Int) > (64 : Int))) = Bool.true)) :
    ∃ ps, runF Try.prog FD gam11 100 Try.f10 [.one (.words .u8 a), .one (.words .u8 b), .one (.words .u8 c), .one (.words .u8 d)] [.is true] = some ((Go.Abs.AV.v (Go.Abs.A0.one (Go.Abs.Part.bool Bool.true Bool.true))), ps) ∧ AllQ ps := ⟨_, long_a_r a b c d, AllP.all h1⟩

theorem long_b_r (a b c d : List Int) : runF Try.prog FD gam11 100 Try.f10 [.one (.words .u8 a), .one (.words .u8 b), .one (.words .u8 c), .one (.words .u8 d)] [.is false, .is true] =
    some ((Go.Abs.AV.v (Go.Abs.A0.one (Go.Abs.Part.bool Bool.true Bool.true))), [((decide ((((List.length a) : Nat) : Int) > (64 : Int))) = Bool.false), ((decide ((((List.length b) : Nat) : Int) > (64 : Int))) = Bool.true)]) := by kernel_rfl
theorem long_b (a b c d : List Int)
    (h1 : ((decide ((((List.length a) : Nat) : Int) > (64 : Int))) = Bool.false))
    (h2 : ((decide ((((List.length b) : Nat) : Int) > (64 : Int))) = Bool.true)) :
    ∃ ps, runF Try.prog FD gam11 100 Try.f10 [.one (.words .u8 a), .one (.words .u8 b), .one (.words .u8 c), .one (.words .u8 d)] [.is false, .is true] = some ((Go.Abs.AV.v (Go.Abs.A0.one (Go.Abs.Part.bool Bool.true Bool.true))), ps) ∧ AllQ ps := ⟨_, long_b_r a b c d, AllP.all ⟨h1, h2⟩⟩

theorem long_c_r (a b c d : List Int) : runF Try.prog FD gam11 100 Try.f10 [.one (.words .u8 a), .one (.words .u8 b), .one (.words .u8 c), .one (.words .u8 d)] [.is false, .is false, .is true] =
    some ((Go.Abs.AV.v (Go.Abs.A0.one (Go.Abs.Part.bool Bool.true Bool.true))), [((decide ((((List.length a) : Nat) : Int) > (64 : Int))) = Bool.false), ((decide ((((List.length b) : Nat) : Int) > (64 : Int))) = Bool.false), ((decide ((((List.length c) : Nat) : Int) > (64 : Int))) = Bool.true)]) := by kernel_rfl
theorem long_c (a b c d : List Int)
    (h1 : ((decide ((((List.length a) : Nat) : Int) > (64 : Int))) = Bool.false))
    (h2 : ((decide ((((List.length b) : Nat) : Int) > (64 : Int))) = Bool.false))
    (h3 : ((decide ((((List.length c) : Nat) : Int) > (64 : Int))) = Bool.true)) :
    ∃ ps, runF Try.prog FD gam11 100 Try.f10 [.one (.words .u8 a), .one (.words .u8 b), .one (.words .u8 c), .one (.words .u8 d)] [.is false, .is false, .is true] = some ((Go.Abs.AV.v (Go.Abs.A0.one (Go.Abs.Part.bool Bool.true Bool.true))), ps) ∧ AllQ ps := ⟨_, long_c_r a b c d, AllP.all ⟨h1, h2, h3⟩⟩

theorem long_d_r (a b c d : List Int) : runF Try.prog FD gam11 100 Try.f10 [.one (.words .u8 a), .one (.words .u8 b), .one (.words .u8 c), .one (.words .u8 d)] [.is false, .is false, .is false, .keep, .keep, .keep, .keep, .keep] =
    some ((Go.Abs.AV.v (Go.Abs.A0.one (Go.Abs.Part.bool (Bool.false && Bool.true) (decide ((((List.length d) : Nat) : Int) > (64 : Int)))))), [((decide ((((List.length a) : Nat) : Int) > (64 : Int))) = Bool.false), ((decide ((((List.length b) : Nat) : Int) > (64 : Int))) = Bool.false), ((decide ((((List.length c) : Nat) : Int) > (64 : Int))) = Bool.false)]) := by kernel_rfl
theorem long_d (a b c d : List Int)
    (h1 : ((decide ((((List.length a) : Nat) : Int) > (64 : Int))) = Bool.false))
    (h2 : ((decide ((((List.length b) : Nat) : Int) > (64 : Int))) = Bool.false))
    (h3 : ((decide ((((List.length c) : Nat) : Int) > (64 : Int))) = Bool.false)) :
    ∃ ps, runF Try.prog FD gam11 100 Try.f10 [.one (.words .u8 a), .one (.words .u8 b), .one (.words .u8 c), .one (.words .u8 d)] [.is false, .is false, .is false, .keep, .keep, .keep, .keep, .keep] = some ((Go.Abs.AV.v (Go.Abs.A0.one (Go.Abs.Part.bool (Bool.false && Bool.true) (decide ((((List.length d) : Nat) : Int) > (64 : Int)))))), ps) ∧ AllQ ps := ⟨_, long_d_r a b c d, AllP.all ⟨h1, h2, h3⟩⟩

def is2D : FnD FD
  | [.agg p, .agg q] => match k2Of p, n5 q with
    | some x, some n => some (.v (.one (.bool false (decide (x.a % fld.m = v16 n.1 % 256 ^ 48 ∧ x.b % fld.m = v16 n.2 % 256 ^ 48)))), [Wd n.1, Wd n.2])
    | _, _ => none
  | _ => none

theorem app_eq {a b c d : List Int} (h : a.length = c.length) : a ++ b = c ++ d ↔ a = c ∧ b = d := by
  constructor
  · intro e
    exact List.append_inj e h
  · rintro ⟨rfl, rfl⟩
    rfl

theorem is2_ok : FnOK Try.prog FD 33 is2D := by
  refine fnOK_of gam11_ok mixed Try.func33 (enters_of Try.func33 (by kernel_rfl) rfl) ?_
  intro xs r ps h hps
  unfold is2D at h
  split at h
  · rename_i p q
    split at h
    · rename_i x n hx hn
      simp only [Option.some.injEq, Prod.mk.injEq] at h
      obtain ⟨rfl, rfl⟩ := h
      have w1 : Wd n.1 := hps _ (by simp)
      have w2 : Wd n.2 := hps _ (by simp)
      obtain ⟨ps, h1, h2⟩ := is2_run x n.1 n.2 w1 w2 (by rw [List.length_append, beB_len, beB_len]; omega) (by rw [List.length_append, beB_len, beB_len]; omega)
      refine ⟨_, 100, _, _, _, fun w vs h => args2 (fun v hv => k2_rel hx hv) (fun v hv => n5_rel hn hv) h, h1, h2, fun E v hv => one_bool ?_ hv⟩
      refine decide_eq_decide.2 ?_
      rw [app_eq (by rw [beB_len, beB_len]), beB_inj, beB_inj, pX, pX]
      exact And.comm
    · cases h
  · cases h

def longD : FnD FD
  | [.one (.words .u8 a), .one (.words .u8 b), .one (.words .u8 c), .one (.words .u8 d)] => some (.v (.one (.bool false (decide ((a.length : Int) > 64 ∨ (b.length : Int) > 64 ∨ (c.length : Int) > 64 ∨ (d.length : Int) > 64)))), [])
  | _ => none

theorem long_ok : FnOK Try.prog FD 10 longD := by
  refine fnOK_of gam11_ok mixed Try.func10 (enters_of Try.func10 (by kernel_rfl) rfl) ?_
  intro xs r ps h hps
  unfold longD at h
  split at h
  · rename_i a b c d
    simp only [Option.some.injEq, Prod.mk.injEq] at h
    obtain ⟨rfl, rfl⟩ := h
    by_cases ha : (a.length : Int) > 64
    · obtain ⟨ps, h1, h2⟩ := long_a a b c d (decide_eq_true ha)
      exact ⟨_, 100, _, _, _, fun w vs h => h, h1, h2, fun E v hv => one_bool (decide_eq_true (.inl ha)).symm hv⟩
    by_cases hb : (b.length : Int) > 64
    · obtain ⟨ps, h1, h2⟩ := long_b a b c d (decide_eq_false ha) (decide_eq_true hb)
      exact ⟨_, 100, _, _, _, fun w vs h => h, h1, h2, fun E v hv => one_bool (decide_eq_true (.inr (.inl hb))).symm hv⟩
    by_cases hc : (c.length : Int) > 64
    · obtain ⟨ps, h1, h2⟩ := long_c a b c d (decide_eq_false ha) (decide_eq_false hb) (decide_eq_true hc)
      exact ⟨_, 100, _, _, _, fun w vs h => h, h1, h2, fun E v hv => one_bool (decide_eq_true (.inr (.inr (.inl hc)))).symm hv⟩
    obtain ⟨ps, h1, h2⟩ := long_d a b c d (decide_eq_false ha) (decide_eq_false hb) (decide_eq_false hc)
    refine ⟨_, 100, _, _, _, fun w vs h => h, h1, h2, fun E v hv => one_bool (decide_eq_decide.2 ?_) hv⟩
    exact ⟨fun h => .inr (.inr (.inr h)), fun h => ((h.resolve_left ha).resolve_left hb).resolve_left hc⟩
  · cases h

def head2D : FnD FD
  | [] => some (.v (.one (.bool true true)), [])
  | _ => none

theorem head2_ok : FnOK Try.prog FD 9 head2D := by
  refine fnOK_of gam11_ok mixed Try.func9 (enters_of Try.func9 (by kernel_rfl) rfl) ?_
  intro xs r ps h hps
  unfold head2D at h
  split at h
  · simp only [Option.some.injEq, Prod.mk.injEq] at h
    obtain ⟨rfl, rfl⟩ := h
    obtain ⟨ps, h1, h2⟩ := head2_run e2_eqT el_eqT
    exact ⟨[], 100, _, _, _, fun w vs h => h, h1, h2, fun E v hv => hv⟩
  · cases h

theorem inB_append {l m : List Int} (h : InB l) (k : InB m) : InB (l ++ m) := fun a ha => (List.mem_append.1 ha).elim (h a) (k a)

def number2D : FnD FD
  | [.one (.words .u8 l), .one (.words .u8 m)] => some (.tup [.agg (fr2 (be l % fld.m) (be m % fld.m)), .agg [.tag (.e2 ⟨be l, be m⟩)]], [InB l, l.length ≤ 1000000, InB m, m.length ≤ 1000000])
  | _ => none

theorem read2_num (x y : Int) : Q2 fld.m (read2N (beB 48 (y % fld.m) ++ beB 48 (x % fld.m))) ⟨x, y⟩ := by
  have ex := mod_m x
  have ey := mod_m y
  have l1 : (beB 48 (y % fld.m)).length = 48 := beB_len _ _
  have t1 : (beB 48 (y % fld.m) ++ beB 48 (x % fld.m)).take 48 = beB 48 (y % fld.m) := List.take_left' l1
  have t2 : (beB 48 (y % fld.m) ++ beB 48 (x % fld.m)).drop 48 = beB 48 (x % fld.m) := List.drop_left' l1
  have v1 : be (beB 48 (y % fld.m)) = y % fld.m := by rw [be_beB]; exact pX y
  have v2 : be (beB 48 (x % fld.m)) = x % fld.m := by rw [be_beB]; exact pX x
  rw [read2N, if_pos ⟨by rw [List.length_append, beB_len, beB_len], by rw [t1, v1]; exact ey.2, by rw [t2, v2]; exact ex.2⟩, t1, t2, v1, v2]
  exact ⟨Int.emod_emod .., Int.emod_emod ..⟩

theorem number2_ok : FnOK Try.prog FD 32 number2D := by
  refine fnOK_of gam11_ok mixed Try.func32 (enters_of Try.func32 (by kernel_rfl) rfl) ?_
  intro xs r ps h hps
  unfold number2D at h
  split at h
  · rename_i l m
    simp only [Option.some.injEq, Prod.mk.injEq] at h
    obtain ⟨rfl, rfl⟩ := h
    have b1 : InB l := hps _ (by simp)
    have l1 : l.length ≤ 1000000 := hps _ (by simp)
    have b2 : InB m := hps _ (by simp)
    have l2 : m.length ≤ 1000000 := hps _ (by simp)
    obtain ⟨ps, h1, h2⟩ := number2_run l m b1 l1 b2 l2 ⟨W_in16 _ _, by rw [W_len]; omega⟩ ⟨W_in16 _ _, by rw [W_len]; omega⟩ (inB_append (beB_inB _ _) (beB_inB _ _)) (by rw [List.length_append, beB_len, beB_len]; omega)
    refine ⟨_, 100, _, _, _, fun w vs h => h, h1, h2, fun E v hv => ?_⟩
    rw [vX, vX] at hv
    exact tup2 (fun v hv => hv) (fun v hv => e2_e2 (read2_num _ _) hv) hv
  · cases h

def gam12 : Gam FD := (9, head2D) :: (33, is2D) :: (32, number2D) :: (10, longD) :: gam11
theorem gam12_ok : GamOK Try.prog FD gam12 := gam_cons head2_ok (gam_cons is2_ok (gam_cons number2_ok (gam_cons long_ok gam11_ok)))

end Go.Num
