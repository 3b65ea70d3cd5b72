/- The tower's laws: what they call. -/
import Derived.Test.YtbgcfmmkbocpoaaTw12
namespace Go.Num
open Go.Abs Go.Proofs Go.Shelf Go.Alg

theorem e12_eqT : EqT Try.prog 40 := eqT_of (n := 12 * 6) (by kernel_rfl) (by kernel_rfl) (by kernel_rfl) (by kernel_rfl)
theorem e6_eqT : EqT Try.prog 38 := eqT_of (n := 6 * 6) (by kernel_rfl) (by kernel_rfl) (by kernel_rfl) (by kernel_rfl)

theorem w_run_r  : runF Try.prog FD gam27 200 Try.f35 [] [] =
    some ((Go.Abs.AV.v (Go.Abs.A0.agg ((Go.Abs.Part.int Go.IntKind.u64 Bool.true (0 : Int)) :: ((Go.Abs.Part.int Go.IntKind.u64 Bool.true (0 : Int)) :: ((Go.Abs.Part.int Go.IntKind.u64 Bool.true (0 : Int)) :: ((Go.Abs.Part.int Go.IntKind.u64 Bool.true (0 : Int)) :: ((Go.Abs.Part.int Go.IntKind.u64 Bool.true (0 : Int)) :: ((Go.Abs.Part.int Go.IntKind.u64 Bool.true (0 : Int)) :: ((Go.Abs.Part.int Go.IntKind.u64 Bool.true (0 : Int)) :: ((Go.Abs.Part.int Go.IntKind.u64 Bool.true (0 : Int)) :: ((Go.Abs.Part.int Go.IntKind.u64 Bool.true (0 : Int)) :: ((Go.Abs.Part.int Go.IntKind.u64 Bool.true (0 : Int)) :: ((Go.Abs.Part.int Go.IntKind.u64 Bool.true (0 : Int)) :: ((Go.Abs.Part.int Go.IntKind.u64 Bool.true (0 : Int)) :: ((Go.Abs.Part.int Go.IntKind.u64 Bool.true (0 : Int)) :: ((Go.Abs.Part.int Go.IntKind.u64 Bool.true (0 : Int)) :: ((Go.Abs.Part.int Go.IntKind.u64 Bool.true (0 : Int)) :: ((Go.Abs.Part.int Go.IntKind.u64 Bool.true (0 : Int)) :: ((Go.Abs.Part.int Go.IntKind.u64 Bool.true (0 : Int)) :: ((Go.Abs.Part.int Go.IntKind.u64 Bool.true (0 : Int)) :: ((Go.Abs.Part.int Go.IntKind.u64 Bool.true (0 : Int)) :: ((Go.Abs.Part.int Go.IntKind.u64 Bool.true (0 : Int)) :: ((Go.Abs.Part.int Go.IntKind.u64 Bool.true (0 : Int)) :: ((Go.Abs.Part.int Go.IntKind.u64 Bool.true (0 : Int)) :: ((Go.Abs.Part.int Go.IntKind.u64 Bool.true (0 : Int)) :: ((Go.Abs.Part.int Go.IntKind.u64 Bool.true (0 : Int)) :: ((Go.Abs.Part.int Go.IntKind.u64 Bool.true (0 : Int)) :: ((Go.Abs.Part.int Go.IntKind.u64 Bool.true (0 : Int)) :: ((Go.Abs.Part.int Go.IntKind.u64 Bool.true (0 : Int)) :: ((Go.Abs.Part.int Go.IntKind.u64 Bool.true (0 : Int)) :: ((Go.Abs.Part.int Go.IntKind.u64 Bool.true (0 : Int)) :: ((Go.Abs.Part.int Go.IntKind.u64 Bool.true (0 : Int)) :: ((Go.Abs.Part.int Go.IntKind.u64 Bool.true (0 : Int)) :: ((Go.Abs.Part.int Go.IntKind.u64 Bool.true (0 : Int)) :: ((Go.Abs.Part.int Go.IntKind.u64 Bool.true (0 : Int)) :: ((Go.Abs.Part.int Go.IntKind.u64 Bool.true (0 : Int)) :: ((Go.Abs.Part.int Go.IntKind.u64 Bool.true (0 : Int)) :: ((Go.Abs.Part.int Go.IntKind.u64 Bool.true (0 : Int)) :: ((Go.Abs.Part.tag (Go.Num.T.e2 (@Go.Alg.Quad.mk Int (-(1 : Int)) (1 : Int) (0 : Int)))) :: ((Go.Abs.Part.int Go.IntKind.u64 Bool.true (0 : Int)) :: ((Go.Abs.Part.int Go.IntKind.u64 Bool.true (0 : Int)) :: ((Go.Abs.Part.int Go.IntKind.u64 Bool.true (0 : Int)) :: ((Go.Abs.Part.int Go.IntKind.u64 Bool.true (0 : Int)) :: ((Go.Abs.Part.int Go.IntKind.u64 Bool.true (0 : Int)) :: ((Go.Abs.Part.int Go.IntKind.u64 Bool.true (0 : Int)) :: ((Go.Abs.Part.int Go.IntKind.u64 Bool.true (0 : Int)) :: ((Go.Abs.Part.int Go.IntKind.u64 Bool.true (0 : Int)) :: ((Go.Abs.Part.int Go.IntKind.u64 Bool.true (0 : Int)) :: ((Go.Abs.Part.int Go.IntKind.u64 Bool.true (0 : Int)) :: ((Go.Abs.Part.int Go.IntKind.u64 Bool.true (0 : Int)) :: ((Go.Abs.Part.int Go.IntKind.u64 Bool.true (0 : Int)) :: ((Go.Abs.Part.int Go.IntKind.u64 Bool.true (0 : Int)) :: ((Go.Abs.Part.int Go.IntKind.u64 Bool.true (0 : Int)) :: ((Go.Abs.Part.int Go.IntKind.u64 Bool.true (0 : Int)) :: ((Go.Abs.Part.int Go.IntKind.u64 Bool.true (0 : Int)) :: ((Go.Abs.Part.int Go.IntKind.u64 Bool.true (0 : Int)) :: ((Go.Abs.Part.int Go.IntKind.u64 Bool.true (0 : Int)) :: ((Go.Abs.Part.int Go.IntKind.u64 Bool.true (0 : Int)) :: ((Go.Abs.Part.int Go.IntKind.u64 Bool.true (0 : Int)) :: ((Go.Abs.Part.int Go.IntKind.u64 Bool.true (0 : Int)) :: ((Go.Abs.Part.int Go.IntKind.u64 Bool.true (0 : Int)) :: ((Go.Abs.Part.int Go.IntKind.u64 Bool.true (0 : Int)) :: ((Go.Abs.Part.int Go.IntKind.u64 Bool.true (0 : Int)) :: ([] : List (Part FD.τ))))))))))))))))))))))))))))))))))))))))))))))))))))))))))))))))), [(Go.Num.Rng (1 : Int)), (Go.Num.Rng (0 : Int))]) := by kernel_rfl
theorem w_run  :
    ∃ ps, runF Try.prog FD gam27 200 Try.f35 [] [] = some ((Go.Abs.AV.v (Go.Abs.A0.agg ((Go.Abs.Part.int Go.IntKind.u64 Bool.true (0 : Int)) :: ((Go.Abs.Part.int Go.IntKind.u64 Bool.true (0 : Int)) :: ((Go.Abs.Part.int Go.IntKind.u64 Bool.true (0 : Int)) :: ((Go.Abs.Part.int Go.IntKind.u64 Bool.true (0 : Int)) :: ((Go.Abs.Part.int Go.IntKind.u64 Bool.true (0 : Int)) :: ((Go.Abs.Part.int Go.IntKind.u64 Bool.true (0 : Int)) :: ((Go.Abs.Part.int Go.IntKind.u64 Bool.true (0 : Int)) :: ((Go.Abs.Part.int Go.IntKind.u64 Bool.true (0 : Int)) :: ((Go.Abs.Part.int Go.IntKind.u64 Bool.true (0 : Int)) :: ((Go.Abs.Part.int Go.IntKind.u64 Bool.true (0 : Int)) :: ((Go.Abs.Part.int Go.IntKind.u64 Bool.true (0 : Int)) :: ((Go.Abs.Part.int Go.IntKind.u64 Bool.true (0 : Int)) :: ((Go.Abs.Part.int Go.IntKind.u64 Bool.true (0 : Int)) :: ((Go.Abs.Part.int Go.IntKind.u64 Bool.true (0 : Int)) :: ((Go.Abs.Part.int Go.IntKind.u64 Bool.true (0 : Int)) :: ((Go.Abs.Part.int Go.IntKind.u64 Bool.true (0 : Int)) :: ((Go.Abs.Part.int Go.IntKind.u64 Bool.true (0 : Int)) :: ((Go.Abs.Part.int Go.IntKind.u64 Bool.true (0 : Int)) :: ((Go.Abs.Part.int Go.IntKind.u64 Bool.true (0 : Int)) :: ((Go.Abs.Part.int Go.IntKind.u64 Bool.true (0 : Int)) :: ((Go.Abs.Part.int Go.IntKind.u64 Bool.true (0 : Int)) :: ((Go.Abs.Part.int Go.IntKind.u64 Bool.true (0 : Int)) :: ((Go.Abs.Part.int Go.IntKind.u64 Bool.true (0 : Int)) :: ((Go.Abs.Part.int Go.IntKind.u64 Bool.true (0 : Int)) :: ((Go.Abs.Part.int Go.IntKind.u64 Bool.true (0 : Int)) :: ((Go.Abs.Part.int Go.IntKind.u64 Bool.true (0 : Int)) :: ((Go.Abs.Part.int Go.IntKind.u64 Bool.true (0 : Int)) :: ((Go.Abs.Part.int Go.IntKind.u64 Bool.true (0 : Int)) :: ((Go.Abs.Part.int Go.IntKind.u64 Bool.true (0 : Int)) :: ((Go.Abs.Part.int Go.IntKind.u64 Bool.true (0 : Int)) :: ((Go.Abs.Part.int Go.IntKind.u64 Bool.true (0 : Int)) :: ((Go.Abs.Part.int Go.IntKind.u64 Bool.true (0 : Int)) :: ((Go.Abs.Part.int Go.IntKind.u64 Bool.true (0 : Int)) :: ((Go.Abs.Part.int Go.IntKind.u64 Bool.true (0 : Int)) :: ((Go.Abs.Part.int Go.IntKind.u64 Bool.true (0 : Int)) :: ((Go.Abs.Part.int Go.IntKind.u64 Bool.true (0 : Int)) :: ((Go.Abs.Part.tag (Go.Num.T.e2 (@Go.Alg.Quad.mk Int (-(1 : Int)) (1 : Int) (0 : Int)))) :: ((Go.Abs.Part.int Go.IntKind.u64 Bool.true (0 : Int)) :: ((Go.Abs.Part.int Go.IntKind.u64 Bool.true (0 : Int)) :: ((Go.Abs.Part.int Go.IntKind.u64 Bool.true (0 : Int)) :: ((Go.Abs.Part.int Go.IntKind.u64 Bool.true (0 : Int)) :: ((Go.Abs.Part.int Go.IntKind.u64 Bool.true (0 : Int)) :: ((Go.Abs.Part.int Go.IntKind.u64 Bool.true (0 : Int)) :: ((Go.Abs.Part.int Go.IntKind.u64 Bool.true (0 : Int)) :: ((Go.Abs.Part.int Go.IntKind.u64 Bool.true (0 : Int)) :: ((Go.Abs.Part.int Go.IntKind.u64 Bool.true (0 : Int)) :: ((Go.Abs.Part.int Go.IntKind.u64 Bool.true (0 : Int)) :: ((Go.Abs.Part.int Go.IntKind.u64 Bool.true (0 : Int)) :: ((Go.Abs.Part.int Go.IntKind.u64 Bool.true (0 : Int)) :: ((Go.Abs.Part.int Go.IntKind.u64 Bool.true (0 : Int)) :: ((Go.Abs.Part.int Go.IntKind.u64 Bool.true (0 : Int)) :: ((Go.Abs.Part.int Go.IntKind.u64 Bool.true (0 : Int)) :: ((Go.Abs.Part.int Go.IntKind.u64 Bool.true (0 : Int)) :: ((Go.Abs.Part.int Go.IntKind.u64 Bool.true (0 : Int)) :: ((Go.Abs.Part.int Go.IntKind.u64 Bool.true (0 : Int)) :: ((Go.Abs.Part.int Go.IntKind.u64 Bool.true (0 : Int)) :: ((Go.Abs.Part.int Go.IntKind.u64 Bool.true (0 : Int)) :: ((Go.Abs.Part.int Go.IntKind.u64 Bool.true (0 : Int)) :: ((Go.Abs.Part.int Go.IntKind.u64 Bool.true (0 : Int)) :: ((Go.Abs.Part.int Go.IntKind.u64 Bool.true (0 : Int)) :: ((Go.Abs.Part.int Go.IntKind.u64 Bool.true (0 : Int)) :: ([] : List (Part FD.τ))))))))))))))))))))))))))))))))))))))))))))))))))))))))))))))))), ps) ∧ AllQ ps := ⟨_, w_run_r , AllP.all ⟨(show (Go.Num.Rng (1 : Int)) from by decide), (show (Go.Num.Rng (0 : Int)) from by decide)⟩⟩

theorem w_ok : FnOK Try.prog FD 35 (k0D s12 wK) := by
  refine fnOK_of gam27_ok mixed Try.func35 (enters_of Try.func35 (by kernel_rfl) rfl) ?_
  intro xs r ps h hps
  unfold k0D at h
  split at h
  · simp only [Option.some.injEq, Prod.mk.injEq] at h
    obtain ⟨rfl, rfl⟩ := h
    obtain ⟨ps, h1, h2⟩ := w_run
    exact ⟨[], 200, _, _, _, fun w vs h => h, h1, h2, fun E v hv => s12.all_rel (x := wK) (by kernel_rfl) hv⟩
  · cases h

theorem long_a_r (a b : List Int) : runF Try.prog FD [] 200 Try.f10 [.one (.words .u8 a), .one (.words .u8 b)] [.is true] =
    some ((Go.Abs.AV.v (Go.Abs.A0.one (Go.Abs.Part.bool Bool.true Bool.true))), [((decide ((((List.length a) : Nat) : Int) > (2000 : Int))) = Bool.true)]) := by kernel_rfl
theorem long_a (a b : List Int)
    (h1 : ((decide ((((List.length a) : Nat) : Int) > (2000 : Int))) = Bool.true)) :
    ∃ ps, runF Try.prog FD [] 200 Try.f10 [.one (.words .u8 a), .one (.words .u8 b)] [.is true] = some ((Go.Abs.AV.v (Go.Abs.A0.one (Go.Abs.Part.bool Bool.true Bool.true))), ps) ∧ AllQ ps := ⟨_, long_a_r a b, AllP.all h1⟩

theorem long_b_r (a b : List Int) : runF Try.prog FD [] 200 Try.f10 [.one (.words .u8 a), .one (.words .u8 b)] [.is false, .keep, .keep, .keep] =
    some ((Go.Abs.AV.v (Go.Abs.A0.one (Go.Abs.Part.bool (Bool.false && Bool.true) (decide ((((List.length b) : Nat) : Int) > (2000 : Int)))))), [((decide ((((List.length a) : Nat) : Int) > (2000 : Int))) = Bool.false)]) := by kernel_rfl
theorem long_b (a b : List Int)
    (h1 : ((decide ((((List.length a) : Nat) : Int) > (2000 : Int))) = Bool.false)) :
    ∃ ps, runF Try.prog FD [] 200 Try.f10 [.one (.words .u8 a), .one (.words .u8 b)] [.is false, .keep, .keep, .keep] = some ((Go.Abs.AV.v (Go.Abs.A0.one (Go.Abs.Part.bool (Bool.false && Bool.true) (decide ((((List.length b) : Nat) : Int) > (2000 : Int)))))), ps) ∧ AllQ ps := ⟨_, long_b_r a b, AllP.all h1⟩

def bytesOf : Part FD.τ → Option (List Int)
  | .words .u8 l => some l
  | .nil => some []
  | _ => none

theorem bytesOf_rel {E : Env} {p : Part FD.τ} {l : List Int} {v : Value} (h : bytesOf p = some l) (hv : A0Rel FD E (.one p) v) : A0Rel FD E (.one (.words .u8 l)) v := by
  unfold bytesOf at h
  split at h
  · cases h
    exact hv
  · cases h
    have hp : [v] = [Value.slice none 0 0] := hv.2
    exact ⟨hv.1, _, hp, none, 0, rfl, Nat.le_refl _, Nat.zero_le _, fun _ => rfl, fun i hi => by simp at hi⟩
  · cases h

def longD2 : FnD FD
  | [.one p, .one q] => match bytesOf p, bytesOf q with
    | some a, some b => some (.v (.one (.bool false (decide ((a.length : Int) > 2000 ∨ (b.length : Int) > 2000)))), [])
    | _, _ => none
  | _ => none

theorem long_ok : FnOK Try.prog FD 10 longD2 := by
  refine fnOK_of gam_nil mixed Try.func10 (enters_of Try.func10 (by kernel_rfl) rfl) ?_
  intro xs r ps h hps
  unfold longD2 at h
  split at h
  · rename_i p q
    split at h
    · rename_i a b hp hq
      simp only [Option.some.injEq, Prod.mk.injEq] at h
      obtain ⟨rfl, rfl⟩ := h
      by_cases ha : (a.length : Int) > 2000
      · obtain ⟨ps, h1, h2⟩ := long_a a b (decide_eq_true ha)
        exact ⟨_, 200, _, _, _, fun w vs h => args2 (fun v hv => bytesOf_rel hp hv) (fun v hv => bytesOf_rel hq hv) h, h1, h2, fun E v hv => one_bool (decide_eq_true (.inl ha)).symm hv⟩
      · obtain ⟨ps, h1, h2⟩ := long_b a b (decide_eq_false ha)
        exact ⟨_, 200, _, _, _, fun w vs h => args2 (fun v hv => bytesOf_rel hp hv) (fun v hv => bytesOf_rel hq hv) h, h1, h2, fun E v hv => one_bool (decide_eq_decide.2 ⟨.inr, fun h => h.resolve_left ha⟩) hv⟩
    · cases h
  · cases h

def gam28 : Gam FD := (35, k0D s12 wK) :: (12, powD12) :: (10, longD2) :: (17, isD12) :: (18, refMulD) :: (31, c1D s12 s12 frob12) ::
  (20, n22D (fun a _ c _ => a - c) (fun _ b _ d => b - d) (fun a b c d => c ≤ a + fld.m ∧ d ≤ b + fld.m)) :: gam27
theorem gam28_ok : GamOK Try.prog FD gam28 := gam_cons w_ok (gam_cons pow12_ok (gam_cons long_ok (gam_cons is_ok (gam_cons refMul_ok (gam_cons frob_ok (gam_cons sub5_ok gam27_ok))))))

theorem head_run_r  : runF Try.prog FD gam28 200 Try.f9 [] [.is true, .is true, .is true] =
    some ((Go.Abs.AV.v (Go.Abs.A0.one (Go.Abs.Part.bool Bool.true Bool.true))), [(Go.Num.Rng (1 : Int)), (Go.Num.Rng (0 : Int)), (((decide ((((((Go.Num.mul12 Go.Num.wK Go.Num.wK)).1).1).1 % (Go.Num.Fld.m Go.Num.fld)) = ((0 : Int) % (Go.Num.Fld.m Go.Num.fld)))) && ((decide ((((((Go.Num.mul12 Go.Num.wK Go.Num.wK)).1).1).2 % (Go.Num.Fld.m Go.Num.fld)) = ((0 : Int) % (Go.Num.Fld.m Go.Num.fld)))) && ((decide (Go.Alg.Q2 (Go.Num.Fld.m Go.Num.fld) (((Go.Num.mul12 Go.Num.wK Go.Num.wK)).1).2 (@Go.Alg.Quad.mk Int (-(1 : Int)) (1 : Int) (0 : Int)))) && ((decide ((((((Go.Num.mul12 Go.Num.wK Go.Num.wK)).1).3).1 % (Go.Num.Fld.m Go.Num.fld)) = ((0 : Int) % (Go.Num.Fld.m Go.Num.fld)))) && ((decide ((((((Go.Num.mul12 Go.Num.wK Go.Num.wK)).1).3).2 % (Go.Num.Fld.m Go.Num.fld)) = ((0 : Int) % (Go.Num.Fld.m Go.Num.fld)))) && ((decide ((((((Go.Num.mul12 Go.Num.wK Go.Num.wK)).2).1).1 % (Go.Num.Fld.m Go.Num.fld)) = ((0 : Int) % (Go.Num.Fld.m Go.Num.fld)))) && ((decide ((((((Go.Num.mul12 Go.Num.wK Go.Num.wK)).2).1).2 % (Go.Num.Fld.m Go.Num.fld)) = ((0 : Int) % (Go.Num.Fld.m Go.Num.fld)))) && ((decide ((((((Go.Num.mul12 Go.Num.wK Go.Num.wK)).2).2).1 % (Go.Num.Fld.m Go.Num.fld)) = ((0 : Int) % (Go.Num.Fld.m Go.Num.fld)))) && ((decide ((((((Go.Num.mul12 Go.Num.wK Go.Num.wK)).2).2).2 % (Go.Num.Fld.m Go.Num.fld)) = ((0 : Int) % (Go.Num.Fld.m Go.Num.fld)))) && ((decide ((((((Go.Num.mul12 Go.Num.wK Go.Num.wK)).2).3).1 % (Go.Num.Fld.m Go.Num.fld)) = ((0 : Int) % (Go.Num.Fld.m Go.Num.fld)))) && (decide ((((((Go.Num.mul12 Go.Num.wK Go.Num.wK)).2).3).2 % (Go.Num.Fld.m Go.Num.fld)) = ((0 : Int) % (Go.Num.Fld.m Go.Num.fld)))))))))))))) = Bool.true), (Go.Abs.EqT Go.Proofs.Try.prog (40 : Nat)), (Go.Num.InB ((6 : Int) :: ([] : List (Int)))), ((1 : Nat) ≤ (9223372036854775806 : Nat)), (Go.Num.Rng (1 : Int)), (Go.Num.Rng (1 : Int)), (((decide (Go.Alg.Q2 (Go.Num.Fld.m Go.Num.fld) (((Go.Alg.pw Go.Num.wK (6 : Nat))).1).1 (@Go.Alg.Quad.mk Int (-(1 : Int)) (1 : Int) (1 : Int)))) && ((decide ((((((Go.Alg.pw Go.Num.wK (6 : Nat))).1).2).1 % (Go.Num.Fld.m Go.Num.fld)) = ((0 : Int) % (Go.Num.Fld.m Go.Num.fld)))) && ((decide ((((((Go.Alg.pw Go.Num.wK (6 : Nat))).1).2).2 % (Go.Num.Fld.m Go.Num.fld)) = ((0 : Int) % (Go.Num.Fld.m Go.Num.fld)))) && ((decide ((((((Go.Alg.pw Go.Num.wK (6 : Nat))).1).3).1 % (Go.Num.Fld.m Go.Num.fld)) = ((0 : Int) % (Go.Num.Fld.m Go.Num.fld)))) && ((decide ((((((Go.Alg.pw Go.Num.wK (6 : Nat))).1).3).2 % (Go.Num.Fld.m Go.Num.fld)) = ((0 : Int) % (Go.Num.Fld.m Go.Num.fld)))) && ((decide ((((((Go.Alg.pw Go.Num.wK (6 : Nat))).2).1).1 % (Go.Num.Fld.m Go.Num.fld)) = ((0 : Int) % (Go.Num.Fld.m Go.Num.fld)))) && ((decide ((((((Go.Alg.pw Go.Num.wK (6 : Nat))).2).1).2 % (Go.Num.Fld.m Go.Num.fld)) = ((0 : Int) % (Go.Num.Fld.m Go.Num.fld)))) && ((decide ((((((Go.Alg.pw Go.Num.wK (6 : Nat))).2).2).1 % (Go.Num.Fld.m Go.Num.fld)) = ((0 : Int) % (Go.Num.Fld.m Go.Num.fld)))) && ((decide ((((((Go.Alg.pw Go.Num.wK (6 : Nat))).2).2).2 % (Go.Num.Fld.m Go.Num.fld)) = ((0 : Int) % (Go.Num.Fld.m Go.Num.fld)))) && ((decide ((((((Go.Alg.pw Go.Num.wK (6 : Nat))).2).3).1 % (Go.Num.Fld.m Go.Num.fld)) = ((0 : Int) % (Go.Num.Fld.m Go.Num.fld)))) && (decide ((((((Go.Alg.pw Go.Num.wK (6 : Nat))).2).3).2 % (Go.Num.Fld.m Go.Num.fld)) = ((0 : Int) % (Go.Num.Fld.m Go.Num.fld)))))))))))))) = Bool.true), (Go.Abs.EqT Go.Proofs.Try.prog (40 : Nat)), ((!((decide ((((((1 : K12)).1).1).1 % (Go.Num.Fld.m Go.Num.fld)) = ((0 : Int) % (Go.Num.Fld.m Go.Num.fld)))) && ((decide ((((((1 : K12)).1).1).2 % (Go.Num.Fld.m Go.Num.fld)) = ((0 : Int) % (Go.Num.Fld.m Go.Num.fld)))) && ((decide ((((((1 : K12)).1).2).1 % (Go.Num.Fld.m Go.Num.fld)) = ((0 : Int) % (Go.Num.Fld.m Go.Num.fld)))) && ((decide ((((((1 : K12)).1).2).2 % (Go.Num.Fld.m Go.Num.fld)) = ((0 : Int) % (Go.Num.Fld.m Go.Num.fld)))) && ((decide ((((((1 : K12)).1).3).1 % (Go.Num.Fld.m Go.Num.fld)) = ((0 : Int) % (Go.Num.Fld.m Go.Num.fld)))) && ((decide ((((((1 : K12)).1).3).2 % (Go.Num.Fld.m Go.Num.fld)) = ((0 : Int) % (Go.Num.Fld.m Go.Num.fld)))) && ((decide ((((((1 : K12)).2).1).1 % (Go.Num.Fld.m Go.Num.fld)) = ((0 : Int) % (Go.Num.Fld.m Go.Num.fld)))) && ((decide ((((((1 : K12)).2).1).2 % (Go.Num.Fld.m Go.Num.fld)) = ((0 : Int) % (Go.Num.Fld.m Go.Num.fld)))) && ((decide ((((((1 : K12)).2).2).1 % (Go.Num.Fld.m Go.Num.fld)) = ((0 : Int) % (Go.Num.Fld.m Go.Num.fld)))) && ((decide ((((((1 : K12)).2).2).2 % (Go.Num.Fld.m Go.Num.fld)) = ((0 : Int) % (Go.Num.Fld.m Go.Num.fld)))) && ((decide ((((((1 : K12)).2).3).1 % (Go.Num.Fld.m Go.Num.fld)) = ((0 : Int) % (Go.Num.Fld.m Go.Num.fld)))) && (decide ((((((1 : K12)).2).3).2 % (Go.Num.Fld.m Go.Num.fld)) = ((0 : Int) % (Go.Num.Fld.m Go.Num.fld)))))))))))))))) = Bool.true), (Go.Abs.EqT Go.Proofs.Try.prog (40 : Nat))]) := by kernel_rfl
theorem head_run 
    (h1 : (((decide ((((((Go.Num.mul12 Go.Num.wK Go.Num.wK)).1).1).1 % (Go.Num.Fld.m Go.Num.fld)) = ((0 : Int) % (Go.Num.Fld.m Go.Num.fld)))) && ((decide ((((((Go.Num.mul12 Go.Num.wK Go.Num.wK)).1).1).2 % (Go.Num.Fld.m Go.Num.fld)) = ((0 : Int) % (Go.Num.Fld.m Go.Num.fld)))) && ((decide (Go.Alg.Q2 (Go.Num.Fld.m Go.Num.fld) (((Go.Num.mul12 Go.Num.wK Go.Num.wK)).1).2 (@Go.Alg.Quad.mk Int (-(1 : Int)) (1 : Int) (0 : Int)))) && ((decide ((((((Go.Num.mul12 Go.Num.wK Go.Num.wK)).1).3).1 % (Go.Num.Fld.m Go.Num.fld)) = ((0 : Int) % (Go.Num.Fld.m Go.Num.fld)))) && ((decide ((((((Go.Num.mul12 Go.Num.wK Go.Num.wK)).1).3).2 % (Go.Num.Fld.m Go.Num.fld)) = ((0 : Int) % (Go.Num.Fld.m Go.Num.fld)))) && ((decide ((((((Go.Num.mul12 Go.Num.wK Go.Num.wK)).2).1).1 % (Go.Num.Fld.m Go.Num.fld)) = ((0 : Int) % (Go.Num.Fld.m Go.Num.fld)))) && ((decide ((((((Go.Num.mul12 Go.Num.wK Go.Num.wK)).2).1).2 % (Go.Num.Fld.m Go.Num.fld)) = ((0 : Int) % (Go.Num.Fld.m Go.Num.fld)))) && ((decide ((((((Go.Num.mul12 Go.Num.wK Go.Num.wK)).2).2).1 % (Go.Num.Fld.m Go.Num.fld)) = ((0 : Int) % (Go.Num.Fld.m Go.Num.fld)))) && ((decide ((((((Go.Num.mul12 Go.Num.wK Go.Num.wK)).2).2).2 % (Go.Num.Fld.m Go.Num.fld)) = ((0 : Int) % (Go.Num.Fld.m Go.Num.fld)))) && ((decide ((((((Go.Num.mul12 Go.Num.wK Go.Num.wK)).2).3).1 % (Go.Num.Fld.m Go.Num.fld)) = ((0 : Int) % (Go.Num.Fld.m Go.Num.fld)))) && (decide ((((((Go.Num.mul12 Go.Num.wK Go.Num.wK)).2).3).2 % (Go.Num.Fld.m Go.Num.fld)) = ((0 : Int) % (Go.Num.Fld.m Go.Num.fld)))))))))))))) = Bool.true))
    (h2 : (Go.Abs.EqT Go.Proofs.Try.prog (40 : Nat)))
    (h3 : (Go.Num.InB ((6 : Int) :: ([] : List (Int)))))
    (h4 : (((decide (Go.Alg.Q2 (Go.Num.Fld.m Go.Num.fld) (((Go.Alg.pw Go.Num.wK (6 : Nat))).1).1 (@Go.Alg.Quad.mk Int (-(1 : Int)) (1 : Int) (1 : Int)))) && ((decide ((((((Go.Alg.pw Go.Num.wK (6 : Nat))).1).2).1 % (Go.Num.Fld.m Go.Num.fld)) = ((0 : Int) % (Go.Num.Fld.m Go.Num.fld)))) && ((decide ((((((Go.Alg.pw Go.Num.wK (6 : Nat))).1).2).2 % (Go.Num.Fld.m Go.Num.fld)) = ((0 : Int) % (Go.Num.Fld.m Go.Num.fld)))) && ((decide ((((((Go.Alg.pw Go.Num.wK (6 : Nat))).1).3).1 % (Go.Num.Fld.m Go.Num.fld)) = ((0 : Int) % (Go.Num.Fld.m Go.Num.fld)))) && ((decide ((((((Go.Alg.pw Go.Num.wK (6 : Nat))).1).3).2 % (Go.Num.Fld.m Go.Num.fld)) = ((0 : Int) % (Go.Num.Fld.m Go.Num.fld)))) && ((decide ((((((Go.Alg.pw Go.Num.wK (6 : Nat))).2).1).1 % (Go.Num.Fld.m Go.Num.fld)) = ((0 : Int) % (Go.Num.Fld.m Go.Num.fld)))) && ((decide ((((((Go.Alg.pw Go.Num.wK (6 : Nat))).2).1).2 % (Go.Num.Fld.m Go.Num.fld)) = ((0 : Int) % (Go.Num.Fld.m Go.Num.fld)))) && ((decide ((((((Go.Alg.pw Go.Num.wK (6 : Nat))).2).2).1 % (Go.Num.Fld.m Go.Num.fld)) = ((0 : Int) % (Go.Num.Fld.m Go.Num.fld)))) && ((decide ((((((Go.Alg.pw Go.Num.wK (6 : Nat))).2).2).2 % (Go.Num.Fld.m Go.Num.fld)) = ((0 : Int) % (Go.Num.Fld.m Go.Num.fld)))) && ((decide ((((((Go.Alg.pw Go.Num.wK (6 : Nat))).2).3).1 % (Go.Num.Fld.m Go.Num.fld)) = ((0 : Int) % (Go.Num.Fld.m Go.Num.fld)))) && (decide ((((((Go.Alg.pw Go.Num.wK (6 : Nat))).2).3).2 % (Go.Num.Fld.m Go.Num.fld)) = ((0 : Int) % (Go.Num.Fld.m Go.Num.fld)))))))))))))) = Bool.true)) :
    ∃ ps, runF Try.prog FD gam28 200 Try.f9 [] [.is true, .is true, .is true] = some ((Go.Abs.AV.v (Go.Abs.A0.one (Go.Abs.Part.bool Bool.true Bool.true))), ps) ∧ AllQ ps := ⟨_, head_run_r , AllP.all ⟨(show (Go.Num.Rng (1 : Int)) from by decide), (show (Go.Num.Rng (0 : Int)) from by decide), h1, h2, h3, (show ((1 : Nat) ≤ (9223372036854775806 : Nat)) from by decide), (show (Go.Num.Rng (1 : Int)) from by decide), (show (Go.Num.Rng (1 : Int)) from by decide), h4, h2, (show ((!((decide ((((((1 : K12)).1).1).1 % (Go.Num.Fld.m Go.Num.fld)) = ((0 : Int) % (Go.Num.Fld.m Go.Num.fld)))) && ((decide ((((((1 : K12)).1).1).2 % (Go.Num.Fld.m Go.Num.fld)) = ((0 : Int) % (Go.Num.Fld.m Go.Num.fld)))) && ((decide ((((((1 : K12)).1).2).1 % (Go.Num.Fld.m Go.Num.fld)) = ((0 : Int) % (Go.Num.Fld.m Go.Num.fld)))) && ((decide ((((((1 : K12)).1).2).2 % (Go.Num.Fld.m Go.Num.fld)) = ((0 : Int) % (Go.Num.Fld.m Go.Num.fld)))) && ((decide ((((((1 : K12)).1).3).1 % (Go.Num.Fld.m Go.Num.fld)) = ((0 : Int) % (Go.Num.Fld.m Go.Num.fld)))) && ((decide ((((((1 : K12)).1).3).2 % (Go.Num.Fld.m Go.Num.fld)) = ((0 : Int) % (Go.Num.Fld.m Go.Num.fld)))) && ((decide ((((((1 : K12)).2).1).1 % (Go.Num.Fld.m Go.Num.fld)) = ((0 : Int) % (Go.Num.Fld.m Go.Num.fld)))) && ((decide ((((((1 : K12)).2).1).2 % (Go.Num.Fld.m Go.Num.fld)) = ((0 : Int) % (Go.Num.Fld.m Go.Num.fld)))) && ((decide ((((((1 : K12)).2).2).1 % (Go.Num.Fld.m Go.Num.fld)) = ((0 : Int) % (Go.Num.Fld.m Go.Num.fld)))) && ((decide ((((((1 : K12)).2).2).2 % (Go.Num.Fld.m Go.Num.fld)) = ((0 : Int) % (Go.Num.Fld.m Go.Num.fld)))) && ((decide ((((((1 : K12)).2).3).1 % (Go.Num.Fld.m Go.Num.fld)) = ((0 : Int) % (Go.Num.Fld.m Go.Num.fld)))) && (decide ((((((1 : K12)).2).3).2 % (Go.Num.Fld.m Go.Num.fld)) = ((0 : Int) % (Go.Num.Fld.m Go.Num.fld)))))))))))))))) = Bool.true) from by decide), h2⟩⟩

def headD : FnD FD
  | [] => some (.v (.one (.bool true true)), [])
  | _ => none

theorem ww : mul12 wK wK = e2' 1 := by
  show wK * wK = e2' 1
  have h : wK = e1 1 := rfl
  rw [← e12, ← h]

theorem inB_lit {l : List Int} (h : l.all (fun a => decide (0 ≤ a ∧ a < 256)) = true) : InB l := fun a ha => of_decide_eq_true (List.all_eq_true.1 h a ha)

theorem head_ok : FnOK Try.prog FD 9 headD := by
  refine fnOK_of gam28_ok mixed Try.func9 (enters_of Try.func9 (by kernel_rfl) rfl) ?_
  intro xs r ps h hps
  unfold headD at h
  split at h
  · simp only [Option.some.injEq, Prod.mk.injEq] at h
    obtain ⟨rfl, rfl⟩ := h
    obtain ⟨ps, h1, h2⟩ := head_run (by rw [ww]; kernel_rfl) e12_eqT (inB_lit rfl) (by rw [w6]; kernel_rfl)
    exact ⟨[], 200, _, _, _, fun w vs h => h, h1, h2, fun E v hv => hv⟩
  · cases h

def gam29 : Gam FD := (9, headD) :: gam28
theorem gam29_ok : GamOK Try.prog FD gam29 := gam_cons head_ok gam28_ok

end Go.Num
