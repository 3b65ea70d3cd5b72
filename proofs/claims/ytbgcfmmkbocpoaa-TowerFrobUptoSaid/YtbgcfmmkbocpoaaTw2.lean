/- Pairs of a field's numbers: inverses, bytes; and the reference's pairs. -/
import Derived.Test.YtbgcfmmkbocpoaaTw1
namespace Go.Num
open Go.Abs Go.Proofs Go.Shelf Go.Alg

theorem e2_eqT : EqT Try.prog 36 := eqT_of (n := 2 * 6) (by kernel_rfl) (by kernel_rfl) (by kernel_rfl) (by kernel_rfl)


def gam9 : Gam FD := (69, sclD) :: (70, nrmD) :: (16, small2D) :: gam8
theorem gam9_ok : GamOK Try.prog FD gam9 := gam_cons scl_ok (gam_cons nrm_ok (gam_cons small2_ok gam8_ok))

theorem inv2_run_r (x : K2) : runF Try.prog FD gam9 100 Try.f52 [eP x] [] =
    some ((Go.Abs.AV.v (Go.Abs.A0.agg ((Go.Abs.Part.tag (Go.Num.T.e2 (Go.Num.scl (Go.Num.cj (@Go.Alg.Quad.mk Int (-(1 : Int)) (x).1 (x).2)) (Go.Num.invOf (Go.Num.nrm (@Go.Alg.Quad.mk Int (-(1 : Int)) (x).1 (x).2)))))) :: ([] : List (Part FD.τ))))), []) := by kernel_rfl
theorem inv2_run (x : K2) :
    ∃ ps, runF Try.prog FD gam9 100 Try.f52 [eP x] [] = some ((Go.Abs.AV.v (Go.Abs.A0.agg ((Go.Abs.Part.tag (Go.Num.T.e2 (Go.Num.scl (Go.Num.cj (@Go.Alg.Quad.mk Int (-(1 : Int)) (x).1 (x).2)) (Go.Num.invOf (Go.Num.nrm (@Go.Alg.Quad.mk Int (-(1 : Int)) (x).1 (x).2)))))) :: ([] : List (Part FD.τ))))), ps) ∧ AllQ ps := ⟨_, inv2_run_r x, allQ_nil⟩

theorem inv2_ok : FnOK Try.prog FD 52 (p12D inv2) := by
  refine p12_ok gam9_ok Try.func52 (enters_of Try.func52 (by kernel_rfl) rfl) (fun x => ?_)
  obtain ⟨ps, h1, h2⟩ := inv2_run x
  exact ⟨_, _, _, _, _, h1, h2, rfl, q2_refl _⟩







/-! bytes -/


def gam10 : Gam FD := (52, p12D inv2) :: (30, bytesD) :: (62, readD) :: gam9
theorem gam10_ok : GamOK Try.prog FD gam10 := gam_cons inv2_ok (gam_cons bytes_ok (gam_cons read_ok gam9_ok))

def bytes2D : FnD FD
  | [.agg p] => match k2Of p with
    | some x => some (.v (.agg [.ints .u8 (beB 48 (x.b % fld.m) ++ beB 48 (x.a % fld.m))]), [])
    | _ => none
  | _ => none

theorem bytes2_run_r (x : K2) : runF Try.prog FD gam10 100 Try.f43 [eP x] [] =
    some ((Go.Abs.AV.v (Go.Abs.A0.agg ((Go.Abs.Part.ints Go.IntKind.u8 (Go.Num.beB (48 : Nat) ((x).2 % (Go.Num.Fld.m Go.Num.fld)))) :: ((Go.Abs.Part.ints Go.IntKind.u8 (Go.Num.beB (48 : Nat) ((x).1 % (Go.Num.Fld.m Go.Num.fld)))) :: ([] : List (Part FD.τ)))))), [((0 : Int) ≤ (0 : Int)), ((0 : Int) ≤ (48 : Int)), ((48 : Int) ≤ (((96 : Nat) : Nat) : Int)), ((0 : Int) < (((96 : Nat) : Nat) : Int)), ((List.length (Go.Num.beB (48 : Nat) ((x).2 % (Go.Num.Fld.m Go.Num.fld)))) = ((48 : Nat) - (0 : Nat))), ((0 : Int) ≤ (48 : Int)), ((48 : Int) ≤ (((96 : Nat) : Nat) : Int)), ((((96 : Nat) : Nat) : Int) ≤ (((96 : Nat) : Nat) : Int)), ((48 : Int) < (((96 : Nat) : Nat) : Int)), ((List.length (Go.Num.beB (48 : Nat) ((x).1 % (Go.Num.Fld.m Go.Num.fld)))) = ((96 : Nat) - (48 : Nat)))]) := by kernel_rfl
theorem bytes2_run (x : K2)
    (h1 : ((List.length (Go.Num.beB (48 : Nat) ((x).2 % (Go.Num.Fld.m Go.Num.fld)))) = ((48 : Nat) - (0 : Nat))))
    (h2 : ((List.length (Go.Num.beB (48 : Nat) ((x).1 % (Go.Num.Fld.m Go.Num.fld)))) = ((96 : Nat) - (48 : Nat)))) :
    ∃ ps, runF Try.prog FD gam10 100 Try.f43 [eP x] [] = some ((Go.Abs.AV.v (Go.Abs.A0.agg ((Go.Abs.Part.ints Go.IntKind.u8 (Go.Num.beB (48 : Nat) ((x).2 % (Go.Num.Fld.m Go.Num.fld)))) :: ((Go.Abs.Part.ints Go.IntKind.u8 (Go.Num.beB (48 : Nat) ((x).1 % (Go.Num.Fld.m Go.Num.fld)))) :: ([] : List (Part FD.τ)))))), ps) ∧ AllQ ps := ⟨_, bytes2_run_r x, AllP.all ⟨(show ((0 : Int) ≤ (0 : Int)) from by decide), (show ((0 : Int) ≤ (48 : Int)) from by decide), (show ((48 : Int) ≤ (((96 : Nat) : Nat) : Int)) from by decide), (show ((0 : Int) < (((96 : Nat) : Nat) : Int)) from by decide), h1, (show ((0 : Int) ≤ (48 : Int)) from by decide), (show ((48 : Int) ≤ (((96 : Nat) : Nat) : Int)) from by decide), (show ((((96 : Nat) : Nat) : Int) ≤ (((96 : Nat) : Nat) : Int)) from by decide), (show ((48 : Int) < (((96 : Nat) : Nat) : Int)) from by decide), h2⟩⟩

theorem bytes2_ok : FnOK Try.prog FD 43 bytes2D := by
  refine fnOK_of gam10_ok mixed Try.func43 (enters_of Try.func43 (by kernel_rfl) rfl) ?_
  intro xs r ps h hps
  unfold bytes2D at h
  split at h
  · rename_i p
    split at h
    · rename_i x hx
      simp only [Option.some.injEq, Prod.mk.injEq] at h
      obtain ⟨rfl, rfl⟩ := h
      obtain ⟨ps, h1, h2⟩ := bytes2_run x (beB_len _ _) (beB_len _ _)
      refine ⟨_, 100, _, _, _, fun w vs h => args1 (fun v hv => k2_els hx hv) h, h1, h2, fun E v hv => ?_⟩
      obtain ⟨cs, e, c1, c2, rfl, k1, d1, d2, rfl, k2, k3⟩ := hv
      cases k3
      have k1' : c1 = (beB 48 (x.b % fld.m)).map (Value.int .u8) := k1
      have k2' : d1 = (beB 48 (x.a % fld.m)).map (Value.int .u8) := k2
      exact ⟨_, e, c1 ++ (d1 ++ []), [], (List.append_nil _).symm, by rw [k1', k2', List.append_nil, ← List.map_append]; rfl, rfl⟩
    · cases h
  · cases h

/-- The pair that bytes are, if they are one; else nought. -/
def ok2 (l : List Int) : Prop := l.length = 2 * 48 ∧ be (l.take 48) < fld.m ∧ be (l.drop 48) < fld.m
instance (l : List Int) : Decidable (ok2 l) := inferInstanceAs (Decidable (_ ∧ _))
def read2N (l : List Int) : K2 := if ok2 l then ⟨be (l.drop 48), be (l.take 48)⟩ else 0
def read2E (l : List Int) : Int := if l.length = 2 * 48 then (if ok2 l then 0 else 12) else 10

def read2D : FnD FD
  | [.one (.words .u8 l)] => some (.tup [.agg [.tag (.e2 (read2N l))], .one (.int .i64 false (read2E l))], [InB l, l.length ≤ 9223372036854775807])
  | _ => none

theorem read2_len_r (l : List Int) : runF Try.prog FD gam10 100 Try.f38 [.one (.words .u8 l)] [.is true] =
    some ((Go.Abs.AV.tup ((Go.Abs.A0.agg ((Go.Abs.Part.int Go.IntKind.u64 Bool.true (0 : Int)) :: ((Go.Abs.Part.int Go.IntKind.u64 Bool.true (0 : Int)) :: ((Go.Abs.Part.int Go.IntKind.u64 Bool.true (0 : Int)) :: ((Go.Abs.Part.int Go.IntKind.u64 Bool.true (0 : Int)) :: ((Go.Abs.Part.int Go.IntKind.u64 Bool.true (0 : Int)) :: ((Go.Abs.Part.int Go.IntKind.u64 Bool.true (0 : Int)) :: ((Go.Abs.Part.int Go.IntKind.u64 Bool.true (0 : Int)) :: ((Go.Abs.Part.int Go.IntKind.u64 Bool.true (0 : Int)) :: ((Go.Abs.Part.int Go.IntKind.u64 Bool.true (0 : Int)) :: ((Go.Abs.Part.int Go.IntKind.u64 Bool.true (0 : Int)) :: ((Go.Abs.Part.int Go.IntKind.u64 Bool.true (0 : Int)) :: ((Go.Abs.Part.int Go.IntKind.u64 Bool.true (0 : Int)) :: ([] : List (Part FD.τ))))))))))))))) :: ((Go.Abs.A0.one (Go.Abs.Part.int Go.IntKind.i64 Bool.true (10 : Int))) :: ([] : List (A0 FD.τ))))), [(((((List.length l) : Nat) : Int) != (96 : Int)) = Bool.true)]) := by kernel_rfl
theorem read2_len (l : List Int)
    (h1 : (((((List.length l) : Nat) : Int) != (96 : Int)) = Bool.true)) :
    ∃ ps, runF Try.prog FD gam10 100 Try.f38 [.one (.words .u8 l)] [.is true] = some ((Go.Abs.AV.tup ((Go.Abs.A0.agg ((Go.Abs.Part.int Go.IntKind.u64 Bool.true (0 : Int)) :: ((Go.Abs.Part.int Go.IntKind.u64 Bool.true (0 : Int)) :: ((Go.Abs.Part.int Go.IntKind.u64 Bool.true (0 : Int)) :: ((Go.Abs.Part.int Go.IntKind.u64 Bool.true (0 : Int)) :: ((Go.Abs.Part.int Go.IntKind.u64 Bool.true (0 : Int)) :: ((Go.Abs.Part.int Go.IntKind.u64 Bool.true (0 : Int)) :: ((Go.Abs.Part.int Go.IntKind.u64 Bool.true (0 : Int)) :: ((Go.Abs.Part.int Go.IntKind.u64 Bool.true (0 : Int)) :: ((Go.Abs.Part.int Go.IntKind.u64 Bool.true (0 : Int)) :: ((Go.Abs.Part.int Go.IntKind.u64 Bool.true (0 : Int)) :: ((Go.Abs.Part.int Go.IntKind.u64 Bool.true (0 : Int)) :: ((Go.Abs.Part.int Go.IntKind.u64 Bool.true (0 : Int)) :: ([] : List (Part FD.τ))))))))))))))) :: ((Go.Abs.A0.one (Go.Abs.Part.int Go.IntKind.i64 Bool.true (10 : Int))) :: ([] : List (A0 FD.τ))))), ps) ∧ AllQ ps := ⟨_, read2_len_r l, AllP.all h1⟩

theorem read2_high_r (l : List Int) : runF Try.prog FD gam10 100 Try.f38 [.one (.words .u8 l)] [.is false, .is true] =
    some ((Go.Abs.AV.tup ((Go.Abs.A0.agg ((Go.Abs.Part.int Go.IntKind.u64 Bool.true (0 : Int)) :: ((Go.Abs.Part.int Go.IntKind.u64 Bool.true (0 : Int)) :: ((Go.Abs.Part.int Go.IntKind.u64 Bool.true (0 : Int)) :: ((Go.Abs.Part.int Go.IntKind.u64 Bool.true (0 : Int)) :: ((Go.Abs.Part.int Go.IntKind.u64 Bool.true (0 : Int)) :: ((Go.Abs.Part.int Go.IntKind.u64 Bool.true (0 : Int)) :: ((Go.Abs.Part.int Go.IntKind.u64 Bool.true (0 : Int)) :: ((Go.Abs.Part.int Go.IntKind.u64 Bool.true (0 : Int)) :: ((Go.Abs.Part.int Go.IntKind.u64 Bool.true (0 : Int)) :: ((Go.Abs.Part.int Go.IntKind.u64 Bool.true (0 : Int)) :: ((Go.Abs.Part.int Go.IntKind.u64 Bool.true (0 : Int)) :: ((Go.Abs.Part.int Go.IntKind.u64 Bool.true (0 : Int)) :: ([] : List (Part FD.τ))))))))))))))) :: ((Go.Abs.A0.one (Go.Abs.Part.int Go.IntKind.i64 Bool.false (Go.Num.readE (List.drop (0 : Nat) (List.take (48 : Nat) l))))) :: ([] : List (A0 FD.τ))))), [(((((List.length l) : Nat) : Int) != (96 : Int)) = Bool.false), ((0 : Int) ≤ (0 : Int)), ((0 : Int) ≤ (48 : Int)), ((48 : Int) ≤ (((List.length l) : Nat) : Int)), (Go.Num.InB (List.drop (0 : Nat) (List.take (48 : Nat) l))), ((List.length (List.drop (0 : Nat) (List.take (48 : Nat) l))) ≤ (9223372036854775807 : Nat)), (((Go.Num.readE (List.drop (0 : Nat) (List.take (48 : Nat) l))) != (0 : Int)) = Bool.true)]) := by kernel_rfl
theorem read2_high (l : List Int)
    (h1 : (((((List.length l) : Nat) : Int) != (96 : Int)) = Bool.false))
    (h2 : ((48 : Int) ≤ (((List.length l) : Nat) : Int)))
    (h3 : (Go.Num.InB (List.drop (0 : Nat) (List.take (48 : Nat) l))))
    (h4 : ((List.length (List.drop (0 : Nat) (List.take (48 : Nat) l))) ≤ (9223372036854775807 : Nat)))
    (h5 : (((Go.Num.readE (List.drop (0 : Nat) (List.take (48 : Nat) l))) != (0 : Int)) = Bool.true)) :
    ∃ ps, runF Try.prog FD gam10 100 Try.f38 [.one (.words .u8 l)] [.is false, .is true] = some ((Go.Abs.AV.tup ((Go.Abs.A0.agg ((Go.Abs.Part.int Go.IntKind.u64 Bool.true (0 : Int)) :: ((Go.Abs.Part.int Go.IntKind.u64 Bool.true (0 : Int)) :: ((Go.Abs.Part.int Go.IntKind.u64 Bool.true (0 : Int)) :: ((Go.Abs.Part.int Go.IntKind.u64 Bool.true (0 : Int)) :: ((Go.Abs.Part.int Go.IntKind.u64 Bool.true (0 : Int)) :: ((Go.Abs.Part.int Go.IntKind.u64 Bool.true (0 : Int)) :: ((Go.Abs.Part.int Go.IntKind.u64 Bool.true (0 : Int)) :: ((Go.Abs.Part.int Go.IntKind.u64 Bool.true (0 : Int)) :: ((Go.Abs.Part.int Go.IntKind.u64 Bool.true (0 : Int)) :: ((Go.Abs.Part.int Go.IntKind.u64 Bool.true (0 : Int)) :: ((Go.Abs.Part.int Go.IntKind.u64 Bool.true (0 : Int)) :: ((Go.Abs.Part.int Go.IntKind.u64 Bool.true (0 : Int)) :: ([] : List (Part FD.τ))))))))))))))) :: ((Go.Abs.A0.one (Go.Abs.Part.int Go.IntKind.i64 Bool.false (Go.Num.readE (List.drop (0 : Nat) (List.take (48 : Nat) l))))) :: ([] : List (A0 FD.τ))))), ps) ∧ AllQ ps := ⟨_, read2_high_r l, AllP.all ⟨h1, (show ((0 : Int) ≤ (0 : Int)) from by decide), (show ((0 : Int) ≤ (48 : Int)) from by decide), h2, h3, h4, h5⟩⟩

theorem read2_low_r (l : List Int) : runF Try.prog FD gam10 100 Try.f38 [.one (.words .u8 l)] [.is false, .is false, .is true] =
    some ((Go.Abs.AV.tup ((Go.Abs.A0.agg ((Go.Abs.Part.int Go.IntKind.u64 Bool.true (0 : Int)) :: ((Go.Abs.Part.int Go.IntKind.u64 Bool.true (0 : Int)) :: ((Go.Abs.Part.int Go.IntKind.u64 Bool.true (0 : Int)) :: ((Go.Abs.Part.int Go.IntKind.u64 Bool.true (0 : Int)) :: ((Go.Abs.Part.int Go.IntKind.u64 Bool.true (0 : Int)) :: ((Go.Abs.Part.int Go.IntKind.u64 Bool.true (0 : Int)) :: ((Go.Abs.Part.int Go.IntKind.u64 Bool.true (0 : Int)) :: ((Go.Abs.Part.int Go.IntKind.u64 Bool.true (0 : Int)) :: ((Go.Abs.Part.int Go.IntKind.u64 Bool.true (0 : Int)) :: ((Go.Abs.Part.int Go.IntKind.u64 Bool.true (0 : Int)) :: ((Go.Abs.Part.int Go.IntKind.u64 Bool.true (0 : Int)) :: ((Go.Abs.Part.int Go.IntKind.u64 Bool.true (0 : Int)) :: ([] : List (Part FD.τ))))))))))))))) :: ((Go.Abs.A0.one (Go.Abs.Part.int Go.IntKind.i64 Bool.false (Go.Num.readE (List.drop (48 : Nat) (List.take (Int.toNat (((List.length l) : Nat) : Int)) l))))) :: ([] : List (A0 FD.τ))))), [(((((List.length l) : Nat) : Int) != (96 : Int)) = Bool.false), ((0 : Int) ≤ (0 : Int)), ((0 : Int) ≤ (48 : Int)), ((48 : Int) ≤ (((List.length l) : Nat) : Int)), (Go.Num.InB (List.drop (0 : Nat) (List.take (48 : Nat) l))), ((List.length (List.drop (0 : Nat) (List.take (48 : Nat) l))) ≤ (9223372036854775807 : Nat)), (((Go.Num.readE (List.drop (0 : Nat) (List.take (48 : Nat) l))) != (0 : Int)) = Bool.false), ((0 : Int) ≤ (48 : Int)), ((48 : Int) ≤ (((List.length l) : Nat) : Int)), ((((List.length l) : Nat) : Int) ≤ (((List.length l) : Nat) : Int)), (Go.Num.InB (List.drop (48 : Nat) (List.take (Int.toNat (((List.length l) : Nat) : Int)) l))), ((List.length (List.drop (48 : Nat) (List.take (Int.toNat (((List.length l) : Nat) : Int)) l))) ≤ (9223372036854775807 : Nat)), (((Go.Num.readE (List.drop (48 : Nat) (List.take (Int.toNat (((List.length l) : Nat) : Int)) l))) != (0 : Int)) = Bool.true)]) := by kernel_rfl
theorem read2_low (l : List Int)
    (h1 : (((((List.length l) : Nat) : Int) != (96 : Int)) = Bool.false))
    (h2 : ((48 : Int) ≤ (((List.length l) : Nat) : Int)))
    (h3 : (Go.Num.InB (List.drop (0 : Nat) (List.take (48 : Nat) l))))
    (h4 : ((List.length (List.drop (0 : Nat) (List.take (48 : Nat) l))) ≤ (9223372036854775807 : Nat)))
    (h5 : (((Go.Num.readE (List.drop (0 : Nat) (List.take (48 : Nat) l))) != (0 : Int)) = Bool.false))
    (h6 : ((((List.length l) : Nat) : Int) ≤ (((List.length l) : Nat) : Int)))
    (h7 : (Go.Num.InB (List.drop (48 : Nat) (List.take (Int.toNat (((List.length l) : Nat) : Int)) l))))
    (h8 : ((List.length (List.drop (48 : Nat) (List.take (Int.toNat (((List.length l) : Nat) : Int)) l))) ≤ (9223372036854775807 : Nat)))
    (h9 : (((Go.Num.readE (List.drop (48 : Nat) (List.take (Int.toNat (((List.length l) : Nat) : Int)) l))) != (0 : Int)) = Bool.true)) :
    ∃ ps, runF Try.prog FD gam10 100 Try.f38 [.one (.words .u8 l)] [.is false, .is false, .is true] = some ((Go.Abs.AV.tup ((Go.Abs.A0.agg ((Go.Abs.Part.int Go.IntKind.u64 Bool.true (0 : Int)) :: ((Go.Abs.Part.int Go.IntKind.u64 Bool.true (0 : Int)) :: ((Go.Abs.Part.int Go.IntKind.u64 Bool.true (0 : Int)) :: ((Go.Abs.Part.int Go.IntKind.u64 Bool.true (0 : Int)) :: ((Go.Abs.Part.int Go.IntKind.u64 Bool.true (0 : Int)) :: ((Go.Abs.Part.int Go.IntKind.u64 Bool.true (0 : Int)) :: ((Go.Abs.Part.int Go.IntKind.u64 Bool.true (0 : Int)) :: ((Go.Abs.Part.int Go.IntKind.u64 Bool.true (0 : Int)) :: ((Go.Abs.Part.int Go.IntKind.u64 Bool.true (0 : Int)) :: ((Go.Abs.Part.int Go.IntKind.u64 Bool.true (0 : Int)) :: ((Go.Abs.Part.int Go.IntKind.u64 Bool.true (0 : Int)) :: ((Go.Abs.Part.int Go.IntKind.u64 Bool.true (0 : Int)) :: ([] : List (Part FD.τ))))))))))))))) :: ((Go.Abs.A0.one (Go.Abs.Part.int Go.IntKind.i64 Bool.false (Go.Num.readE (List.drop (48 : Nat) (List.take (Int.toNat (((List.length l) : Nat) : Int)) l))))) :: ([] : List (A0 FD.τ))))), ps) ∧ AllQ ps := ⟨_, read2_low_r l, AllP.all ⟨h1, (show ((0 : Int) ≤ (0 : Int)) from by decide), (show ((0 : Int) ≤ (48 : Int)) from by decide), h2, h3, h4, h5, (show ((0 : Int) ≤ (48 : Int)) from by decide), h2, h6, h7, h8, h9⟩⟩

theorem read2_all_r (l : List Int) : runF Try.prog FD gam10 100 Try.f38 [.one (.words .u8 l)] [.is false, .is false, .is false] =
    some ((Go.Abs.AV.tup ((Go.Abs.A0.agg ((Go.Abs.Part.tag (Go.Num.T.el (Go.Num.readN (List.drop (48 : Nat) (List.take (Int.toNat (((List.length l) : Nat) : Int)) l))))) :: ((Go.Abs.Part.tag (Go.Num.T.el (Go.Num.readN (List.drop (0 : Nat) (List.take (48 : Nat) l))))) :: ([] : List (Part FD.τ))))) :: ((Go.Abs.A0.one (Go.Abs.Part.int Go.IntKind.i64 Bool.true (0 : Int))) :: ([] : List (A0 FD.τ))))), [(((((List.length l) : Nat) : Int) != (96 : Int)) = Bool.false), ((0 : Int) ≤ (0 : Int)), ((0 : Int) ≤ (48 : Int)), ((48 : Int) ≤ (((List.length l) : Nat) : Int)), (Go.Num.InB (List.drop (0 : Nat) (List.take (48 : Nat) l))), ((List.length (List.drop (0 : Nat) (List.take (48 : Nat) l))) ≤ (9223372036854775807 : Nat)), (((Go.Num.readE (List.drop (0 : Nat) (List.take (48 : Nat) l))) != (0 : Int)) = Bool.false), ((0 : Int) ≤ (48 : Int)), ((48 : Int) ≤ (((List.length l) : Nat) : Int)), ((((List.length l) : Nat) : Int) ≤ (((List.length l) : Nat) : Int)), (Go.Num.InB (List.drop (48 : Nat) (List.take (Int.toNat (((List.length l) : Nat) : Int)) l))), ((List.length (List.drop (48 : Nat) (List.take (Int.toNat (((List.length l) : Nat) : Int)) l))) ≤ (9223372036854775807 : Nat)), (((Go.Num.readE (List.drop (48 : Nat) (List.take (Int.toNat (((List.length l) : Nat) : Int)) l))) != (0 : Int)) = Bool.false)]) := by kernel_rfl
theorem read2_all (l : List Int)
    (h1 : (((((List.length l) : Nat) : Int) != (96 : Int)) = Bool.false))
    (h2 : ((48 : Int) ≤ (((List.length l) : Nat) : Int)))
    (h3 : (Go.Num.InB (List.drop (0 : Nat) (List.take (48 : Nat) l))))
    (h4 : ((List.length (List.drop (0 : Nat) (List.take (48 : Nat) l))) ≤ (9223372036854775807 : Nat)))
    (h5 : (((Go.Num.readE (List.drop (0 : Nat) (List.take (48 : Nat) l))) != (0 : Int)) = Bool.false))
    (h6 : ((((List.length l) : Nat) : Int) ≤ (((List.length l) : Nat) : Int)))
    (h7 : (Go.Num.InB (List.drop (48 : Nat) (List.take (Int.toNat (((List.length l) : Nat) : Int)) l))))
    (h8 : ((List.length (List.drop (48 : Nat) (List.take (Int.toNat (((List.length l) : Nat) : Int)) l))) ≤ (9223372036854775807 : Nat)))
    (h9 : (((Go.Num.readE (List.drop (48 : Nat) (List.take (Int.toNat (((List.length l) : Nat) : Int)) l))) != (0 : Int)) = Bool.false)) :
    ∃ ps, runF Try.prog FD gam10 100 Try.f38 [.one (.words .u8 l)] [.is false, .is false, .is false] = some ((Go.Abs.AV.tup ((Go.Abs.A0.agg ((Go.Abs.Part.tag (Go.Num.T.el (Go.Num.readN (List.drop (48 : Nat) (List.take (Int.toNat (((List.length l) : Nat) : Int)) l))))) :: ((Go.Abs.Part.tag (Go.Num.T.el (Go.Num.readN (List.drop (0 : Nat) (List.take (48 : Nat) l))))) :: ([] : List (Part FD.τ))))) :: ((Go.Abs.A0.one (Go.Abs.Part.int Go.IntKind.i64 Bool.true (0 : Int))) :: ([] : List (A0 FD.τ))))), ps) ∧ AllQ ps := ⟨_, read2_all_r l, AllP.all ⟨h1, (show ((0 : Int) ≤ (0 : Int)) from by decide), (show ((0 : Int) ≤ (48 : Int)) from by decide), h2, h3, h4, h5, (show ((0 : Int) ≤ (48 : Int)) from by decide), h2, h6, h7, h8, h9⟩⟩

theorem read2_ok : FnOK Try.prog FD 38 read2D := by
  refine fnOK_of gam10_ok mixed Try.func38 (enters_of Try.func38 (by kernel_rfl) rfl) ?_
  intro xs r ps h hps
  unfold read2D at h
  split at h
  · rename_i l
    simp only [Option.some.injEq, Prod.mk.injEq] at h
    obtain ⟨rfl, rfl⟩ := h
    have hb : InB l := hps _ (by simp)
    by_cases hl : l.length = 2 * 48
    · have h0 : ((l.length : Int) != 2 * 48) = false := by rw [hl]; rfl
      have e1 : List.drop 48 (List.take (Int.toNat (l.length : Int)) l) = l.drop 48 := by
        rw [show Int.toNat (l.length : Int) = l.length from rfl, List.take_length]
      have l1 : (l.take 48).length = 48 := by rw [List.length_take]; omega
      have l2 : (l.drop 48).length = 48 := by rw [List.length_drop]; omega
      have b1 : InB (l.take 48) := fun a ha => hb a (List.mem_of_mem_take ha)
      have b2 : InB (l.drop 48) := fun a ha => hb a (List.mem_of_mem_drop ha)
      have r1 : readE (l.take 48) = if be (l.take 48) < fld.m then 0 else 12 := by rw [readE, if_pos l1]
      have r2 : readE (l.drop 48) = if be (l.drop 48) < fld.m then 0 else 12 := by rw [readE, if_pos l2]
      have hle : (48 : Int) ≤ l.length := by omega
      by_cases c1 : be (l.take 48) < fld.m
      · rw [if_pos c1] at r1
        by_cases c2 : be (l.drop 48) < fld.m
        · rw [if_pos c2] at r2
          have k1 : ok2 l := ⟨hl, c1, c2⟩
          have k := read2_all l h0 hle b1 (by rw [List.drop_zero]; omega) (by rw [List.drop_zero, r1]; rfl) (Int.le_refl _)
          rw [e1] at k
          obtain ⟨ps, h1, h2⟩ := k b2 (by omega) (by rw [r2]; rfl)
          refine ⟨_, 100, _, _, _, fun w vs h => h, h1, h2, fun E v hv => ?_⟩
          rw [read2N, if_pos k1, read2E, if_pos hl, if_pos k1]
          refine tup2 (fun v hv => e2_of (x := ⟨readN (l.drop 48), readN (l.take 48)⟩) rfl ?_ hv) (fun v hv => hv) hv
          exact q2_of (show readN (l.drop 48) = be (l.drop 48) from if_pos ⟨l2, c2⟩) (show readN (l.take 48) = be (l.take 48) from if_pos ⟨l1, c1⟩)
        · rw [if_neg c2] at r2
          have k1 : ¬ ok2 l := fun h => c2 h.2.2
          have k := read2_low l h0 hle b1 (by rw [List.drop_zero]; omega) (by rw [List.drop_zero, r1]; rfl) (Int.le_refl _)
          rw [e1] at k
          obtain ⟨ps, h1, h2⟩ := k b2 (by omega) (by rw [r2]; rfl)
          refine ⟨_, 100, _, _, _, fun w vs h => h, h1, h2, fun E v hv => ?_⟩
          rw [read2N, if_neg k1, read2E, if_pos hl, if_neg k1]
          exact tup2 (fun v hv => e2_of (x := 0) (by kernel_rfl) (q2_refl _) hv) (fun v hv => one_int r2 hv) hv
      · rw [if_neg c1] at r1
        have k1 : ¬ ok2 l := fun h => c1 h.2.1
        obtain ⟨ps, h1, h2⟩ := read2_high l h0 hle b1 (by rw [List.drop_zero]; omega) (by rw [List.drop_zero, r1]; rfl)
        refine ⟨_, 100, _, _, _, fun w vs h => h, h1, h2, fun E v hv => ?_⟩
        rw [read2N, if_neg k1, read2E, if_pos hl, if_neg k1]
        exact tup2 (fun v hv => e2_of (x := 0) (by kernel_rfl) (q2_refl _) hv) (fun v hv => one_int r1 hv) hv
    · have k1 : ¬ ok2 l := fun h => hl h.1
      obtain ⟨ps, h1, h2⟩ := read2_len l (by rw [bne_iff_ne]; omega)
      refine ⟨_, 100, _, _, _, fun w vs h => h, h1, h2, fun E v hv => ?_⟩
      rw [read2N, if_neg k1, read2E, if_neg hl]
      exact tup2 (fun v hv => e2_of (x := 0) (by kernel_rfl) (q2_refl _) hv) (fun v hv => hv) hv
  · cases h

end Go.Num
