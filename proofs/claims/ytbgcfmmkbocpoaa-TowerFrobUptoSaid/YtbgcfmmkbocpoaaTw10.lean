/- The tower's laws: pieces of bytes, numbers made of bytes. -/
import Derived.Test.YtbgcfmmkbocpoaaTw3
import Derived.Test.YtbgcfmmkbocpoaaTw9
namespace Go.Num
open Go.Abs Go.Proofs Go.Shelf Go.Alg

/-- The k-th piece of bytes: 48 of them, around the end. -/
def partL (l : List Int) (k : Nat) : List Int := if l.length = 0 then [] else (List.range 48).map fun i => l.getD ((48 * k + i) % l.length) 0
def partI (l : List Int) (k i : Nat) : List Int := (List.range i).map fun i => l.getD ((48 * k + i) % l.length) 0

theorem partI_succ (l : List Int) (k i : Nat) : partI l k (i + 1) = partI l k i ++ [l.getD ((48 * k + i) % l.length) 0] := by
  unfold partI
  rw [List.range_succ, List.map_append]
  rfl

def partSn (l m : List Int) (k i : Int) : Sn FD.τ where
  slots := [(0, .v (.one (.words .u8 l))), (1, .v (.one (.int .i64 false k))), (5, .v (.one (.own 0))), (6, .v (.one (.int .i64 false i)))]
  boxes := [(0, .dyn 5 (.ints .u8 m))]
  nt := 31

theorem part_round_r (l m m' : List Int) (k i : Int) : stepPs Try.prog FD [] 100 (bodyOf Try.f37) 100 (partSn l m k i).st [.is true, .is true] .normal (partSn l m' k (i + 1)) =
    some [((decide (i < (48 : Int))) = Bool.true), ((decide ((((List.length l) : Nat) : Int) > (0 : Int))) = Bool.true), (Go.Abs.InI64 ((48 : Int) * k)), (Go.Abs.InI64 (((48 : Int) * k) + i)), ((((List.length l) : Nat) : Int) ≠ (0 : Int)), ((0 : Int) ≤ (Int.tmod (((48 : Int) * k) + i) (((List.length l) : Nat) : Int))), ((Int.tmod (((48 : Int) * k) + i) (((List.length l) : Nat) : Int)) < (((List.length l) : Nat) : Int)), (((List.length m) + (1 : Nat)) ≤ (9223372036854775807 : Nat)), ((((List.length m) + (1 : Nat)) * (1 : Nat)) ≤ (140737488355328 : Nat)), (Go.Abs.InI64 (i + (1 : Int))), (l = l), (k = k), ((i + (1 : Int)) = (i + (1 : Int))), ((m ++ ((List.getD l (Int.toNat (Int.tmod (((48 : Int) * k) + i) (((List.length l) : Nat) : Int))) (0 : Int)) :: ([] : List (Int)))) = m')] := by kernel_rfl
theorem part_round (l m m' : List Int) (k i : Int)
    (h1 : ((decide (i < (48 : Int))) = Bool.true))
    (h2 : ((decide ((((List.length l) : Nat) : Int) > (0 : Int))) = Bool.true))
    (h3 : (Go.Abs.InI64 ((48 : Int) * k)))
    (h4 : (Go.Abs.InI64 (((48 : Int) * k) + i)))
    (h5 : ((((List.length l) : Nat) : Int) ≠ (0 : Int)))
    (h6 : ((0 : Int) ≤ (Int.tmod (((48 : Int) * k) + i) (((List.length l) : Nat) : Int))))
    (h7 : ((Int.tmod (((48 : Int) * k) + i) (((List.length l) : Nat) : Int)) < (((List.length l) : Nat) : Int)))
    (h8 : (((List.length m) + (1 : Nat)) ≤ (9223372036854775807 : Nat)))
    (h9 : ((((List.length m) + (1 : Nat)) * (1 : Nat)) ≤ (140737488355328 : Nat)))
    (h10 : (Go.Abs.InI64 (i + (1 : Int))))
    (h11 : ((m ++ ((List.getD l (Int.toNat (Int.tmod (((48 : Int) * k) + i) (((List.length l) : Nat) : Int))) (0 : Int)) :: ([] : List (Int)))) = m')) :
    ∃ ps, stepPs Try.prog FD [] 100 (bodyOf Try.f37) 100 (partSn l m k i).st [.is true, .is true] .normal (partSn l m' k (i + 1)) = some ps ∧ AllQ ps := ⟨_, part_round_r l m m' k i, AllP.all ⟨h1, h2, h3, h4, h5, h6, h7, h8, h9, h10, rfl, rfl, rfl, h11⟩⟩

theorem part_exit_r (l m : List Int) (k i : Int) : stepPs Try.prog FD [] 100 (bodyOf Try.f37) 100 (partSn l m k i).st [.is false] (.exit 0) (partSn l m k i) =
    some [((decide (i < (48 : Int))) = Bool.false), (l = l), (k = k), (i = i), (m = m)] := by kernel_rfl
theorem part_exit (l m : List Int) (k i : Int)
    (h1 : ((decide (i < (48 : Int))) = Bool.false)) :
    ∃ ps, stepPs Try.prog FD [] 100 (bodyOf Try.f37) 100 (partSn l m k i).st [.is false] (.exit 0) (partSn l m k i) = some ps ∧ AllQ ps := ⟨_, part_exit_r l m k i, AllP.all ⟨h1, rfl, rfl, rfl, rfl⟩⟩

theorem part_exit0_r (l m : List Int) (k i : Int) : stepPs Try.prog FD [] 100 (bodyOf Try.f37) 100 (partSn l m k i).st [.is true, .is false] (.exit 0) (partSn l m k i) =
    some [((decide (i < (48 : Int))) = Bool.true), ((decide ((((List.length l) : Nat) : Int) > (0 : Int))) = Bool.false), (l = l), (k = k), (i = i), (m = m)] := by kernel_rfl
theorem part_exit0 (l m : List Int) (k i : Int)
    (h1 : ((decide (i < (48 : Int))) = Bool.true))
    (h2 : ((decide ((((List.length l) : Nat) : Int) > (0 : Int))) = Bool.false)) :
    ∃ ps, stepPs Try.prog FD [] 100 (bodyOf Try.f37) 100 (partSn l m k i).st [.is true, .is false] (.exit 0) (partSn l m k i) = some ps ∧ AllQ ps := ⟨_, part_exit0_r l m k i, AllP.all ⟨h1, h2, rfl, rfl, rfl, rfl⟩⟩

theorem part_run_r (l m : List Int) (s : Bool) (k i : Int) : runF Try.prog FD [] 100 Try.f37 [.one (.words .u8 l), .one (.int .i64 s k)] [.loop (loopL FD (partSn l [] k 0) (.exit 0) (partSn l m k i))] =
    some ((Go.Abs.AV.v (Go.Abs.A0.one (Go.Abs.Part.fresh (0 : Nat) (5 : TypeId) Go.IntKind.u8 m))), [SumOK Try.prog FD (bodyOf Try.f37) (loopL FD (partSn l [] k 0) (.exit 0) (partSn l m k i)), (l = l), (k = k), ((0 : Int) = (0 : Int)), (([] : List (Int)) = ([] : List (Int)))]) := by kernel_rfl
theorem part_run (l m : List Int) (s : Bool) (k i : Int)
    (h1 : SumOK Try.prog FD (bodyOf Try.f37) (loopL FD (partSn l [] k 0) (.exit 0) (partSn l m k i))) :
    ∃ ps, runF Try.prog FD [] 100 Try.f37 [.one (.words .u8 l), .one (.int .i64 s k)] [.loop (loopL FD (partSn l [] k 0) (.exit 0) (partSn l m k i))] = some ((Go.Abs.AV.v (Go.Abs.A0.one (Go.Abs.Part.fresh (0 : Nat) (5 : TypeId) Go.IntKind.u8 m))), ps) ∧ AllQ ps := ⟨_, part_run_r l m s k i, AllP.all ⟨h1, rfl, rfl, rfl, rfl⟩⟩

theorem partI_len (l : List Int) (k i : Nat) : (partI l k i).length = i := by simp [partI]

def partD : FnD FD
  | [.one (.words .u8 l), .one (.int .i64 _ k)] => some (.v (.one (.fresh 0 5 .u8 (partL l k.toNat))), [0 ≤ k, k ≤ 11, l.length ≤ 1000000])
  | _ => none

theorem part_idx (l : List Int) (k i : Nat) : Int.tmod (48 * (k : Int) + i) l.length = (((48 * k + i) % l.length : Nat) : Int) := by
  rw [show 48 * (k : Int) + i = ((48 * k + i : Nat) : Int) from by simp, Int.tmod_eq_emod_of_nonneg (by omega)]
  exact (Int.natCast_emod _ _).symm

theorem part_ok : FnOK Try.prog FD 37 partD := by
  refine fnOK_of gam_nil mixed Try.func37 (enters_of Try.func37 (by kernel_rfl) rfl) ?_
  intro xs r ps h hps
  unfold partD at h
  split at h
  · rename_i l s k
    simp only [Option.some.injEq, Prod.mk.injEq] at h
    obtain ⟨rfl, rfl⟩ := h
    have h0 : 0 ≤ k := hps _ (by simp)
    have h1 : k ≤ 11 := hps _ (by simp)
    have h2 : l.length ≤ 1000000 := hps _ (by simp)
    obtain ⟨k, rfl⟩ := Int.eq_ofNat_of_zero_le h0
    by_cases hl : l.length = 0
    · have hs : SumOK Try.prog FD (bodyOf Try.f37) (loopL FD (partSn l [] k (0 : Nat)) (.exit 0) (partSn l [] k (0 : Nat))) :=
        sum_loop gam_nil mixed (fun _ => partSn l [] k (0 : Nat)) 0 rfl (fun i hi => absurd hi (Nat.not_lt_zero _)) ⟨100, 100, [.is true, .is false], part_exit0 l [] k (0 : Nat) (by decide) (decide_eq_false (by omega))⟩
      obtain ⟨ps, h3, h4⟩ := part_run l [] s k _ hs
      refine ⟨_, 100, _, _, _, fun w vs h => h, h3, h4, fun E v hv => ?_⟩
      rw [show partL l (Int.toNat (k : Int)) = [] from if_pos hl]
      exact hv
    · have hs : SumOK Try.prog FD (bodyOf Try.f37) (loopL FD (partSn l (partI l k 0) k (0 : Nat)) (.exit 0) (partSn l (partI l k 48) k (48 : Nat))) := by
        refine sum_loop gam_nil mixed (fun i => partSn l (partI l k i) k i) 48 rfl (fun i hi => ⟨100, 100, [.is true, .is true], ?_⟩) ⟨100, 100, [.is false], part_exit l _ k _ (by decide)⟩
        have hm : (48 * k + i) % l.length < l.length := Nat.mod_lt _ (by omega)
        have hi2 := part_idx l k i
        refine part_round l _ _ k i (decide_eq_true (by omega)) (decide_eq_true (by omega)) ⟨by omega, by omega⟩ ⟨by omega, by omega⟩ (by omega) (by rw [hi2]; omega) (by rw [hi2]; omega) (by rw [partI_len]; omega) (by rw [partI_len]; omega) ⟨by omega, by omega⟩ ?_
        rw [hi2, partI_succ]
        rfl
      obtain ⟨ps, h3, h4⟩ := part_run l _ s k _ hs
      refine ⟨_, 100, _, _, _, fun w vs h => h, h3, h4, fun E v hv => ?_⟩
      rw [show partL l (Int.toNat (k : Int)) = partI l k 48 from if_neg hl]
      exact hv
  · cases h

theorem partL_inB {l : List Int} (h : InB l) (k : Nat) : InB (partL l k) := by
  unfold partL
  split
  · intro a ha
    cases ha
  · intro a ha
    obtain ⟨i, _, rfl⟩ := List.mem_map.1 ha
    exact inB_getD h _

theorem partL_len (l : List Int) (k : Nat) : (partL l k).length ≤ 48 := by
  unfold partL
  split
  · exact Nat.zero_le _
  · simp

def pb (l : List Int) (k : Nat) : Int := be (partL l k)
/-- The number made of bytes. -/
def numK (l : List Int) : K12 := ⟨⟨⟨pb l 0, pb l 1⟩, ⟨pb l 4, pb l 5⟩, ⟨pb l 8, pb l 9⟩⟩, ⟨⟨pb l 2, pb l 3⟩, ⟨pb l 6, pb l 7⟩, ⟨pb l 10, pb l 11⟩⟩⟩

/-- The reference's number: new words for each of the twelve. -/
def fr12 (z : K12) : List (Part FD.τ) :=
  [.fresh 0 43 .u32 (W 24 (z.a.a.a % fld.m)), .fresh 1 43 .u32 (W 24 (z.a.a.b % fld.m)), .fresh 2 43 .u32 (W 24 (z.b.a.a % fld.m)), .fresh 3 43 .u32 (W 24 (z.b.a.b % fld.m)),
   .fresh 4 43 .u32 (W 24 (z.a.b.a % fld.m)), .fresh 5 43 .u32 (W 24 (z.a.b.b % fld.m)), .fresh 6 43 .u32 (W 24 (z.b.b.a % fld.m)), .fresh 7 43 .u32 (W 24 (z.b.b.b % fld.m)),
   .fresh 8 43 .u32 (W 24 (z.a.c.a % fld.m)), .fresh 9 43 .u32 (W 24 (z.a.c.b % fld.m)), .fresh 10 43 .u32 (W 24 (z.b.c.a % fld.m)), .fresh 11 43 .u32 (W 24 (z.b.c.b % fld.m))]

def gam25 : Gam FD := (37, partD) :: (36, of5D) :: (39, bytes5D) :: (38, read2D) :: gamF
theorem gam25_ok : GamOK Try.prog FD gam25 := gam_cons part_ok (gam_cons of5_ok (gam_cons bytes5_ok (gam_cons read2_ok gamF_ok)))

theorem number_run_r (l : List Int) : runF Try.prog FD gam25 200 Try.f11 [.one (.words .u8 l)] [.roll] =
    some ((Go.Abs.AV.tup ((Go.Abs.A0.agg ((Go.Abs.Part.fresh (0 : Nat) (43 : TypeId) Go.IntKind.u32 (Go.Num.W (24 : Nat) ((Go.Num.be (Go.Num.partL l (0 : Nat))) % (Go.Num.Fld.m Go.Num.fld)))) :: ((Go.Abs.Part.fresh (1 : Nat) (43 : TypeId) Go.IntKind.u32 (Go.Num.W (24 : Nat) ((Go.Num.be (Go.Num.partL l (1 : Nat))) % (Go.Num.Fld.m Go.Num.fld)))) :: ((Go.Abs.Part.fresh (2 : Nat) (43 : TypeId) Go.IntKind.u32 (Go.Num.W (24 : Nat) ((Go.Num.be (Go.Num.partL l (2 : Nat))) % (Go.Num.Fld.m Go.Num.fld)))) :: ((Go.Abs.Part.fresh (3 : Nat) (43 : TypeId) Go.IntKind.u32 (Go.Num.W (24 : Nat) ((Go.Num.be (Go.Num.partL l (3 : Nat))) % (Go.Num.Fld.m Go.Num.fld)))) :: ((Go.Abs.Part.fresh (4 : Nat) (43 : TypeId) Go.IntKind.u32 (Go.Num.W (24 : Nat) ((Go.Num.be (Go.Num.partL l (4 : Nat))) % (Go.Num.Fld.m Go.Num.fld)))) :: ((Go.Abs.Part.fresh (5 : Nat) (43 : TypeId) Go.IntKind.u32 (Go.Num.W (24 : Nat) ((Go.Num.be (Go.Num.partL l (5 : Nat))) % (Go.Num.Fld.m Go.Num.fld)))) :: ((Go.Abs.Part.fresh (6 : Nat) (43 : TypeId) Go.IntKind.u32 (Go.Num.W (24 : Nat) ((Go.Num.be (Go.Num.partL l (6 : Nat))) % (Go.Num.Fld.m Go.Num.fld)))) :: ((Go.Abs.Part.fresh (7 : Nat) (43 : TypeId) Go.IntKind.u32 (Go.Num.W (24 : Nat) ((Go.Num.be (Go.Num.partL l (7 : Nat))) % (Go.Num.Fld.m Go.Num.fld)))) :: ((Go.Abs.Part.fresh (8 : Nat) (43 : TypeId) Go.IntKind.u32 (Go.Num.W (24 : Nat) ((Go.Num.be (Go.Num.partL l (8 : Nat))) % (Go.Num.Fld.m Go.Num.fld)))) :: ((Go.Abs.Part.fresh (9 : Nat) (43 : TypeId) Go.IntKind.u32 (Go.Num.W (24 : Nat) ((Go.Num.be (Go.Num.partL l (9 : Nat))) % (Go.Num.Fld.m Go.Num.fld)))) :: ((Go.Abs.Part.fresh (10 : Nat) (43 : TypeId) Go.IntKind.u32 (Go.Num.W (24 : Nat) ((Go.Num.be (Go.Num.partL l (10 : Nat))) % (Go.Num.Fld.m Go.Num.fld)))) :: ((Go.Abs.Part.fresh (11 : Nat) (43 : TypeId) Go.IntKind.u32 (Go.Num.W (24 : Nat) ((Go.Num.be (Go.Num.partL l (11 : Nat))) % (Go.Num.Fld.m Go.Num.fld)))) :: ([] : List (Part FD.τ))))))))))))))) :: ((Go.Abs.A0.agg ((Go.Abs.Part.tag (Go.Num.T.e2 (Go.Num.read2N ((Go.Num.beB (48 : Nat) (Go.Num.v16 (Go.Num.W (24 : Nat) ((Go.Num.be (Go.Num.partL l (1 : Nat))) % (Go.Num.Fld.m Go.Num.fld))))) ++ (Go.Num.beB (48 : Nat) (Go.Num.v16 (Go.Num.W (24 : Nat) ((Go.Num.be (Go.Num.partL l (0 : Nat))) % (Go.Num.Fld.m Go.Num.fld))))))))) :: ((Go.Abs.Part.tag (Go.Num.T.e2 (Go.Num.read2N ((Go.Num.beB (48 : Nat) (Go.Num.v16 (Go.Num.W (24 : Nat) ((Go.Num.be (Go.Num.partL l (5 : Nat))) % (Go.Num.Fld.m Go.Num.fld))))) ++ (Go.Num.beB (48 : Nat) (Go.Num.v16 (Go.Num.W (24 : Nat) ((Go.Num.be (Go.Num.partL l (4 : Nat))) % (Go.Num.Fld.m Go.Num.fld))))))))) :: ((Go.Abs.Part.tag (Go.Num.T.e2 (Go.Num.read2N ((Go.Num.beB (48 : Nat) (Go.Num.v16 (Go.Num.W (24 : Nat) ((Go.Num.be (Go.Num.partL l (9 : Nat))) % (Go.Num.Fld.m Go.Num.fld))))) ++ (Go.Num.beB (48 : Nat) (Go.Num.v16 (Go.Num.W (24 : Nat) ((Go.Num.be (Go.Num.partL l (8 : Nat))) % (Go.Num.Fld.m Go.Num.fld))))))))) :: ((Go.Abs.Part.tag (Go.Num.T.e2 (Go.Num.read2N ((Go.Num.beB (48 : Nat) (Go.Num.v16 (Go.Num.W (24 : Nat) ((Go.Num.be (Go.Num.partL l (3 : Nat))) % (Go.Num.Fld.m Go.Num.fld))))) ++ (Go.Num.beB (48 : Nat) (Go.Num.v16 (Go.Num.W (24 : Nat) ((Go.Num.be (Go.Num.partL l (2 : Nat))) % (Go.Num.Fld.m Go.Num.fld))))))))) :: ((Go.Abs.Part.tag (Go.Num.T.e2 (Go.Num.read2N ((Go.Num.beB (48 : Nat) (Go.Num.v16 (Go.Num.W (24 : Nat) ((Go.Num.be (Go.Num.partL l (7 : Nat))) % (Go.Num.Fld.m Go.Num.fld))))) ++ (Go.Num.beB (48 : Nat) (Go.Num.v16 (Go.Num.W (24 : Nat) ((Go.Num.be (Go.Num.partL l (6 : Nat))) % (Go.Num.Fld.m Go.Num.fld))))))))) :: ((Go.Abs.Part.tag (Go.Num.T.e2 (Go.Num.read2N ((Go.Num.beB (48 : Nat) (Go.Num.v16 (Go.Num.W (24 : Nat) ((Go.Num.be (Go.Num.partL l (11 : Nat))) % (Go.Num.Fld.m Go.Num.fld))))) ++ (Go.Num.beB (48 : Nat) (Go.Num.v16 (Go.Num.W (24 : Nat) ((Go.Num.be (Go.Num.partL l (10 : Nat))) % (Go.Num.Fld.m Go.Num.fld))))))))) :: ([] : List (Part FD.τ))))))))) :: ([] : List (A0 FD.τ))))), [((0 : Int) ≤ (Go.IntKind.wrap Go.IntKind.i64 ((2 : Int) * (0 : Int)))), ((Go.IntKind.wrap Go.IntKind.i64 ((2 : Int) * (0 : Int))) ≤ (11 : Int)), ((List.length l) ≤ (1000000 : Nat)), ((0 : Int) ≤ (Go.IntKind.wrap Go.IntKind.i64 ((Go.IntKind.wrap Go.IntKind.i64 ((2 : Int) * (0 : Int))) + (1 : Int)))), ((Go.IntKind.wrap Go.IntKind.i64 ((Go.IntKind.wrap Go.IntKind.i64 ((2 : Int) * (0 : Int))) + (1 : Int))) ≤ (11 : Int)), ((List.length l) ≤ (1000000 : Nat)), (Go.Num.InB (Go.Num.partL l (0 : Nat))), ((List.length (Go.Num.partL l (0 : Nat))) ≤ (1000000 : Nat)), (Go.Num.InB (Go.Num.partL l (1 : Nat))), ((List.length (Go.Num.partL l (1 : Nat))) ≤ (1000000 : Nat)), ((Go.Num.In16 (Go.Num.W (24 : Nat) ((Go.Num.be (Go.Num.partL l (0 : Nat))) % (Go.Num.Fld.m Go.Num.fld)))) ∧ ((List.length (Go.Num.W (24 : Nat) ((Go.Num.be (Go.Num.partL l (0 : Nat))) % (Go.Num.Fld.m Go.Num.fld)))) ≤ (1000000 : Nat))), ((Go.Num.In16 (Go.Num.W (24 : Nat) ((Go.Num.be (Go.Num.partL l (1 : Nat))) % (Go.Num.Fld.m Go.Num.fld)))) ∧ ((List.length (Go.Num.W (24 : Nat) ((Go.Num.be (Go.Num.partL l (1 : Nat))) % (Go.Num.Fld.m Go.Num.fld)))) ≤ (1000000 : Nat))), (Go.Num.InB ((Go.Num.beB (48 : Nat) (Go.Num.v16 (Go.Num.W (24 : Nat) ((Go.Num.be (Go.Num.partL l (1 : Nat))) % (Go.Num.Fld.m Go.Num.fld))))) ++ (Go.Num.beB (48 : Nat) (Go.Num.v16 (Go.Num.W (24 : Nat) ((Go.Num.be (Go.Num.partL l (0 : Nat))) % (Go.Num.Fld.m Go.Num.fld))))))), ((List.length ((Go.Num.beB (48 : Nat) (Go.Num.v16 (Go.Num.W (24 : Nat) ((Go.Num.be (Go.Num.partL l (1 : Nat))) % (Go.Num.Fld.m Go.Num.fld))))) ++ (Go.Num.beB (48 : Nat) (Go.Num.v16 (Go.Num.W (24 : Nat) ((Go.Num.be (Go.Num.partL l (0 : Nat))) % (Go.Num.Fld.m Go.Num.fld))))))) ≤ (9223372036854775807 : Nat)), ((0 : Int) ≤ (Go.IntKind.wrap Go.IntKind.i64 ((2 : Int) * (Go.IntKind.wrap Go.IntKind.i64 ((0 : Int) + (1 : Int)))))), ((Go.IntKind.wrap Go.IntKind.i64 ((2 : Int) * (Go.IntKind.wrap Go.IntKind.i64 ((0 : Int) + (1 : Int))))) ≤ (11 : Int)), ((List.length l) ≤ (1000000 : Nat)), ((0 : Int) ≤ (Go.IntKind.wrap Go.IntKind.i64 ((Go.IntKind.wrap Go.IntKind.i64 ((2 : Int) * (Go.IntKind.wrap Go.IntKind.i64 ((0 : Int) + (1 : Int))))) + (1 : Int)))), ((Go.IntKind.wrap Go.IntKind.i64 ((Go.IntKind.wrap Go.IntKind.i64 ((2 : Int) * (Go.IntKind.wrap Go.IntKind.i64 ((0 : Int) + (1 : Int))))) + (1 : Int))) ≤ (11 : Int)), ((List.length l) ≤ (1000000 : Nat)), (Go.Num.InB (Go.Num.partL l (2 : Nat))), ((List.length (Go.Num.partL l (2 : Nat))) ≤ (1000000 : Nat)), (Go.Num.InB (Go.Num.partL l (3 : Nat))), ((List.length (Go.Num.partL l (3 : Nat))) ≤ (1000000 : Nat)), ((Go.Num.In16 (Go.Num.W (24 : Nat) ((Go.Num.be (Go.Num.partL l (2 : Nat))) % (Go.Num.Fld.m Go.Num.fld)))) ∧ ((List.length (Go.Num.W (24 : Nat) ((Go.Num.be (Go.Num.partL l (2 : Nat))) % (Go.Num.Fld.m Go.Num.fld)))) ≤ (1000000 : Nat))), ((Go.Num.In16 (Go.Num.W (24 : Nat) ((Go.Num.be (Go.Num.partL l (3 : Nat))) % (Go.Num.Fld.m Go.Num.fld)))) ∧ ((List.length (Go.Num.W (24 : Nat) ((Go.Num.be (Go.Num.partL l (3 : Nat))) % (Go.Num.Fld.m Go.Num.fld)))) ≤ (1000000 : Nat))), (Go.Num.InB ((Go.Num.beB (48 : Nat) (Go.Num.v16 (Go.Num.W (24 : Nat) ((Go.Num.be (Go.Num.partL l (3 : Nat))) % (Go.Num.Fld.m Go.Num.fld))))) ++ (Go.Num.beB (48 : Nat) (Go.Num.v16 (Go.Num.W (24 : Nat) ((Go.Num.be (Go.Num.partL l (2 : Nat))) % (Go.Num.Fld.m Go.Num.fld))))))), ((List.length ((Go.Num.beB (48 : Nat) (Go.Num.v16 (Go.Num.W (24 : Nat) ((Go.Num.be (Go.Num.partL l (3 : Nat))) % (Go.Num.Fld.m Go.Num.fld))))) ++ (Go.Num.beB (48 : Nat) (Go.Num.v16 (Go.Num.W (24 : Nat) ((Go.Num.be (Go.Num.partL l (2 : Nat))) % (Go.Num.Fld.m Go.Num.fld))))))) ≤ (9223372036854775807 : Nat)), ((0 : Int) ≤ (Go.IntKind.wrap Go.IntKind.i64 ((2 : Int) * (Go.IntKind.wrap Go.IntKind.i64 ((Go.IntKind.wrap Go.IntKind.i64 ((0 : Int) + (1 : Int))) + (1 : Int)))))), ((Go.IntKind.wrap Go.IntKind.i64 ((2 : Int) * (Go.IntKind.wrap Go.IntKind.i64 ((Go.IntKind.wrap Go.IntKind.i64 ((0 : Int) + (1 : Int))) + (1 : Int))))) ≤ (11 : Int)), ((List.length l) ≤ (1000000 : Nat)), ((0 : Int) ≤ (Go.IntKind.wrap Go.IntKind.i64 ((Go.IntKind.wrap Go.IntKind.i64 ((2 : Int) * (Go.IntKind.wrap Go.IntKind.i64 ((Go.IntKind.wrap Go.IntKind.i64 ((0 : Int) + (1 : Int))) + (1 : Int))))) + (1 : Int)))), ((Go.IntKind.wrap Go.IntKind.i64 ((Go.IntKind.wrap Go.IntKind.i64 ((2 : Int) * (Go.IntKind.wrap Go.IntKind.i64 ((Go.IntKind.wrap Go.IntKind.i64 ((0 : Int) + (1 : Int))) + (1 : Int))))) + (1 : Int))) ≤ (11 : Int)), ((List.length l) ≤ (1000000 : Nat)), (Go.Num.InB (Go.Num.partL l (4 : Nat))), ((List.length (Go.Num.partL l (4 : Nat))) ≤ (1000000 : Nat)), (Go.Num.InB (Go.Num.partL l (5 : Nat))), ((List.length (Go.Num.partL l (5 : Nat))) ≤ (1000000 : Nat)), ((Go.Num.In16 (Go.Num.W (24 : Nat) ((Go.Num.be (Go.Num.partL l (4 : Nat))) % (Go.Num.Fld.m Go.Num.fld)))) ∧ ((List.length (Go.Num.W (24 : Nat) ((Go.Num.be (Go.Num.partL l (4 : Nat))) % (Go.Num.Fld.m Go.Num.fld)))) ≤ (1000000 : Nat))), ((Go.Num.In16 (Go.Num.W (24 : Nat) ((Go.Num.be (Go.Num.partL l (5 : Nat))) % (Go.Num.Fld.m Go.Num.fld)))) ∧ ((List.length (Go.Num.W (24 : Nat) ((Go.Num.be (Go.Num.partL l (5 : Nat))) % (Go.Num.Fld.m Go.Num.fld)))) ≤ (1000000 : Nat))), (Go.Num.InB ((Go.Num.beB (48 : Nat) (Go.Num.v16 (Go.Num.W (24 : Nat) ((Go.Num.be (Go.Num.partL l (5 : Nat))) % (Go.Num.Fld.m Go.Num.fld))))) ++ (Go.Num.beB (48 : Nat) (Go.Num.v16 (Go.Num.W (24 : Nat) ((Go.Num.be (Go.Num.partL l (4 : Nat))) % (Go.Num.Fld.m Go.Num.fld))))))), ((List.length ((Go.Num.beB (48 : Nat) (Go.Num.v16 (Go.Num.W (24 : Nat) ((Go.Num.be (Go.Num.partL l (5 : Nat))) % (Go.Num.Fld.m Go.Num.fld))))) ++ (Go.Num.beB (48 : Nat) (Go.Num.v16 (Go.Num.W (24 : Nat) ((Go.Num.be (Go.Num.partL l (4 : Nat))) % (Go.Num.Fld.m Go.Num.fld))))))) ≤ (9223372036854775807 : Nat)), ((0 : Int) ≤ (Go.IntKind.wrap Go.IntKind.i64 ((2 : Int) * (Go.IntKind.wrap Go.IntKind.i64 ((Go.IntKind.wrap Go.IntKind.i64 ((Go.IntKind.wrap Go.IntKind.i64 ((0 : Int) + (1 : Int))) + (1 : Int))) + (1 : Int)))))), ((Go.IntKind.wrap Go.IntKind.i64 ((2 : Int) * (Go.IntKind.wrap Go.IntKind.i64 ((Go.IntKind.wrap Go.IntKind.i64 ((Go.IntKind.wrap Go.IntKind.i64 ((0 : Int) + (1 : Int))) + (1 : Int))) + (1 : Int))))) ≤ (11 : Int)), ((List.length l) ≤ (1000000 : Nat)), ((0 : Int) ≤ (Go.IntKind.wrap Go.IntKind.i64 ((Go.IntKind.wrap Go.IntKind.i64 ((2 : Int) * (Go.IntKind.wrap Go.IntKind.i64 ((Go.IntKind.wrap Go.IntKind.i64 ((Go.IntKind.wrap Go.IntKind.i64 ((0 : Int) + (1 : Int))) + (1 : Int))) + (1 : Int))))) + (1 : Int)))), ((Go.IntKind.wrap Go.IntKind.i64 ((Go.IntKind.wrap Go.IntKind.i64 ((2 : Int) * (Go.IntKind.wrap Go.IntKind.i64 ((Go.IntKind.wrap Go.IntKind.i64 ((Go.IntKind.wrap Go.IntKind.i64 ((0 : Int) + (1 : Int))) + (1 : Int))) + (1 : Int))))) + (1 : Int))) ≤ (11 : Int)), ((List.length l) ≤ (1000000 : Nat)), (Go.Num.InB (Go.Num.partL l (6 : Nat))), ((List.length (Go.Num.partL l (6 : Nat))) ≤ (1000000 : Nat)), (Go.Num.InB (Go.Num.partL l (7 : Nat))), ((List.length (Go.Num.partL l (7 : Nat))) ≤ (1000000 : Nat)), ((Go.Num.In16 (Go.Num.W (24 : Nat) ((Go.Num.be (Go.Num.partL l (6 : Nat))) % (Go.Num.Fld.m Go.Num.fld)))) ∧ ((List.length (Go.Num.W (24 : Nat) ((Go.Num.be (Go.Num.partL l (6 : Nat))) % (Go.Num.Fld.m Go.Num.fld)))) ≤ (1000000 : Nat))), ((Go.Num.In16 (Go.Num.W (24 : Nat) ((Go.Num.be (Go.Num.partL l (7 : Nat))) % (Go.Num.Fld.m Go.Num.fld)))) ∧ ((List.length (Go.Num.W (24 : Nat) ((Go.Num.be (Go.Num.partL l (7 : Nat))) % (Go.Num.Fld.m Go.Num.fld)))) ≤ (1000000 : Nat))), (Go.Num.InB ((Go.Num.beB (48 : Nat) (Go.Num.v16 (Go.Num.W (24 : Nat) ((Go.Num.be (Go.Num.partL l (7 : Nat))) % (Go.Num.Fld.m Go.Num.fld))))) ++ (Go.Num.beB (48 : Nat) (Go.Num.v16 (Go.Num.W (24 : Nat) ((Go.Num.be (Go.Num.partL l (6 : Nat))) % (Go.Num.Fld.m Go.Num.fld))))))), ((List.length ((Go.Num.beB (48 : Nat) (Go.Num.v16 (Go.Num.W (24 : Nat) ((Go.Num.be (Go.Num.partL l (7 : Nat))) % (Go.Num.Fld.m Go.Num.fld))))) ++ (Go.Num.beB (48 : Nat) (Go.Num.v16 (Go.Num.W (24 : Nat) ((Go.Num.be (Go.Num.partL l (6 : Nat))) % (Go.Num.Fld.m Go.Num.fld))))))) ≤ (9223372036854775807 : Nat)), ((0 : Int) ≤ (Go.IntKind.wrap Go.IntKind.i64 ((2 : Int) * (Go.IntKind.wrap Go.IntKind.i64 ((Go.IntKind.wrap Go.IntKind.i64 ((Go.IntKind.wrap Go.IntKind.i64 ((Go.IntKind.wrap Go.IntKind.i64 ((0 : Int) + (1 : Int))) + (1 : Int))) + (1 : Int))) + (1 : Int)))))), ((Go.IntKind.wrap Go.IntKind.i64 ((2 : Int) * (Go.IntKind.wrap Go.IntKind.i64 ((Go.IntKind.wrap Go.IntKind.i64 ((Go.IntKind.wrap Go.IntKind.i64 ((Go.IntKind.wrap Go.IntKind.i64 ((0 : Int) + (1 : Int))) + (1 : Int))) + (1 : Int))) + (1 : Int))))) ≤ (11 : Int)), ((List.length l) ≤ (1000000 : Nat)), ((0 : Int) ≤ (Go.IntKind.wrap Go.IntKind.i64 ((Go.IntKind.wrap Go.IntKind.i64 ((2 : Int) * (Go.IntKind.wrap Go.IntKind.i64 ((Go.IntKind.wrap Go.IntKind.i64 ((Go.IntKind.wrap Go.IntKind.i64 ((Go.IntKind.wrap Go.IntKind.i64 ((0 : Int) + (1 : Int))) + (1 : Int))) + (1 : Int))) + (1 : Int))))) + (1 : Int)))), ((Go.IntKind.wrap Go.IntKind.i64 ((Go.IntKind.wrap Go.IntKind.i64 ((2 : Int) * (Go.IntKind.wrap Go.IntKind.i64 ((Go.IntKind.wrap Go.IntKind.i64 ((Go.IntKind.wrap Go.IntKind.i64 ((Go.IntKind.wrap Go.IntKind.i64 ((0 : Int) + (1 : Int))) + (1 : Int))) + (1 : Int))) + (1 : Int))))) + (1 : Int))) ≤ (11 : Int)), ((List.length l) ≤ (1000000 : Nat)), (Go.Num.InB (Go.Num.partL l (8 : Nat))), ((List.length (Go.Num.partL l (8 : Nat))) ≤ (1000000 : Nat)), (Go.Num.InB (Go.Num.partL l (9 : Nat))), ((List.length (Go.Num.partL l (9 : Nat))) ≤ (1000000 : Nat)), ((Go.Num.In16 (Go.Num.W (24 : Nat) ((Go.Num.be (Go.Num.partL l (8 : Nat))) % (Go.Num.Fld.m Go.Num.fld)))) ∧ ((List.length (Go.Num.W (24 : Nat) ((Go.Num.be (Go.Num.partL l (8 : Nat))) % (Go.Num.Fld.m Go.Num.fld)))) ≤ (1000000 : Nat))), ((Go.Num.In16 (Go.Num.W (24 : Nat) ((Go.Num.be (Go.Num.partL l (9 : Nat))) % (Go.Num.Fld.m Go.Num.fld)))) ∧ ((List.length (Go.Num.W (24 : Nat) ((Go.Num.be (Go.Num.partL l (9 : Nat))) % (Go.Num.Fld.m Go.Num.fld)))) ≤ (1000000 : Nat))), (Go.Num.InB ((Go.Num.beB (48 : Nat) (Go.Num.v16 (Go.Num.W (24 : Nat) ((Go.Num.be (Go.Num.partL l (9 : Nat))) % (Go.Num.Fld.m Go.Num.fld))))) ++ (Go.Num.beB (48 : Nat) (Go.Num.v16 (Go.Num.W (24 : Nat) ((Go.Num.be (Go.Num.partL l (8 : Nat))) % (Go.Num.Fld.m Go.Num.fld))))))), ((List.length ((Go.Num.beB (48 : Nat) (Go.Num.v16 (Go.Num.W (24 : Nat) ((Go.Num.be (Go.Num.partL l (9 : Nat))) % (Go.Num.Fld.m Go.Num.fld))))) ++ (Go.Num.beB (48 : Nat) (Go.Num.v16 (Go.Num.W (24 : Nat) ((Go.Num.be (Go.Num.partL l (8 : Nat))) % (Go.Num.Fld.m Go.Num.fld))))))) ≤ (9223372036854775807 : Nat)), ((0 : Int) ≤ (Go.IntKind.wrap Go.IntKind.i64 ((2 : Int) * (Go.IntKind.wrap Go.IntKind.i64 ((Go.IntKind.wrap Go.IntKind.i64 ((Go.IntKind.wrap Go.IntKind.i64 ((Go.IntKind.wrap Go.IntKind.i64 ((Go.IntKind.wrap Go.IntKind.i64 ((0 : Int) + (1 : Int))) + (1 : Int))) + (1 : Int))) + (1 : Int))) + (1 : Int)))))), ((Go.IntKind.wrap Go.IntKind.i64 ((2 : Int) * (Go.IntKind.wrap Go.IntKind.i64 ((Go.IntKind.wrap Go.IntKind.i64 ((Go.IntKind.wrap Go.IntKind.i64 ((Go.IntKind.wrap Go.IntKind.i64 ((Go.IntKind.wrap Go.IntKind.i64 ((0 : Int) + (1 : Int))) + (1 : Int))) + (1 : Int))) + (1 : Int))) + (1 : Int))))) ≤ (11 : Int)), ((List.length l) ≤ (1000000 : Nat)), ((0 : Int) ≤ (Go.IntKind.wrap Go.IntKind.i64 ((Go.IntKind.wrap Go.IntKind.i64 ((2 : Int) * (Go.IntKind.wrap Go.IntKind.i64 ((Go.IntKind.wrap Go.IntKind.i64 ((Go.IntKind.wrap Go.IntKind.i64 ((Go.IntKind.wrap Go.IntKind.i64 ((Go.IntKind.wrap Go.IntKind.i64 ((0 : Int) + (1 : Int))) + (1 : Int))) + (1 : Int))) + (1 : Int))) + (1 : Int))))) + (1 : Int)))), ((Go.IntKind.wrap Go.IntKind.i64 ((Go.IntKind.wrap Go.IntKind.i64 ((2 : Int) * (Go.IntKind.wrap Go.IntKind.i64 ((Go.IntKind.wrap Go.IntKind.i64 ((Go.IntKind.wrap Go.IntKind.i64 ((Go.IntKind.wrap Go.IntKind.i64 ((Go.IntKind.wrap Go.IntKind.i64 ((0 : Int) + (1 : Int))) + (1 : Int))) + (1 : Int))) + (1 : Int))) + (1 : Int))))) + (1 : Int))) ≤ (11 : Int)), ((List.length l) ≤ (1000000 : Nat)), (Go.Num.InB (Go.Num.partL l (10 : Nat))), ((List.length (Go.Num.partL l (10 : Nat))) ≤ (1000000 : Nat)), (Go.Num.InB (Go.Num.partL l (11 : Nat))), ((List.length (Go.Num.partL l (11 : Nat))) ≤ (1000000 : Nat)), ((Go.Num.In16 (Go.Num.W (24 : Nat) ((Go.Num.be (Go.Num.partL l (10 : Nat))) % (Go.Num.Fld.m Go.Num.fld)))) ∧ ((List.length (Go.Num.W (24 : Nat) ((Go.Num.be (Go.Num.partL l (10 : Nat))) % (Go.Num.Fld.m Go.Num.fld)))) ≤ (1000000 : Nat))), ((Go.Num.In16 (Go.Num.W (24 : Nat) ((Go.Num.be (Go.Num.partL l (11 : Nat))) % (Go.Num.Fld.m Go.Num.fld)))) ∧ ((List.length (Go.Num.W (24 : Nat) ((Go.Num.be (Go.Num.partL l (11 : Nat))) % (Go.Num.Fld.m Go.Num.fld)))) ≤ (1000000 : Nat))), (Go.Num.InB ((Go.Num.beB (48 : Nat) (Go.Num.v16 (Go.Num.W (24 : Nat) ((Go.Num.be (Go.Num.partL l (11 : Nat))) % (Go.Num.Fld.m Go.Num.fld))))) ++ (Go.Num.beB (48 : Nat) (Go.Num.v16 (Go.Num.W (24 : Nat) ((Go.Num.be (Go.Num.partL l (10 : Nat))) % (Go.Num.Fld.m Go.Num.fld))))))), ((List.length ((Go.Num.beB (48 : Nat) (Go.Num.v16 (Go.Num.W (24 : Nat) ((Go.Num.be (Go.Num.partL l (11 : Nat))) % (Go.Num.Fld.m Go.Num.fld))))) ++ (Go.Num.beB (48 : Nat) (Go.Num.v16 (Go.Num.W (24 : Nat) ((Go.Num.be (Go.Num.partL l (10 : Nat))) % (Go.Num.Fld.m Go.Num.fld))))))) ≤ (9223372036854775807 : Nat))]) := by kernel_rfl
theorem number_run (l : List Int)
    (h1 : ((List.length l) ≤ (1000000 : Nat)))
    (h2 : (Go.Num.InB (Go.Num.partL l (0 : Nat))))
    (h3 : ((List.length (Go.Num.partL l (0 : Nat))) ≤ (1000000 : Nat)))
    (h4 : (Go.Num.InB (Go.Num.partL l (1 : Nat))))
    (h5 : ((List.length (Go.Num.partL l (1 : Nat))) ≤ (1000000 : Nat)))
    (h6 : ((Go.Num.In16 (Go.Num.W (24 : Nat) ((Go.Num.be (Go.Num.partL l (0 : Nat))) % (Go.Num.Fld.m Go.Num.fld)))) ∧ ((List.length (Go.Num.W (24 : Nat) ((Go.Num.be (Go.Num.partL l (0 : Nat))) % (Go.Num.Fld.m Go.Num.fld)))) ≤ (1000000 : Nat))))
    (h7 : ((Go.Num.In16 (Go.Num.W (24 : Nat) ((Go.Num.be (Go.Num.partL l (1 : Nat))) % (Go.Num.Fld.m Go.Num.fld)))) ∧ ((List.length (Go.Num.W (24 : Nat) ((Go.Num.be (Go.Num.partL l (1 : Nat))) % (Go.Num.Fld.m Go.Num.fld)))) ≤ (1000000 : Nat))))
    (h8 : (Go.Num.InB ((Go.Num.beB (48 : Nat) (Go.Num.v16 (Go.Num.W (24 : Nat) ((Go.Num.be (Go.Num.partL l (1 : Nat))) % (Go.Num.Fld.m Go.Num.fld))))) ++ (Go.Num.beB (48 : Nat) (Go.Num.v16 (Go.Num.W (24 : Nat) ((Go.Num.be (Go.Num.partL l (0 : Nat))) % (Go.Num.Fld.m Go.Num.fld))))))))
    (h9 : ((List.length ((Go.Num.beB (48 : Nat) (Go.Num.v16 (Go.Num.W (24 : Nat) ((Go.Num.be (Go.Num.partL l (1 : Nat))) % (Go.Num.Fld.m Go.Num.fld))))) ++ (Go.Num.beB (48 : Nat) (Go.Num.v16 (Go.Num.W (24 : Nat) ((Go.Num.be (Go.Num.partL l (0 : Nat))) % (Go.Num.Fld.m Go.Num.fld))))))) ≤ (9223372036854775807 : Nat)))
    (h10 : (Go.Num.InB (Go.Num.partL l (2 : Nat))))
    (h11 : ((List.length (Go.Num.partL l (2 : Nat))) ≤ (1000000 : Nat)))
    (h12 : (Go.Num.InB (Go.Num.partL l (3 : Nat))))
    (h13 : ((List.length (Go.Num.partL l (3 : Nat))) ≤ (1000000 : Nat)))
    (h14 : ((Go.Num.In16 (Go.Num.W (24 : Nat) ((Go.Num.be (Go.Num.partL l (2 : Nat))) % (Go.Num.Fld.m Go.Num.fld)))) ∧ ((List.length (Go.Num.W (24 : Nat) ((Go.Num.be (Go.Num.partL l (2 : Nat))) % (Go.Num.Fld.m Go.Num.fld)))) ≤ (1000000 : Nat))))
    (h15 : ((Go.Num.In16 (Go.Num.W (24 : Nat) ((Go.Num.be (Go.Num.partL l (3 : Nat))) % (Go.Num.Fld.m Go.Num.fld)))) ∧ ((List.length (Go.Num.W (24 : Nat) ((Go.Num.be (Go.Num.partL l (3 : Nat))) % (Go.Num.Fld.m Go.Num.fld)))) ≤ (1000000 : Nat))))
    (h16 : (Go.Num.InB ((Go.Num.beB (48 : Nat) (Go.Num.v16 (Go.Num.W (24 : Nat) ((Go.Num.be (Go.Num.partL l (3 : Nat))) % (Go.Num.Fld.m Go.Num.fld))))) ++ (Go.Num.beB (48 : Nat) (Go.Num.v16 (Go.Num.W (24 : Nat) ((Go.Num.be (Go.Num.partL l (2 : Nat))) % (Go.Num.Fld.m Go.Num.fld))))))))
    (h17 : ((List.length ((Go.Num.beB (48 : Nat) (Go.Num.v16 (Go.Num.W (24 : Nat) ((Go.Num.be (Go.Num.partL l (3 : Nat))) % (Go.Num.Fld.m Go.Num.fld))))) ++ (Go.Num.beB (48 : Nat) (Go.Num.v16 (Go.Num.W (24 : Nat) ((Go.Num.be (Go.Num.partL l (2 : Nat))) % (Go.Num.Fld.m Go.Num.fld))))))) ≤ (9223372036854775807 : Nat)))
    (h18 : (Go.Num.InB (Go.Num.partL l (4 : Nat))))
    (h19 : ((List.length (Go.Num.partL l (4 : Nat))) ≤ (1000000 : Nat)))
    (h20 : (Go.Num.InB (Go.Num.partL l (5 : Nat))))
    (h21 : ((List.length (Go.Num.partL l (5 : Nat))) ≤ (1000000 : Nat)))
    (h22 : ((Go.Num.In16 (Go.Num.W (24 : Nat) ((Go.Num.be (Go.Num.partL l (4 : Nat))) % (Go.Num.Fld.m Go.Num.fld)))) ∧ ((List.length (Go.Num.W (24 : Nat) ((Go.Num.be (Go.Num.partL l (4 : Nat))) % (Go.Num.Fld.m Go.Num.fld)))) ≤ (1000000 : Nat))))
    (h23 : ((Go.Num.In16 (Go.Num.W (24 : Nat) ((Go.Num.be (Go.Num.partL l (5 : Nat))) % (Go.Num.Fld.m Go.Num.fld)))) ∧ ((List.length (Go.Num.W (24 : Nat) ((Go.Num.be (Go.Num.partL l (5 : Nat))) % (Go.Num.Fld.m Go.Num.fld)))) ≤ (1000000 : Nat))))
    (h24 : (Go.Num.InB ((Go.Num.beB (48 : Nat) (Go.Num.v16 (Go.Num.W (24 : Nat) ((Go.Num.be (Go.Num.partL l (5 : Nat))) % (Go.Num.Fld.m Go.Num.fld))))) ++ (Go.Num.beB (48 : Nat) (Go.Num.v16 (Go.Num.W (24 : Nat) ((Go.Num.be (Go.Num.partL l (4 : Nat))) % (Go.Num.Fld.m Go.Num.fld))))))))
    (h25 : ((List.length ((Go.Num.beB (48 : Nat) (Go.Num.v16 (Go.Num.W (24 : Nat) ((Go.Num.be (Go.Num.partL l (5 : Nat))) % (Go.Num.Fld.m Go.Num.fld))))) ++ (Go.Num.beB (48 : Nat) (Go.Num.v16 (Go.Num.W (24 : Nat) ((Go.Num.be (Go.Num.partL l (4 : Nat))) % (Go.Num.Fld.m Go.Num.fld))))))) ≤ (9223372036854775807 : Nat)))
    (h26 : (Go.Num.InB (Go.Num.partL l (6 : Nat))))
    (h27 : ((List.length (Go.Num.partL l (6 : Nat))) ≤ (1000000 : Nat)))
    (h28 : (Go.Num.InB (Go.Num.partL l (7 : Nat))))
    (h29 : ((List.length (Go.Num.partL l (7 : Nat))) ≤ (1000000 : Nat)))
    (h30 : ((Go.Num.In16 (Go.Num.W (24 : Nat) ((Go.Num.be (Go.Num.partL l (6 : Nat))) % (Go.Num.Fld.m Go.Num.fld)))) ∧ ((List.length (Go.Num.W (24 : Nat) ((Go.Num.be (Go.Num.partL l (6 : Nat))) % (Go.Num.Fld.m Go.Num.fld)))) ≤ (1000000 : Nat))))
    (h31 : ((Go.Num.In16 (Go.Num.W (24 : Nat) ((Go.Num.be (Go.Num.partL l (7 : Nat))) % (Go.Num.Fld.m Go.Num.fld)))) ∧ ((List.length (Go.Num.W (24 : Nat) ((Go.Num.be (Go.Num.partL l (7 : Nat))) % (Go.Num.Fld.m Go.Num.fld)))) ≤ (1000000 : Nat))))
    (h32 : (Go.Num.InB ((Go.Num.beB (48 : Nat) (Go.Num.v16 (Go.Num.W (24 : Nat) ((Go.Num.be (Go.Num.partL l (7 : Nat))) % (Go.Num.Fld.m Go.Num.fld))))) ++ (Go.Num.beB (48 : Nat) (Go.Num.v16 (Go.Num.W (24 : Nat) ((Go.Num.be (Go.Num.partL l (6 : Nat))) % (Go.Num.Fld.m Go.Num.fld))))))))
    (h33 : ((List.length ((Go.Num.beB (48 : Nat) (Go.Num.v16 (Go.Num.W (24 : Nat) ((Go.Num.be (Go.Num.partL l (7 : Nat))) % (Go.Num.Fld.m Go.Num.fld))))) ++ (Go.Num.beB (48 : Nat) (Go.Num.v16 (Go.Num.W (24 : Nat) ((Go.Num.be (Go.Num.partL l (6 : Nat))) % (Go.Num.Fld.m Go.Num.fld))))))) ≤ (9223372036854775807 : Nat)))
    (h34 : (Go.Num.InB (Go.Num.partL l (8 : Nat))))
    (h35 : ((List.length (Go.Num.partL l (8 : Nat))) ≤ (1000000 : Nat)))
    (h36 : (Go.Num.InB (Go.Num.partL l (9 : Nat))))
    (h37 : ((List.length (Go.Num.partL l (9 : Nat))) ≤ (1000000 : Nat)))
    (h38 : ((Go.Num.In16 (Go.Num.W (24 : Nat) ((Go.Num.be (Go.Num.partL l (8 : Nat))) % (Go.Num.Fld.m Go.Num.fld)))) ∧ ((List.length (Go.Num.W (24 : Nat) ((Go.Num.be (Go.Num.partL l (8 : Nat))) % (Go.Num.Fld.m Go.Num.fld)))) ≤ (1000000 : Nat))))
    (h39 : ((Go.Num.In16 (Go.Num.W (24 : Nat) ((Go.Num.be (Go.Num.partL l (9 : Nat))) % (Go.Num.Fld.m Go.Num.fld)))) ∧ ((List.length (Go.Num.W (24 : Nat) ((Go.Num.be (Go.Num.partL l (9 : Nat))) % (Go.Num.Fld.m Go.Num.fld)))) ≤ (1000000 : Nat))))
    (h40 : (Go.Num.InB ((Go.Num.beB (48 : Nat) (Go.Num.v16 (Go.Num.W (24 : Nat) ((Go.Num.be (Go.Num.partL l (9 : Nat))) % (Go.Num.Fld.m Go.Num.fld))))) ++ (Go.Num.beB (48 : Nat) (Go.Num.v16 (Go.Num.W (24 : Nat) ((Go.Num.be (Go.Num.partL l (8 : Nat))) % (Go.Num.Fld.m Go.Num.fld))))))))
    (h41 : ((List.length ((Go.Num.beB (48 : Nat) (Go.Num.v16 (Go.Num.W (24 : Nat) ((Go.Num.be (Go.Num.partL l (9 : Nat))) % (Go.Num.Fld.m Go.Num.fld))))) ++ (Go.Num.beB (48 : Nat) (Go.Num.v16 (Go.Num.W (24 : Nat) ((Go.Num.be (Go.Num.partL l (8 : Nat))) % (Go.Num.Fld.m Go.Num.fld))))))) ≤ (9223372036854775807 : Nat)))
    (h42 : (Go.Num.InB (Go.Num.partL l (10 : Nat))))
    (h43 : ((List.length (Go.Num.partL l (10 : Nat))) ≤ (1000000 : Nat)))
    (h44 : (Go.Num.InB (Go.Num.partL l (11 : Nat))))
    (h45 : ((List.length (Go.Num.partL l (11 : Nat))) ≤ (1000000 : Nat)))
    (h46 : ((Go.Num.In16 (Go.Num.W (24 : Nat) ((Go.Num.be (Go.Num.partL l (10 : Nat))) % (Go.Num.Fld.m Go.Num.fld)))) ∧ ((List.length (Go.Num.W (24 : Nat) ((Go.Num.be (Go.Num.partL l (10 : Nat))) % (Go.Num.Fld.m Go.Num.fld)))) ≤ (1000000 : Nat))))
    (h47 : ((Go.Num.In16 (Go.Num.W (24 : Nat) ((Go.Num.be (Go.Num.partL l (11 : Nat))) % (Go.Num.Fld.m Go.Num.fld)))) ∧ ((List.length (Go.Num.W (24 : Nat) ((Go.Num.be (Go.Num.partL l (11 : Nat))) % (Go.Num.Fld.m Go.Num.fld)))) ≤ (1000000 : Nat))))
    (h48 : (Go.Num.InB ((Go.Num.beB (48 : Nat) (Go.Num.v16 (Go.Num.W (24 : Nat) ((Go.Num.be (Go.Num.partL l (11 : Nat))) % (Go.Num.Fld.m Go.Num.fld))))) ++ (Go.Num.beB (48 : Nat) (Go.Num.v16 (Go.Num.W (24 : Nat) ((Go.Num.be (Go.Num.partL l (10 : Nat))) % (Go.Num.Fld.m Go.Num.fld))))))))
    (h49 : ((List.length ((Go.Num.beB (48 : Nat) (Go.Num.v16 (Go.Num.W (24 : Nat) ((Go.Num.be (Go.Num.partL l (11 : Nat))) % (Go.Num.Fld.m Go.Num.fld))))) ++ (Go.Num.beB (48 : Nat) (Go.Num.v16 (Go.Num.W (24 : Nat) ((Go.Num.be (Go.Num.partL l (10 : Nat))) % (Go.Num.Fld.m Go.Num.fld))))))) ≤ (9223372036854775807 : Nat))) :
    ∃ ps, runF Try.prog FD gam25 200 Try.f11 [.one (.words .u8 l)] [.roll] = some ((Go.Abs.AV.tup ((Go.Abs.A0.agg ((Go.Abs.Part.fresh (0 : Nat) (43 : TypeId) Go.IntKind.u32 (Go.Num.W (24 : Nat) ((Go.Num.be (Go.Num.partL l (0 : Nat))) % (Go.Num.Fld.m Go.Num.fld)))) :: ((Go.Abs.Part.fresh (1 : Nat) (43 : TypeId) Go.IntKind.u32 (Go.Num.W (24 : Nat) ((Go.Num.be (Go.Num.partL l (1 : Nat))) % (Go.Num.Fld.m Go.Num.fld)))) :: ((Go.Abs.Part.fresh (2 : Nat) (43 : TypeId) Go.IntKind.u32 (Go.Num.W (24 : Nat) ((Go.Num.be (Go.Num.partL l (2 : Nat))) % (Go.Num.Fld.m Go.Num.fld)))) :: ((Go.Abs.Part.fresh (3 : Nat) (43 : TypeId) Go.IntKind.u32 (Go.Num.W (24 : Nat) ((Go.Num.be (Go.Num.partL l (3 : Nat))) % (Go.Num.Fld.m Go.Num.fld)))) :: ((Go.Abs.Part.fresh (4 : Nat) (43 : TypeId) Go.IntKind.u32 (Go.Num.W (24 : Nat) ((Go.Num.be (Go.Num.partL l (4 : Nat))) % (Go.Num.Fld.m Go.Num.fld)))) :: ((Go.Abs.Part.fresh (5 : Nat) (43 : TypeId) Go.IntKind.u32 (Go.Num.W (24 : Nat) ((Go.Num.be (Go.Num.partL l (5 : Nat))) % (Go.Num.Fld.m Go.Num.fld)))) :: ((Go.Abs.Part.fresh (6 : Nat) (43 : TypeId) Go.IntKind.u32 (Go.Num.W (24 : Nat) ((Go.Num.be (Go.Num.partL l (6 : Nat))) % (Go.Num.Fld.m Go.Num.fld)))) :: ((Go.Abs.Part.fresh (7 : Nat) (43 : TypeId) Go.IntKind.u32 (Go.Num.W (24 : Nat) ((Go.Num.be (Go.Num.partL l (7 : Nat))) % (Go.Num.Fld.m Go.Num.fld)))) :: ((Go.Abs.Part.fresh (8 : Nat) (43 : TypeId) Go.IntKind.u32 (Go.Num.W (24 : Nat) ((Go.Num.be (Go.Num.partL l (8 : Nat))) % (Go.Num.Fld.m Go.Num.fld)))) :: ((Go.Abs.Part.fresh (9 : Nat) (43 : TypeId) Go.IntKind.u32 (Go.Num.W (24 : Nat) ((Go.Num.be (Go.Num.partL l (9 : Nat))) % (Go.Num.Fld.m Go.Num.fld)))) :: ((Go.Abs.Part.fresh (10 : Nat) (43 : TypeId) Go.IntKind.u32 (Go.Num.W (24 : Nat) ((Go.Num.be (Go.Num.partL l (10 : Nat))) % (Go.Num.Fld.m Go.Num.fld)))) :: ((Go.Abs.Part.fresh (11 : Nat) (43 : TypeId) Go.IntKind.u32 (Go.Num.W (24 : Nat) ((Go.Num.be (Go.Num.partL l (11 : Nat))) % (Go.Num.Fld.m Go.Num.fld)))) :: ([] : List (Part FD.τ))))))))))))))) :: ((Go.Abs.A0.agg ((Go.Abs.Part.tag (Go.Num.T.e2 (Go.Num.read2N ((Go.Num.beB (48 : Nat) (Go.Num.v16 (Go.Num.W (24 : Nat) ((Go.Num.be (Go.Num.partL l (1 : Nat))) % (Go.Num.Fld.m Go.Num.fld))))) ++ (Go.Num.beB (48 : Nat) (Go.Num.v16 (Go.Num.W (24 : Nat) ((Go.Num.be (Go.Num.partL l (0 : Nat))) % (Go.Num.Fld.m Go.Num.fld))))))))) :: ((Go.Abs.Part.tag (Go.Num.T.e2 (Go.Num.read2N ((Go.Num.beB (48 : Nat) (Go.Num.v16 (Go.Num.W (24 : Nat) ((Go.Num.be (Go.Num.partL l (5 : Nat))) % (Go.Num.Fld.m Go.Num.fld))))) ++ (Go.Num.beB (48 : Nat) (Go.Num.v16 (Go.Num.W (24 : Nat) ((Go.Num.be (Go.Num.partL l (4 : Nat))) % (Go.Num.Fld.m Go.Num.fld))))))))) :: ((Go.Abs.Part.tag (Go.Num.T.e2 (Go.Num.read2N ((Go.Num.beB (48 : Nat) (Go.Num.v16 (Go.Num.W (24 : Nat) ((Go.Num.be (Go.Num.partL l (9 : Nat))) % (Go.Num.Fld.m Go.Num.fld))))) ++ (Go.Num.beB (48 : Nat) (Go.Num.v16 (Go.Num.W (24 : Nat) ((Go.Num.be (Go.Num.partL l (8 : Nat))) % (Go.Num.Fld.m Go.Num.fld))))))))) :: ((Go.Abs.Part.tag (Go.Num.T.e2 (Go.Num.read2N ((Go.Num.beB (48 : Nat) (Go.Num.v16 (Go.Num.W (24 : Nat) ((Go.Num.be (Go.Num.partL l (3 : Nat))) % (Go.Num.Fld.m Go.Num.fld))))) ++ (Go.Num.beB (48 : Nat) (Go.Num.v16 (Go.Num.W (24 : Nat) ((Go.Num.be (Go.Num.partL l (2 : Nat))) % (Go.Num.Fld.m Go.Num.fld))))))))) :: ((Go.Abs.Part.tag (Go.Num.T.e2 (Go.Num.read2N ((Go.Num.beB (48 : Nat) (Go.Num.v16 (Go.Num.W (24 : Nat) ((Go.Num.be (Go.Num.partL l (7 : Nat))) % (Go.Num.Fld.m Go.Num.fld))))) ++ (Go.Num.beB (48 : Nat) (Go.Num.v16 (Go.Num.W (24 : Nat) ((Go.Num.be (Go.Num.partL l (6 : Nat))) % (Go.Num.Fld.m Go.Num.fld))))))))) :: ((Go.Abs.Part.tag (Go.Num.T.e2 (Go.Num.read2N ((Go.Num.beB (48 : Nat) (Go.Num.v16 (Go.Num.W (24 : Nat) ((Go.Num.be (Go.Num.partL l (11 : Nat))) % (Go.Num.Fld.m Go.Num.fld))))) ++ (Go.Num.beB (48 : Nat) (Go.Num.v16 (Go.Num.W (24 : Nat) ((Go.Num.be (Go.Num.partL l (10 : Nat))) % (Go.Num.Fld.m Go.Num.fld))))))))) :: ([] : List (Part FD.τ))))))))) :: ([] : List (A0 FD.τ))))), ps) ∧ AllQ ps := ⟨_, number_run_r l, AllP.all ⟨(show ((0 : Int) ≤ (Go.IntKind.wrap Go.IntKind.i64 ((2 : Int) * (0 : Int)))) from by decide), (show ((Go.IntKind.wrap Go.IntKind.i64 ((2 : Int) * (0 : Int))) ≤ (11 : Int)) from by decide), h1, (show ((0 : Int) ≤ (Go.IntKind.wrap Go.IntKind.i64 ((Go.IntKind.wrap Go.IntKind.i64 ((2 : Int) * (0 : Int))) + (1 : Int)))) from by decide), (show ((Go.IntKind.wrap Go.IntKind.i64 ((Go.IntKind.wrap Go.IntKind.i64 ((2 : Int) * (0 : Int))) + (1 : Int))) ≤ (11 : Int)) from by decide), h1, h2, h3, h4, h5, h6, h7, h8, h9, (show ((0 : Int) ≤ (Go.IntKind.wrap Go.IntKind.i64 ((2 : Int) * (Go.IntKind.wrap Go.IntKind.i64 ((0 : Int) + (1 : Int)))))) from by decide), (show ((Go.IntKind.wrap Go.IntKind.i64 ((2 : Int) * (Go.IntKind.wrap Go.IntKind.i64 ((0 : Int) + (1 : Int))))) ≤ (11 : Int)) from by decide), h1, (show ((0 : Int) ≤ (Go.IntKind.wrap Go.IntKind.i64 ((Go.IntKind.wrap Go.IntKind.i64 ((2 : Int) * (Go.IntKind.wrap Go.IntKind.i64 ((0 : Int) + (1 : Int))))) + (1 : Int)))) from by decide), (show ((Go.IntKind.wrap Go.IntKind.i64 ((Go.IntKind.wrap Go.IntKind.i64 ((2 : Int) * (Go.IntKind.wrap Go.IntKind.i64 ((0 : Int) + (1 : Int))))) + (1 : Int))) ≤ (11 : Int)) from by decide), h1, h10, h11, h12, h13, h14, h15, h16, h17, (show ((0 : Int) ≤ (Go.IntKind.wrap Go.IntKind.i64 ((2 : Int) * (Go.IntKind.wrap Go.IntKind.i64 ((Go.IntKind.wrap Go.IntKind.i64 ((0 : Int) + (1 : Int))) + (1 : Int)))))) from by decide), (show ((Go.IntKind.wrap Go.IntKind.i64 ((2 : Int) * (Go.IntKind.wrap Go.IntKind.i64 ((Go.IntKind.wrap Go.IntKind.i64 ((0 : Int) + (1 : Int))) + (1 : Int))))) ≤ (11 : Int)) from by decide), h1, (show ((0 : Int) ≤ (Go.IntKind.wrap Go.IntKind.i64 ((Go.IntKind.wrap Go.IntKind.i64 ((2 : Int) * (Go.IntKind.wrap Go.IntKind.i64 ((Go.IntKind.wrap Go.IntKind.i64 ((0 : Int) + (1 : Int))) + (1 : Int))))) + (1 : Int)))) from by decide), (show ((Go.IntKind.wrap Go.IntKind.i64 ((Go.IntKind.wrap Go.IntKind.i64 ((2 : Int) * (Go.IntKind.wrap Go.IntKind.i64 ((Go.IntKind.wrap Go.IntKind.i64 ((0 : Int) + (1 : Int))) + (1 : Int))))) + (1 : Int))) ≤ (11 : Int)) from by decide), h1, h18, h19, h20, h21, h22, h23, h24, h25, (show ((0 : Int) ≤ (Go.IntKind.wrap Go.IntKind.i64 ((2 : Int) * (Go.IntKind.wrap Go.IntKind.i64 ((Go.IntKind.wrap Go.IntKind.i64 ((Go.IntKind.wrap Go.IntKind.i64 ((0 : Int) + (1 : Int))) + (1 : Int))) + (1 : Int)))))) from by decide), (show ((Go.IntKind.wrap Go.IntKind.i64 ((2 : Int) * (Go.IntKind.wrap Go.IntKind.i64 ((Go.IntKind.wrap Go.IntKind.i64 ((Go.IntKind.wrap Go.IntKind.i64 ((0 : Int) + (1 : Int))) + (1 : Int))) + (1 : Int))))) ≤ (11 : Int)) from by decide), h1, (show ((0 : Int) ≤ (Go.IntKind.wrap Go.IntKind.i64 ((Go.IntKind.wrap Go.IntKind.i64 ((2 : Int) * (Go.IntKind.wrap Go.IntKind.i64 ((Go.IntKind.wrap Go.IntKind.i64 ((Go.IntKind.wrap Go.IntKind.i64 ((0 : Int) + (1 : Int))) + (1 : Int))) + (1 : Int))))) + (1 : Int)))) from by decide), (show ((Go.IntKind.wrap Go.IntKind.i64 ((Go.IntKind.wrap Go.IntKind.i64 ((2 : Int) * (Go.IntKind.wrap Go.IntKind.i64 ((Go.IntKind.wrap Go.IntKind.i64 ((Go.IntKind.wrap Go.IntKind.i64 ((0 : Int) + (1 : Int))) + (1 : Int))) + (1 : Int))))) + (1 : Int))) ≤ (11 : Int)) from by decide), h1, h26, h27, h28, h29, h30, h31, h32, h33, (show ((0 : Int) ≤ (Go.IntKind.wrap Go.IntKind.i64 ((2 : Int) * (Go.IntKind.wrap Go.IntKind.i64 ((Go.IntKind.wrap Go.IntKind.i64 ((Go.IntKind.wrap Go.IntKind.i64 ((Go.IntKind.wrap Go.IntKind.i64 ((0 : Int) + (1 : Int))) + (1 : Int))) + (1 : Int))) + (1 : Int)))))) from by decide), (show ((Go.IntKind.wrap Go.IntKind.i64 ((2 : Int) * (Go.IntKind.wrap Go.IntKind.i64 ((Go.IntKind.wrap Go.IntKind.i64 ((Go.IntKind.wrap Go.IntKind.i64 ((Go.IntKind.wrap Go.IntKind.i64 ((0 : Int) + (1 : Int))) + (1 : Int))) + (1 : Int))) + (1 : Int))))) ≤ (11 : Int)) from by decide), h1, (show ((0 : Int) ≤ (Go.IntKind.wrap Go.IntKind.i64 ((Go.IntKind.wrap Go.IntKind.i64 ((2 : Int) * (Go.IntKind.wrap Go.IntKind.i64 ((Go.IntKind.wrap Go.IntKind.i64 ((Go.IntKind.wrap Go.IntKind.i64 ((Go.IntKind.wrap Go.IntKind.i64 ((0 : Int) + (1 : Int))) + (1 : Int))) + (1 : Int))) + (1 : Int))))) + (1 : Int)))) from by decide), (show ((Go.IntKind.wrap Go.IntKind.i64 ((Go.IntKind.wrap Go.IntKind.i64 ((2 : Int) * (Go.IntKind.wrap Go.IntKind.i64 ((Go.IntKind.wrap Go.IntKind.i64 ((Go.IntKind.wrap Go.IntKind.i64 ((Go.IntKind.wrap Go.IntKind.i64 ((0 : Int) + (1 : Int))) + (1 : Int))) + (1 : Int))) + (1 : Int))))) + (1 : Int))) ≤ (11 : Int)) from by decide), h1, h34, h35, h36, h37, h38, h39, h40, h41, (show ((0 : Int) ≤ (Go.IntKind.wrap Go.IntKind.i64 ((2 : Int) * (Go.IntKind.wrap Go.IntKind.i64 ((Go.IntKind.wrap Go.IntKind.i64 ((Go.IntKind.wrap Go.IntKind.i64 ((Go.IntKind.wrap Go.IntKind.i64 ((Go.IntKind.wrap Go.IntKind.i64 ((0 : Int) + (1 : Int))) + (1 : Int))) + (1 : Int))) + (1 : Int))) + (1 : Int)))))) from by decide), (show ((Go.IntKind.wrap Go.IntKind.i64 ((2 : Int) * (Go.IntKind.wrap Go.IntKind.i64 ((Go.IntKind.wrap Go.IntKind.i64 ((Go.IntKind.wrap Go.IntKind.i64 ((Go.IntKind.wrap Go.IntKind.i64 ((Go.IntKind.wrap Go.IntKind.i64 ((0 : Int) + (1 : Int))) + (1 : Int))) + (1 : Int))) + (1 : Int))) + (1 : Int))))) ≤ (11 : Int)) from by decide), h1, (show ((0 : Int) ≤ (Go.IntKind.wrap Go.IntKind.i64 ((Go.IntKind.wrap Go.IntKind.i64 ((2 : Int) * (Go.IntKind.wrap Go.IntKind.i64 ((Go.IntKind.wrap Go.IntKind.i64 ((Go.IntKind.wrap Go.IntKind.i64 ((Go.IntKind.wrap Go.IntKind.i64 ((Go.IntKind.wrap Go.IntKind.i64 ((0 : Int) + (1 : Int))) + (1 : Int))) + (1 : Int))) + (1 : Int))) + (1 : Int))))) + (1 : Int)))) from by decide), (show ((Go.IntKind.wrap Go.IntKind.i64 ((Go.IntKind.wrap Go.IntKind.i64 ((2 : Int) * (Go.IntKind.wrap Go.IntKind.i64 ((Go.IntKind.wrap Go.IntKind.i64 ((Go.IntKind.wrap Go.IntKind.i64 ((Go.IntKind.wrap Go.IntKind.i64 ((Go.IntKind.wrap Go.IntKind.i64 ((0 : Int) + (1 : Int))) + (1 : Int))) + (1 : Int))) + (1 : Int))) + (1 : Int))))) + (1 : Int))) ≤ (11 : Int)) from by decide), h1, h42, h43, h44, h45, h46, h47, h48, h49⟩⟩

theorem wd_W (n : Nat) (x : Int) (h : n ≤ 1000000) : In16 (W n x) ∧ (W n x).length ≤ 1000000 := ⟨W_in16 _ _, by rw [W_len]; exact h⟩
theorem inB_app {l m : List Int} (h : InB l) (k : InB m) : InB (l ++ m) := fun a ha => (List.mem_append.1 ha).elim (h a) (k a)
theorem inB_96 (x y : Int) : InB (beB 48 x ++ beB 48 y) := inB_app (beB_inB _ _) (beB_inB _ _)
theorem len_96 (x y : Int) : (beB 48 x ++ beB 48 y).length ≤ 9223372036854775807 := by rw [List.length_append, beB_len, beB_len]; omega

theorem read2_num (x y : Int) : Q2 fld.m (read2N (beB 48 (v16 (W 24 (y % fld.m))) ++ beB 48 (v16 (W 24 (x % fld.m))))) ⟨x, y⟩ := by
  rw [vX, vX]
  have ex := mod_m x
  have ey := mod_m y
  have l1 : (beB 48 (y % fld.m)).length = 48 := beB_len _ _
  have t1 : (beB 48 (y % fld.m) ++ beB 48 (x % fld.m)).take 48 = beB 48 (y % fld.m) := List.take_left' l1
  have t2 : (beB 48 (y % fld.m) ++ beB 48 (x % fld.m)).drop 48 = beB 48 (x % fld.m) := List.drop_left' l1
  have v1 : be (beB 48 (y % fld.m)) = y % fld.m := by rw [be_beB]; exact pX y
  have v2 : be (beB 48 (x % fld.m)) = x % fld.m := by rw [be_beB]; exact pX x
  rw [read2N, if_pos ⟨by rw [List.length_append, beB_len, beB_len], by rw [t1, v1]; exact ey.2, by rw [t2, v2]; exact ex.2⟩, t1, t2, v1, v2]
  exact ⟨Int.emod_emod .., Int.emod_emod ..⟩

theorem le_e12m {x y : K12} (h : Q12 fld.m x y) : TagLe FD (.e12 x) (.e12 y) := by
  intro cs hc
  have hc' : cs = (fld.ws (.e12 x)).map (Value.int .u64) := hc
  have e := (fld.eqT_spec (s := .e12 x) (t := .e12 y) (c := decide (Q12 fld.m x y)) rfl).1
  rw [decide_eq_true h] at e
  rw [of_decide_eq_true e] at hc'
  exact hc'

theorem e12_e12 {E : Env} {x y : K12} {v : Value} (h : Q12 fld.m x y) (hv : A0Rel FD E (.agg [.tag (.e12 x)]) v) : A0Rel FD E (.agg [.tag (.e12 y)]) v := by
  obtain ⟨cs, e, c1, c2, rfl, h1, h2⟩ := hv
  exact ⟨_, e, c1, c2, rfl, le_e12m h _ h1, h2⟩

def numberD12 : FnD FD
  | [.one (.words .u8 l)] => some (.tup [.agg (fr12 (numK l)), s12.arg (numK l)], [InB l, l.length ≤ 1000000])
  | _ => none

theorem number_ok : FnOK Try.prog FD 11 numberD12 := by
  refine fnOK_of gam25_ok mixed Try.func11 (enters_of Try.func11 (by kernel_rfl) rfl) ?_
  intro xs r ps h hps
  unfold numberD12 at h
  split at h
  · rename_i l
    simp only [Option.some.injEq, Prod.mk.injEq] at h
    obtain ⟨rfl, rfl⟩ := h
    have hb : InB l := hps _ (by simp)
    have hl : l.length ≤ 1000000 := hps _ (by simp)
    have b := partL_inB hb
    have c := fun k => Nat.le_trans (partL_len l k) (show 48 ≤ 1000000 from by decide)
    have w := fun k => wd_W 24 (be (partL l k) % fld.m) (by decide)
    have i := fun k j => inB_96 (v16 (W 24 (be (partL l k) % fld.m))) (v16 (W 24 (be (partL l j) % fld.m)))
    have n := fun k j => len_96 (v16 (W 24 (be (partL l k) % fld.m))) (v16 (W 24 (be (partL l j) % fld.m)))
    obtain ⟨ps, h1, h2⟩ := number_run l hl (b 0) (c 0) (b 1) (c 1) (w 0) (w 1) (i 1 0) (n 1 0) (b 2) (c 2) (b 3) (c 3) (w 2) (w 3) (i 3 2) (n 3 2) (b 4) (c 4) (b 5) (c 5) (w 4) (w 5) (i 5 4) (n 5 4)
      (b 6) (c 6) (b 7) (c 7) (w 6) (w 7) (i 7 6) (n 7 6) (b 8) (c 8) (b 9) (c 9) (w 8) (w 9) (i 9 8) (n 9 8) (b 10) (c 10) (b 11) (c 11) (w 10) (w 11) (i 11 10) (n 11 10)
    refine ⟨_, 200, _, _, _, fun w vs h => h, h1, h2, fun E v hv => ?_⟩
    refine tup2 (fun v hv => hv) (fun v hv => ?_) hv
    have h3 := s12.all_rel rfl hv
    refine e12_e12 ?_ h3
    exact ⟨⟨read2_num _ _, read2_num _ _, read2_num _ _⟩, read2_num _ _, read2_num _ _, read2_num _ _⟩
  · cases h

/-! whether an element is a number -/

def w5s : List (Part FD.τ) → Option (List (List Int))
  | [] => some []
  | p :: ps => match w5 p, w5s ps with
    | some l, some r => some (l :: r)
    | _, _ => none

def wP (ls : List (List Int)) : List (Part FD.τ) := ls.map (.words .u32)

theorem w5s_rel {E : Env} : ∀ {ps : List (Part FD.τ)} {ls : List (List Int)} {cs : List Value}, w5s ps = some ls → PartsRel FD E ps cs → PartsRel FD E (wP ls) cs
  | [], ls, cs, h, hp => by
    cases h
    exact hp
  | p :: ps, ls, cs, h, hp => by
    simp only [w5s] at h
    split at h
    · rename_i l r hl hr
      cases h
      obtain ⟨c1, c2, rfl, h1, h2⟩ := hp
      exact ⟨c1, c2, rfl, w5_rel hl h1, w5s_rel hr h2⟩
    · cases h

theorem w5s_arg {E : Env} {ps : List (Part FD.τ)} {ls : List (List Int)} {v : Value} (h : w5s ps = some ls) (hv : A0Rel FD E (.agg ps) v) : A0Rel FD E (.agg (wP ls)) v := by
  obtain ⟨cs, e, hp⟩ := hv
  exact ⟨cs, e, w5s_rel h hp⟩

/-- The same number but for multiples of the modulus, in bytes. -/
def sameB (x : Int) (l : List Int) : Prop := x % fld.m = v16 l % 256 ^ 48

/-- Words are a number's. -/
def IsN (x : K12) (ls : List (List Int)) : Prop :=
  match ls with
  | [l0, l1, l2, l3, l4, l5, l6, l7, l8, l9, l10, l11] => AllQ [Wd l0, Wd l1, Wd l2, Wd l3, Wd l4, Wd l5, Wd l6, Wd l7, Wd l8, Wd l9, Wd l10, Wd l11,
        sameB x.a.a.a l0, sameB x.a.a.b l1, sameB x.b.a.a l2, sameB x.b.a.b l3, sameB x.a.b.a l4, sameB x.a.b.b l5, sameB x.b.b.a l6, sameB x.b.b.b l7, sameB x.a.c.a l8, sameB x.a.c.b l9, sameB x.b.c.a l10, sameB x.b.c.b l11]
  | _ => False

def isD12 : FnD FD
  | [.agg p, .agg q] => match s12.all p, w5s q with
    | some x, some [l0, l1, l2, l3, l4, l5, l6, l7, l8, l9, l10, l11] => some (.v (.one (.bool true true)), [IsN x [l0, l1, l2, l3, l4, l5, l6, l7, l8, l9, l10, l11]])
    | _, _ => none
  | _ => none

def gam26 : Gam FD := (43, bytes2D) :: (44, sameD FD) :: (11, numberD12) :: gam25
theorem gam26_ok : GamOK Try.prog FD gam26 := gam_cons bytes2_ok (gam_cons (same_ok FD) (gam_cons number_ok gam25_ok))

theorem is_run_r (x : K12) (l0 l1 l2 l3 l4 l5 l6 l7 l8 l9 l10 l11 : List Int) : runF Try.prog FD gam26 200 Try.f17 [s12.arg x, .agg (wP [l0, l1, l2, l3, l4, l5, l6, l7, l8, l9, l10, l11])] [.roll, .is true, .is true, .is true, .is true, .is true, .is true, .is true, .is true, .is true, .is true, .is true, .is true] =
    some ((Go.Abs.AV.v (Go.Abs.A0.one (Go.Abs.Part.bool Bool.true Bool.true))), [((Go.Num.In16 l0) ∧ ((List.length l0) ≤ (1000000 : Nat))), ((Go.Num.In16 l1) ∧ ((List.length l1) ≤ (1000000 : Nat))), ((decide (((Go.Num.beB (48 : Nat) ((((x).1).1).2 % (Go.Num.Fld.m Go.Num.fld))) ++ (Go.Num.beB (48 : Nat) ((((x).1).1).1 % (Go.Num.Fld.m Go.Num.fld)))) = ((Go.Num.beB (48 : Nat) (Go.Num.v16 l1)) ++ (Go.Num.beB (48 : Nat) (Go.Num.v16 l0))))) = Bool.true), ((List.length ((Go.Num.beB (48 : Nat) ((((x).1).1).2 % (Go.Num.Fld.m Go.Num.fld))) ++ (Go.Num.beB (48 : Nat) ((((x).1).1).1 % (Go.Num.Fld.m Go.Num.fld))))) ≤ (9223372036854775807 : Nat)), ((List.length ((Go.Num.beB (48 : Nat) (Go.Num.v16 l1)) ++ (Go.Num.beB (48 : Nat) (Go.Num.v16 l0)))) ≤ (9223372036854775807 : Nat)), ((Go.Num.In16 l2) ∧ ((List.length l2) ≤ (1000000 : Nat))), ((Go.Num.In16 l3) ∧ ((List.length l3) ≤ (1000000 : Nat))), ((decide (((Go.Num.beB (48 : Nat) ((((x).2).1).2 % (Go.Num.Fld.m Go.Num.fld))) ++ (Go.Num.beB (48 : Nat) ((((x).2).1).1 % (Go.Num.Fld.m Go.Num.fld)))) = ((Go.Num.beB (48 : Nat) (Go.Num.v16 l3)) ++ (Go.Num.beB (48 : Nat) (Go.Num.v16 l2))))) = Bool.true), ((List.length ((Go.Num.beB (48 : Nat) ((((x).2).1).2 % (Go.Num.Fld.m Go.Num.fld))) ++ (Go.Num.beB (48 : Nat) ((((x).2).1).1 % (Go.Num.Fld.m Go.Num.fld))))) ≤ (9223372036854775807 : Nat)), ((List.length ((Go.Num.beB (48 : Nat) (Go.Num.v16 l3)) ++ (Go.Num.beB (48 : Nat) (Go.Num.v16 l2)))) ≤ (9223372036854775807 : Nat)), ((Go.Num.In16 l4) ∧ ((List.length l4) ≤ (1000000 : Nat))), ((Go.Num.In16 l5) ∧ ((List.length l5) ≤ (1000000 : Nat))), ((decide (((Go.Num.beB (48 : Nat) ((((x).1).2).2 % (Go.Num.Fld.m Go.Num.fld))) ++ (Go.Num.beB (48 : Nat) ((((x).1).2).1 % (Go.Num.Fld.m Go.Num.fld)))) = ((Go.Num.beB (48 : Nat) (Go.Num.v16 l5)) ++ (Go.Num.beB (48 : Nat) (Go.Num.v16 l4))))) = Bool.true), ((List.length ((Go.Num.beB (48 : Nat) ((((x).1).2).2 % (Go.Num.Fld.m Go.Num.fld))) ++ (Go.Num.beB (48 : Nat) ((((x).1).2).1 % (Go.Num.Fld.m Go.Num.fld))))) ≤ (9223372036854775807 : Nat)), ((List.length ((Go.Num.beB (48 : Nat) (Go.Num.v16 l5)) ++ (Go.Num.beB (48 : Nat) (Go.Num.v16 l4)))) ≤ (9223372036854775807 : Nat)), ((Go.Num.In16 l6) ∧ ((List.length l6) ≤ (1000000 : Nat))), ((Go.Num.In16 l7) ∧ ((List.length l7) ≤ (1000000 : Nat))), ((decide (((Go.Num.beB (48 : Nat) ((((x).2).2).2 % (Go.Num.Fld.m Go.Num.fld))) ++ (Go.Num.beB (48 : Nat) ((((x).2).2).1 % (Go.Num.Fld.m Go.Num.fld)))) = ((Go.Num.beB (48 : Nat) (Go.Num.v16 l7)) ++ (Go.Num.beB (48 : Nat) (Go.Num.v16 l6))))) = Bool.true), ((List.length ((Go.Num.beB (48 : Nat) ((((x).2).2).2 % (Go.Num.Fld.m Go.Num.fld))) ++ (Go.Num.beB (48 : Nat) ((((x).2).2).1 % (Go.Num.Fld.m Go.Num.fld))))) ≤ (9223372036854775807 : Nat)), ((List.length ((Go.Num.beB (48 : Nat) (Go.Num.v16 l7)) ++ (Go.Num.beB (48 : Nat) (Go.Num.v16 l6)))) ≤ (9223372036854775807 : Nat)), ((Go.Num.In16 l8) ∧ ((List.length l8) ≤ (1000000 : Nat))), ((Go.Num.In16 l9) ∧ ((List.length l9) ≤ (1000000 : Nat))), ((decide (((Go.Num.beB (48 : Nat) ((((x).1).3).2 % (Go.Num.Fld.m Go.Num.fld))) ++ (Go.Num.beB (48 : Nat) ((((x).1).3).1 % (Go.Num.Fld.m Go.Num.fld)))) = ((Go.Num.beB (48 : Nat) (Go.Num.v16 l9)) ++ (Go.Num.beB (48 : Nat) (Go.Num.v16 l8))))) = Bool.true), ((List.length ((Go.Num.beB (48 : Nat) ((((x).1).3).2 % (Go.Num.Fld.m Go.Num.fld))) ++ (Go.Num.beB (48 : Nat) ((((x).1).3).1 % (Go.Num.Fld.m Go.Num.fld))))) ≤ (9223372036854775807 : Nat)), ((List.length ((Go.Num.beB (48 : Nat) (Go.Num.v16 l9)) ++ (Go.Num.beB (48 : Nat) (Go.Num.v16 l8)))) ≤ (9223372036854775807 : Nat)), ((Go.Num.In16 l10) ∧ ((List.length l10) ≤ (1000000 : Nat))), ((Go.Num.In16 l11) ∧ ((List.length l11) ≤ (1000000 : Nat))), ((decide (((Go.Num.beB (48 : Nat) ((((x).2).3).2 % (Go.Num.Fld.m Go.Num.fld))) ++ (Go.Num.beB (48 : Nat) ((((x).2).3).1 % (Go.Num.Fld.m Go.Num.fld)))) = ((Go.Num.beB (48 : Nat) (Go.Num.v16 l11)) ++ (Go.Num.beB (48 : Nat) (Go.Num.v16 l10))))) = Bool.true), ((List.length ((Go.Num.beB (48 : Nat) ((((x).2).3).2 % (Go.Num.Fld.m Go.Num.fld))) ++ (Go.Num.beB (48 : Nat) ((((x).2).3).1 % (Go.Num.Fld.m Go.Num.fld))))) ≤ (9223372036854775807 : Nat)), ((List.length ((Go.Num.beB (48 : Nat) (Go.Num.v16 l11)) ++ (Go.Num.beB (48 : Nat) (Go.Num.v16 l10)))) ≤ (9223372036854775807 : Nat))]) := by kernel_rfl
theorem is_run (x : K12) (l0 l1 l2 l3 l4 l5 l6 l7 l8 l9 l10 l11 : List Int)
    (h1 : ((Go.Num.In16 l0) ∧ ((List.length l0) ≤ (1000000 : Nat))))
    (h2 : ((Go.Num.In16 l1) ∧ ((List.length l1) ≤ (1000000 : Nat))))
    (h3 : ((decide (((Go.Num.beB (48 : Nat) ((((x).1).1).2 % (Go.Num.Fld.m Go.Num.fld))) ++ (Go.Num.beB (48 : Nat) ((((x).1).1).1 % (Go.Num.Fld.m Go.Num.fld)))) = ((Go.Num.beB (48 : Nat) (Go.Num.v16 l1)) ++ (Go.Num.beB (48 : Nat) (Go.Num.v16 l0))))) = Bool.true))
    (h4 : ((List.length ((Go.Num.beB (48 : Nat) ((((x).1).1).2 % (Go.Num.Fld.m Go.Num.fld))) ++ (Go.Num.beB (48 : Nat) ((((x).1).1).1 % (Go.Num.Fld.m Go.Num.fld))))) ≤ (9223372036854775807 : Nat)))
    (h5 : ((List.length ((Go.Num.beB (48 : Nat) (Go.Num.v16 l1)) ++ (Go.Num.beB (48 : Nat) (Go.Num.v16 l0)))) ≤ (9223372036854775807 : Nat)))
    (h6 : ((Go.Num.In16 l2) ∧ ((List.length l2) ≤ (1000000 : Nat))))
    (h7 : ((Go.Num.In16 l3) ∧ ((List.length l3) ≤ (1000000 : Nat))))
    (h8 : ((decide (((Go.Num.beB (48 : Nat) ((((x).2).1).2 % (Go.Num.Fld.m Go.Num.fld))) ++ (Go.Num.beB (48 : Nat) ((((x).2).1).1 % (Go.Num.Fld.m Go.Num.fld)))) = ((Go.Num.beB (48 : Nat) (Go.Num.v16 l3)) ++ (Go.Num.beB (48 : Nat) (Go.Num.v16 l2))))) = Bool.true))
    (h9 : ((List.length ((Go.Num.beB (48 : Nat) ((((x).2).1).2 % (Go.Num.Fld.m Go.Num.fld))) ++ (Go.Num.beB (48 : Nat) ((((x).2).1).1 % (Go.Num.Fld.m Go.Num.fld))))) ≤ (9223372036854775807 : Nat)))
    (h10 : ((List.length ((Go.Num.beB (48 : Nat) (Go.Num.v16 l3)) ++ (Go.Num.beB (48 : Nat) (Go.Num.v16 l2)))) ≤ (9223372036854775807 : Nat)))
    (h11 : ((Go.Num.In16 l4) ∧ ((List.length l4) ≤ (1000000 : Nat))))
    (h12 : ((Go.Num.In16 l5) ∧ ((List.length l5) ≤ (1000000 : Nat))))
    (h13 : ((decide (((Go.Num.beB (48 : Nat) ((((x).1).2).2 % (Go.Num.Fld.m Go.Num.fld))) ++ (Go.Num.beB (48 : Nat) ((((x).1).2).1 % (Go.Num.Fld.m Go.Num.fld)))) = ((Go.Num.beB (48 : Nat) (Go.Num.v16 l5)) ++ (Go.Num.beB (48 : Nat) (Go.Num.v16 l4))))) = Bool.true))
    (h14 : ((List.length ((Go.Num.beB (48 : Nat) ((((x).1).2).2 % (Go.Num.Fld.m Go.Num.fld))) ++ (Go.Num.beB (48 : Nat) ((((x).1).2).1 % (Go.Num.Fld.m Go.Num.fld))))) ≤ (9223372036854775807 : Nat)))
    (h15 : ((List.length ((Go.Num.beB (48 : Nat) (Go.Num.v16 l5)) ++ (Go.Num.beB (48 : Nat) (Go.Num.v16 l4)))) ≤ (9223372036854775807 : Nat)))
    (h16 : ((Go.Num.In16 l6) ∧ ((List.length l6) ≤ (1000000 : Nat))))
    (h17 : ((Go.Num.In16 l7) ∧ ((List.length l7) ≤ (1000000 : Nat))))
    (h18 : ((decide (((Go.Num.beB (48 : Nat) ((((x).2).2).2 % (Go.Num.Fld.m Go.Num.fld))) ++ (Go.Num.beB (48 : Nat) ((((x).2).2).1 % (Go.Num.Fld.m Go.Num.fld)))) = ((Go.Num.beB (48 : Nat) (Go.Num.v16 l7)) ++ (Go.Num.beB (48 : Nat) (Go.Num.v16 l6))))) = Bool.true))
    (h19 : ((List.length ((Go.Num.beB (48 : Nat) ((((x).2).2).2 % (Go.Num.Fld.m Go.Num.fld))) ++ (Go.Num.beB (48 : Nat) ((((x).2).2).1 % (Go.Num.Fld.m Go.Num.fld))))) ≤ (9223372036854775807 : Nat)))
    (h20 : ((List.length ((Go.Num.beB (48 : Nat) (Go.Num.v16 l7)) ++ (Go.Num.beB (48 : Nat) (Go.Num.v16 l6)))) ≤ (9223372036854775807 : Nat)))
    (h21 : ((Go.Num.In16 l8) ∧ ((List.length l8) ≤ (1000000 : Nat))))
    (h22 : ((Go.Num.In16 l9) ∧ ((List.length l9) ≤ (1000000 : Nat))))
    (h23 : ((decide (((Go.Num.beB (48 : Nat) ((((x).1).3).2 % (Go.Num.Fld.m Go.Num.fld))) ++ (Go.Num.beB (48 : Nat) ((((x).1).3).1 % (Go.Num.Fld.m Go.Num.fld)))) = ((Go.Num.beB (48 : Nat) (Go.Num.v16 l9)) ++ (Go.Num.beB (48 : Nat) (Go.Num.v16 l8))))) = Bool.true))
    (h24 : ((List.length ((Go.Num.beB (48 : Nat) ((((x).1).3).2 % (Go.Num.Fld.m Go.Num.fld))) ++ (Go.Num.beB (48 : Nat) ((((x).1).3).1 % (Go.Num.Fld.m Go.Num.fld))))) ≤ (9223372036854775807 : Nat)))
    (h25 : ((List.length ((Go.Num.beB (48 : Nat) (Go.Num.v16 l9)) ++ (Go.Num.beB (48 : Nat) (Go.Num.v16 l8)))) ≤ (9223372036854775807 : Nat)))
    (h26 : ((Go.Num.In16 l10) ∧ ((List.length l10) ≤ (1000000 : Nat))))
    (h27 : ((Go.Num.In16 l11) ∧ ((List.length l11) ≤ (1000000 : Nat))))
    (h28 : ((decide (((Go.Num.beB (48 : Nat) ((((x).2).3).2 % (Go.Num.Fld.m Go.Num.fld))) ++ (Go.Num.beB (48 : Nat) ((((x).2).3).1 % (Go.Num.Fld.m Go.Num.fld)))) = ((Go.Num.beB (48 : Nat) (Go.Num.v16 l11)) ++ (Go.Num.beB (48 : Nat) (Go.Num.v16 l10))))) = Bool.true))
    (h29 : ((List.length ((Go.Num.beB (48 : Nat) ((((x).2).3).2 % (Go.Num.Fld.m Go.Num.fld))) ++ (Go.Num.beB (48 : Nat) ((((x).2).3).1 % (Go.Num.Fld.m Go.Num.fld))))) ≤ (9223372036854775807 : Nat)))
    (h30 : ((List.length ((Go.Num.beB (48 : Nat) (Go.Num.v16 l11)) ++ (Go.Num.beB (48 : Nat) (Go.Num.v16 l10)))) ≤ (9223372036854775807 : Nat))) :
    ∃ ps, runF Try.prog FD gam26 200 Try.f17 [s12.arg x, .agg (wP [l0, l1, l2, l3, l4, l5, l6, l7, l8, l9, l10, l11])] [.roll, .is true, .is true, .is true, .is true, .is true, .is true, .is true, .is true, .is true, .is true, .is true, .is true] = some ((Go.Abs.AV.v (Go.Abs.A0.one (Go.Abs.Part.bool Bool.true Bool.true))), ps) ∧ AllQ ps := ⟨_, is_run_r x l0 l1 l2 l3 l4 l5 l6 l7 l8 l9 l10 l11, AllP.all ⟨h1, h2, h3, h4, h5, h6, h7, h8, h9, h10, h11, h12, h13, h14, h15, h16, h17, h18, h19, h20, h21, h22, h23, h24, h25, h26, h27, h28, h29, h30⟩⟩

end Go.Num
