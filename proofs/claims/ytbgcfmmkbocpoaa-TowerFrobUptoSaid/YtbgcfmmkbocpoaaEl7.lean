/- A field's numbers in bytes. -/
import Derived.Test.YtbgcfmmkbocpoaaWords2
namespace Go.Num
open Go.Abs Go.Proofs Go.Shelf

/-- The product of words, its words one by one. -/
def timesWD : FnD FD
  | [.agg p, .agg q] => match numOf fld p, numOf fld q with
    | some (x, c), some (y, d) => some (.v (.agg (wordsP fld (limbs 6 (fld.mont x (y % fld.R))))), (0 ≤ x ∧ x < fld.m) :: (c ++ d))
    | _, _ => none
  | _ => none

theorem timesW_ok : FnOK Try.prog FD 53 timesWD := by
  refine fnOK_post times_ok ?_
  intro xs r ps h hps
  unfold timesWD at h
  split at h
  · rename_i p q
    split at h
    · rename_i x c y d hx hy
      simp only [Option.some.injEq, Prod.mk.injEq] at h
      obtain ⟨rfl, rfl⟩ := h
      refine ⟨_, _, _, fun w vs h => h, by unfold timesD; simp only [hx, hy]; rfl, hps, fun E v hv => ?_⟩
      obtain ⟨cs, e, hp⟩ := hv
      exact ⟨cs, e, (wordsP_rel fld).2 ((tag_rel fld).1 hp)⟩
    · cases h
  · cases h

/-- The product of a number of the field and any words. -/
def timesED : FnD FD
  | [.agg [.tag (.el a)], .agg q] => match numOf fld q with
    | some (y, d) => some (.v (.agg [.tag (.el (a * (y % fld.R) * fld.ri))]), d)
    | _ => none
  | _ => none

theorem enc_ri (y : Int) : fld.enc (y * fld.ri) = y % fld.m := by
  obtain ⟨k, hk⟩ := fld.ri_eq
  unfold Fld.enc
  refine emod_congr (y * k) ?_
  rw [Int.mul_assoc, Int.mul_comm fld.ri, hk]
  generalize fld.m = m
  grind

theorem timesE_ok : FnOK Try.prog FD 53 timesED := by
  refine fnOK_post times_ok ?_
  intro xs r ps h hps
  unfold timesED at h
  split at h
  · rename_i a q
    split at h
    · rename_i y d hy
      simp only [Option.some.injEq, Prod.mk.injEq] at h
      obtain ⟨rfl, rfl⟩ := h
      refine ⟨_, _, _, fun w vs h => h, by unfold timesD; simp only [hy]; rfl, allQ_cons (fld.enc_range a) hps, fun E v hv => ?_⟩
      refine (el_num fld).2 (num_num fld ?_ hv)
      rw [enc_ri]
      show fld.mont (fld.enc a) _ % _ = _
      rw [fld.mont_enc]
    · cases h
  · cases h

def bytesD : FnD FD
  | [.agg p] => match elOf p with
    | some a => some (.v (.agg [.ints .u8 (beB 48 (a % fld.m))]), [])
    | _ => none
  | _ => none

def gamW : Gam FD := (53, timesWD) :: gam5
theorem gamW_ok : GamOK Try.prog FD gamW := gam_cons timesW_ok gam5_ok

def byteOf (ws : List Int) (i : Nat) : Int := IntKind.u8.wrap ((ws.getD (5 - i / 8) 0).fdiv (2 ^ min (56 - 8 * (i % 8)) 64))

/-- The number itself, in words. -/
def plainWD : FnD FD
  | [.agg p] => match elOf p with
    | some a => some (.v (.agg (wordsP fld (limbs 6 (a % fld.m)))), [])
    | _ => none
  | _ => none

/-- The number itself. -/
def plainD : FnD FD
  | [.agg p] => match elOf p with
    | some a => some (.v (.agg [.tag (.num (a % fld.m))]), [])
    | _ => none
  | _ => none

theorem plainW_run (a : Int) : runF Try.prog FD gamW 300 Try.f56 [.agg [.tag (.el a)]] [] =
    some (.v (.agg (wordsP fld (limbs 6 (fld.mont (fld.enc a) (1 % fld.R))))), [0 ≤ fld.enc a ∧ fld.enc a < fld.m, InR (1 :: List.replicate 5 0), (1 :: List.replicate 5 0).length = 6]) := by kernel_rfl

theorem plain_run (a : Int) : runF Try.prog FD gam5 300 Try.f56 [.agg [.tag (.el a)]] [] =
    some (.v (.agg [.tag (.num (fld.mont (fld.enc a) (val (1 :: List.replicate 5 0) % fld.R)))]), [0 ≤ fld.enc a ∧ fld.enc a < fld.m, InR (1 :: List.replicate 5 0), (1 :: List.replicate 5 0).length = 6]) := by kernel_rfl

theorem plainW_ok : FnOK Try.prog FD 56 plainWD := by
  refine fnOK_of gamW_ok mixed Try.func56 (enters_of Try.func56 (by kernel_rfl) rfl) ?_
  intro xs r ps h hps
  unfold plainWD at h
  split at h
  · rename_i p
    split at h
    · rename_i a ha
      simp only [Option.some.injEq, Prod.mk.injEq] at h
      obtain ⟨rfl, rfl⟩ := h
      refine ⟨_, 300, [], _, _, fun w vs h => args1 (fun v hv => elOf_rel ha hv) h, plainW_run a, AllP.all ⟨fld.enc_range a, inR_cons (by decide) (inR_zeros _), rfl⟩, fun E v hv => ?_⟩
      rw [show fld.mont (fld.enc a) (1 % fld.R) = a % fld.m from by rw [show (1 : Int) % fld.R = 1 from by decide, fld.mont_enc, Int.mul_one]] at hv
      exact hv
    · cases h
  · cases h

theorem plain_ok : FnOK Try.prog FD 56 plainD := by
  refine fnOK_of gam5_ok mixed Try.func56 (enters_of Try.func56 (by kernel_rfl) rfl) ?_
  intro xs r ps h hps
  unfold plainD at h
  split at h
  · rename_i p
    split at h
    · rename_i a ha
      simp only [Option.some.injEq, Prod.mk.injEq] at h
      obtain ⟨rfl, rfl⟩ := h
      refine ⟨_, 300, [], _, _, fun w vs h => args1 (fun v hv => elOf_rel ha hv) h, plain_run a, AllP.all ⟨fld.enc_range a, inR_cons (by decide) (inR_zeros _), rfl⟩, fun E v hv => ?_⟩
      rw [show fld.mont (fld.enc a) (val (1 :: List.replicate 5 0) % fld.R) = a % fld.m from by rw [show val (1 :: List.replicate 5 0) % fld.R = 1 from by decide, fld.mont_enc, Int.mul_one]] at hv
      exact hv
    · cases h
  · cases h

def gamB : Gam FD := (56, plainWD) :: gam5
theorem gamB_ok : GamOK Try.prog FD gamB := gam_cons plainW_ok gam5_ok

theorem bytes_run (a : Int) : runF Try.prog FD gamB 300 Try.f30 [.agg [.tag (.el a)]] [.roll] =
    some (.v (.agg ((List.range 48).map fun i => .int .u8 false (byteOf (limbs 6 (a % fld.m)) i))), []) := by kernel_rfl

theorem byteOf_eq (x : Int) {i : Nat} (hi : i < 48) : byteOf (limbs 6 x) i = x / 256 ^ (48 - 1 - i) % 256 := by
  unfold byteOf
  rw [limbs_getD (by omega), Int.fdiv_eq_ediv_of_nonneg _ (by have : (0 : Int) < 2 ^ min (56 - 8 * (i % 8)) 64 := Int.pow_pos (by decide); omega)]
  rw [show min (56 - 8 * (i % 8)) 64 = 8 * (7 - i % 8) from by omega, IntKind.wrap_u8, byte_word (by omega)]
  rw [show 8 * (5 - i / 8) + (7 - i % 8) = 48 - 1 - i from by omega]

theorem bytes_ok : FnOK Try.prog FD 30 bytesD := by
  refine fnOK_of gamB_ok mixed Try.func30 (enters_of Try.func30 (by kernel_rfl) rfl) ?_
  intro xs r ps h hps
  unfold bytesD at h
  split at h
  · rename_i p
    split at h
    · rename_i a ha
      simp only [Option.some.injEq, Prod.mk.injEq] at h
      obtain ⟨rfl, rfl⟩ := h
      refine ⟨_, 300, [.roll], _, _, fun w vs h => args1 (fun v hv => elOf_rel ha hv) h, bytes_run a, ?_, fun E v hv => ?_⟩
      · exact allQ_nil
      · obtain ⟨cs, e, hp⟩ := hv
        refine ⟨cs, e, cs, [], by simp, ?_, rfl⟩
        have h1 := allInts_rel (k := .u8) (l := (List.range 48).map (byteOf (limbs 6 (a % fld.m)))) (by kernel_rfl) hp
        show cs = (beB 48 (a % fld.m)).map (.int .u8)
        rw [h1]
        congr 1
        rw [← beB_range]
        exact List.map_congr_left fun i hi => byteOf_eq _ (List.mem_range.1 hi)
    · cases h
  · cases h

end Go.Num
