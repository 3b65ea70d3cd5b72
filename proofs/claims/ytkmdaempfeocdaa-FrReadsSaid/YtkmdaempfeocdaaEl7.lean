/- A field's numbers in bytes. -/
import Derived.Test.YtkmdaempfeocdaaWords2
namespace Go.Num
open Go.Abs Go.Proofs Go.Shelf

/-- The product of words, its words one by one. -/
def timesWD : FnD FD
  | [.agg p, .agg q] => match numOf fld p, numOf fld q with
    | some (x, c), some (y, d) => some (.v (.agg (wordsP fld (limbs 4 (fld.mont x (y % fld.R))))), (0 ≤ x ∧ x < fld.m) :: (c ++ d))
    | _, _ => none
  | _ => none

theorem timesW_ok : FnOK Try.prog FD 34 timesWD := by
  refine fnOK_post times_ok ?_
  intro xs r ps h hps
  unfold timesWD at h
  split at h
  · rename_i p q
    split at h
    · rename_i x c y d hx hy
      simp only [Option.some.injEq, Prod.mk.injEq] at h
      obtain ⟨rfl, rfl⟩ := h
      refine ⟨_, _, _, fun w vs h => h, by unfold timesD; simp only [hx, hy]; rfl, hps, fun E v hv => ?_⟩
      obtain ⟨cs, e, hp⟩ := hv
      exact ⟨cs, e, (wordsP_rel fld).2 ((tag_rel fld).1 hp)⟩
    · cases h
  · cases h

/-- The product of a number of the field and any words. -/
def timesED : FnD FD
  | [.agg [.tag (.el a)], .agg q] => match numOf fld q with
    | some (y, d) => some (.v (.agg [.tag (.el (a * (y % fld.R) * fld.ri))]), d)
    | _ => none
  | _ => none

theorem enc_ri (y : Int) : fld.enc (y * fld.ri) = y % fld.m := by
  obtain ⟨k, hk⟩ := fld.ri_eq
  unfold Fld.enc
  refine emod_congr (y * k) ?_
  rw [Int.mul_assoc, Int.mul_comm fld.ri, hk]
  generalize fld.m = m
  grind

theorem timesE_ok : FnOK Try.prog FD 34 timesED := by
  refine fnOK_post times_ok ?_
  intro xs r ps h hps
  unfold timesED at h
  split at h
  · rename_i a q
    split at h
    · rename_i y d hy
      simp only [Option.some.injEq, Prod.mk.injEq] at h
      obtain ⟨rfl, rfl⟩ := h
      refine ⟨_, _, _, fun w vs h => h, by unfold timesD; simp only [hy]; rfl, allQ_cons (fld.enc_range a) hps, fun E v hv => ?_⟩
      refine (el_num fld).2 (num_num fld ?_ hv)
      rw [enc_ri]
      show fld.mont (fld.enc a) _ % _ = _
      rw [fld.mont_enc]
    · cases h
  · cases h

def bytesD : FnD FD
  | [.agg p] => match elOf p with
    | some a => some (.v (.agg [.ints .u8 (beB 32 (a % fld.m))]), [])
    | _ => none
  | _ => none

def gamW : Gam FD := (34, timesWD) :: gam5
theorem gamW_ok : GamOK Try.prog FD gamW := gam_cons timesW_ok gam5_ok

def byteOf (ws : List Int) (i : Nat) : Int := IntKind.u8.wrap ((ws.getD (3 - i / 8) 0).fdiv (2 ^ min (56 - 8 * (i % 8)) 64))

theorem bytes_run (a : Int) : runF Try.prog FD gamW 300 Try.f33 [.agg [.tag (.el a)]] [.roll] =
    some (.v (.agg ((List.range 32).map fun i => .int .u8 false (byteOf (limbs 4 (fld.mont (fld.enc a) (1 % fld.R))) i))), [0 ≤ fld.enc a ∧ fld.enc a < fld.m, InR (1 :: List.replicate 3 0), (1 :: List.replicate 3 0).length = 4]) := by kernel_rfl

theorem byteOf_eq (x : Int) {i : Nat} (hi : i < 32) : byteOf (limbs 4 x) i = x / 256 ^ (32 - 1 - i) % 256 := by
  unfold byteOf
  rw [limbs_getD (by omega), Int.fdiv_eq_ediv_of_nonneg _ (by have : (0 : Int) < 2 ^ min (56 - 8 * (i % 8)) 64 := Int.pow_pos (by decide); omega)]
  rw [show min (56 - 8 * (i % 8)) 64 = 8 * (7 - i % 8) from by omega, IntKind.wrap_u8, byte_word (by omega)]
  rw [show 8 * (3 - i / 8) + (7 - i % 8) = 32 - 1 - i from by omega]

theorem bytes_ok : FnOK Try.prog FD 33 bytesD := by
  refine fnOK_of gamW_ok mixed Try.func33 (enters_of Try.func33 (by kernel_rfl) rfl) ?_
  intro xs r ps h hps
  unfold bytesD at h
  split at h
  · rename_i p
    split at h
    · rename_i a ha
      simp only [Option.some.injEq, Prod.mk.injEq] at h
      obtain ⟨rfl, rfl⟩ := h
      refine ⟨_, 300, [.roll], _, _, fun w vs h => args1 (fun v hv => elOf_rel ha hv) h, bytes_run a, ?_, fun E v hv => ?_⟩
      · exact AllP.all ⟨fld.enc_range a, inR_cons (by decide) (inR_zeros _), rfl⟩
      · obtain ⟨cs, e, hp⟩ := hv
        refine ⟨cs, e, cs, [], by simp, ?_, rfl⟩
        have h1 := allInts_rel (k := .u8) (l := (List.range 32).map (byteOf (limbs 4 (fld.mont (fld.enc a) (1 % fld.R))))) (by kernel_rfl) hp
        rw [show fld.mont (fld.enc a) (1 % fld.R) = a % fld.m from by rw [show (1 : Int) % fld.R = 1 from by decide, fld.mont_enc, Int.mul_one]] at h1
        show cs = (beB 32 (a % fld.m)).map (.int .u8)
        rw [h1]
        congr 1
        rw [← beB_range]
        exact List.map_congr_left fun i hi => byteOf_eq _ (List.mem_range.1 hi)
    · cases h
  · cases h

end Go.Num
