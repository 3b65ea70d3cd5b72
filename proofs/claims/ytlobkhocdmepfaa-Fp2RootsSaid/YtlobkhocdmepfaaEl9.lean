/- A field's numbers out of any bytes. -/
import Derived.Test.YtlobkhocdmepfaaEl8
namespace Go.Num
open Go.Abs Go.Proofs Go.Shelf

def wideD : FnD FD
  | [.one (.words .u8 l)] => some (.v (.agg [.tag (.el (be l))]), [InB l, l.length ≤ 9223372036854775807])
  | _ => none

def wideSn (l : List Int) (a : Int) : Sn FD.τ where
  slots := [(0, .v (.one (.words .u8 l))), (2, .v (.one (.ref 0 0))), (3, .v (.one (.ref 1 0))), (4, .v (.one (.ref 2 0)))]
  boxes := [(0, .fixed 28 [.int .u64 true 0, .int .u64 true 0, .int .u64 true 0, .int .u64 true 0, .int .u64 true 0, .int .u64 true 0]), (1, .fixed 28 [.tag (.el a)]), (2, .fixed 28 [.tag (.el fld.R)])]
  nt := 31

def gamV : Gam FD := (51, el2D fun a b => a + b) :: (23, el2D fun a b => a * b) :: gamR
theorem gamV_ok : GamOK Try.prog FD gamV := gam_cons add_ok (gam_cons mul_ok gamR_ok)

def wCut (l : List Int) : Int := ((l.length : Int) - 1).tmod 48 + 1
def wChunk (l : List Int) : List Int := (l.take (wCut l).toNat).drop (0 : Int).toNat
def wRest (l : List Int) : List Int := (l.take (l.length : Int).toNat).drop (wCut l).toNat

theorem wide_round (l : List Int) (a b : Int) : stepPs Try.prog FD gamV 100 (bodyOf Try.f11) 100 (wideSn l a).st [.is true] .normal (wideSn (wRest l) b) =
    some [decide ((l.length : Int) > 0) = true, InI64 ((l.length : Int) - 1), InI64 (wCut l), (0 : Int) ≤ 0, 0 ≤ wCut l, wCut l ≤ l.length, (wChunk l).length ≤ 48, InB (wChunk l), 0 ≤ wCut l, wCut l ≤ l.length, (l.length : Int) ≤ l.length,
      wRest l = wRest l, TagLe FD (.el (a * fld.R + fld.R * (be (wChunk l) % fld.R) * fld.ri)) (.el b), TagLe FD (.el fld.R) (.el fld.R)] := by kernel_rfl

theorem wide_exit (l : List Int) (a : Int) : stepPs Try.prog FD gamV 100 (bodyOf Try.f11) 100 (wideSn l a).st [.is false] (.exit 0) (wideSn l a) =
    some [decide ((l.length : Int) > 0) = false, l = l, TagLe FD (.el a) (.el a), TagLe FD (.el fld.R) (.el fld.R)] := by kernel_rfl

theorem wide_run (l m : List Int) (a b : Int) : runF Try.prog FD gamV 100 Try.f11 [.one (.words .u8 l)] [.loop (loopL FD (wideSn l a) (.exit 0) (wideSn m b))] =
    some (.v (.agg [.tag (.el b)]), [SumOK Try.prog FD (bodyOf Try.f11) (loopL FD (wideSn l a) (.exit 0) (wideSn m b)), l = l, Imp FD [.tag (.el a)] [.int .u64 true 0, .int .u64 true 0, .int .u64 true 0, .int .u64 true 0, .int .u64 true 0, .int .u64 true 0], TagLe FD (.el fld.R) (.el fld.R)]) := by kernel_rfl

/-- How many bytes have been taken behind k rounds. -/
def wDone (n k : Nat) : Nat := if k = 0 then 0 else n - 48 * ((n + (48 - 1)) / 48 - k)

theorem wCut_eq {l : List Int} (h : 0 < l.length) : wCut l = ((l.length - 1) % 48 + 1 : Nat) := by
  unfold wCut
  rw [Int.tmod_eq_emod_of_nonneg (by omega)]
  omega

theorem wDone_succ {n k : Nat} (hk : k < (n + (48 - 1)) / 48) : wDone n (k + 1) = wDone n k + ((n - wDone n k - 1) % 48 + 1) ∧ wDone n k < n ∧ wDone n (k + 1) ≤ n ∧ (k = 0 ∨ (n - wDone n k - 1) % 48 + 1 = 48) := by
  unfold wDone
  split <;> split <;> omega

theorem wDone_last (n : Nat) : wDone n ((n + (48 - 1)) / 48) = n := by
  unfold wDone
  split <;> omega

theorem imp_zero : Imp FD [.tag (.el 0)] [.int .u64 true 0, .int .u64 true 0, .int .u64 true 0, .int .u64 true 0, .int .u64 true 0, .int .u64 true 0] := by
  intro E F cs h
  obtain ⟨c2, rfl, h2⟩ := takeZ_rel (D := FD) (k := .u64) (n := 6) (r := []) (by kernel_rfl) h
  exact ⟨_, c2, rfl, FD.zeros .u64 (.el 0) rfl, h2⟩

theorem wide_loop {l : List Int} (hb : InB l) (hl : l.length ≤ 9223372036854775807) : SumOK Try.prog FD (bodyOf Try.f11) (loopL FD (wideSn l 0) (.exit 0) (wideSn [] (be l))) := by
  have key : SumOK Try.prog FD (bodyOf Try.f11) (loopL FD (wideSn (l.drop (wDone l.length 0)) (be (l.take (wDone l.length 0)))) (.exit 0) (wideSn [] (be l))) := by
    refine sum_loop gamV_ok mixed (fun k => wideSn (l.drop (wDone l.length k)) (be (l.take (wDone l.length k)))) ((l.length + (48 - 1)) / 48) rfl (fun k hk => ?_) ?_
    · obtain ⟨h1, h2, h3, h4⟩ := wDone_succ hk
      have hd0 : k = 0 → wDone l.length k = 0 := fun h => by rw [h]; rfl
      generalize wDone l.length k = d at *
      have hlen : (l.drop d).length = l.length - d := List.length_drop
      have hc := wCut_eq (l := l.drop d) (by omega)
      rw [hlen] at hc
      have hrest : wRest (l.drop d) = l.drop (wDone l.length (k + 1)) := by
        unfold wRest
        rw [List.take_of_length_le (by omega), hc, List.drop_drop, h1]
        rfl
      have hchunk : wChunk (l.drop d) = (l.drop d).take ((l.length - d - 1) % 48 + 1) := by
        unfold wChunk
        rw [hc]
        rfl
      have hclen : (wChunk (l.drop d)).length = (l.length - d - 1) % 48 + 1 := by
        rw [hchunk, List.length_take]; omega
      have hbe : be (l.take (wDone l.length (k + 1))) = be (l.take d) * 256 ^ ((l.length - d - 1) % 48 + 1) + be (wChunk (l.drop d)) := by
        rw [h1, List.take_add, be_append, ← hchunk, hclen]
      have hcb : InB (wChunk (l.drop d)) := fun a ha => hb a (by rw [hchunk] at ha; exact List.mem_of_mem_drop (List.mem_of_mem_take ha))
      refine ⟨100, 100, [.is true], _, by rw [← hrest]; exact wide_round (l.drop d) _ _, ?_⟩
      have e1 : ((l.drop d).length : Int) = ((l.length - d : Nat) : Int) := by rw [hlen]
      refine AllP.all ⟨decide_eq_true (by omega), ⟨by omega, by omega⟩, ?_, Int.le_refl _, ?_, ?_, by omega, hcb, ?_, ?_, Int.le_refl _, rfl, ?_, le_refl _⟩
      · rw [hc]; exact ⟨by omega, by omega⟩
      · rw [hc]; omega
      · rw [hc]; omega
      · rw [hc]; omega
      · rw [hc]; omega
      · refine le_el fld ?_
        rw [hbe, be_R hcb (by omega)]
        rcases h4 with h4 | h4
        · rw [hd0 h4]
          simp only [List.take_zero, be, Int.zero_mul, Int.zero_add]
          exact R_ri _
        · rw [h4, show (256 : Int) ^ 48 = fld.R from pow_256 6, Int.add_emod, R_ri, ← Int.add_emod]
    · refine ⟨100, 100, [.is false], _, by rw [wDone_last, List.drop_length, List.take_length]; exact wide_exit [] (be l), ?_⟩
      exact AllP.all ⟨rfl, rfl, le_refl _, le_refl _⟩
  simpa [wDone, be] using key

theorem wide_ok : FnOK Try.prog FD 11 wideD := by
  refine fnOK_of gamV_ok mixed Try.func11 (enters_of Try.func11 (by kernel_rfl) rfl) ?_
  intro xs r ps h hps
  unfold wideD at h
  split at h
  · rename_i l
    simp only [Option.some.injEq, Prod.mk.injEq] at h
    obtain ⟨rfl, rfl⟩ := h
    have hb : InB l := hps _ (by simp)
    have hl : l.length ≤ 9223372036854775807 := hps _ (by simp)
    exact ⟨_, 100, _, _, _, fun w vs h => h, wide_run l [] 0 (be l), AllP.all ⟨wide_loop hb hl, rfl, imp_zero, le_refl _⟩, fun E v hv => hv⟩
  · cases h

end Go.Num
