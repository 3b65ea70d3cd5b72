/- The number that bytes are, in words: the function. -/
import Derived.Test.YtbgcfmmkbocpoaaWords
namespace Go.Num
open Go.Abs Go.Proofs Go.Shelf

theorem words_exit (l w : List Int) (x : Int) (k : Nat) : stepPs Try.prog FD [] 100 (bodyOf Try.f79) 100 (wordsSn l w k).st [.is false] (.exit 0) (wordsEnd x) =
    some [decide ((k : Int) < l.length) = false, Imp FD [.tag (.num x)] [.ints .u64 w]] := by kernel_rfl

theorem words_run (l w : List Int) (x : Int) : runF Try.prog FD [] 100 Try.f79 [.one (.words .u8 l)] [.loop (loopL FD (wordsSn l w (0 : Nat)) (.exit 0) (wordsEnd x))] =
    some (.v (.agg [.tag (.num x)]), [SumOK Try.prog FD (bodyOf Try.f79) (loopL FD (wordsSn l w (0 : Nat)) (.exit 0) (wordsEnd x)), l = l, l = l, (l.length : Int) = l.length, (0 : Int) = 0, List.replicate 6 0 = w]) := by kernel_rfl

def wordsD : FnD FD
  | [.one (.words .u8 l)] => some (.v (.agg [.tag (.num (be l))]), [l.length ≤ 48, InB l])
  | _ => none

theorem imp_words {x : Int} : Imp FD [.tag (.num x)] [.ints .u64 (limbs 6 x)] := by
  intro E F cs h
  obtain ⟨c1, c2, rfl, h1, h2⟩ := h
  cases h2
  refine (tag_rel fld).2 ?_
  rw [List.append_nil]
  exact h1

theorem nk_zero (l : List Int) : nk l 0 = 0 := by simp [nk, be]
theorem nk_all (l : List Int) : nk l l.length = be l := by simp [nk]

theorem words_loop {l : List Int} (hn : l.length ≤ 48) (hl : InB l) : SumOK Try.prog FD (bodyOf Try.f79) (loopL FD (wordsSn l (limbs 6 (nk l 0)) (0 : Nat)) (.exit 0) (wordsEnd (be l))) := by
  refine sum_loop gam_nil mixed (fun k => wordsSn l (limbs 6 (nk l k)) k) l.length rfl (fun k hk => ?_) ?_
  · refine ⟨100, 100, [.is true], _, by rw [← wNew_eq hk hn hl]; exact words_round l (limbs 6 (nk l k)) k, ?_⟩
    obtain ⟨h1, h2, h3⟩ := wAt_eq hk (by omega)
    have hw : wAt l.length k < (limbs 6 (nk l k)).length := by rw [limbs_len, h1]; omega
    have h4 : 0 ≤ IntKind.i64.wrap (((l.length : Int) - 1 - k).tdiv 8) ∧ IntKind.i64.wrap (((l.length : Int) - 1 - k).tdiv 8) < (6 : Nat) := by rw [h2]; omega
    have h5 : InI64 (wSh l.length k) ∧ 0 ≤ wSh l.length k := by rw [h3]; exact ⟨⟨by omega, by omega⟩, by omega⟩
    exact AllP.all ⟨decide_eq_true (by omega), by omega, by omega, ⟨by omega, by omega⟩, ⟨by omega, by omega⟩, by decide, h4.1, h4.2, hw, h5.1, h5.2, h4.1, h4.2, hw, rfl, ⟨by omega, by omega⟩, rfl, rfl, rfl, rfl, rfl⟩
  · refine ⟨100, 100, [.is false], _, words_exit l _ _ l.length, ?_⟩
    refine AllP.all ⟨decide_eq_false (by omega), ?_⟩
    rw [nk_all]
    exact imp_words

theorem words_ok : FnOK Try.prog FD 79 wordsD := by
  refine fnOK_of gam_nil mixed Try.func79 (enters_of Try.func79 (by kernel_rfl) rfl) ?_
  intro xs r ps h hps
  unfold wordsD at h
  split at h
  · rename_i l
    simp only [Option.some.injEq, Prod.mk.injEq] at h
    obtain ⟨rfl, rfl⟩ := h
    have hn : l.length ≤ 48 := hps _ (by simp)
    have hl : InB l := hps _ (by simp)
    refine ⟨_, 100, _, _, _, fun w vs h => h, words_run l (limbs 6 (nk l 0)) (be l), ?_, fun E v hv => hv⟩
    exact AllP.all ⟨words_loop hn hl, rfl, rfl, rfl, rfl, by rw [nk_zero, limbs_zero]; exact rfl⟩
  · cases h

end Go.Num
