/- Disk: keys that are texts; a file is looked for, kept, let go: the runs. -/
import Derived.Test.YtakigppkbolmnaaD1
import Derived.MapKept
namespace Go.Num
open Go.Abs Go.Proofs Go.Shelf Go.RowKit Go.MapKept

theorem keyOK_str {r : Rec} (h : keyOK [.str] r = true) : ∃ s, r = [.s s] := by
  match r, h with
  | [.s s], _ => exact ⟨s, rfl⟩

theorem findNow_str (s : ByteArray) : ∀ (ens : List MapEntry) (ks : List Rec) (i : Nat), ens.map (·.key) = ks.map (keyV false [.str]) → (∀ k ∈ ks, keyOK [.str] k = true) →
    Instr.findNow .string (.string s) ens i = some (match ks.findIdx? (· == [Fd.s s]) with | some j => (ens[j]?).map fun e => (i + j, e.val) | none => none)
  | [], [], _, _, _ => rfl
  | [], _ :: _, _, h, _ => by cases h
  | _ :: _, [], _, h, _ => by cases h
  | e :: ens, k :: ks, i, h, hk => by
    obtain ⟨u, rfl⟩ := keyOK_str (hk k (List.mem_cons_self ..))
    simp only [List.map_cons, List.cons.injEq] at h
    have he : e.key = .string u := h.1
    have ih := findNow_str s ens ks (i + 1) h.2 (fun k hk' => hk k (List.mem_cons_of_mem _ hk'))
    unfold Instr.findNow
    rw [he]
    have hs : Instr.sameNow .string (.string s) (.string u) = some (s == u) := rfl
    rw [hs, List.findIdx?_cons]
    by_cases hsu : s = u
    · subst hsu
      have e1 : (s == s) = true := (bytes_beq s s).2 rfl
      have e2 : (([Fd.s s] : Rec) == [Fd.s s]) = true := beq_self_eq_true _
      rw [e1, e2]
      rfl
    · have e1 : (s == u) = false := Bool.eq_false_iff.2 (fun h => hsu ((bytes_beq s u).1 h))
      have e2 : (([Fd.s u] : Rec) == [Fd.s s]) = false := beq_eq_false_iff_ne.2 (fun h => by cases h; exact hsu rfl)
      rw [e1, e2]
      simp only [ih, Bool.false_eq_true, if_false]
      cases List.findIdx? (fun x => x == [Fd.s s]) ks with
      | none => rfl
      | some j =>
        simp only [Option.map_some, List.getElem?_cons_succ]
        rw [show i + 1 + j = i + (j + 1) from by omega]

theorem keyT_str : KeyT Try.prog 9 false [.str] := by
  intro w key hkey
  obtain ⟨s, rfl⟩ := keyOK_str hkey
  refine ⟨fun b => run_checkKey Try.underlying9 (d := .string) (k := .string s) trivial b 9999, fun ens ks h hk => ?_, fun k' hk' he => ?_⟩
  · refine run_findKey Try.underlying9 ?_
    have := findNow_str s ens ks 0 h hk
    simp only [Nat.zero_add] at this
    exact this
  · rw [he]
    exact run_keyThatStays (d := .string) (k := .string s) trivial

/-! find, keep, step -/

def dkP (room steps fuse : Int) (down : Bool) : List (Part DF.τ) := [.int .i64 false room, .mapr 1, .int .i64 false steps, .int .i64 false fuse, .bool false down]
def dkB (room steps fuse : Int) (down : Bool) (es : List (Rec × Ob)) : List (BoxSt DF.τ) := [.fixed 66 (dkP room steps fuse down), .fam 0 es none]

noncomputable def gamRt : Gam DF := [(36, .fn rightF)]
/-- Where the key is looked for it isn't there. -/
noncomputable def gamRtN : Gam DF := [(lookId, .fn (lookD DF [(29, 0)])), (36, .fn rightF)]

end Go.Num
