/- A loop that goes on while there is a next. -/
import Derived.Test.YtakigppkbolmnaaLib
namespace Go.Abs
open Go.RowKit
section
variable {P : Program} {D : Dom}

/-- What comes behind so many steps. -/
def goOn {α : Type} (next : α → Option α) : Nat → α → α
  | 0, a => a
  | g + 1, a => match next a with
    | some b => goOn next g b
    | none => a

theorem goOn_inv {α : Type} {next : α → Option α} {inv : α → Prop} (h : ∀ a b, inv a → next a = some b → inv b) : ∀ (g : Nat) (a : α), inv a → inv (goOn next g a)
  | 0, a, ha => ha
  | g + 1, a, ha => by
    unfold goOn
    split
    · rename_i b hb
      exact goOn_inv h g b (h a b ha hb)
    · exact ha

theorem goOn_end {α : Type} {next : α → Option α} {inv : α → Prop} {μ : α → Nat} (h : ∀ a b, inv a → next a = some b → inv b ∧ μ b < μ a) : ∀ (g : Nat) (a : α), inv a → μ a ≤ g → next (goOn next g a) = none
  | 0, a, ha, hg => by
    show next a = none
    cases hn : next a with
    | none => rfl
    | some b => have := (h a b ha hn).2; omega
  | g + 1, a, ha, hg => by
    unfold goOn
    split
    · rename_i b hb
      have := h a b ha hb
      exact goOn_end h g b this.1 (by omega)
    · assumption

/-- A loop that goes on while there is a next; each round may lean on contracts of its own. -/
theorem sum_whileG {α : Type} (hm : P.follows .mixedOrders = true) {c : Code} (I : α → Sn D.τ) (next : α → Option α) (inv : α → Prop) (μ : α → Nat) {e : Ex} {s : Sn D.τ} (he : Ex.same e .normal = false) (a : α) (ha : inv a)
    (hs : ∀ x y, inv x → next x = some y → inv y ∧ μ y < μ x ∧ ∃ Γ fuel nid ds ps, GamOK P D Γ ∧ stepPs P D Γ fuel c nid (I x).st ds .normal (I y) = some ps ∧ AllQ ps)
    (hx : ∀ z, inv z → next z = none → z = goOn next (μ a) a → ∃ Γ fuel nid ds ps, GamOK P D Γ ∧ stepPs P D Γ fuel c nid (I z).st ds e s = some ps ∧ AllQ ps) : SumOK P D c (loopL D (I a) e s) := by
  intro S e' S' ps hL hps M w0 l w Q hR hQ
  unfold loopL at hL
  split at hL
  · rename_i qs hq
    simp only [Option.some.injEq, Prod.mk.injEq] at hL
    obtain ⟨rfl, rfl, rfl⟩ := hL
    have hR0 := fitSt_sound hq hps hR
    refine loop_sinks (J := fun g l w => ∃ x, inv x ∧ μ x ≤ g ∧ goOn next g x = goOn next (μ a) a ∧ R D M w0 (I x).st l w) (g := μ a) ⟨a, ha, Nat.le_refl _, rfl, hR0⟩ ?_
    rintro g l w ⟨x, hi, hg, hr, hRx⟩
    cases hn : next x with
    | none =>
      have hz : x = goOn next (μ a) a := by
        rw [← hr]
        cases g with
        | zero => rfl
        | succ g => unfold goOn; rw [hn]
      obtain ⟨Γ, fuel, nid, ds, ps, hΓ, h1, h2⟩ := hx x hi hn hz
      refine stepPs_sound hΓ hm h1 h2 hRx (fun a' w' hR' => ?_)
      have := hQ a' w' hR'
      cases e
      · cases he
      · exact this
      · exact this
    | some y =>
      obtain ⟨hy, hl, Γ, fuel, nid, ds, ps, hΓ, h1, h2⟩ := hs x y hi hn
      refine stepPs_sound hΓ hm h1 h2 hRx (fun a' w' hR' => ?_)
      obtain ⟨g, rfl⟩ : ∃ k, g = k + 1 := ⟨g - 1, by omega⟩
      refine ⟨g, Nat.lt_succ_self _, y, hy, by omega, ?_, hR'⟩
      rw [← hr]
      show _ = goOn next (g + 1) x
      unfold goOn
      rw [hn]
      cases g <;> rfl
  · cases hL

/-- A loop that goes on while there is a next. -/
theorem sum_while {α : Type} {Γ : Gam D} (hΓ : GamOK P D Γ) (hm : P.follows .mixedOrders = true) {c : Code} (I : α → Sn D.τ) (next : α → Option α) (inv : α → Prop) (μ : α → Nat) {e : Ex} {s : Sn D.τ} (he : Ex.same e .normal = false) (a : α) (ha : inv a)
    (hs : ∀ x y, inv x → next x = some y → inv y ∧ μ y < μ x ∧ ∃ fuel nid ds ps, stepPs P D Γ fuel c nid (I x).st ds .normal (I y) = some ps ∧ AllQ ps)
    (hx : ∀ z, inv z → next z = none → z = goOn next (μ a) a → ∃ fuel nid ds ps, stepPs P D Γ fuel c nid (I z).st ds e s = some ps ∧ AllQ ps) : SumOK P D c (loopL D (I a) e s) := by
  refine sum_whileG hm I next inv μ he a ha (fun x y hi hn => ?_) (fun z hi hn hz => ?_)
  · obtain ⟨h1, h2, fuel, nid, ds, ps, h3, h4⟩ := hs x y hi hn
    exact ⟨h1, h2, Γ, fuel, nid, ds, ps, hΓ, h3, h4⟩
  · obtain ⟨fuel, nid, ds, ps, h3, h4⟩ := hx z hi hn hz
    exact ⟨Γ, fuel, nid, ds, ps, hΓ, h3, h4⟩

end
end Go.Abs
