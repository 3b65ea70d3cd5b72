/- A field's laws: inverses, and what the reference's numbers come to. -/
import Derived.Test.YtbgcfmmkbocpoaaLawA
import Derived.Test.YtbgcfmmkbocpoaaPrimeF
namespace Go.Num
open Go.Abs Go.Proofs Go.Shelf Go.Alg

/-! the inverse -/

theorem m_nat : fld.m = ((4002409555221667393417789825735904156556882819939007885332058136124031650490837864442687629129015664037894272559787 : Nat) : Int) := by decide

theorem inv_cg {a : Int} (h : a % fld.m ≠ 0) : a * invOf a % fld.m = 1 % fld.m := by
  rw [m_nat] at h ⊢
  have h1 := fermat1 fieldPr (a := a) (fun e => h (by rw [show a % _ = 0 % _ from e]; exact Int.zero_emod _))
  have e : a * invOf a = a ^ (4002409555221667393417789825735904156556882819939007885332058136124031650490837864442687629129015664037894272559787 - 1 : Nat) := by
    unfold invOf
    rw [Int.mul_comm, ← Int.pow_succ]
    rfl
  rw [e]
  exact h1

theorem inv_zero {a : Int} (h : a % fld.m = 0) : invOf a % fld.m = 0 := by
  rw [m_nat] at h ⊢
  have h1 : Cg ((4002409555221667393417789825735904156556882819939007885332058136124031650490837864442687629129015664037894272559787 : Nat) : Int) a 0 := by
    show a % _ = 0 % _
    rw [h]
    exact (Int.zero_emod _).symm
  have h2 := h1.pow invE
  rw [show (0 : Int) ^ invE = 0 from Int.zero_pow (by decide)] at h2
  have h3 : invOf a % ((4002409555221667393417789825735904156556882819939007885332058136124031650490837864442687629129015664037894272559787 : Nat) : Int) = 0 % ((4002409555221667393417789825735904156556882819939007885332058136124031650490837864442687629129015664037894272559787 : Nat) : Int) := h2
  rw [h3]
  exact Int.zero_emod _

/-! what the reference's numbers come to -/

theorem vM : v16 (W 24 fld.m) = fld.m := mod_self_pow ⟨by have := fld.hm; omega, m_H⟩
theorem mod_m (x : Int) : 0 ≤ x % fld.m ∧ x % fld.m < fld.m := ⟨Int.emod_nonneg _ (by have := fld.hm; omega), Int.emod_lt_of_pos _ fld.pos⟩
theorem vX (x : Int) : v16 (W 24 (x % fld.m)) = x % fld.m := mod_self_pow ⟨(mod_m x).1, by have := (mod_m x).2; have := m_H; omega⟩
theorem pX (x : Int) : x % fld.m % 256 ^ 48 = x % fld.m := Int.emod_eq_of_lt (mod_m x).1 (by have := (mod_m x).2; have := m_256; omega)
theorem vbe {l : List Int} (hb : InB l) : v16 (W ((l.length + 1) / 2) (be l)) = be l := by
  have r1 := be_range hb
  refine mod_self_pow ⟨r1.1, ?_⟩
  have h2 : (256 : Int) ^ l.length ≤ 256 ^ (2 * ((l.length + 1) / 2)) := pow_mono_256 (by omega)
  rw [Int.pow_mul] at h2
  have h3 : ((256 : Int) ^ 2) ^ ((l.length + 1) / 2) = H ^ ((l.length + 1) / 2) := rfl
  rw [h3] at h2
  omega

/-- The bytes of a word of 64 bits. -/
def nB (n : Int) : List Int := [IntKind.u8.wrap (n.fdiv (2 ^ min 56 64)), IntKind.u8.wrap (n.fdiv (2 ^ min 48 64)), IntKind.u8.wrap (n.fdiv (2 ^ min 40 64)), IntKind.u8.wrap (n.fdiv (2 ^ min 32 64)),
  IntKind.u8.wrap (n.fdiv (2 ^ min 24 64)), IntKind.u8.wrap (n.fdiv (2 ^ min 16 64)), IntKind.u8.wrap (n.fdiv (2 ^ min 8 64)), IntKind.u8.wrap n]

theorem nB_eq (n : Int) : nB n = beB 8 n := by
  have h : ∀ k : Nat, n.fdiv (2 ^ k) = n / 2 ^ k := fun k => Int.fdiv_eq_ediv_of_nonneg _ (by have : (0 : Int) < 2 ^ k := Int.pow_pos (by decide); omega)
  unfold nB
  rw [h, h, h, h, h, h, h]
  simp only [IntKind.wrap_u8]
  show _ = [n / 256 ^ 7 % 256, n / 256 ^ 6 % 256, n / 256 ^ 5 % 256, n / 256 ^ 4 % 256, n / 256 ^ 3 % 256, n / 256 ^ 2 % 256, n / 256 ^ 1 % 256, n / 256 ^ 0 % 256]
  rw [Int.pow_zero, Int.ediv_one]
  rfl

theorem nB_inB (n : Int) : InB (nB n) := by rw [nB_eq]; exact beB_inB _ _
theorem nB_be {n : Int} (h : Rng n) : be (nB n) = n := by
  rw [nB_eq, be_beB]
  exact Int.emod_eq_of_lt h.1 (by have := h.2; unfold B at this; omega)
theorem nB_v {n : Int} (h : Rng n) : v16 (W ((8 + 1) / 2) (be (nB n))) = n := by
  rw [nB_be h]
  exact mod_self_pow ⟨h.1, by have := h.2; unfold B at this; show n < 65536 ^ 4; omega⟩
theorem nB_p {n : Int} (h : Rng n) : n % 256 ^ 48 = n % fld.m := by
  have h1 : n < fld.m := by have := h.2; have h2 : B < fld.m := by decide
                            omega
  rw [Int.emod_eq_of_lt h.1 h1, Int.emod_eq_of_lt h.1 (by have := m_256; omega)]

/-- That a law comes to true. -/
def LawOK (fn : Func) (xs : List (A0 FD.τ)) : Prop := ∃ Γ, GamOK Try.prog FD Γ ∧ ∃ ds ps, runF Try.prog FD Γ 200 fn xs ds = some (.v (.one (.bool true true)), ps) ∧ AllQ ps

end Go.Num
