/- Equations that hold in every commutative ring, by reckoning. Plain mathematics. -/
import Derived.Test.YtbgcfmmkbocpoaaRing
namespace Go.Alg
open CR

inductive Ex where
  | v (i : Nat)
  | add (a b : Ex)
  | mul (a b : Ex)
  | neg (a : Ex)
  | zero
  | one

instance : Add Ex := ⟨.add⟩
instance : Mul Ex := ⟨.mul⟩
instance : Neg Ex := ⟨.neg⟩
instance : Zero Ex := ⟨.zero⟩
instance : One Ex := ⟨.one⟩

section
variable {R : Type} [CR R]

def ev (ρ : Nat → R) : Ex → R
  | .v i => ρ i
  | .add a b => ev ρ a + ev ρ b
  | .mul a b => ev ρ a * ev ρ b
  | .neg a => -ev ρ a
  | .zero => 0
  | .one => 1

/-- The values of the unknowns, in their order. -/
def vars : List R → Nat → R
  | [], _ => 0
  | a :: _, 0 => a
  | _ :: l, i + 1 => vars l i

def mon (ρ : Nat → R) : List Nat → R
  | [] => 1
  | i :: m => ρ i * mon ρ m

def insN (i : Nat) : List Nat → List Nat
  | [] => [i]
  | j :: m => bif Nat.ble i j then i :: j :: m else j :: insN i m

def mrg : List Nat → List Nat → List Nat
  | [], n => n
  | i :: m, n => insN i (mrg m n)

theorem insN_mon (ρ : Nat → R) (i : Nat) : ∀ m, mon ρ (insN i m) = ρ i * mon ρ m
  | [] => rfl
  | j :: m => by
    unfold insN
    cases Nat.ble i j
    · show ρ j * mon ρ (insN i m) = ρ i * (ρ j * mon ρ m)
      rw [insN_mon ρ i m, mul_left_comm]
    · rfl

theorem mrg_mon (ρ : Nat → R) : ∀ m n, mon ρ (mrg m n) = mon ρ m * mon ρ n
  | [], n => (one_mul _).symm
  | i :: m, n => by
    show mon ρ (insN i (mrg m n)) = ρ i * mon ρ m * mon ρ n
    rw [insN_mon, mrg_mon ρ m n, mul_assoc]

def sg (s : Bool) (x : R) : R := bif s then -x else x

theorem neg_eq {a b : R} (h : a + b = 0) : -a = b := by
  have h1 : -a + (a + b) = -a + 0 := by rw [h]
  rw [← add_assoc, neg_add, zero_add, add_zero] at h1
  exact h1.symm
theorem add_neg (a : R) : a + -a = 0 := by rw [add_comm, neg_add]
theorem neg_sum (a b : R) : -(a + b) = -a + -b := neg_eq (by rw [add_add_comm, add_neg, add_neg, zero_add])
theorem neg_neg (a : R) : - -a = a := neg_eq (neg_add a)
theorem neg_mul (a b : R) : -a * b = -(a * b) := (neg_eq (by rw [← add_mul, add_neg, zero_mul])).symm
theorem mul_neg (a b : R) : a * -b = -(a * b) := by rw [mul_comm, neg_mul, mul_comm]
theorem neg_zero : -(0 : R) = 0 := neg_eq (zero_add 0)

theorem sg_mul (s t : Bool) (x y : R) : sg (s ^^ t) (x * y) = sg s x * sg t y := by
  cases s <;> cases t
  · rfl
  · exact (mul_neg x y).symm
  · exact (neg_mul x y).symm
  · show x * y = -x * -y
    rw [neg_mul, mul_neg, neg_neg]

theorem sg_neg (s : Bool) (x : R) : sg (!s) x = -sg s x := by
  cases s
  · rfl
  · exact (neg_neg x).symm

abbrev Pol := List (Bool × List Nat)

def pol (ρ : Nat → R) : Pol → R
  | [] => 0
  | t :: p => sg t.1 (mon ρ t.2) + pol ρ p

def beqN : List Nat → List Nat → Bool
  | [], [] => true
  | i :: m, j :: n => Nat.beq i j && beqN m n
  | _, _ => false

theorem beqN_eq : ∀ {m n}, beqN m n = true → m = n
  | [], [], _ => rfl
  | i :: m, j :: n, h => by
    simp only [beqN, Bool.and_eq_true] at h
    rw [Nat.eq_of_beq_eq_true h.1, beqN_eq h.2]
  | [], _ :: _, h => by cases h
  | _ :: _, [], h => by cases h

def ltN : List Nat → List Nat → Bool
  | [], _ :: _ => true
  | i :: m, j :: n => bif Nat.beq i j then ltN m n else Nat.ble i j
  | _, _ => false

def insT (s : Bool) (m : List Nat) : Pol → Pol
  | [] => [(s, m)]
  | u :: p => bif beqN m u.2 then (bif Bool.xor s u.1 then p else (s, m) :: u :: p) else bif ltN m u.2 then (s, m) :: u :: p else u :: insT s m p

theorem insT_pol (ρ : Nat → R) (s : Bool) (m : List Nat) : ∀ p, pol ρ (insT s m p) = sg s (mon ρ m) + pol ρ p
  | [] => rfl
  | (s', m') :: p => by
    unfold insT
    cases hb : beqN m m' <;> simp only [cond_true, cond_false]
    · cases ltN m m' <;> simp only [cond_true, cond_false]
      · show sg s' (mon ρ m') + pol ρ (insT s m p) = sg s (mon ρ m) + (sg s' (mon ρ m') + pol ρ p)
        rw [insT_pol ρ s m p, add_left_comm]
      · rfl
    · have e := beqN_eq hb
      subst e
      cases s <;> cases s' <;> simp only [Bool.xor_true, Bool.xor_false, Bool.not_true, Bool.not_false, cond_true, cond_false]
      · rfl
      · show pol ρ p = mon ρ m + (-mon ρ m + pol ρ p)
        rw [← add_assoc, add_neg, zero_add]
      · show pol ρ p = -mon ρ m + (mon ρ m + pol ρ p)
        rw [← add_assoc, neg_add, zero_add]
      · rfl

def addP : Pol → Pol → Pol
  | [], q => q
  | t :: p, q => insT t.1 t.2 (addP p q)

theorem addP_pol (ρ : Nat → R) : ∀ p q, pol ρ (addP p q) = pol ρ p + pol ρ q
  | [], q => (zero_add _).symm
  | t :: p, q => by
    show pol ρ (insT t.1 t.2 (addP p q)) = sg t.1 (mon ρ t.2) + pol ρ p + pol ρ q
    rw [insT_pol, addP_pol ρ p q, add_assoc]

/-- A term times all of a sum, laid into another sum. -/
def mulT (s : Bool) (m : List Nat) : Pol → Pol → Pol
  | [], r => r
  | u :: q, r => insT (Bool.xor s u.1) (mrg m u.2) (mulT s m q r)

theorem mulT_pol (ρ : Nat → R) (s : Bool) (m : List Nat) : ∀ q r, pol ρ (mulT s m q r) = sg s (mon ρ m) * pol ρ q + pol ρ r
  | [], r => by
    show pol ρ r = sg s (mon ρ m) * 0 + pol ρ r
    rw [mul_zero, zero_add]
  | u :: q, r => by
    show pol ρ (insT _ _ (mulT s m q r)) = sg s (mon ρ m) * (sg u.1 (mon ρ u.2) + pol ρ q) + pol ρ r
    rw [insT_pol, mulT_pol ρ s m q r, mrg_mon, sg_mul, mul_add, add_assoc]

def mulP : Pol → Pol → Pol
  | [], _ => []
  | t :: p, q => mulT t.1 t.2 q (mulP p q)

theorem mulP_pol (ρ : Nat → R) : ∀ p q, pol ρ (mulP p q) = pol ρ p * pol ρ q
  | [], q => (zero_mul _).symm
  | t :: p, q => by
    show pol ρ (mulT t.1 t.2 q (mulP p q)) = (sg t.1 (mon ρ t.2) + pol ρ p) * pol ρ q
    rw [mulT_pol, mulP_pol ρ p q, add_mul]

def negP : Pol → Pol
  | [] => []
  | t :: p => (!t.1, t.2) :: negP p

theorem negP_pol (ρ : Nat → R) : ∀ p, pol ρ (negP p) = -pol ρ p
  | [] => neg_zero.symm
  | t :: p => by
    show sg (!t.1) (mon ρ t.2) + pol ρ (negP p) = -(sg t.1 (mon ρ t.2) + pol ρ p)
    rw [negP_pol ρ p, sg_neg, neg_sum]

def norm : Ex → Pol
  | .v i => [(false, [i])]
  | .add a b => addP (norm a) (norm b)
  | .mul a b => mulP (norm a) (norm b)
  | .neg a => negP (norm a)
  | .zero => []
  | .one => [(false, [])]

theorem norm_ev (ρ : Nat → R) : ∀ e, ev ρ e = pol ρ (norm e)
  | .v i => by
    show ρ i = ρ i * 1 + 0
    rw [mul_one, add_zero]
  | .add a b => by
    show ev ρ a + ev ρ b = pol ρ (addP (norm a) (norm b))
    rw [addP_pol, norm_ev ρ a, norm_ev ρ b]
  | .mul a b => by
    show ev ρ a * ev ρ b = pol ρ (mulP (norm a) (norm b))
    rw [mulP_pol, norm_ev ρ a, norm_ev ρ b]
  | .neg a => by
    show -ev ρ a = pol ρ (negP (norm a))
    rw [negP_pol, norm_ev ρ a]
  | .zero => rfl
  | .one => by
    show (1 : R) = 1 + 0
    rw [add_zero]

/-- **An equation between sums of products holds where both sides come to the same.** -/
theorem ring_id (ρ : Nat → R) (a b : Ex) (h : norm a = norm b) : ev ρ a = ev ρ b := by
  rw [norm_ev, norm_ev, h]

end
end Go.Alg
