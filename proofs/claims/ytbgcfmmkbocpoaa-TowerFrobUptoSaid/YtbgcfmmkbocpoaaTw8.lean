/- The tower's numbers: the root by which w is multiplied, and the power of the modulus. -/
import Derived.Test.YtbgcfmmkbocpoaaTw7
import Derived.Test.YtbgcfmmkbocpoaaEl10
namespace Go.Num
open Go.Abs Go.Proofs Go.Shelf Go.Alg

/-- A power of two; it is not to be reckoned out. -/
def tpow (n : Nat) : Int := 2 ^ n
def kN : Nat := 333534129601805616118149152144658679713073568328250657111004844677002637540903155370223969094084638669824522713315
def neg1 : List Int := [26, 1, 17, 234, 57, 127, 230, 154, 75, 27, 167, 182, 67, 75, 172, 215, 100, 119, 75, 132, 243, 133, 18, 191, 103, 48, 210, 160, 246, 176, 246, 36, 30, 171, 255, 254, 177, 83, 255, 255, 185, 254, 255, 255, 255, 255, 170, 170]

def rOfD : FnD FD
  | [.one (.int .u64 _ a)] => bif a == 1 then some (.v (.agg [.tag (.pow 2 0)]), []) else none
  | _ => none

def rNegD : FnD FD
  | [.agg [.tag (.pow a n)]] => bif a == 2 then (bif Nat.beq n 0 then some (.v (.agg [.tag (.el (-1))]), []) else some (.v (.agg [.tag (.el (-tpow n))]), [])) else none
  | _ => none

def rSqD : FnD FD
  | [.agg [.tag (.pow a n)]] => bif a == 2 then some (.v (.agg [.tag (.pow 2 (n + n))]), []) else none
  | _ => none

def rAddD : FnD FD
  | [.agg [.tag (.pow a n)], .agg [.tag (.pow b k)]] => bif a == 2 && b == 2 && Nat.beq n k then some (.v (.agg [.tag (.pow 2 (n + 1))]), []) else none
  | _ => none

def rBytesD : FnD FD
  | [.agg [.tag (.el a)]] => bif a == -1 then some (.v (.agg (neg1.map (.int .u8 true))), []) else none
  | _ => none

theorem neg1_eq : neg1 = beB 48 ((-1) % fld.m) := by decide +kernel

theorem bif_some {α : Type} {b : Bool} {x : Option α} {y : α} (h : (bif b then x else none) = some y) : b = true ∧ x = some y := by
  cases b
  · cases h
  · exact ⟨rfl, h⟩

theorem bif_or {α : Type} {b : Bool} {x y z : α} (h : (bif b then x else y) = z) : (b = true ∧ x = z) ∨ (b = false ∧ y = z) := by
  cases b
  · exact .inr ⟨rfl, h⟩
  · exact .inl ⟨rfl, h⟩

theorem rOf_ok : FnOK Try.prog FD 28 rOfD := by
  refine fnOK_post of_ok ?_
  intro xs r ps h hps
  unfold rOfD at h
  split at h
  · rename_i s a
    obtain ⟨h1, h'⟩ := bif_some h
    clear h
    have := eq_of_beq h1
    subst this
    cases h'
    refine ⟨[.one (.int .u64 s 1)], _, _, fun w vs h => h, rfl, allQ_cons (by decide) allQ_nil, fun E v hv => ?_⟩
    exact pow_el.2 hv
  · cases h

theorem rNeg_ok : FnOK Try.prog FD 29 rNegD := by
  refine fnOK_post neg_ok ?_
  intro xs r ps h hps
  unfold rNegD at h
  split at h
  · rename_i a n
    obtain ⟨h1, h'⟩ := bif_some h
    clear h
    have := eq_of_beq h1
    subst this
    rcases bif_or h' with ⟨hn, h''⟩ | ⟨hn, h''⟩
    · cases h''
      have := Nat.eq_of_beq_eq_true hn
      subst this
      refine ⟨[.agg [.tag (.el (2 ^ 0))]], _, _, fun w vs h => args1 (fun v hv => pow_el.1 hv) h, rfl, allQ_nil, fun E v hv => hv⟩
    · cases h''
      refine ⟨[.agg [.tag (.el (2 ^ n))]], _, _, fun w vs h => args1 (fun v hv => pow_el.1 hv) h, rfl, allQ_nil, fun E v hv => el_el fld ?_ hv⟩
      show (0 - (2 : Int) ^ n) % fld.m = (-tpow n) % fld.m
      rw [tpow, Int.zero_sub]
  · cases h

theorem rSq_ok : FnOK Try.prog FD 59 rSqD := by
  refine fnOK_post powSq_ok ?_
  intro xs r ps h hps
  unfold rSqD at h
  split at h
  · rename_i a n
    obtain ⟨h1, h'⟩ := bif_some h
    clear h
    have := eq_of_beq h1
    subst this
    cases h'
    exact ⟨[.agg [.tag (.pow 2 n)]], _, _, fun w vs h => h, rfl, allQ_nil, fun E v hv => hv⟩
  · cases h

theorem rAdd_ok : FnOK Try.prog FD 58 rAddD := by
  refine fnOK_post add_ok ?_
  intro xs r ps h hps
  unfold rAddD at h
  split at h
  · rename_i a n b k
    obtain ⟨h1, h'⟩ := bif_some h
    clear h
    simp only [Bool.and_eq_true] at h1
    obtain ⟨⟨ha, hb⟩, hk⟩ := h1
    have := eq_of_beq ha
    subst this
    have := eq_of_beq hb
    subst this
    have := Nat.eq_of_beq_eq_true hk
    subst this
    cases h'
    refine ⟨[.agg [.tag (.el (2 ^ n))], .agg [.tag (.el (2 ^ n))]], _, _, fun w vs h => args2 (fun v hv => pow_el.1 hv) (fun v hv => pow_el.1 hv) h, rfl, allQ_nil, fun E v hv => ?_⟩
    refine pow_el.2 ?_
    rw [Int.pow_succ, Int.mul_comm, Int.two_mul]
    exact hv
  · cases h

theorem rBytes_ok : FnOK Try.prog FD 30 rBytesD := by
  refine fnOK_post bytes_ok ?_
  intro xs r ps h hps
  unfold rBytesD at h
  split at h
  · rename_i a
    obtain ⟨h1, h'⟩ := bif_some h
    clear h
    have := eq_of_beq h1
    subst this
    cases h'
    refine ⟨[.agg [.tag (.el (-1))]], _, _, fun w vs h => h, rfl, allQ_nil, fun E v hv => ?_⟩
    obtain ⟨cs, e, c1, c2, rfl, k1, k2⟩ := hv
    cases k2
    have k1' : c1 = (beB 48 ((-1) % fld.m)).map (Value.int .u8) := k1
    rw [← neg1_eq] at k1'
    refine ⟨_, e, ?_⟩
    rw [k1', List.append_nil]
    exact ints_lits neg1
  · cases h
where
  ints_lits {E : Env} : ∀ l : List Int, PartsRel FD E (l.map (.int .u8 true)) (l.map (Value.int .u8))
    | [] => rfl
    | a :: l => ⟨[.int .u8 a], l.map (Value.int .u8), rfl, rfl, ints_lits l⟩

def gamRt : Gam FD := [(28, rOfD), (29, rNegD), (59, rSqD), (58, rAddD), (30, rBytesD)]
theorem gamRt_ok : GamOK Try.prog FD gamRt := gam_cons rOf_ok (gam_cons rNeg_ok (gam_cons rSq_ok (gam_cons rAdd_ok (gam_cons rBytes_ok gam_nil))))

theorem root_run : runF Try.prog FD gamRt 600 Try.f33 [] (List.replicate 49 .roll) = some (.v (.agg [.tag (.pow 2 kN), .tag (.el (-tpow kN))]), []) := by kernel_rfl

end Go.Num
