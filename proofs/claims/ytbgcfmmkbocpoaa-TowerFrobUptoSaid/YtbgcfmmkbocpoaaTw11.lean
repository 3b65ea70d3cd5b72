/- The tower's laws: the reference's product, tests. -/
import Derived.Test.YtbgcfmmkbocpoaaTw10
namespace Go.Num
open Go.Abs Go.Proofs Go.Shelf Go.Alg

theorem len_96' (x y : Int) : (beB 48 x ++ beB 48 y).length ≤ 9223372036854775807 := len_96 x y

theorem app_eq {a b c d : List Int} (h : a.length = c.length) : a ++ b = c ++ d ↔ a = c ∧ b = d := by
  constructor
  · intro e
    exact List.append_inj e h
  · rintro ⟨rfl, rfl⟩
    rfl

theorem same_96 {x y : Int} {l m : List Int} (h1 : sameB x l) (h2 : sameB y m) : decide (beB 48 (y % fld.m) ++ beB 48 (x % fld.m) = beB 48 (v16 m) ++ beB 48 (v16 l)) = true := by
  refine decide_eq_true ((app_eq (by rw [beB_len, beB_len])).2 ⟨beB_inj.2 ?_, beB_inj.2 ?_⟩)
  · rw [pX]; exact h2
  · rw [pX]; exact h1

theorem is_ok : FnOK Try.prog FD 17 isD12 := by
  refine fnOK_of gam26_ok mixed Try.func17 (enters_of Try.func17 (by kernel_rfl) rfl) ?_
  intro xs r ps h hps
  unfold isD12 at h
  split at h
  · rename_i p q
    split at h
    · rename_i x l0 l1 l2 l3 l4 l5 l6 l7 l8 l9 l10 l11 hx hq
      simp only [Option.some.injEq, Prod.mk.injEq] at h
      obtain ⟨rfl, rfl⟩ := h
      have g : ∀ p, p ∈ [Wd l0, Wd l1, Wd l2, Wd l3, Wd l4, Wd l5, Wd l6, Wd l7, Wd l8, Wd l9, Wd l10, Wd l11, sameB x.a.a.a l0, sameB x.a.a.b l1, sameB x.b.a.a l2, sameB x.b.a.b l3, sameB x.a.b.a l4, sameB x.a.b.b l5, sameB x.b.b.a l6, sameB x.b.b.b l7, sameB x.a.c.a l8, sameB x.a.c.b l9, sameB x.b.c.a l10, sameB x.b.c.b l11] → p := hps (IsN x [l0, l1, l2, l3, l4, l5, l6, l7, l8, l9, l10, l11]) (List.mem_cons_self ..)
      simp only [List.forall_mem_cons] at g
      obtain ⟨w0, w1, w2, w3, w4, w5, w6, w7, w8, w9, w10, w11, s0, s1, s2, s3, s4, s5, s6, s7, s8, s9, s10, s11, _⟩ := g
      obtain ⟨ps, h1, h2⟩ := is_run x l0 l1 l2 l3 l4 l5 l6 l7 l8 l9 l10 l11 w0 w1 (same_96 s0 s1) (len_96 _ _) (len_96 _ _) w2 w3 (same_96 s2 s3) (len_96 _ _) (len_96 _ _) w4 w5 (same_96 s4 s5) (len_96 _ _) (len_96 _ _)
        w6 w7 (same_96 s6 s7) (len_96 _ _) (len_96 _ _) w8 w9 (same_96 s8 s9) (len_96 _ _) (len_96 _ _) w10 w11 (same_96 s10 s11) (len_96 _ _) (len_96 _ _)
      exact ⟨_, 200, _, _, _, fun w vs h => args2 (fun v hv => s12.all_rel hx hv) (fun v hv => w5s_arg hq hv) h, h1, h2, fun E v hv => hv⟩
    · cases h
  · cases h

/-! the reference's product -/

def mA (a b c d : List Int) : List Int := W 24 ((v16 a * v16 c - v16 b * v16 d) % fld.m)
def mB (a b c d : List Int) : List Int := W 24 ((v16 a * v16 d + v16 b * v16 c) % fld.m)
def aA (a c : List Int) : List Int := W 24 ((v16 a + v16 c) % fld.m)

def u1 (x y : List (List Int)) (i j : Nat) : List Int :=
  let t1 := mA (x.getD (2 * i) []) (x.getD (2 * i + 1) []) (y.getD (2 * j) []) (y.getD (2 * j + 1) [])
  let t2 := mB (x.getD (2 * i) []) (x.getD (2 * i + 1) []) (y.getD (2 * j) []) (y.getD (2 * j + 1) [])
  bif Nat.ble 6 (i + j) then mA t1 t2 [1] [1] else t1
def u2 (x y : List (List Int)) (i j : Nat) : List Int :=
  let t1 := mA (x.getD (2 * i) []) (x.getD (2 * i + 1) []) (y.getD (2 * j) []) (y.getD (2 * j + 1) [])
  let t2 := mB (x.getD (2 * i) []) (x.getD (2 * i + 1) []) (y.getD (2 * j) []) (y.getD (2 * j + 1) [])
  bif Nat.ble 6 (i + j) then mB t1 t2 [1] [1] else t2

def rStep (x y o : List (List Int)) (i j : Nat) : List (List Int) :=
  (o.set (2 * ((i + j) % 6)) (aA (o.getD (2 * ((i + j) % 6)) []) (u1 x y i j))).set (2 * ((i + j) % 6) + 1) (aA (o.getD (2 * ((i + j) % 6) + 1) []) (u2 x y i j))

def rPs (x y o : List (List Int)) (i j : Nat) : List Prop :=
  [Wd (x.getD (2 * i) []), Wd (x.getD (2 * i + 1) []), Wd (y.getD (2 * j) []), Wd (y.getD (2 * j + 1) []), True] ++
  ((bif Nat.ble 6 (i + j) then
    [Wd (mA (x.getD (2 * i) []) (x.getD (2 * i + 1) []) (y.getD (2 * j) []) (y.getD (2 * j + 1) [])), Wd (mB (x.getD (2 * i) []) (x.getD (2 * i + 1) []) (y.getD (2 * j) []) (y.getD (2 * j + 1) [])), Wd [1], Wd [1], True] else []) ++
  [Wd (o.getD (2 * ((i + j) % 6)) []), Wd (o.getD (2 * ((i + j) % 6) + 1) []), Wd (u1 x y i j), Wd (u2 x y i j), True])

def rAll (x y : List (List Int)) : List (Nat × Nat) → List (List Int) → List (List Int) × List Prop
  | [], o => (o, [])
  | (i, j) :: r, o => ((rAll x y r (rStep x y o i j)).1, rPs x y o i j ++ (rAll x y r (rStep x y o i j)).2)

def idx : List (Nat × Nat) := [(0, 0), (0, 1), (0, 2), (0, 3), (0, 4), (0, 5), (1, 0), (1, 1), (1, 2), (1, 3), (1, 4), (1, 5), (2, 0), (2, 1), (2, 2), (2, 3), (2, 4), (2, 5), (3, 0), (3, 1), (3, 2), (3, 3), (3, 4), (3, 5), (4, 0), (4, 1), (4, 2), (4, 3), (4, 4), (4, 5), (5, 0), (5, 1), (5, 2), (5, 3), (5, 4), (5, 5)]
def nils : List (List Int) := [[], [], [], [], [], [], [], [], [], [], [], []]

def freshL : Nat → List (List Int) → List (Part FD.τ)
  | _, [] => []
  | n, l :: r => .fresh n 43 .u32 l :: freshL (n + 1) r

def gam27 : Gam FD := (45, n22D (fun a b c d => a * c - b * d) (fun a b c d => a * d + b * c) (fun _ _ _ _ => True)) :: (46, n22D (fun a _ c _ => a + c) (fun _ b _ d => b + d) (fun _ _ _ _ => True)) :: gam26
theorem gam27_ok : GamOK Try.prog FD gam27 := gam_cons mul5_ok (gam_cons add5_ok gam26_ok)

theorem ref_run (x0 x1 x2 x3 x4 x5 x6 x7 x8 x9 x10 x11 y0 y1 y2 y3 y4 y5 y6 y7 y8 y9 y10 y11 : List Int) : runF Try.prog FD gam27 200 Try.f18 [.agg (wP [x0, x1, x2, x3, x4, x5, x6, x7, x8, x9, x10, x11]), .agg (wP [y0, y1, y2, y3, y4, y5, y6, y7, y8, y9, y10, y11])] (List.replicate 7 .roll) =
    some (.v (.agg (freshL 0 (rAll [x0, x1, x2, x3, x4, x5, x6, x7, x8, x9, x10, x11] [y0, y1, y2, y3, y4, y5, y6, y7, y8, y9, y10, y11] idx nils).1)), (rAll [x0, x1, x2, x3, x4, x5, x6, x7, x8, x9, x10, x11] [y0, y1, y2, y3, y4, y5, y6, y7, y8, y9, y10, y11] idx nils).2) := by kernel_rfl

end Go.Num
