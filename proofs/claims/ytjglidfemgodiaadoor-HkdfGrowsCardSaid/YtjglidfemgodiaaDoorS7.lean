/- SHA-256: what the reference's Sum says. -/
import Derived.Test.YtjglidfemgodiaaDoorS6
namespace Go.Num
open Go.Abs Go.Proofs Go.Shelf

def kIt (i : Nat) : List Int := (primesL.take i).map cubeF
def hIt (i : Nat) : List Int := (primesL.take (min i 8)).map squareF

/-- The bytes behind so many of the length's. -/
def rfZ (N : Nat) : Int := IntKind.u64.wrap (IntKind.u64.wrap (N : Int) * 8)
def rfB (N : Nat) (i : Int) : Int := IntKind.u8.wrap (Int.fdiv (rfZ N) (2 ^ min (IntKind.u64.wrap (8 * i)).toNat 64))
def rfM1 (l : List Int) : List Int := l ++ 128 :: List.replicate (padN l.length) 0
def rfM2 (l : List Int) : Nat → List Int
  | 0 => rfM1 l
  | j + 1 => rfM2 l j ++ [rfB l.length (7 - (j : Int))]

def rfWord (m : List Int) (p : Int) : Int :=
  bitsOf .or .u32 (bitsOf .or .u32 (bitsOf .or .u32 (IntKind.u32.wrap (IntKind.u32.wrap (m.getD p.toNat 0) * 2 ^ min 24 32)) (IntKind.u32.wrap (IntKind.u32.wrap (m.getD (p + 1).toNat 0) * 2 ^ min 16 32))) (IntKind.u32.wrap (IntKind.u32.wrap (m.getD (p + 2).toNat 0) * 2 ^ min 8 32))) (IntKind.u32.wrap (m.getD (p + 3).toNat 0))

def rw4 (m : List Int) (at' : Int) : Nat → List Int
  | 0 => []
  | i + 1 => rw4 m at' i ++ [rfWord m (at' + 4 * (i : Int))]

def rw5W (w : List Int) (i : Int) : Int :=
  ad (ad (ad (w.getD (i - 16).toNat 0) (xr (xr (turnF (w.getD (i - 15).toNat 0) 7) (turnF (w.getD (i - 15).toNat 0) 18)) ((w.getD (i - 15).toNat 0).fdiv (2 ^ min 3 32)))) (w.getD (i - 7).toNat 0))
    (xr (xr (turnF (w.getD (i - 2).toNat 0) 17) (turnF (w.getD (i - 2).toNat 0) 19)) ((w.getD (i - 2).toNat 0).fdiv (2 ^ min 10 32)))

def rw5 (w : List Int) : Nat → List Int
  | 0 => w
  | k + 1 => rw5 w k ++ [rw5W (rw5 w k) (16 + (k : Int))]

def rvT (k w v : List Int) (i : Nat) : Int :=
  ad (ad (ad (ad (v.getD 7 0) (xr (xr (turnF (v.getD 4 0) 6) (turnF (v.getD 4 0) 11)) (turnF (v.getD 4 0) 25))) (xr (an (v.getD 4 0) (v.getD 5 0)) (an (nt (v.getD 4 0)) (v.getD 6 0)))) (k.getD (i : Int).toNat 0)) (w.getD (i : Int).toNat 0)
def rvU (v : List Int) : Int :=
  ad (xr (xr (turnF (v.getD 0 0) 2) (turnF (v.getD 0 0) 13)) (turnF (v.getD 0 0) 22)) (xr (xr (an (v.getD 0 0) (v.getD 1 0)) (an (v.getD 0 0) (v.getD 2 0))) (an (v.getD 1 0) (v.getD 2 0)))
def rvStep (k w v : List Int) (i : Nat) : List Int :=
  [ad (rvT k w v i) (rvU v), v.getD 0 0, v.getD 1 0, v.getD 2 0, ad (v.getD 3 0) (rvT k w v i), v.getD 4 0, v.getD 5 0, v.getD 6 0]
def rv6 (k w v : List Int) : Nat → List Int
  | 0 => v
  | i + 1 => rvStep k w (rv6 k w v i) i

def rfBlock (k h m : List Int) (at' : Int) : List Int := ts4 h (rv6 k (rw5 (rw4 m at' 16) 48) h 64) 8

def rfH (k h m : List Int) : Nat → List Int
  | 0 => h
  | n + 1 => rfBlock k (rfH k h m n) m (64 * (n : Int))

def rfO (h : List Int) : Nat → List Int
  | 0 => []
  | i + 1 => rfO h i ++ [IntKind.u8.wrap ((h.getD (i : Int).toNat 0).fdiv (2 ^ min 24 32)), IntKind.u8.wrap ((h.getD (i : Int).toNat 0).fdiv (2 ^ min 16 32)), IntKind.u8.wrap ((h.getD (i : Int).toNat 0).fdiv (2 ^ min 8 32)), IntKind.u8.wrap (h.getD (i : Int).toNat 0)]

def rfSum (l : List Int) : List Int := rfO (rfH rootsL firstL (rfM2 l 8) ((rfM2 l 8).length / 64)) 8

theorem rfM2_len (l : List Int) : ∀ j, (rfM2 l j).length = l.length + 1 + padN l.length + j
  | 0 => by simp [rfM2, rfM1]; omega
  | j + 1 => by simp [rfM2, rfM2_len l j]; omega

theorem rw4_len (m : List Int) (at' : Int) : ∀ i, (rw4 m at' i).length = i
  | 0 => rfl
  | i + 1 => by simp [rw4, rw4_len m at' i]

theorem rw5_len (w : List Int) : ∀ k, (rw5 w k).length = w.length + k
  | 0 => rfl
  | k + 1 => by simp [rw5, rw5_len w k]; omega

theorem rv6_len (k w v : List Int) (hv : v.length = 8) : ∀ i, (rv6 k w v i).length = 8
  | 0 => hv
  | _ + 1 => rfl

theorem ts4_len (s v : List Int) : ∀ i, (ts4 s v i).length = s.length
  | 0 => rfl
  | i + 1 => by simp [ts4, ts4_len s v i]

theorem rfH_len (k h m : List Int) (hh : h.length = 8) : ∀ n, (rfH k h m n).length = 8
  | 0 => hh
  | n + 1 => by
    show (ts4 _ _ 8).length = 8
    rw [ts4_len]; exact rfH_len k h m hh n

theorem rfO_len (h : List Int) : ∀ i, (rfO h i).length = 4 * i
  | 0 => rfl
  | i + 1 => by simp [rfO, rfO_len h i]; omega

theorem kIt_end : kIt 64 = rootsL := cubes
theorem hIt_end : hIt 64 = firstL := squares

theorem take_snoc {α : Type} {l : List α} {i : Nat} (d : α) (h : i < l.length) : l.take i ++ [l.getD i d] = l.take (i + 1) := by
  rw [List.take_succ_eq_append_getElem h, List.getD_eq_getElem?_getD, List.getElem?_eq_getElem h]; rfl

theorem primesL_len : primesL.length = 64 := rfl

theorem rf_l0 (l : List Int) : SumOK Tryd.prog DS (bodyN Tryd.f13 0) (loopL DS (rf0Sn l primesL (kIt 0) (hIt 0) (0 : Nat)) (.exit 0) (rf0Sn l primesL rootsL firstL (64 : Nat))) := by
  have hs := sum_loop gamR_ok mixed (c := bodyN Tryd.f13 0) (fun i => rf0Sn l primesL (kIt i) (hIt i) i) 64 (e := .exit 0) (s := rf0Sn l primesL rootsL firstL (64 : Nat)) rfl (fun i hi => ?_) ?_
  · exact hs
  · have hk : kIt i ++ [cubeF (primesL.getD (i : Int).toNat 0)] = kIt (i + 1) := by
      unfold kIt
      rw [Int.toNat_natCast, ← take_snoc 0 (show i < primesL.length by rw [primesL_len]; exact hi), List.map_append]; rfl
    have hkl : (kIt i).length ≤ 64 := by unfold kIt; rw [List.length_map, List.length_take, primesL_len]; omega
    have hhl : (hIt i).length ≤ 64 := by unfold hIt; rw [List.length_map, List.length_take, primesL_len]; omega
    have hp : (i : Int) < (primesL.length : Nat) := by rw [primesL_len]; omega
    by_cases h8 : i < 8
    · have hh : hIt i ++ [squareF (primesL.getD (i : Int).toNat 0)] = hIt (i + 1) := by
        unfold hIt
        rw [Int.toNat_natCast, Nat.min_eq_left (by omega), Nat.min_eq_left (by omega), ← take_snoc 0 (show i < primesL.length by rw [primesL_len]; exact hi), List.map_append]; rfl
      exact ⟨_, _, _, rf0_a l primesL (kIt i) (hIt i) (kIt (i + 1)) (hIt (i + 1)) i (decide_eq_true (by omega)) (by omega) hp (by omega) (by omega) (by omega) (decide_eq_true (by omega)) (by omega) (by omega) (inI64_small (by omega) (by omega)) hk hh⟩
    · have hh : hIt i = hIt (i + 1) := by
        unfold hIt
        rw [Nat.min_eq_right (by omega), Nat.min_eq_right (by omega)]
      exact ⟨_, _, _, rf0_b l primesL (kIt i) (hIt i) (kIt (i + 1)) (hIt (i + 1)) i (decide_eq_true (by omega)) (by omega) hp (by omega) (by omega) (by omega) (decide_eq_false (by omega)) (inI64_small (by omega) (by omega)) hk hh⟩
  · obtain ⟨qs, h1, h2⟩ := rf0_x l primesL (kIt 64) (hIt 64) 64 (decide_eq_false (by omega))
    rw [kIt_end, hIt_end] at h1
    rw [kIt_end, hIt_end]
    exact ⟨_, _, _, qs, h1, h2⟩

theorem padN_mod (N : Nat) : (N + 1 + padN N) % 64 = 56 := by unfold padN; omega
theorem padN_least (N j : Nat) (h : j < padN N) : (N + 1 + j) % 64 ≠ 56 := by unfold padN at h; omega

theorem rf_l1 (l k h : List Int) (hl : l.length ≤ 1000000000) : SumOK Tryd.prog DS (bodyN Tryd.f13 1) (loopL DS (rf1Sn l k h (l ++ [128]) []) (.exit 2) (rf1Sn l k h (rfM1 l) [])) := by
  have hlen : ∀ j, (l ++ 128 :: List.replicate j 0).length = l.length + 1 + j := fun j => by simp; omega
  have hm : ∀ j : Nat, Int.tmod (((l ++ 128 :: List.replicate j 0).length : Nat) : Int) 64 = (((l.length + 1 + j) % 64 : Nat) : Int) := fun j => by rw [hlen]; exact tmod_nat _ 64
  have hp : padN l.length < 64 := by unfold padN; omega
  have hs := sum_loop gamR_ok mixed (c := bodyN Tryd.f13 1) (fun j => rf1Sn l k h (l ++ 128 :: List.replicate j 0) []) (padN l.length) (e := .exit 2) (s := rf1Sn l k h (rfM1 l) []) rfl (fun j hj => ?_) ?_
  · exact hs
  · have hne := padN_least _ _ hj
    refine ⟨_, _, _, rf1_r l k h (l ++ 128 :: List.replicate j 0) (l ++ 128 :: List.replicate (j + 1) 0) ?_ (by rw [hlen]; omega) (by rw [hlen]; omega) ?_⟩
    · rw [hm, bne_iff_ne]; omega
    · rw [List.append_assoc, List.cons_append, ← List.replicate_succ']
  · refine ⟨_, _, _, rf1_x l k h (rfM1 l) ?_⟩
    have := hm (padN l.length)
    unfold rfM1
    rw [this, padN_mod]; rfl

theorem rf_l2 (l k h : List Int) (hl : l.length ≤ 1000000000) : SumOK Tryd.prog DS (bodyN Tryd.f13 2) (loopL DS (rf1Sn l k h (rfM1 l) [(8, .v (.one (.int .u64 false (rfZ l.length)))), slI 9 7]) (.exit 4) (rf3Sn k h (rfM2 l 8) [])) := by
  have hp : padN l.length < 64 := by unfold padN; omega
  have hs := sum_loop gamR_ok mixed (c := bodyN Tryd.f13 2) (fun j => rf1Sn l k h (rfM2 l j) [(8, .v (.one (.int .u64 false (rfZ l.length)))), slI 9 (7 - (j : Int))]) 8 (e := .exit 4) (s := rf3Sn k h (rfM2 l 8) []) rfl (fun j hj => ?_) ?_
  · exact hs
  · have hlen := rfM2_len l j
    have := rf2_r l k h (rfM2 l j) (rfM2 l (j + 1)) (rfZ l.length) (7 - (j : Int)) (decide_eq_true (by omega)) (inI64_small (by omega) (by omega)) wrap_bit (by rw [hlen]; omega) (by rw [hlen]; omega) ⟨by omega, by omega⟩ rfl
    rw [show (7 - (j : Int)) - 1 = 7 - ((j + 1 : Nat) : Int) from by omega] at this
    exact ⟨_, _, _, this⟩
  · exact ⟨_, _, _, rf2_x l k h (rfM2 l 8) (rfZ l.length) _ (decide_eq_false (by omega))⟩

theorem rf_l4 (k h m : List Int) (a : Nat) (ha : a + 64 ≤ m.length) (hl : m.length ≤ 2000000000) : SumOK Tryd.prog DS (bodyN Tryd.f13 4) (loopL DS (rf4Sn k h m (rw4 m a 0) a [slI 12 (0 : Nat)]) (.exit 8) (rf4Sn k h m (rw4 m a 16) a [])) := by
  refine sum_loop gamR_ok mixed (fun i => rf4Sn k h m (rw4 m a i) a [slI 12 i]) 16 rfl (fun i hi => ?_) ?_
  · have hw := rw4_len m a i
    refine ⟨_, _, _, rf4_r k h m (rw4 m a i) (rw4 m a (i + 1)) a i (decide_eq_true (by omega)) ⟨by omega, by omega⟩ ⟨by omega, by omega⟩ (by omega) (by omega) (by omega) ⟨by omega, by omega⟩ (by omega) (by omega) (by omega) ⟨by omega, by omega⟩ (by omega) (by omega) (by omega) ⟨by omega, by omega⟩ (by omega) (by omega) (by omega) (by omega) (by omega) ⟨by omega, by omega⟩ rfl⟩
  · exact ⟨_, _, _, rf4_x k h m (rw4 m a 16) a 16 (decide_eq_false (by omega))⟩

theorem rf_l5 (k h m w : List Int) (a : Int) (hw : w.length = 16) : SumOK Tryd.prog DS (bodyN Tryd.f13 5) (loopL DS (rf4Sn k h m w a [slI 14 16]) (.exit 10) (rf4Sn k h m (rw5 w 48) a [])) := by
  have hs := sum_loop gamR_ok mixed (c := bodyN Tryd.f13 5) (fun j => rf4Sn k h m (rw5 w j) a [slI 14 (16 + (j : Int))]) 48 (e := .exit 10) (s := rf4Sn k h m (rw5 w 48) a []) rfl (fun j hj => ?_) ?_
  · exact hs
  · have hlen := rw5_len w j
    have := rf5_r k h m (rw5 w j) (rw5 w (j + 1)) a (16 + (j : Int)) (decide_eq_true (by omega)) ⟨by omega, by omega⟩ (by omega) (by omega) (by omega) ⟨by omega, by omega⟩ (by omega) (by omega) (by omega) ⟨by omega, by omega⟩ (by omega) (by omega) (by omega) ⟨by omega, by omega⟩ (by omega) (by omega) (by omega) (by omega) (by omega) ⟨by omega, by omega⟩ rfl
    rw [show (16 + (j : Int)) + 1 = 16 + ((j + 1 : Nat) : Int) from by omega] at this
    exact ⟨_, _, _, this⟩
  · exact ⟨_, _, _, rf5_x k h m (rw5 w 48) a _ (decide_eq_false (by omega))⟩

theorem rf_l6 (k h m w : List Int) (a : Int) (hk : k.length = 64) (hw : w.length = 64) (hh : h.length = 8) : SumOK Tryd.prog DS (bodyN Tryd.f13 6) (loopL DS (rf6Sn k h m w h a [slI 18 (0 : Nat)]) (.exit 12) (rf6Sn k h m w (rv6 k w h 64) a [])) := by
  refine sum_loop gamR_ok mixed (fun i => rf6Sn k h m w (rv6 k w h i) a [slI 18 i]) 64 rfl (fun i hi => ?_) ?_
  · have hv := rv6_len k w h hh i
    exact ⟨_, _, _, rf6_r k h m w (rv6 k w h i) (rv6 k w h (i + 1)) a i (decide_eq_true (by omega)) (by omega) (by omega) (by omega) (by omega) (by omega) (by omega) (by omega) (by omega) (by omega) (by omega) (by omega) (by omega) (by omega) (by omega) (by omega) (by omega) (by omega) (by omega) (by omega) (by omega) (by omega) ⟨by omega, by omega⟩ rfl⟩
  · exact ⟨_, _, _, rf6_x k h m w (rv6 k w h 64) a 64 (decide_eq_false (by omega))⟩

theorem rf_l7 (k h m w v : List Int) (a : Int) (hv : v.length = 8) (hh : h.length = 8) : SumOK Tryd.prog DS (bodyN Tryd.f13 7) (loopL DS (rf6Sn k h m w v a [slI 21 (0 : Nat)]) (.exit 14) (rf3Sn k (ts4 h v 8) m [slI 10 a])) := by
  have hs := sum_loop gamR_ok mixed (c := bodyN Tryd.f13 7) (fun i => rf6Sn k (ts4 h v i) m w v a [slI 21 i]) 8 (e := .exit 14) (s := rf3Sn k (ts4 h v 8) m [slI 10 a]) rfl (fun i hi => ?_) ?_
  · exact hs
  · have := ts4_len h v i
    exact ⟨_, _, _, rf7_r k (ts4 h v i) m w v (ts4 h v (i + 1)) a i (decide_eq_true (by omega)) (by omega) (by omega) (by omega) (by omega) (by omega) ⟨by omega, by omega⟩ rfl⟩
  · exact ⟨_, _, _, rf7_x k (ts4 h v 8) m w v a 8 (decide_eq_false (by omega))⟩

theorem rf_l3 (k h m : List Int) (hk : k.length = 64) (hh : h.length = 8) (hm : m.length % 64 = 0) (hl : m.length ≤ 2000000000) : SumOK Tryd.prog DS (bodyN Tryd.f13 3) (loopL DS (rf3Sn k h m [slI 10 (0 : Nat)]) (.exit 6) (rf3Sn k (rfH k h m (m.length / 64)) m [])) := by
  have hs := sum_loop gamR_ok mixed (c := bodyN Tryd.f13 3) (fun n => rf3Sn k (rfH k h m n) m [slI 10 (64 * (n : Int))]) (m.length / 64) (e := .exit 6) (s := rf3Sn k (rfH k h m (m.length / 64)) m []) rfl (fun n hn => ?_) ?_
  · exact hs
  · have h8 := rfH_len k h m hh n
    have hc : (64 * (n : Int)) = ((64 * n : Nat) : Int) := by omega
    have hw4 := rw4_len m (64 * (n : Int)) 16
    have hw5 := rw5_len (rw4 m (64 * (n : Int)) 16) 48
    have l4 := rf_l4 k (rfH k h m n) m (64 * n) (by omega) hl
    rw [← hc] at l4
    have := rf3_r k (rfH k h m n) m (rw4 m (64 * (n : Int)) 0) (rw4 m (64 * (n : Int)) 16) (rw5 (rw4 m (64 * (n : Int)) 16) 48) (rv6 k (rw5 (rw4 m (64 * (n : Int)) 16) 48) (rfH k h m n) 64) (rfH k h m (n + 1)) (64 * (n : Int)) (decide_eq_true (by omega)) l4 rfl (rf_l5 k (rfH k h m n) m _ _ hw4) (by omega) (by omega) (rf_l6 k (rfH k h m n) m _ _ hk (by omega) h8) (List.nil_append _) (rf_l7 k (rfH k h m n) m _ _ _ (rv6_len k _ _ h8 64) h8) ⟨by omega, by omega⟩
    rw [show (64 * (n : Int)) + 64 = 64 * ((n + 1 : Nat) : Int) from by omega] at this
    exact ⟨_, _, _, this⟩
  · exact ⟨_, _, _, rf3_x k _ m _ (decide_eq_false (by omega))⟩

theorem rf_l8 (h : List Int) (hh : h.length = 8) : SumOK Tryd.prog DS (bodyN Tryd.f13 8) (loopL DS (rf8Sn h (rfO h 0) (0 : Nat)) (.exit 16) (rfEnd (rfO h 8))) := by
  refine sum_loop gamR_ok mixed (fun i => rf8Sn h (rfO h i) i) 8 rfl (fun i hi => ?_) ?_
  · have := rfO_len h i
    exact ⟨_, _, _, rf8_r h (rfO h i) (rfO h (i + 1)) i (decide_eq_true (by omega)) (by omega) (by omega) (by omega) (by omega) (by omega) ⟨by omega, by omega⟩ rfl⟩
  · exact ⟨_, _, _, rf8_x h (rfO h 8) 8 (decide_eq_false (by omega))⟩

def rfD : FnD DS
  | [.one (.words .u8 l)] => some (.v (.one (.fresh 0 5 .u8 (rfSum l))), [l.length ≤ 1000000000])
  | _ => none

theorem ref_ok : FnOK Tryd.prog DS 13 rfD := by
  refine fnOK_of gamR_ok mixed Tryd.func13 (enters_of Tryd.func13 (by kernel_rfl) rfl) ?_
  intro xs r ps h hps
  unfold rfD at h
  split at h
  · rename_i l
    simp only [Option.some.injEq, Prod.mk.injEq] at h
    obtain ⟨rfl, rfl⟩ := h
    have hl : l.length ≤ 1000000000 := hps _ (by simp)
    have hm := rfM2_len l 8
    have hp : padN l.length < 64 := by unfold padN; omega
    have h3 := padN_mod l.length
    obtain ⟨qs, q1, q2⟩ := rf_run l (kIt 0) (hIt 0) rootsL firstL (l ++ [128]) (rfM1 l) (rfM2 l 8) (rfH rootsL firstL (rfM2 l 8) ((rfM2 l 8).length / 64)) [] (rfSum l) (64 : Nat) (rfZ l.length) (rf_l0 l) rfl rfl (by omega) (by omega) (by omega) (rf_l1 l rootsL firstL hl) rfl (rf_l2 l rootsL firstL hl) rfl (rf_l3 rootsL firstL (rfM2 l 8) rfl rfl (by omega) (by omega)) (rf_l8 _ (rfH_len _ _ _ rfl _)) rfl
    exact ⟨_, _, _, _, _, fun w vs hx => hx, q1, q2, fun E v hv => hv⟩
  · cases h

end Go.Num
