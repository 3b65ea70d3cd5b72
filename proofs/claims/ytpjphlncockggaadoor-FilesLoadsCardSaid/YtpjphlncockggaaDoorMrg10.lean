/- Several texts put together: S8 S9 Fl1 Fl2 Fl3 Fl4 D13 D14. -/
import Derived.Test.YtpjphlncockggaaDoorMrg9
namespace Go.Num
open Go.Abs Go.Proofs Go.Shelf
theorem or_comm (k : IntKind) (x y : Int) : bitsOf .or k x y = bitsOf .or k y x := by
  show k.wrap (BitVec.ofInt k.bits x ||| BitVec.ofInt k.bits y).toNat = k.wrap (BitVec.ofInt k.bits y ||| BitVec.ofInt k.bits x).toNat
  rw [BitVec.or_comm]
theorem turn2 (x : Int) : turnF x 2 = sft x 30 2 := or_comm _ _ _
theorem turn6 (x : Int) : turnF x 6 = sft x 26 6 := or_comm _ _ _
theorem turn7 (x : Int) : turnF x 7 = sft x 25 7 := or_comm _ _ _
theorem turn11 (x : Int) : turnF x 11 = sft x 21 11 := or_comm _ _ _
theorem turn13 (x : Int) : turnF x 13 = sft x 19 13 := or_comm _ _ _
theorem turn17 (x : Int) : turnF x 17 = sft x 15 17 := or_comm _ _ _
theorem turn18 (x : Int) : turnF x 18 = sft x 14 18 := or_comm _ _ _
theorem turn19 (x : Int) : turnF x 19 = sft x 13 19 := or_comm _ _ _
theorem turn22 (x : Int) : turnF x 22 = sft x 10 22 := or_comm _ _ _
theorem turn25 (x : Int) : turnF x 25 = sft x 7 25 := or_comm _ _ _
theorem ad_eq (a b : Int) : ad a b = (a + b) % 4294967296 := IntKind.wrap_u32 _
theorem ad_assoc (a b c d e : Int) : ad (ad a b) (ad (ad c d) e) = ad (ad (ad (ad a b) c) d) e := by
  simp only [ad_eq]; omega
theorem or8 {x b : Int} (h0 : 0 ≤ b) (h1 : b < 256) : bitsOf .or .u32 (IntKind.u32.wrap (x * 2 ^ min 8 32)) (IntKind.u32.wrap b) = (x * 256 + b) % 4294967296 := by
  show IntKind.wrap .u32 (((BitVec.ofInt 32 (IntKind.wrap .u32 (x * 2 ^ 8)) ||| BitVec.ofInt 32 (IntKind.wrap .u32 b)).toNat : Nat) : Int) = _
  rw [BitVec.toNat_or, BitVec.toNat_ofInt, BitVec.toNat_ofInt]
  have e1 : (IntKind.wrap .u32 (x * 2 ^ 8) % ((2 ^ 32 : Nat) : Int)).toNat = 2 ^ 8 * ((x % 2 ^ 24).toNat) := by rw [IntKind.wrap_u32]; omega
  have e2 : (IntKind.wrap .u32 b % ((2 ^ 32 : Nat) : Int)).toNat = b.toNat := by rw [IntKind.wrap_u32]; omega
  rw [e1, e2, ← Nat.two_pow_add_eq_or_of_lt (by omega), IntKind.wrap_u32]
  omega
theorem or_add {a b : Int} {q k : Nat} (ha : a = 2 ^ k * (q : Int)) (h0 : 0 ≤ b) (hb : b < 2 ^ k) (hs : a + b < 4294967296) : bitsOf .or .u32 a b = a + b := by
  show IntKind.wrap .u32 (((BitVec.ofInt 32 a ||| BitVec.ofInt 32 b).toNat : Nat) : Int) = _
  rw [BitVec.toNat_or, BitVec.toNat_ofInt, BitVec.toNat_ofInt]
  have hq : a = ((2 ^ k * q : Nat) : Int) := by rw [ha]; push_cast; rfl
  have hb' : b.toNat < 2 ^ k := by
    have : ((b.toNat : Nat) : Int) < ((2 ^ k : Nat) : Int) := by rw [Int.toNat_of_nonneg h0]; push_cast; exact hb
    exact Int.ofNat_lt.1 this
  have e1 : (a % ((2 ^ 32 : Nat) : Int)).toNat = 2 ^ k * q := by
    rw [hq] at hs ⊢
    omega
  have e2 : (b % ((2 ^ 32 : Nat) : Int)).toNat = b.toNat := by
    have : 0 ≤ a := by rw [hq]; omega
    omega
  rw [e1, e2, ← Nat.two_pow_add_eq_or_of_lt hb', IntKind.wrap_u32]
  rw [hq] at hs ⊢
  omega
def word4 (m : List Int) (p : Nat) : Int := m.getD p 0 * 16777216 + m.getD (p + 1) 0 * 65536 + m.getD (p + 2) 0 * 256 + m.getD (p + 3) 0
theorem inB_get {l : List Int} (h : InB l) (j : Nat) : 0 ≤ l.getD j 0 ∧ l.getD j 0 < 256 := by
  by_cases hj : j < l.length
  · have e : l.getD j 0 = l[j] := by simp [List.getD, hj]
    rw [e]
    exact h _ (List.getElem_mem hj)
  · have e : l.getD j 0 = 0 := by simp [List.getD, List.getElem?_eq_none (Nat.le_of_not_lt hj)]
    rw [e]
    omega
theorem rfWord_eq {m : List Int} (hm : InB m) (p : Nat) : rfWord m p = word4 m p := by
  have h0 := inB_get hm p
  have h1 := inB_get hm (p + 1)
  have h2 := inB_get hm (p + 2)
  have h3 := inB_get hm (p + 3)
  unfold rfWord word4
  rw [show ((p : Int)).toNat = p from by omega, show ((p : Int) + 1).toNat = p + 1 from by omega, show ((p : Int) + 2).toNat = p + 2 from by omega, show ((p : Int) + 3).toNat = p + 3 from by omega]
  generalize m.getD p 0 = a at *
  generalize m.getD (p + 1) 0 = b at *
  generalize m.getD (p + 2) 0 = c at *
  generalize m.getD (p + 3) 0 = d at *
  have wa : IntKind.u32.wrap (IntKind.u32.wrap a * 2 ^ min 24 32) = 2 ^ 24 * ((a.toNat : Nat) : Int) := by
    rw [IntKind.wrap_u32, IntKind.wrap_u32, show min 24 32 = 24 from rfl]; omega
  have wb : IntKind.u32.wrap (IntKind.u32.wrap b * 2 ^ min 16 32) = b * 65536 := by
    rw [IntKind.wrap_u32, IntKind.wrap_u32, show min 16 32 = 16 from rfl]; omega
  have wc : IntKind.u32.wrap (IntKind.u32.wrap c * 2 ^ min 8 32) = c * 256 := by
    rw [IntKind.wrap_u32, IntKind.wrap_u32, show min 8 32 = 8 from rfl]; omega
  have wd : IntKind.u32.wrap d = d := by rw [IntKind.wrap_u32]; omega
  have s1 : bitsOf .or .u32 (2 ^ 24 * ((a.toNat : Nat) : Int)) (b * 65536) = 2 ^ 24 * ((a.toNat : Nat) : Int) + b * 65536 := or_add (q := a.toNat) (k := 24) rfl (by omega) (by omega) (by omega)
  have s2 : bitsOf .or .u32 (2 ^ 24 * ((a.toNat : Nat) : Int) + b * 65536) (c * 256) = 2 ^ 24 * ((a.toNat : Nat) : Int) + b * 65536 + c * 256 := or_add (q := a.toNat * 256 + b.toNat) (k := 16) (by omega) (by omega) (by omega) (by omega)
  have s3 : bitsOf .or .u32 (2 ^ 24 * ((a.toNat : Nat) : Int) + b * 65536 + c * 256) d = 2 ^ 24 * ((a.toNat : Nat) : Int) + b * 65536 + c * 256 + d := or_add (q := a.toNat * 65536 + b.toNat * 256 + c.toNat) (k := 8) (by omega) (by omega) (by omega) (by omega)
  rw [wa, wb, wc, wd, s1, s2, s3]
  omega
theorem getD_set_self {l : List Int} {i : Nat} (x : Int) (h : i < l.length) : (l.set i x).getD i 0 = x := by
  simp [List.getD_eq_getElem?_getD, h]
theorem getD_set_other {l : List Int} {i j : Nat} (x : Int) (h : i ≠ j) : (l.set i x).getD j 0 = l.getD j 0 := by
  simp [List.getD_eq_getElem?_getD, List.getElem?_set_ne h]
theorem tw1_len (p w : List Int) (i : Int) : ∀ j, (tw1 p w i j).length = w.length
  | 0 => rfl
  | j + 1 => by simp [tw1, tw1_len p w i j]
theorem tw1_other (p w : List Int) {i k : Nat} (h : i ≠ k) : ∀ j, (tw1 p w i j).getD k 0 = w.getD k 0
  | 0 => rfl
  | j + 1 => by
    unfold tw1
    rw [getD_set_other _ (by rw [Int.toNat_natCast]; exact h)]
    exact tw1_other p w h j
theorem tw1_self {p w : List Int} (hp : InB p) {i : Nat} (hi : i < w.length) (hw : w.getD i 0 = 0) : (tw1 p w i 4).getD i 0 = word4 p (4 * i) := by
  have h0 := inB_get hp (4 * i)
  have h1 := inB_get hp (4 * i + 1)
  have h2 := inB_get hp (4 * i + 2)
  have h3 := inB_get hp (4 * i + 3)
  have step : ∀ j : Nat, (tw1 p w i (j + 1)).getD i 0 = ((tw1 p w i j).getD i 0 * 256 + p.getD (4 * i + j) 0) % 4294967296 := by
    intro j
    have hb := inB_get hp (4 * i + j)
    show ((tw1 p w i j).set (i : Int).toNat _).getD i 0 = _
    rw [Int.toNat_natCast, getD_set_self _ (by rw [tw1_len]; exact hi), show (4 * (i : Int) + (j : Int)).toNat = 4 * i + j from by omega]
    exact or8 hb.1 hb.2
  rw [step 3, step 2, step 1, step 0]
  show ((((w.getD i 0 * 256 + _) % _ * 256 + _) % _ * 256 + _) % _ * 256 + _) % _ = _
  rw [hw]
  unfold word4
  rw [Nat.add_zero]
  omega
theorem tw0_spec {p : List Int} (hp : InB p) : ∀ i, i ≤ 16 → (tw0 p i).length = 64 ∧ (∀ j, j < i → (tw0 p i).getD j 0 = word4 p (4 * j)) ∧ ∀ j, i ≤ j → (tw0 p i).getD j 0 = 0
  | 0, _ => ⟨rfl, fun j h => by omega, fun j _ => by
      show (List.replicate 64 (0 : Int)).getD j 0 = 0
      rw [List.getD_eq_getElem?_getD, List.getElem?_replicate]
      split <;> rfl⟩
  | i + 1, hi => by
    obtain ⟨h1, h2, h3⟩ := tw0_spec hp i (by omega)
    refine ⟨by show (tw1 p (tw0 p i) i 4).length = 64; rw [tw1_len]; exact h1, fun j hj => ?_, fun j hj => ?_⟩
    · show (tw1 p (tw0 p i) i 4).getD j 0 = _
      by_cases e : j = i
      · subst e; exact tw1_self hp (by omega) (h3 j (Nat.le_refl _))
      · rw [tw1_other _ _ (Ne.symm e)]; exact h2 j (by omega)
    · show (tw1 p (tw0 p i) i 4).getD j 0 = _
      rw [tw1_other _ _ (by omega)]; exact h3 j (by omega)
theorem getD_app_l {a b : List Int} {j : Nat} (h : j < a.length) : (a ++ b).getD j 0 = a.getD j 0 := by
  rw [List.getD_eq_getElem?_getD, List.getElem?_append_left h, ← List.getD_eq_getElem?_getD]
theorem getD_app_at {a : List Int} {x : Int} {j : Nat} (h : j = a.length) : (a ++ [x]).getD j 0 = x := by
  subst h
  simp [List.getD_eq_getElem?_getD]
theorem rw4_get {m : List Int} (hm : InB m) (a : Nat) : ∀ i j, j < i → (rw4 m a i).getD j 0 = word4 m (a + 4 * j)
  | 0, j, h => by omega
  | i + 1, j, h => by
    show (rw4 m a i ++ [_]).getD j 0 = _
    by_cases e : j = i
    · subst e
      rw [getD_app_at (rw4_len m a j).symm, show ((a : Int) + 4 * (j : Int)) = ((a + 4 * j : Nat) : Int) from by omega, rfWord_eq hm]
    · rw [getD_app_l (by rw [rw4_len]; omega)]
      exact rw4_get hm a i j (by omega)
theorem tw2_len (w : List Int) : ∀ k, (tw2 w k).length = w.length
  | 0 => rfl
  | k + 1 => by simp [tw2, twStep, tw2_len w k]
theorem words_agree {W w : List Int} (hW : W.length = 64) (hw : w.length = 16) (h : ∀ j, j < 16 → W.getD j 0 = w.getD j 0) : ∀ k, k ≤ 48 → ∀ j, j < 16 + k → (tw2 W k).getD j 0 = (rw5 w k).getD j 0
  | 0, _, j, hj => h j hj
  | k + 1, hk, j, hj => by
    have ih := words_agree hW hw h k (by omega)
    have hl := rw5_len w k
    have hL := tw2_len W k
    show (twStep (tw2 W k) k).getD j 0 = (rw5 w k ++ [_]).getD j 0
    unfold twStep
    rw [show ((k : Int) + 16).toNat = k + 16 from by omega]
    by_cases e : j = k + 16
    · subst e
      rw [getD_set_self _ (by omega), getD_app_at (by omega)]
      unfold rw5W
      rw [turn7, turn18, turn17, turn19]
      rw [show ((k : Int)).toNat = k from by omega, show ((k : Int) + 1).toNat = k + 1 from by omega, show ((k : Int) + 9).toNat = k + 9 from by omega, show ((k : Int) + 14).toNat = k + 14 from by omega,
        show (16 + (k : Int) - 16).toNat = k from by omega, show (16 + (k : Int) - 15).toNat = k + 1 from by omega, show (16 + (k : Int) - 7).toNat = k + 9 from by omega, show (16 + (k : Int) - 2).toNat = k + 14 from by omega]
      rw [ih k (by omega), ih (k + 1) (by omega), ih (k + 9) (by omega), ih (k + 14) (by omega)]
    · rw [getD_set_other _ (Ne.symm e), getD_app_l (by omega)]
      exact ih j (by omega)
theorem rounds_agree {W w : List Int} (h : ∀ j, j < 64 → W.getD j 0 = w.getD j 0) (v : List Int) : ∀ i, i ≤ 64 → tv3 W v i = rv6 rootsL w v i
  | 0, _ => rfl
  | i + 1, hi => by
    have ih := rounds_agree h v i (by omega)
    show tvStep W (tv3 W v i) i = rvStep rootsL w (rv6 rootsL w v i) i
    rw [ih]
    generalize rv6 rootsL w v i = u
    have hT : tvT W u i = rvT rootsL w u i := by
      unfold tvT rvT
      rw [turn6, turn11, turn25, ad_assoc, Int.toNat_natCast, h i (by omega)]
    have hU : tvU u = rvU u := by
      unfold tvU rvU
      rw [turn2, turn13, turn22]
    unfold tvStep rvStep
    rw [hT, hU]
theorem word4_block {m : List Int} {a j : Nat} (hj : j < 16) : word4 ((m.drop a).take 64) (4 * j) = word4 m (a + 4 * j) := by
  have hg : ∀ i, i < 64 → ((m.drop a).take 64).getD i 0 = m.getD (a + i) 0 := by
    intro i hi
    simp only [List.getD_eq_getElem?_getD, List.getElem?_take, List.getElem?_drop, if_pos hi]
  unfold word4
  rw [hg _ (by omega), hg _ (by omega), hg _ (by omega), hg _ (by omega)]
  simp only [Nat.add_assoc]
theorem inB_sub {m : List Int} (hm : InB m) (a n : Nat) : InB ((m.drop a).take n) := fun x hx => hm x (List.mem_of_mem_drop (List.mem_of_mem_take hx))
theorem block_same {m : List Int} (hm : InB m) (a : Nat) (h : List Int) : rfBlock rootsL h m a = takeF h ((m.drop a).take 64) := by
  obtain ⟨t1, t2, t3⟩ := tw0_spec (inB_sub hm a 64) 16 (Nat.le_refl _)
  have h16 : ∀ j, j < 16 → (tw0 ((m.drop a).take 64) 16).getD j 0 = (rw4 m a 16).getD j 0 := fun j hj => by
    rw [t2 j hj, rw4_get hm a 16 j hj, word4_block hj]
  have h64 := words_agree t1 (rw4_len m a 16) h16 48 (Nat.le_refl _)
  unfold rfBlock takeF
  rw [rounds_agree (w := rw5 (rw4 m a 16) 48) (fun j hj => h64 j (by omega)) h 64 (Nat.le_refl _)]
theorem rfH_eat {m : List Int} (hm : InB m) (h : List Int) : ∀ n, rfH rootsL h m n = eat h m n
  | 0 => rfl
  | n + 1 => by
    show rfBlock rootsL (rfH rootsL h m n) m (64 * (n : Int)) = takeF (eat h m n) ((m.drop (64 * n)).take 64)
    rw [rfH_eat hm h n, show (64 * (n : Int)) = ((64 * n : Nat) : Int) from by omega, block_same hm]
end Go.Num
namespace Go.Num
open Go.Abs Go.Proofs Go.Shelf
theorem eat_append (s a b : List Int) : ∀ k, 64 * k ≤ a.length → eat s (a ++ b) k = eat s a k
  | 0, _ => rfl
  | k + 1, h => by
    show takeF (eat s (a ++ b) k) _ = takeF (eat s a k) _
    rw [eat_append s a b k (by omega), List.drop_append_of_le_length (by omega), List.take_append_of_le_length (by rw [List.length_drop]; omega)]
theorem eat_add (s l : List Int) (i : Nat) : ∀ j, eat s l (i + j) = eat (eat s l i) (l.drop (64 * i)) j
  | 0 => rfl
  | j + 1 => by
    show takeF (eat s l (i + j)) ((l.drop (64 * (i + j))).take 64) = takeF (eat (eat s l i) (l.drop (64 * i)) j) (((l.drop (64 * i)).drop (64 * j)).take 64)
    rw [eat_add s l i j, List.drop_drop, show 64 * i + 64 * j = 64 * (i + j) from by omega]
structure Took (all s r : List Int) : Prop where
  len : r.length = 64
  state : all.length ≠ 0 → s = eat firstL all (all.length / 64)
  rest : r.take (all.length % 64) = all.drop (64 * (all.length / 64))
theorem took_none (s : List Int) {r : List Int} (h : r.length = 64) : Took [] s r := ⟨h, fun h => (h rfl).elim, by simp⟩
theorem over_take {r l : List Int} {lo : Nat} (h : lo + l.length ≤ r.length) : (over r lo l).take (lo + l.length) = r.take lo ++ l := by
  unfold over
  have hl : (r.take lo ++ l).length = lo + l.length := by rw [List.length_append, List.length_take]; omega
  rw [← hl]
  exact List.take_left
theorem took_write {all s r : List Int} (h : Took all s r) (l : List Int) : Took (all ++ l) (writeS s r all.length l) (writeR s r all.length l) := by
  obtain ⟨h1, h2, h3⟩ := h
  have hN : (all ++ l).length = all.length + l.length := List.length_append
  unfold writeS writeR writeF
  by_cases ha : all.length % 64 = 0
  · rw [if_pos ha]
    have hs : (if all.length = 0 then firstL else s) = eat firstL all (all.length / 64) := by
      by_cases h0 : all.length = 0
      · rw [if_pos h0, h0]; rfl
      · rw [if_neg h0]; exact h2 h0
    rw [hs]
    have hq : (all.length + l.length) / 64 = all.length / 64 + l.length / 64 := by omega
    have hd : (all ++ l).drop (64 * (all.length / 64)) = l := by
      rw [show 64 * (all.length / 64) = all.length from by omega]; exact List.drop_left
    have htk : ((l.drop (64 * (l.length / 64))).take 64) = l.drop (64 * (l.length / 64)) := List.take_of_length_le (by rw [List.length_drop]; omega)
    refine ⟨?_, fun _ => ?_, ?_⟩
    · show (over r 0 _).length = 64
      rw [over_length (by rw [htk, List.length_drop]; omega)]; exact h1
    · show eat (eat firstL all (all.length / 64)) l (l.length / 64) = _
      rw [hN, hq, eat_add, hd, eat_append _ _ _ _ (by omega)]
    · show (over r 0 _).take _ = _
      rw [htk, hN]
      have e : (all.length + l.length) % 64 = 0 + (l.drop (64 * (l.length / 64))).length := by rw [List.length_drop]; omega
      rw [e, over_take (by rw [List.length_drop]; omega), List.take_zero, List.nil_append, hq, Nat.mul_add, ← List.drop_drop, hd]
  · rw [if_neg ha]
    have h0 : all.length ≠ 0 := fun e => ha (by rw [e])
    by_cases hf : all.length % 64 + l.length < 64
    · rw [if_pos hf]
      have hl : l.take (64 - all.length % 64) = l := List.take_of_length_le (by omega)
      have hq : (all.length + l.length) / 64 = all.length / 64 := by omega
      refine ⟨?_, fun _ => ?_, ?_⟩
      · show (over r _ _).length = 64
        rw [hl, over_length (by omega)]; exact h1
      · show s = _
        rw [hN, hq, eat_append _ _ _ _ (by omega)]; exact h2 h0
      · show (over r _ _).take _ = _
        rw [hl, hN, show (all.length + l.length) % 64 = all.length % 64 + l.length from by omega, over_take (by omega), h3, hq, List.drop_append_of_le_length (by omega)]
    · rw [if_neg hf]
      have hl : (l.take (64 - all.length % 64)).length = 64 - all.length % 64 := by rw [List.length_take]; omega
      have hr1 : over r (all.length % 64) (l.take (64 - all.length % 64)) = ((all ++ l).drop (64 * (all.length / 64))).take 64 := by
        unfold over
        rw [hl, show all.length % 64 + (64 - all.length % 64) = 64 from by omega, List.drop_of_length_le (by omega), List.append_nil, h3, List.drop_append_of_le_length (by omega), List.take_append]
        rw [List.take_of_length_le (l := List.drop (64 * (all.length / 64)) all) (by rw [List.length_drop]; omega), List.length_drop, show 64 - (all.length - 64 * (all.length / 64)) = 64 - all.length % 64 from by omega]
      have hs1 : takeF s (over r (all.length % 64) (l.take (64 - all.length % 64))) = eat firstL (all ++ l) (all.length / 64 + 1) := by
        rw [hr1, h2 h0]
        show _ = takeF (eat firstL (all ++ l) (all.length / 64)) _
        rw [eat_append _ _ _ _ (by omega)]
      rw [hs1]
      have hd : (all ++ l).drop (64 * (all.length / 64 + 1)) = l.drop (64 - all.length % 64) := by
        rw [List.drop_append, List.drop_of_length_le (by omega), List.nil_append, show 64 * (all.length / 64 + 1) - all.length = 64 - all.length % 64 from by omega]
      generalize hl1 : l.drop (64 - all.length % 64) = l1 at hd
      have hl1l : l1.length = l.length - (64 - all.length % 64) := by rw [← hl1, List.length_drop]
      have hq : (all.length + l.length) / 64 = (all.length / 64 + 1) + l1.length / 64 := by omega
      have htk : ((l1.drop (64 * (l1.length / 64))).take 64) = l1.drop (64 * (l1.length / 64)) := List.take_of_length_le (by rw [List.length_drop]; omega)
      have hrl : (over r (all.length % 64) (l.take (64 - all.length % 64))).length = 64 := by rw [over_length (by omega)]; exact h1
      refine ⟨?_, fun _ => ?_, ?_⟩
      · show (over _ 0 _).length = 64
        rw [over_length (by rw [htk, List.length_drop, hrl]; omega)]; exact hrl
      · show eat (eat firstL (all ++ l) (all.length / 64 + 1)) l1 (l1.length / 64) = _
        have := eat_add firstL (all ++ l) (all.length / 64 + 1) (l1.length / 64)
        rw [hd] at this
        rw [hN, hq]
        exact this.symm
      · show (over _ 0 _).take _ = _
        rw [htk, hN]
        have e : (all.length + l.length) % 64 = 0 + (l1.drop (64 * (l1.length / 64))).length := by rw [List.length_drop]; omega
        rw [e, over_take (by rw [List.length_drop, hrl]; omega), List.take_zero, List.nil_append, hq, Nat.mul_add, ← List.drop_drop, hd]
def tailB (N : Nat) : Nat → List Int
  | 0 => []
  | i + 1 => tailB N i ++ [rfB N (7 - (i : Int))]
theorem tailB_len (N : Nat) : ∀ i, (tailB N i).length = i
  | 0 => rfl
  | i + 1 => by simp [tailB, tailB_len N i]
theorem rfM2_eq (l : List Int) : ∀ j, rfM2 l j = l ++ (128 :: List.replicate (padN l.length) 0 ++ tailB l.length j)
  | 0 => by simp [rfM2, rfM1, tailB]
  | j + 1 => by
    show rfM2 l j ++ _ = _
    rw [rfM2_eq l j]
    simp [tailB]
theorem set_at {a b : List Int} {x y : Int} {i : Nat} (h : i = a.length) : (a ++ y :: b).set i x = a ++ x :: b := by
  subst h
  rw [List.set_append_right _ _ (Nat.le_refl _), Nat.sub_self, List.set_cons_zero]
theorem tailS_eq (N : Nat) : ∀ i, i ≤ 8 → tailS N i = (128 :: List.replicate (padN N) 0 ++ tailB N i) ++ List.replicate (71 - padN N - i) 0
  | 0, _ => by
    have hp : padN N < 64 := by unfold padN; omega
    show tail0 = _
    unfold tail0 tailB
    rw [List.append_nil, Nat.sub_zero, List.cons_append, List.replicate_append_replicate, show padN N + (71 - padN N) = 71 from by omega]
  | i + 1, hi => by
    have hp : padN N < 64 := by unfold padN; omega
    show (tailS N i).set _ _ = _
    rw [tailS_eq N i (by omega), show 71 - padN N - i = (71 - padN N - (i + 1)) + 1 from by omega, List.replicate_succ]
    rw [set_at (by simp [tailB_len]; omega)]
    have hb : IntKind.u8.wrap (Int.fdiv (IntKind.u64.wrap (IntKind.u64.wrap (N : Int) * 8)) (2 ^ min (56 - 8 * (i : Int)).toNat 64)) = rfB N (7 - (i : Int)) := by
      unfold rfB rfZ
      rw [show (IntKind.u64.wrap (8 * (7 - (i : Int)))).toNat = (56 - 8 * (i : Int)).toNat from by rw [IntKind.wrap_u64]; omega]
    rw [hb]
    simp [tailB]
theorem tailF_eq (N : Nat) : tailF N = 128 :: List.replicate (padN N) 0 ++ tailB N 8 := by
  have hp : padN N < 64 := by unfold padN; omega
  unfold tailF
  rw [tailS_eq N 8 (Nat.le_refl _)]
  have hl : (128 :: List.replicate (padN N) 0 ++ tailB N 8).length = padN N + 9 := by simp [tailB_len]
  rw [← hl]
  exact List.take_left
theorem rfB_inB (N : Nat) (i : Int) : 0 ≤ rfB N i ∧ rfB N i < 256 := by
  unfold rfB
  rw [IntKind.wrap_u8]
  omega
theorem tailB_inB (N : Nat) : ∀ i, InB (tailB N i)
  | 0 => fun x h => by cases h
  | i + 1 => fun x h => by
    rcases List.mem_append.1 h with h | h
    · exact tailB_inB N i x h
    · simp only [List.mem_singleton] at h
      subst h
      exact rfB_inB N _
theorem rfM2_inB {l : List Int} (hl : InB l) : InB (rfM2 l 8) := by
  rw [rfM2_eq]
  intro x hx
  rcases List.mem_append.1 hx with h | h
  · exact hl x h
  · rcases List.mem_append.1 h with h | h
    · rcases List.mem_cons.1 h with h | h
      · subst h; omega
      · have := (List.mem_replicate.1 h).2; subst this; omega
    · exact tailB_inB _ _ x h
def ob (s : List Int) (i : Nat) : Int := IntKind.u8.wrap (Int.fdiv (s.getD (i / 4) 0) (2 ^ (24 - 8 * (i % 4))))
theorem outS_eq (s : List Int) : ∀ i, i ≤ 32 → outS s i = (List.range i).map (ob s) ++ List.replicate (32 - i) 0
  | 0, _ => by simp [outS]
  | i + 1, hi => by
    show (outS s i).set _ _ = _
    rw [outS_eq s i (by omega), show 32 - i = (32 - (i + 1)) + 1 from by omega, List.replicate_succ, Int.toNat_natCast, set_at (by simp), List.range_succ]
    have hd : IntKind.i64.wrap (Int.tdiv (i : Int) 4) = ((i / 4 : Nat) : Int) := by
      rcases tdiv_small i with h | h
      · exact h
      · omega
    have hm : Int.tmod (i : Int) 4 = ((i % 4 : Nat) : Int) := tmod_nat i 4
    have e : IntKind.u8.wrap (Int.fdiv (s.getD (IntKind.i64.wrap (Int.tdiv (i : Int) 4)).toNat 0) (2 ^ min (24 - 8 * Int.tmod (i : Int) 4).toNat 32)) = ob s i := by
      unfold ob
      rw [hd, hm, Int.toNat_natCast, show min (24 - 8 * ((i % 4 : Nat) : Int)).toNat 32 = 24 - 8 * (i % 4) from by omega]
    rw [e]
    simp
theorem rfO_eq (s : List Int) : ∀ i, rfO s i = (List.range (4 * i)).map (ob s)
  | 0 => rfl
  | i + 1 => by
    show rfO s i ++ _ = _
    rw [rfO_eq s i, show 4 * (i + 1) = 4 * i + 1 + 1 + 1 + 1 from by omega, List.range_succ, List.range_succ, List.range_succ, List.range_succ, Int.toNat_natCast]
    have e0 : ob s (4 * i) = IntKind.u8.wrap ((s.getD i 0).fdiv (2 ^ min 24 32)) := by
      unfold ob; rw [show 4 * i / 4 = i from by omega, show 24 - 8 * (4 * i % 4) = min 24 32 from by omega]
    have e1 : ob s (4 * i + 1) = IntKind.u8.wrap ((s.getD i 0).fdiv (2 ^ min 16 32)) := by
      unfold ob; rw [show (4 * i + 1) / 4 = i from by omega, show 24 - 8 * ((4 * i + 1) % 4) = min 16 32 from by omega]
    have e2 : ob s (4 * i + 1 + 1) = IntKind.u8.wrap ((s.getD i 0).fdiv (2 ^ min 8 32)) := by
      unfold ob; rw [show (4 * i + 1 + 1) / 4 = i from by omega, show 24 - 8 * ((4 * i + 1 + 1) % 4) = min 8 32 from by omega]
    have e3 : ob s (4 * i + 1 + 1 + 1) = IntKind.u8.wrap (s.getD i 0) := by
      unfold ob; rw [show (4 * i + 1 + 1 + 1) / 4 = i from by omega, show 24 - 8 * ((4 * i + 1 + 1 + 1) % 4) = 0 from by omega]; simp
    simp only [List.map_append, List.map_cons, List.map_nil, e0, e1, e2, e3, List.append_assoc, List.cons_append, List.nil_append]
theorem out_same (s : List Int) : outS s 32 = rfO s 8 := by
  rw [outS_eq s 32 (Nat.le_refl _), rfO_eq]
  simp
theorem sum_same {all s r : List Int} (hb : InB all) (h : Took all s r) : sumF s r all.length = rfSum all := by
  obtain ⟨_, h2, _⟩ := took_write h (tailF all.length)
  have hm : all ++ tailF all.length = rfM2 all 8 := by rw [tailF_eq, rfM2_eq]
  rw [hm] at h2
  have hl := rfM2_len all 8
  unfold sumF rfSum
  rw [h2 (by omega), rfH_eat (rfM2_inB hb), out_same]
theorem of_took (ll : List (List Int)) : ∀ k, k ≤ ll.length → Took ((ll.take k).flatten) (ofSR ll k).1 (ofSR ll k).2 ∧ ((ll.take k).flatten).length = ofN ll k
  | 0, _ => ⟨by rw [List.take_zero]; exact took_none _ rfl, by simp [ofN]⟩
  | k + 1, hk => by
    obtain ⟨h1, h2⟩ := of_took ll k (by omega)
    have e : (ll.take (k + 1)).flatten = (ll.take k).flatten ++ ll.getD k [] := by
      rw [List.take_succ_eq_append_getElem hk, List.flatten_append, List.getD_eq_getElem?_getD, List.getElem?_eq_getElem hk]
      simp
    rw [e]
    refine ⟨?_, by rw [List.length_append, h2, ofN_succ hk]⟩
    have := took_write h1 (ll.getD k [])
    rw [h2] at this
    exact this
theorem of_same {ll : List (List Int)} (hb : InB ll.flatten) : ofF ll = rfSum ll.flatten := by
  obtain ⟨h1, h2⟩ := of_took ll ll.length (Nat.le_refl _)
  rw [List.take_length] at h1 h2
  unfold ofF
  rw [← h2]
  exact sum_same hb h1
end Go.Num
namespace Go.Num
open Go.Abs Go.Proofs Go.Shelf Go.RowKit
def growQ : List (BoxSt DF.τ) → List (A0 DF.τ) → Option (AV DF.τ × List (BoxSt DF.τ) × List Prop)
  | [], [.one .nil, .one (.int .i64 _ n)] => some (.v (.one (.own 0)), [dynB []], [1 ≤ n, n ≤ 140737488355328])
  | _, _ => none
theorem grow_ok : OpOK Tryd.prog DF 44 growQ := by
  intro bs xs r bs' ps h hps w σ ν vs hR hx
  unfold growQ at h
  split at h
  · rename_i n
    simp only [Option.some.injEq, Prod.mk.injEq] at h
    obtain ⟨rfl, rfl, rfl⟩ := h
    have h1 : 1 ≤ n := hps _ (by simp)
    have h2 : n ≤ 140737488355328 := hps _ (by simp)
    obtain ⟨v, us, rfl, ⟨_, hv⟩, u, us', rfl, ⟨_, hu⟩, rfl⟩ := hx
    cases hv
    cases hu
    refine ⟨_, _, enters_of Tryd.func44 (by kernel_rfl) rfl _ w, ?_⟩
    obtain ⟨k, rfl⟩ := Int.eq_ofNat_of_zero_le (show 0 ≤ n by omega)
    obtain ⟨i0, hi0, hz0, hs0, hb0⟩ : ∃ i0, Tryd.prog.info? (Tryd.growB_ren.t 25) = some i0 ∧ i0.zero = some (.int .u8 0) ∧ i0.size = 1 ∧ i0.bytes = 1 := by
      have h0 : (Tryd.prog.info? (Tryd.growB_ren.t 25)).map (fun i => (i.zero, i.size, i.bytes)) = some (some (.int .u8 0), 1, 1) := by kernel_rfl
      cases hi : Tryd.prog.info? (Tryd.growB_ren.t 25) with
      | none => rw [hi] at h0; cases h0
      | some i0 =>
        rw [hi] at h0
        simp only [Option.map_some, Option.some.injEq, Prod.mk.injEq] at h0
        exact ⟨i0, rfl, h0.1, h0.2.1, h0.2.2⟩
    refine (Any8.slices_Grow_grow Tryd.growB i0 (.int .u8 0) hi0 hz0 (by omega) none 0 0 k [] w (Nat.le_refl _) (by omega) (by rw [hb0]; omega) (by omega) (by rw [hs0]; rfl) (fun _ => rfl) (fun a h => by cases h)).mono ?_
    rintro e w' ⟨rfl, rfl⟩
    have hge := grownCap_ge w (0 + k) 0 (Tryd.growB_ren.t 25)
    have hle := grownCap_le_maxLen w (0 + k) 0 (Tryd.growB_ren.t 25) (by simp only [maxLen]; omega)
    have hA : RA DF (opMem DF w σ ν []) w σ ν (bst 0 ([] : List (BoxSt DF.τ))) ⟨#[], []⟩ := ⟨rfl, rfl, fun t av ht => by cases ht⟩
    have hl := lands_dynE hR hA (nid := 0) rfl (old := []) (row := none) (e := Tryd.growB_ren.t 25) (p := .ints .u8 []) (n := 0) (xs := []) (qs := [])
      (v := .slice (some ⟨w.heap.size, 0, none⟩) 0 (grownCap w (0 + k) 0 (Tryd.growB_ren.t 25)))
      (w' := w.drew.alloc (.cells (#[] ++ Builtin.zeroCells (Value.int .u8 0).cells (0 + k - 0) ++ Builtin.zeroCells (Value.int .u8 0).cells (grownCap w (0 + k) 0 (Tryd.growB_ren.t 25) - (0 + k))) (Tryd.growB_ren.t 25)))
      ⟨rfl, .inr ⟨w.heap.size, _, _, rfl, Nat.zero_le _, heap_alloc_new w.drew _, Nat.zero_le _, hle, Nat.le_of_eq ?_, rfl⟩⟩ rfl rfl ⟨rfl, rfl, rfl, by simp, fun j hj _ => heap_alloc_old w.drew _ hj⟩ (by simp) (fun g hg => .inl (Nat.le_of_eq (Option.some.inj hg)))
    · obtain ⟨σ', ν', q1, _, q2⟩ := hl
      refine ⟨_, rfl, σ', ν', ?_, ?_⟩
      · have hS : (bst 0 ([] : List (BoxSt DF.τ))).bx [(0, .dyn (Tryd.growB_ren.t 25) (.ints .u8 []))] = bst 0 [dynB []] := by
          refine congrArg (fun f => (⟨fun _ => none, f, 0, 0⟩ : St DF.τ)) ?_
          funext i
          cases i <;> rfl
        show RR DF _ _ _ _ (bst 0 [dynB []]) _
        rw [← hS]
        exact q1
      · exact ⟨q2.1, trivial, q2.2.2⟩
    · simp only [Array.size_append, List.size_toArray, size_zeroCells]
      show _ * 1 = 0 + _ * 1 + _ * 1
      omega
  · cases h
noncomputable def gamCc : Gam DF := [(44, .op [true, false] growQ)]
theorem gamCc_ok : GamOK Tryd.prog DF gamCc := gam_op grow_ok gam_nil
def ccA (ll : List (List Int)) (n i : Int) : Sn DF.τ where
  slots := [(0, .v (.one (.wordss .u8 ll))), slI 3 n, (9, .v (.one (.wordss .u8 ll))), slI 10 ll.length, slI 11 i]
  boxes := []
  nt := 36
def ccAx (ll : List (List Int)) (n : Int) : Sn DF.τ where
  slots := [(0, .v (.one (.wordss .u8 ll))), slI 3 n]
  boxes := []
  nt := 36
def ccB (ll : List (List Int)) (o : List Int) (i : Int) : Sn DF.τ where
  slots := [(6, .v (.one (.own 0))), (25, .v (.one (.wordss .u8 ll))), slI 26 ll.length, slI 27 i]
  boxes := [(0, .dyn 5 (.ints .u8 o))]
  nt := 36
def ccBx (o : List Int) : Sn DF.τ where
  slots := [(6, .v (.one (.own 0)))]
  boxes := [(0, .dyn 5 (.ints .u8 o))]
  nt := 36
theorem cc_a (ll : List (List Int)) (n n' : Int) (i : Nat)
 (h1 : ((decide (((i : Nat) : Int) < (((List.length ll) : Nat) : Int))) = true))
 (h2 : ((0 : Int) ≤ ((i : Nat) : Int)))
 (h3 : (((i : Nat) : Int) < (((List.length ll) : Nat) : Int)))
 (h4 : (InI64 (n + (((List.length (List.getD ll (Int.toNat ((i : Nat) : Int)) ([] : List (Int)))) : Nat) : Int))))
 (h5 : ((decide ((n + (((List.length (List.getD ll (Int.toNat ((i : Nat) : Int)) ([] : List (Int)))) : Nat) : Int)) < (0 : Int))) = false))
 (h6 : (InI64 (((i : Nat) : Int) + (1 : Int))))
 (h7 : ((n + (((List.length (List.getD ll (Int.toNat ((i : Nat) : Int)) ([] : List (Int)))) : Nat) : Int)) = n')) :
 ∃ ps, stepPs Tryd.prog DF gamCc 100 (bodyN Tryd.f28 0) 100 (ccA ll n i).st [.is true, .is false] .normal (ccA ll n' ((i : Int) + 1)) = some ps ∧ AllQ ps := ⟨_, by kernel_rfl, allQ_cons h1 (allQ_cons h2 (allQ_cons h3 (allQ_cons h4 (allQ_cons h5 (allQ_cons h6 (allQ_cons (show (ll = ll) from rfl) (allQ_cons h7 (allQ_cons (show (ll = ll) from rfl) (allQ_cons (show ((((List.length ll) : Nat) : Int) = (((List.length ll) : Nat) : Int)) from rfl) (allQ_cons (show ((((i : Nat) : Int) + (1 : Int)) = (((i : Nat) : Int) + (1 : Int))) from rfl) (allQ_nil)))))))))))⟩
theorem cc_ax (ll : List (List Int)) (n : Int) (i : Nat)
 (h1 : ((decide (((i : Nat) : Int) < (((List.length ll) : Nat) : Int))) = false)) :
 ∃ ps, stepPs Tryd.prog DF gamCc 100 (bodyN Tryd.f28 0) 100 (ccA ll n i).st [.is false] (.exit 0) (ccAx ll n) = some ps ∧ AllQ ps := ⟨_, by kernel_rfl, allQ_cons h1 (allQ_cons (show (ll = ll) from rfl) (allQ_cons (show (n = n) from rfl) (allQ_nil)))⟩
theorem cc_b (ll : List (List Int)) (o o' : List Int) (i : Nat)
 (h1 : ((decide (((i : Nat) : Int) < (((List.length ll) : Nat) : Int))) = true))
 (h2 : ((0 : Int) ≤ ((i : Nat) : Int)))
 (h3 : (((i : Nat) : Int) < (((List.length ll) : Nat) : Int)))
 (h4 : (((List.length o) + (List.length (List.getD ll (Int.toNat ((i : Nat) : Int)) ([] : List (Int))))) ≤ (9223372036854775807 : Nat)))
 (h5 : ((((List.length o) + (List.length (List.getD ll (Int.toNat ((i : Nat) : Int)) ([] : List (Int))))) * (1 : Nat)) ≤ (140737488355328 : Nat)))
 (h6 : (InI64 (((i : Nat) : Int) + (1 : Int))))
 (h7 : ((o ++ (List.getD ll (Int.toNat ((i : Nat) : Int)) ([] : List (Int)))) = o')) :
 ∃ ps, stepPs Tryd.prog DF gamCc 100 (bodyN Tryd.f28 1) 100 (ccB ll o i).st [.is true] .normal (ccB ll o' ((i : Int) + 1)) = some ps ∧ AllQ ps := ⟨_, by kernel_rfl, allQ_cons h1 (allQ_cons h2 (allQ_cons h3 (allQ_cons h4 (allQ_cons h5 (allQ_cons h6 (allQ_cons (show (ll = ll) from rfl) (allQ_cons (show ((((List.length ll) : Nat) : Int) = (((List.length ll) : Nat) : Int)) from rfl) (allQ_cons (show ((((i : Nat) : Int) + (1 : Int)) = (((i : Nat) : Int) + (1 : Int))) from rfl) (allQ_cons h7 (allQ_nil))))))))))⟩
theorem cc_bx (ll : List (List Int)) (o : List Int) (i : Nat)
 (h1 : ((decide (((i : Nat) : Int) < (((List.length ll) : Nat) : Int))) = false)) :
 ∃ ps, stepPs Tryd.prog DF gamCc 100 (bodyN Tryd.f28 1) 100 (ccB ll o i).st [.is false] (.exit 2) (ccBx o) = some ps ∧ AllQ ps := ⟨_, by kernel_rfl, allQ_cons h1 (allQ_cons (show (o = o) from rfl) (allQ_nil))⟩
theorem cc_run (ll : List (List Int)) (n : Int) (o : List Int)
 (h1 : SumOK Tryd.prog DF (bodyN Tryd.f28 0) (loopL DF (ccA ll 0 (0 : Nat)) (.exit 0) (ccAx ll n)))
 (h2 : ((1 : Int) ≤ n))
 (h3 : (n ≤ (140737488355328 : Int)))
 (h4 : SumOK Tryd.prog DF (bodyN Tryd.f28 1) (loopL DF (ccB ll [] (0 : Nat)) (.exit 2) (ccBx o))) :
 ∃ ps, runF Tryd.prog DF gamCc 100 Tryd.f28 [.one (.wordss .u8 ll)] [.loop (loopL DF (ccA ll 0 (0 : Nat)) (.exit 0) (ccAx ll n)), .loop (loopL DF (ccB ll [] (0 : Nat)) (.exit 2) (ccBx o))] = some ((AV.v (A0.one (Part.fresh (0 : Nat) (5 : TypeId) Go.IntKind.u8 o))), ps) ∧ AllQ ps := ⟨_, by kernel_rfl, allQ_cons h1 (allQ_cons (show (ll = ll) from rfl) (allQ_cons (show ((0 : Int) = (0 : Int)) from rfl) (allQ_cons (show (ll = ll) from rfl) (allQ_cons (show ((((List.length ll) : Nat) : Int) = (((List.length ll) : Nat) : Int)) from rfl) (allQ_cons (show ((0 : Int) = (((0 : Nat) : Nat) : Int)) from by decide) (allQ_cons h2 (allQ_cons h3 (allQ_cons h4 (allQ_cons (show (ll = ll) from rfl) (allQ_cons (show ((((List.length ll) : Nat) : Int) = (((List.length ll) : Nat) : Int)) from rfl) (allQ_cons (show ((0 : Int) = (((0 : Nat) : Nat) : Int)) from by decide) (allQ_cons (show (([] : List (Int)) = ([] : List (Int))) from rfl) (allQ_nil)))))))))))))⟩
theorem cc_a_loop (ll : List (List Int)) (h : ofN ll ll.length ≤ 4611686018427387904) (hl : ll.length ≤ 9223372036854775807) : SumOK Tryd.prog DF (bodyN Tryd.f28 0) (loopL DF (ccA ll 0 (0 : Nat)) (.exit 0) (ccAx ll (ofN ll ll.length))) := by
  have hs := sum_loop gamCc_ok mixed (c := bodyN Tryd.f28 0) (fun k => ccA ll (ofN ll k) k) ll.length (e := .exit 0) (s := ccAx ll (ofN ll ll.length)) rfl (fun k hk => ?_) ?_
  · exact hs
  · have h1 := ofN_succ hk
    have h2 := ofN_le (ll := ll) (k := k + 1) (by omega)
    refine ⟨_, _, _, cc_a ll (ofN ll k) (ofN ll (k + 1)) k (decide_eq_true (by omega)) (by omega) (by omega) ?_ ?_ ⟨by omega, by omega⟩ ?_⟩
    all_goals rw [Int.toNat_natCast]
    · exact ⟨by omega, by omega⟩
    · exact decide_eq_false (by omega)
    · omega
  · exact ⟨_, _, _, cc_ax ll _ ll.length (decide_eq_false (by omega))⟩
theorem ofN_flat (ll : List (List Int)) (k : Nat) : ofN ll k = (ll.take k).flatten.length := by
  rw [List.length_flatten]; rfl
theorem cc_b_loop (ll : List (List Int)) (h : ofN ll ll.length ≤ 140737488355328) (hl : ll.length ≤ 9223372036854775807) : SumOK Tryd.prog DF (bodyN Tryd.f28 1) (loopL DF (ccB ll [] (0 : Nat)) (.exit 2) (ccBx ll.flatten)) := by
  have hs := sum_loop gamCc_ok mixed (c := bodyN Tryd.f28 1) (fun k => ccB ll (ll.take k).flatten k) ll.length (e := .exit 2) (s := ccBx ll.flatten) rfl (fun k hk => ?_) ?_
  · exact hs
  · have h1 := ofN_succ hk
    have h2 := ofN_le (ll := ll) (k := k + 1) (by omega)
    have h3 := ofN_flat ll k
    refine ⟨_, _, _, cc_b ll (ll.take k).flatten (ll.take (k + 1)).flatten k (decide_eq_true (by omega)) (by omega) (by omega) ?_ ?_ ⟨by omega, by omega⟩ ?_⟩
    all_goals rw [Int.toNat_natCast]
    · omega
    · omega
    · rw [List.take_succ_eq_append_getElem hk, List.flatten_append, List.getD_eq_getElem?_getD, List.getElem?_eq_getElem hk]
      simp
  · have := cc_bx ll (ll.take ll.length).flatten ll.length (decide_eq_false (by omega))
    rw [List.take_length] at this
    rw [List.take_length]
    exact ⟨_, _, _, this⟩
def concD : FnD DF
  | [.one (.wordss .u8 ll)] => some (.v (.one (.fresh 0 5 .u8 ll.flatten)), [1 ≤ ofN ll ll.length, ofN ll ll.length ≤ 140737488355328, ll.length ≤ 9223372036854775807])
  | _ => none
theorem conc_ok : FnOK Tryd.prog DF 28 concD := by
  refine fnOK_of gamCc_ok mixed Tryd.func28 (enters_of Tryd.func28 (by kernel_rfl) rfl) ?_
  intro xs r ps h hps
  unfold concD at h
  split at h
  · rename_i ll
    simp only [Option.some.injEq, Prod.mk.injEq] at h
    obtain ⟨rfl, rfl⟩ := h
    have h0 : 1 ≤ ofN ll ll.length := hps _ (by simp)
    have h1 : ofN ll ll.length ≤ 140737488355328 := hps _ (by simp)
    have h2 : ll.length ≤ 9223372036854775807 := hps _ (by simp)
    obtain ⟨qs, q1, q2⟩ := cc_run ll (ofN ll ll.length) ll.flatten (cc_a_loop ll (by omega) h2) (by omega) (by omega) (cc_b_loop ll h1 h2)
    exact ⟨_, _, _, _, _, fun w vs hx => hx, q1, q2, fun E v hv => hv⟩
  · cases h
end Go.Num
namespace Go.Num
open Go.Abs Go.Proofs Go.Shelf Go.RowKit
noncomputable def gLd : Gam DF := [(freezeId, .fn (freezeD DF [14])), (16, .rd [true, false] readR), (26, .fn ofD)]
theorem gLd_ok : GamOK Tryd.prog DF gLd := gam_freeze (gam_rd read_ok (gam_cons of_ok gam_nil))
def ldN (e : Int) : AV DF.τ := .tup [.one .nil, .one (.bool true false), .one (.int .i64 false e)]
def ldV (l : List Int) : AV DF.τ := .tup [.one (.pw .u8 l), .one (.bool true true), .one (.int .i64 true 0)]
theorem ld_gone (s : ByteArray) (ro st fu e : Int) (dn : Bool) (es : List (Rec × Ob))
 (h1 : (Okd (ro, (st, (fu, (dn, es))))))
 (h2 : ((ByteArray.size s) ≤ (9223372036854775807 : Nat)))
 (h3 : ((((readM (ro, (st, (fu, (dn, es)))) s)).1 == (41 : Int)) = true))
 (h4 : ((0 : Int) = e)) :
 ∃ ps, runO Tryd.prog DF gLd 100 Tryd.f12 (dkB ro st fu dn es, [.one (.ref 0 0), .one (.str s)]) [.is true] (ldN e) (dkB ro st fu dn es) = some ps ∧ AllQ ps := ⟨_, by kernel_rfl, allQ_cons (show (s = s) from rfl) (allQ_cons (show (ro = ro) from rfl) (allQ_cons (show (st = st) from rfl) (allQ_cons (show (fu = fu) from rfl) (allQ_cons (show (dn = dn) from rfl) (allQ_cons (show (es = es) from rfl) (allQ_cons h1 (allQ_cons h2 (allQ_cons h3 (allQ_cons h4 (allQ_cons (show (ro = ro) from rfl) (allQ_cons (show (st = st) from rfl) (allQ_cons (show (fu = fu) from rfl) (allQ_cons (show (dn = dn) from rfl) (allQ_cons (show (es = es) from rfl) (allQ_nil)))))))))))))))⟩
theorem ld_err (s : ByteArray) (ro st fu e : Int) (dn : Bool) (es : List (Rec × Ob))
 (h1 : (Okd (ro, (st, (fu, (dn, es))))))
 (h2 : ((ByteArray.size s) ≤ (9223372036854775807 : Nat)))
 (h3 : ((((readM (ro, (st, (fu, (dn, es)))) s)).1 == (41 : Int)) = false))
 (h4 : ((((readM (ro, (st, (fu, (dn, es)))) s)).1 != (0 : Int)) = true))
 (h5 : (((readM (ro, (st, (fu, (dn, es)))) s)).1 = e)) :
 ∃ ps, runO Tryd.prog DF gLd 100 Tryd.f12 (dkB ro st fu dn es, [.one (.ref 0 0), .one (.str s)]) [.is false, .is true] (ldN e) (dkB ro st fu dn es) = some ps ∧ AllQ ps := ⟨_, by kernel_rfl, allQ_cons (show (s = s) from rfl) (allQ_cons (show (ro = ro) from rfl) (allQ_cons (show (st = st) from rfl) (allQ_cons (show (fu = fu) from rfl) (allQ_cons (show (dn = dn) from rfl) (allQ_cons (show (es = es) from rfl) (allQ_cons h1 (allQ_cons h2 (allQ_cons h3 (allQ_cons h4 (allQ_cons h5 (allQ_cons (show (ro = ro) from rfl) (allQ_cons (show (st = st) from rfl) (allQ_cons (show (fu = fu) from rfl) (allQ_cons (show (dn = dn) from rfl) (allQ_cons (show (es = es) from rfl) (allQ_nil))))))))))))))))⟩
theorem ld_short (s : ByteArray) (ro st fu e : Int) (dn : Bool) (es : List (Rec × Ob))
 (h1 : (Okd (ro, (st, (fu, (dn, es))))))
 (h2 : ((ByteArray.size s) ≤ (9223372036854775807 : Nat)))
 (h3 : ((((readM (ro, (st, (fu, (dn, es)))) s)).1 == (41 : Int)) = false))
 (h4 : ((((readM (ro, (st, (fu, (dn, es)))) s)).1 != (0 : Int)) = false))
 (h5 : ((decide ((((List.length ((readM (ro, (st, (fu, (dn, es)))) s)).2) : Nat) : Int) < (32 : Int))) = true))
 (h6 : ((44 : Int) = e)) :
 ∃ ps, runO Tryd.prog DF gLd 100 Tryd.f12 (dkB ro st fu dn es, [.one (.ref 0 0), .one (.str s)]) [.is false, .is false, .is true] (ldN e) (dkB ro st fu dn es) = some ps ∧ AllQ ps := ⟨_, by kernel_rfl, allQ_cons (show (s = s) from rfl) (allQ_cons (show (ro = ro) from rfl) (allQ_cons (show (st = st) from rfl) (allQ_cons (show (fu = fu) from rfl) (allQ_cons (show (dn = dn) from rfl) (allQ_cons (show (es = es) from rfl) (allQ_cons h1 (allQ_cons h2 (allQ_cons h3 (allQ_cons h4 (allQ_cons h5 (allQ_cons h6 (allQ_cons (show (ro = ro) from rfl) (allQ_cons (show (st = st) from rfl) (allQ_cons (show (fu = fu) from rfl) (allQ_cons (show (dn = dn) from rfl) (allQ_cons (show (es = es) from rfl) (allQ_nil)))))))))))))))))⟩
theorem ld_sum (s : ByteArray) (ro st fu e : Int) (dn : Bool) (es : List (Rec × Ob))
 (h1 : (Okd (ro, (st, (fu, (dn, es))))))
 (h2 : ((ByteArray.size s) ≤ (9223372036854775807 : Nat)))
 (h3 : ((((readM (ro, (st, (fu, (dn, es)))) s)).1 == (41 : Int)) = false))
 (h4 : ((((readM (ro, (st, (fu, (dn, es)))) s)).1 != (0 : Int)) = false))
 (h5 : ((decide ((((List.length ((readM (ro, (st, (fu, (dn, es)))) s)).2) : Nat) : Int) < (32 : Int))) = false))
 (h6 : ((32 : Int) ≤ (((List.length ((readM (ro, (st, (fu, (dn, es)))) s)).2) : Nat) : Int)))
 (h7 : ((((List.length ((readM (ro, (st, (fu, (dn, es)))) s)).2) : Nat) : Int) ≤ (((List.length ((readM (ro, (st, (fu, (dn, es)))) s)).2) : Nat) : Int)))
 (h8 : ((List.foldr (fun x1 x2 => x1 + x2) (0 : Nat) ([(List.length (List.drop (32 : Nat) (List.take (Int.toNat (((List.length ((readM (ro, (st, (fu, (dn, es)))) s)).2) : Nat) : Int)) ((readM (ro, (st, (fu, (dn, es)))) s)).2)))] : List Nat)) ≤ (4611686018427387904 : Nat)))
 (h9 : ((1 : Nat) ≤ (9223372036854775807 : Nat)))
 (h10 : ((32 : Nat) ≤ (List.length ((readM (ro, (st, (fu, (dn, es)))) s)).2)))
 (h11 : ((!((decide ((ofF [(List.drop (32 : Nat) (List.take (Int.toNat (((List.length ((readM (ro, (st, (fu, (dn, es)))) s)).2) : Nat) : Int)) ((readM (ro, (st, (fu, (dn, es)))) s)).2))]) = (List.take (32 : Nat) ((readM (ro, (st, (fu, (dn, es)))) s)).2))) && true)) = true))
 (h12 : (EqT Tryd.prog (56 : Nat)))
 (h13 : ((44 : Int) = e)) :
 ∃ ps, runO Tryd.prog DF gLd 100 Tryd.f12 (dkB ro st fu dn es, [.one (.ref 0 0), .one (.str s)]) [.is false, .is false, .is false, .is true] (ldN e) (dkB ro st fu dn es) = some ps ∧ AllQ ps := ⟨_, by kernel_rfl, allQ_cons (show (s = s) from rfl) (allQ_cons (show (ro = ro) from rfl) (allQ_cons (show (st = st) from rfl) (allQ_cons (show (fu = fu) from rfl) (allQ_cons (show (dn = dn) from rfl) (allQ_cons (show (es = es) from rfl) (allQ_cons h1 (allQ_cons h2 (allQ_cons h3 (allQ_cons h4 (allQ_cons h5 (allQ_cons (show ((0 : Int) ≤ (32 : Int)) from by decide) (allQ_cons h6 (allQ_cons h7 (allQ_cons h8 (allQ_cons h9 (allQ_cons h10 (allQ_cons h11 (allQ_cons h12 (allQ_cons h13 (allQ_cons (show (ro = ro) from rfl) (allQ_cons (show (st = st) from rfl) (allQ_cons (show (fu = fu) from rfl) (allQ_cons (show (dn = dn) from rfl) (allQ_cons (show (es = es) from rfl) (allQ_nil)))))))))))))))))))))))))⟩
theorem ld_ok (s : ByteArray) (ro st fu : Int) (dn : Bool) (es : List (Rec × Ob)) (l : List Int)
 (h1 : (Okd (ro, (st, (fu, (dn, es))))))
 (h2 : ((ByteArray.size s) ≤ (9223372036854775807 : Nat)))
 (h3 : ((((readM (ro, (st, (fu, (dn, es)))) s)).1 == (41 : Int)) = false))
 (h4 : ((((readM (ro, (st, (fu, (dn, es)))) s)).1 != (0 : Int)) = false))
 (h5 : ((decide ((((List.length ((readM (ro, (st, (fu, (dn, es)))) s)).2) : Nat) : Int) < (32 : Int))) = false))
 (h6 : ((32 : Int) ≤ (((List.length ((readM (ro, (st, (fu, (dn, es)))) s)).2) : Nat) : Int)))
 (h7 : ((((List.length ((readM (ro, (st, (fu, (dn, es)))) s)).2) : Nat) : Int) ≤ (((List.length ((readM (ro, (st, (fu, (dn, es)))) s)).2) : Nat) : Int)))
 (h8 : ((List.foldr (fun x1 x2 => x1 + x2) (0 : Nat) ([(List.length (List.drop (32 : Nat) (List.take (Int.toNat (((List.length ((readM (ro, (st, (fu, (dn, es)))) s)).2) : Nat) : Int)) ((readM (ro, (st, (fu, (dn, es)))) s)).2)))] : List Nat)) ≤ (4611686018427387904 : Nat)))
 (h9 : ((1 : Nat) ≤ (9223372036854775807 : Nat)))
 (h10 : ((32 : Nat) ≤ (List.length ((readM (ro, (st, (fu, (dn, es)))) s)).2)))
 (h11 : ((!((decide ((ofF [(List.drop (32 : Nat) (List.take (Int.toNat (((List.length ((readM (ro, (st, (fu, (dn, es)))) s)).2) : Nat) : Int)) ((readM (ro, (st, (fu, (dn, es)))) s)).2))]) = (List.take (32 : Nat) ((readM (ro, (st, (fu, (dn, es)))) s)).2))) && true)) = false))
 (h12 : (EqT Tryd.prog (56 : Nat)))
 (h13 : ((List.drop (32 : Nat) (List.take (Int.toNat (((List.length ((readM (ro, (st, (fu, (dn, es)))) s)).2) : Nat) : Int)) ((readM (ro, (st, (fu, (dn, es)))) s)).2)) = l)) :
 ∃ ps, runO Tryd.prog DF gLd 100 Tryd.f12 (dkB ro st fu dn es, [.one (.ref 0 0), .one (.str s)]) [.is false, .is false, .is false, .is false] (ldV l) (dkB ro st fu dn es) = some ps ∧ AllQ ps := ⟨_, by kernel_rfl, allQ_cons (show (s = s) from rfl) (allQ_cons (show (ro = ro) from rfl) (allQ_cons (show (st = st) from rfl) (allQ_cons (show (fu = fu) from rfl) (allQ_cons (show (dn = dn) from rfl) (allQ_cons (show (es = es) from rfl) (allQ_cons h1 (allQ_cons h2 (allQ_cons h3 (allQ_cons h4 (allQ_cons h5 (allQ_cons (show ((0 : Int) ≤ (32 : Int)) from by decide) (allQ_cons h6 (allQ_cons h7 (allQ_cons h8 (allQ_cons h9 (allQ_cons h10 (allQ_cons h11 (allQ_cons h12 (allQ_cons h13 (allQ_cons (show (ro = ro) from rfl) (allQ_cons (show (st = st) from rfl) (allQ_cons (show (fu = fu) from rfl) (allQ_cons (show (dn = dn) from rfl) (allQ_cons (show (es = es) from rfl) (allQ_nil)))))))))))))))))))))))))⟩
noncomputable def gNil : Gam DF := [(39, .op [false, false] findNilQ), (34, .fn clD)]
theorem re_nil (s : ByteArray) :
 ∃ ps, runO Tryd.prog DF gNil 100 Tryd.f16 ([], [.one .nilp, .one (.str s)]) [] (.tup [.one (.own 0), .one (.int .i64 true 1)]) [dynB []] = some ps ∧ AllQ ps := ⟨_, by kernel_rfl, allQ_cons (show (s = s) from rfl) (allQ_cons (show (([] : List (Int)) = ([] : List (Int))) from rfl) (allQ_nil))⟩
def loadM (d : DkT) (s : ByteArray) : Int × List Int :=
  if (readM d s).1 = 41 then (0, [])
  else if (readM d s).1 ≠ 0 then ((readM d s).1, [])
  else if (readM d s).2.length < 32 then (44, [])
  else if ofF [(readM d s).2.drop 32] ≠ (readM d s).2.take 32 then (44, [])
  else (0, (readM d s).2.drop 32)
def loadB (d : DkT) (s : ByteArray) : Prop := (readM d s).1 = 0 ∧ 32 ≤ (readM d s).2.length ∧ ofF [(readM d s).2.drop 32] = (readM d s).2.take 32
theorem read_len {d : DkT} (h : Okd d) (s : ByteArray) : (readM d s).2.length ≤ 140737488355328 := by
  unfold readM
  split
  · exact Nat.zero_le _
  · exact (h.ob [Fd.s s]).2.2
noncomputable def loadNoR := mkF DF Tryd.f12.ntmps reRd fiPre (fun t => some (ldN (loadM t.1 t.2).1, [], [Okd t.1, t.2.size ≤ 9223372036854775807, ¬ loadB t.1 t.2]))
noncomputable def loadOkR := mkF DF Tryd.f12.ntmps reRd fiPre (fun t => some (ldV (loadM t.1 t.2).2, [], [Okd t.1, t.2.size ≤ 9223372036854775807, loadB t.1 t.2]))
theorem eqSum : EqT Tryd.prog 56 := eqT_of (n := 32) (by kernel_rfl) (by kernel_rfl) (by kernel_rfl) (by kernel_rfl)
theorem loadNo_ok : OpOK Tryd.prog DF 12 (withNew loadNoR) := by
  refine opOK_mkR mixed Tryd.func12 (enters_of Tryd.func12 (by kernel_rfl) rfl) (fun _ _ _ => reRd_is) ?_
  rintro ⟨⟨ro, st, fu, dn, es⟩, s⟩ r' ns ps h hps
  simp only [Option.some.injEq, Prod.mk.injEq] at h
  obtain ⟨rfl, rfl, rfl⟩ := h
  have hd : Okd (ro, st, fu, dn, es) := hps (Okd _) (by simp)
  have hs : s.size ≤ 9223372036854775807 := hps (s.size ≤ 9223372036854775807) (by simp)
  have hb : ¬ loadB (ro, st, fu, dn, es) s := hps (¬ loadB _ _) (by simp)
  have hl := read_len hd s
  unfold loadM
  by_cases c1 : (readM (ro, st, fu, dn, es) s).1 = 41
  · rw [if_pos c1]
    exact ⟨_, _, _, gLd_ok, ld_gone s ro st fu _ dn es hd hs (beq_iff_eq.2 c1) rfl⟩
  rw [if_neg c1]
  by_cases c2 : (readM (ro, st, fu, dn, es) s).1 ≠ 0
  · rw [if_pos c2]
    exact ⟨_, _, _, gLd_ok, ld_err s ro st fu _ dn es hd hs (beq_false_of_ne c1) (bne_iff_ne.2 c2) rfl⟩
  rw [if_neg c2]
  have c2' : (readM (ro, st, fu, dn, es) s).1 = 0 := Decidable.byContradiction c2
  by_cases c3 : (readM (ro, st, fu, dn, es) s).2.length < 32
  · rw [if_pos c3]
    exact ⟨_, _, _, gLd_ok, ld_short s ro st fu _ dn es hd hs (beq_false_of_ne c1) (by rw [c2']; rfl) (decide_eq_true (by omega)) rfl⟩
  rw [if_neg c3]
  have c4 : ofF [(readM (ro, st, fu, dn, es) s).2.drop 32] ≠ (readM (ro, st, fu, dn, es) s).2.take 32 := fun e => hb ⟨c2', by omega, e⟩
  rw [if_pos c4]
  refine ⟨_, _, _, gLd_ok, ld_sum s ro st fu _ dn es hd hs (beq_false_of_ne c1) (by rw [c2']; rfl) (decide_eq_false (by omega)) (by omega) (Int.le_refl _) ?_ (by decide) (by omega) ?_ eqSum rfl⟩
  · simp; omega
  · rw [Int.toNat_natCast, List.take_length]
    simp [c4]
theorem loadOk_ok : OpOK Tryd.prog DF 12 (withNew loadOkR) := by
  refine opOK_mkR mixed Tryd.func12 (enters_of Tryd.func12 (by kernel_rfl) rfl) (fun _ _ _ => reRd_is) ?_
  rintro ⟨⟨ro, st, fu, dn, es⟩, s⟩ r' ns ps h hps
  simp only [Option.some.injEq, Prod.mk.injEq] at h
  obtain ⟨rfl, rfl, rfl⟩ := h
  have hd : Okd (ro, st, fu, dn, es) := hps (Okd _) (by simp)
  have hs : s.size ≤ 9223372036854775807 := hps (s.size ≤ 9223372036854775807) (by simp)
  have hb : loadB (ro, st, fu, dn, es) s := hps (loadB _ _) (by simp)
  have hl := read_len hd s
  obtain ⟨b1, b2, b3⟩ := hb
  have hm : (loadM (ro, st, fu, dn, es) s).2 = (readM (ro, st, fu, dn, es) s).2.drop 32 := by
    unfold loadM
    rw [if_neg (by rw [b1]; decide), if_neg (by rw [b1]; decide), if_neg (by omega), if_neg (fun h => h b3)]
  rw [hm]
  refine ⟨_, _, _, gLd_ok, ld_ok s ro st fu dn es _ hd hs (by rw [b1]; rfl) (by rw [b1]; rfl) (decide_eq_false (by omega)) (by omega) (Int.le_refl _) ?_ (by decide) b2 ?_ eqSum ?_⟩
  · simp; omega
  · rw [Int.toNat_natCast, List.take_length]
    simp [b3]
  · rw [Int.toNat_natCast, List.take_length]
noncomputable def readNilQ := mkF DF Tryd.f16.ntmps finRd (fun s => ([], [.one .nilp, .one (.str s)])) (fun _ => some (.tup [.one (.own 0), .one (.int .i64 true 1)], [dynB []], []))
theorem gNil_ok : GamOK Tryd.prog DF gNil := gam_op findNil_ok (gam_cons clone_ok gam_nil)
theorem readNil_ok : OpOK Tryd.prog DF 16 readNilQ := by
  refine opOK_mk gNil_ok mixed Tryd.func16 (enters_of Tryd.func16 (by kernel_rfl) rfl) ?_
  intro s r' bs' ps h hps
  simp only [Option.some.injEq, Prod.mk.injEq] at h
  obtain ⟨rfl, rfl, rfl⟩ := h
  exact ⟨_, _, re_nil s⟩
noncomputable def gLn : Gam DF := [(freezeId, .fn (freezeD DF [14])), (16, .op [false, false] readNilQ), (26, .fn ofD)]
theorem gLn_ok : GamOK Tryd.prog DF gLn := gam_freeze (gam_op readNil_ok (gam_cons of_ok gam_nil))
theorem ld_nil (s : ByteArray) :
 ∃ ps, runO Tryd.prog DF gLn 100 Tryd.f12 ([], [.one .nilp, .one (.str s)]) [] (.tup [.one .nil, .one (.bool true false), .one (.int .i64 true 1)]) [] = some ps ∧ AllQ ps := ⟨_, by kernel_rfl, allQ_cons (show (s = s) from rfl) (allQ_nil)⟩
noncomputable def loadNilQ := mkF DF Tryd.f12.ntmps finRd (fun s => ([], [.one .nilp, .one (.str s)])) (fun _ => some (.tup [.one .nil, .one (.bool true false), .one (.int .i64 true 1)], [], []))
theorem loadNil_ok : OpOK Tryd.prog DF 12 loadNilQ := by
  refine opOK_mk gLn_ok mixed Tryd.func12 (enters_of Tryd.func12 (by kernel_rfl) rfl) ?_
  intro s r' bs' ps h hps
  simp only [Option.some.injEq, Prod.mk.injEq] at h
  obtain ⟨rfl, rfl, rfl⟩ := h
  exact ⟨_, _, ld_nil s⟩
end Go.Num
namespace Go.Num
open Go.Abs Go.Proofs Go.Shelf Go.RowKit
def dkBo (o : Nat) (d : DkT) : List (BoxSt DF.τ) := [.fixed 52 [.int .i64 false d.1, .mapr (o + 1), .int .i64 false d.2.1, .int .i64 false d.2.2.1, .bool false d.2.2.2.1], .fam 0 d.2.2.2.2 none]
def dkRdo : List (BoxSt DF.τ) → Option DkT
  | [.fixed _ [.int _ _ ro, .mapr _, .int _ _ st, .int _ _ fu, .bool _ dn], .fam _ es none] => some (ro, st, fu, dn, es)
  | _ => none
def pB (o : Nat) : BoxSt DF.τ := .fixed 24 [.ref o 0]
def tB (s : ByteArray) : BoxSt DF.τ := .fixed 9 [.str s]
def wB (l : List Int) : BoxSt DF.τ := .fixed 22 [.pw .u8 l]
noncomputable def gS1 : Gam DF := [(24, .op [true, false] dropQ), (30, .op [true, false] syncQ), (32, .op [true, false, false] moveQ)]
noncomputable def gS2 : Gam DF := [(freezeId, .fn (freezeD DF [10])), (26, .fn ofD), (28, .fn concD), (27, .op [true, false, false] appendQ)]
theorem s1_other (f : ByteArray) (ro st fu e : Int) (dn : Bool) (es : List (Rec × Ob))
 (h1 : (DkOK (ro, (st, (fu, (dn, es))))))
 (h2 : ((ByteArray.size f) ≤ (9223372036854775807 : Nat)))
 (h3 : ((((dropM (ro, (st, (fu, (dn, es)))) f)).1 != (41 : Int)) = true))
 (h4 : (((dropM (ro, (st, (fu, (dn, es)))) f)).1 = e)) :
 ∃ ps, runO Tryd.prog DF gS1 100 Tryd.f23 ([pB 2, tB f] ++ dkBo 2 (ro, st, fu, dn, es), [.one (.ref 0 0), .one (.ref 1 0)]) [.is true] (eV e) ([pB 2, tB f] ++ dkBo 2 (dropM (ro, st, fu, dn, es) f).2) = some ps ∧ AllQ ps := ⟨_, by kernel_rfl, allQ_cons (show (f = f) from rfl) (allQ_cons (show (ro = ro) from rfl) (allQ_cons (show (st = st) from rfl) (allQ_cons (show (fu = fu) from rfl) (allQ_cons (show (dn = dn) from rfl) (allQ_cons (show (es = es) from rfl) (allQ_cons h1 (allQ_cons h2 (allQ_cons h3 (allQ_cons h4 (allQ_cons (show (f = f) from rfl) (allQ_cons (show ((((dropM (ro, (st, (fu, (dn, es)))) f)).2).1 = (((dropM (ro, (st, (fu, (dn, es)))) f)).2).1) from rfl) (allQ_cons (show (((((dropM (ro, (st, (fu, (dn, es)))) f)).2).2).1 = ((((dropM (ro, (st, (fu, (dn, es)))) f)).2).2).1) from rfl) (allQ_cons (show ((((((dropM (ro, (st, (fu, (dn, es)))) f)).2).2).2).1 = (((((dropM (ro, (st, (fu, (dn, es)))) f)).2).2).2).1) from rfl) (allQ_cons (show (((((((dropM (ro, (st, (fu, (dn, es)))) f)).2).2).2).2).1 = ((((((dropM (ro, (st, (fu, (dn, es)))) f)).2).2).2).2).1) from rfl) (allQ_cons (show (((((((dropM (ro, (st, (fu, (dn, es)))) f)).2).2).2).2).2 = ((((((dropM (ro, (st, (fu, (dn, es)))) f)).2).2).2).2).2) from rfl) (allQ_nil))))))))))))))))⟩
theorem s1_gone (f : ByteArray) (ro st fu e : Int) (dn : Bool) (es : List (Rec × Ob))
 (h1 : (DkOK (ro, (st, (fu, (dn, es))))))
 (h2 : ((ByteArray.size f) ≤ (9223372036854775807 : Nat)))
 (h3 : ((((dropM (ro, (st, (fu, (dn, es)))) f)).1 != (41 : Int)) = false))
 (h4 : ((0 : Int) = e)) :
 ∃ ps, runO Tryd.prog DF gS1 100 Tryd.f23 ([pB 2, tB f] ++ dkBo 2 (ro, st, fu, dn, es), [.one (.ref 0 0), .one (.ref 1 0)]) [.is false] (eV e) ([pB 2, tB f] ++ dkBo 2 (dropM (ro, st, fu, dn, es) f).2) = some ps ∧ AllQ ps := ⟨_, by kernel_rfl, allQ_cons (show (f = f) from rfl) (allQ_cons (show (ro = ro) from rfl) (allQ_cons (show (st = st) from rfl) (allQ_cons (show (fu = fu) from rfl) (allQ_cons (show (dn = dn) from rfl) (allQ_cons (show (es = es) from rfl) (allQ_cons h1 (allQ_cons h2 (allQ_cons h3 (allQ_cons h4 (allQ_cons (show (f = f) from rfl) (allQ_cons (show ((((dropM (ro, (st, (fu, (dn, es)))) f)).2).1 = (((dropM (ro, (st, (fu, (dn, es)))) f)).2).1) from rfl) (allQ_cons (show (((((dropM (ro, (st, (fu, (dn, es)))) f)).2).2).1 = ((((dropM (ro, (st, (fu, (dn, es)))) f)).2).2).1) from rfl) (allQ_cons (show ((((((dropM (ro, (st, (fu, (dn, es)))) f)).2).2).2).1 = (((((dropM (ro, (st, (fu, (dn, es)))) f)).2).2).2).1) from rfl) (allQ_cons (show (((((((dropM (ro, (st, (fu, (dn, es)))) f)).2).2).2).2).1 = ((((((dropM (ro, (st, (fu, (dn, es)))) f)).2).2).2).2).1) from rfl) (allQ_cons (show (((((((dropM (ro, (st, (fu, (dn, es)))) f)).2).2).2).2).2 = ((((((dropM (ro, (st, (fu, (dn, es)))) f)).2).2).2).2).2) from rfl) (allQ_nil))))))))))))))))⟩
theorem s2_run (f : ByteArray) (l : List Int) (ro st fu e : Int) (dn : Bool) (es es' : List (Rec × Ob))
 (h1 : ((List.foldr (fun x1 x2 => x1 + x2) (0 : Nat) ([(List.length l)] : List Nat)) ≤ (4611686018427387904 : Nat)))
 (h2 : ((1 : Nat) ≤ (9223372036854775807 : Nat)))
 (h3 : ((1 : Nat) ≤ (List.foldr (fun x1 x2 => x1 + x2) (0 : Nat) ([(List.length (ofF [l])), (List.length l)] : List Nat))))
 (h4 : ((List.foldr (fun x1 x2 => x1 + x2) (0 : Nat) ([(List.length (ofF [l])), (List.length l)] : List Nat)) ≤ (140737488355328 : Nat)))
 (h5 : ((2 : Nat) ≤ (9223372036854775807 : Nat)))
 (h6 : (DkOK (ro, (st, (fu, (dn, es))))))
 (h7 : ((ByteArray.size f) ≤ (9223372036854775807 : Nat)))
 (h8 : ((List.length (List.append (ofF [l]) (List.append l ([] : List (Int))))) ≤ (4611686018427387904 : Nat)))
 (h9 : (((appendM (ro, (st, (fu, (dn, es)))) f (List.append (ofF [l]) (List.append l ([] : List (Int)))))).1 = e))
 (h10 : ((((appendM (ro, (st, (fu, (dn, es)))) f (List.append (ofF [l]) (List.append l ([] : List (Int)))))).2).1 = (((appendM (ro, (st, (fu, (dn, es)))) f ((ofF [l]) ++ (l ++ ([] : List (Int)))))).2).1))
 (h11 : (((((appendM (ro, (st, (fu, (dn, es)))) f (List.append (ofF [l]) (List.append l ([] : List (Int)))))).2).2).1 = ((((appendM (ro, (st, (fu, (dn, es)))) f ((ofF [l]) ++ (l ++ ([] : List (Int)))))).2).2).1))
 (h12 : ((((((appendM (ro, (st, (fu, (dn, es)))) f (List.append (ofF [l]) (List.append l ([] : List (Int)))))).2).2).2).1 = (((((appendM (ro, (st, (fu, (dn, es)))) f ((ofF [l]) ++ (l ++ ([] : List (Int)))))).2).2).2).1))
 (h13 : (((((((appendM (ro, (st, (fu, (dn, es)))) f (List.append (ofF [l]) (List.append l ([] : List (Int)))))).2).2).2).2).1 = ((((((appendM (ro, (st, (fu, (dn, es)))) f ((ofF [l]) ++ (l ++ ([] : List (Int)))))).2).2).2).2).1))
 (h14 : (((((((appendM (ro, (st, (fu, (dn, es)))) f (List.append (ofF [l]) (List.append l ([] : List (Int)))))).2).2).2).2).2 = ((((((appendM (ro, (st, (fu, (dn, es)))) f ((ofF [l]) ++ (l ++ ([] : List (Int)))))).2).2).2).2).2)) :
 ∃ ps, runO Tryd.prog DF gS2 100 Tryd.f25 ([wB l, pB 3, tB f] ++ dkBo 3 (ro, st, fu, dn, es), [.one (.ref 0 0), .one (.ref 1 0), .one (.ref 2 0)]) [] (eV e) ([wB l, pB 3, tB f] ++ dkBo 3 (appendM (ro, st, fu, dn, es) f (ofF [l] ++ (l ++ []))).2) = some ps ∧ AllQ ps := ⟨_, by kernel_rfl, allQ_cons h1 (allQ_cons h2 (allQ_cons h3 (allQ_cons h4 (allQ_cons h5 (allQ_cons (show (f = f) from rfl) (allQ_cons (show ((List.append (ofF [l]) (List.append l ([] : List (Int)))) = (List.append (ofF [l]) (List.append l ([] : List (Int))))) from rfl) (allQ_cons (show (ro = ro) from rfl) (allQ_cons (show (st = st) from rfl) (allQ_cons (show (fu = fu) from rfl) (allQ_cons (show (dn = dn) from rfl) (allQ_cons (show (es = es) from rfl) (allQ_cons h6 (allQ_cons h7 (allQ_cons h8 (allQ_cons h9 (allQ_cons (show (l = l) from rfl) (allQ_cons (show (f = f) from rfl) (allQ_cons h10 (allQ_cons h11 (allQ_cons h12 (allQ_cons h13 (allQ_cons h14 (allQ_nil)))))))))))))))))))))))⟩
theorem s3_run (f : ByteArray) (ro st fu e : Int) (dn : Bool) (es : List (Rec × Ob))
 (h1 : (DkOK (ro, (st, (fu, (dn, es))))))
 (h2 : ((ByteArray.size f) ≤ (9223372036854775807 : Nat)))
 (h3 : (((syncM (ro, (st, (fu, (dn, es)))) f)).1 = e)) :
 ∃ ps, runO Tryd.prog DF gS1 100 Tryd.f29 ([pB 2, tB f] ++ dkBo 2 (ro, st, fu, dn, es), [.one (.ref 0 0), .one (.ref 1 0)]) [] (eV e) ([pB 2, tB f] ++ dkBo 2 (syncM (ro, st, fu, dn, es) f).2) = some ps ∧ AllQ ps := ⟨_, by kernel_rfl, allQ_cons (show (f = f) from rfl) (allQ_cons (show (ro = ro) from rfl) (allQ_cons (show (st = st) from rfl) (allQ_cons (show (fu = fu) from rfl) (allQ_cons (show (dn = dn) from rfl) (allQ_cons (show (es = es) from rfl) (allQ_cons h1 (allQ_cons h2 (allQ_cons h3 (allQ_cons (show (f = f) from rfl) (allQ_cons (show ((((syncM (ro, (st, (fu, (dn, es)))) f)).2).1 = (((syncM (ro, (st, (fu, (dn, es)))) f)).2).1) from rfl) (allQ_cons (show (((((syncM (ro, (st, (fu, (dn, es)))) f)).2).2).1 = ((((syncM (ro, (st, (fu, (dn, es)))) f)).2).2).1) from rfl) (allQ_cons (show ((((((syncM (ro, (st, (fu, (dn, es)))) f)).2).2).2).1 = (((((syncM (ro, (st, (fu, (dn, es)))) f)).2).2).2).1) from rfl) (allQ_cons (show (((((((syncM (ro, (st, (fu, (dn, es)))) f)).2).2).2).2).1 = ((((((syncM (ro, (st, (fu, (dn, es)))) f)).2).2).2).2).1) from rfl) (allQ_cons (show (((((((syncM (ro, (st, (fu, (dn, es)))) f)).2).2).2).2).2 = ((((((syncM (ro, (st, (fu, (dn, es)))) f)).2).2).2).2).2) from rfl) (allQ_nil)))))))))))))))⟩
theorem s4_run (f n : ByteArray) (ro st fu e : Int) (dn : Bool) (es : List (Rec × Ob))
 (h1 : (DkOK (ro, (st, (fu, (dn, es))))))
 (h2 : ((ByteArray.size f) ≤ (9223372036854775807 : Nat)))
 (h3 : ((ByteArray.size n) ≤ (9223372036854775807 : Nat)))
 (h4 : (((moveM (ro, (st, (fu, (dn, es)))) f n)).1 = e)) :
 ∃ ps, runO Tryd.prog DF gS1 100 Tryd.f31 ([pB 3, tB f, tB n] ++ dkBo 3 (ro, st, fu, dn, es), [.one (.ref 0 0), .one (.ref 1 0), .one (.ref 2 0)]) [] (eV e) ([pB 3, tB f, tB n] ++ dkBo 3 (moveM (ro, st, fu, dn, es) f n).2) = some ps ∧ AllQ ps := ⟨_, by kernel_rfl, allQ_cons (show (f = f) from rfl) (allQ_cons (show (n = n) from rfl) (allQ_cons (show (ro = ro) from rfl) (allQ_cons (show (st = st) from rfl) (allQ_cons (show (fu = fu) from rfl) (allQ_cons (show (dn = dn) from rfl) (allQ_cons (show (es = es) from rfl) (allQ_cons h1 (allQ_cons h2 (allQ_cons h3 (allQ_cons h4 (allQ_cons (show (f = f) from rfl) (allQ_cons (show (n = n) from rfl) (allQ_cons (show ((((moveM (ro, (st, (fu, (dn, es)))) f n)).2).1 = (((moveM (ro, (st, (fu, (dn, es)))) f n)).2).1) from rfl) (allQ_cons (show (((((moveM (ro, (st, (fu, (dn, es)))) f n)).2).2).1 = ((((moveM (ro, (st, (fu, (dn, es)))) f n)).2).2).1) from rfl) (allQ_cons (show ((((((moveM (ro, (st, (fu, (dn, es)))) f n)).2).2).2).1 = (((((moveM (ro, (st, (fu, (dn, es)))) f n)).2).2).2).1) from rfl) (allQ_cons (show (((((((moveM (ro, (st, (fu, (dn, es)))) f n)).2).2).2).2).1 = ((((((moveM (ro, (st, (fu, (dn, es)))) f n)).2).2).2).2).1) from rfl) (allQ_cons (show (((((((moveM (ro, (st, (fu, (dn, es)))) f n)).2).2).2).2).2 = ((((((moveM (ro, (st, (fu, (dn, es)))) f n)).2).2).2).2).2) from rfl) (allQ_nil))))))))))))))))))⟩
def cl2Rd (bs : List (BoxSt DF.τ)) (xs : List (A0 DF.τ)) : Option (DkT × ByteArray) :=
  match bs, xs with
  | .fixed _ [.ref 2 0] :: .fixed _ [.str f] :: ds, [.one (.ref 0 0), .one (.ref 1 0)] => (dkRdo ds).map fun d => (d, f)
  | _, _ => none
def cl2Pre (t : DkT × ByteArray) : List (BoxSt DF.τ) × List (A0 DF.τ) := ([pB 2, tB t.2] ++ dkBo 2 t.1, [.one (.ref 0 0), .one (.ref 1 0)])
def clwRd (bs : List (BoxSt DF.τ)) (xs : List (A0 DF.τ)) : Option (DkT × ByteArray × List Int) :=
  match bs, xs with
  | .fixed _ [.pw _ l] :: .fixed _ [.ref 3 0] :: .fixed _ [.str f] :: ds, [.one (.ref 0 0), .one (.ref 1 0), .one (.ref 2 0)] => (dkRdo ds).map fun d => (d, f, l)
  | _, _ => none
def clwPre (t : DkT × ByteArray × List Int) : List (BoxSt DF.τ) × List (A0 DF.τ) := ([wB t.2.2, pB 3, tB t.2.1] ++ dkBo 3 t.1, [.one (.ref 0 0), .one (.ref 1 0), .one (.ref 2 0)])
def clnRd (bs : List (BoxSt DF.τ)) (xs : List (A0 DF.τ)) : Option (DkT × ByteArray × ByteArray) :=
  match bs, xs with
  | .fixed _ [.ref 3 0] :: .fixed _ [.str f] :: .fixed _ [.str n] :: ds, [.one (.ref 0 0), .one (.ref 1 0), .one (.ref 2 0)] => (dkRdo ds).map fun d => (d, f, n)
  | _, _ => none
def clnPre (t : DkT × ByteArray × ByteArray) : List (BoxSt DF.τ) × List (A0 DF.τ) := ([pB 3, tB t.2.1, tB t.2.2] ++ dkBo 3 t.1, [.one (.ref 0 0), .one (.ref 1 0), .one (.ref 2 0)])
def sealL (l : List Int) : List Int := ofF [l] ++ (l ++ [])
def sv1E (d : DkT) (f : ByteArray) : Int := if (dropM d f).1 ≠ 41 then (dropM d f).1 else 0
noncomputable def s1Q := mkF DF Tryd.f23.ntmps cl2Rd cl2Pre (fun t => some (eV (sv1E t.1 t.2), [pB 2, tB t.2] ++ dkBo 2 (dropM t.1 t.2).2, [DkOK t.1, t.2.size ≤ 9223372036854775807]))
noncomputable def s2Q := mkF DF Tryd.f25.ntmps clwRd clwPre (fun t => some (eV (appendM t.1 t.2.1 (sealL t.2.2)).1, [wB t.2.2, pB 3, tB t.2.1] ++ dkBo 3 (appendM t.1 t.2.1 (sealL t.2.2)).2, [DkOK t.1, t.2.1.size ≤ 9223372036854775807, t.2.2.length ≤ 65536]))
noncomputable def s3Q := mkF DF Tryd.f29.ntmps cl2Rd cl2Pre (fun t => some (eV (syncM t.1 t.2).1, [pB 2, tB t.2] ++ dkBo 2 (syncM t.1 t.2).2, [DkOK t.1, t.2.size ≤ 9223372036854775807]))
noncomputable def s4Q := mkF DF Tryd.f31.ntmps clnRd clnPre (fun t => some (eV (moveM t.1 t.2.1 t.2.2).1, [pB 3, tB t.2.1, tB t.2.2] ++ dkBo 3 (moveM t.1 t.2.1 t.2.2).2, [DkOK t.1, t.2.1.size ≤ 9223372036854775807, t.2.2.size ≤ 9223372036854775807]))
theorem gS1_ok : GamOK Tryd.prog DF gS1 := gam_op drop_ok (gam_op sync_ok (gam_op move_ok gam_nil))
theorem gS2_ok : GamOK Tryd.prog DF gS2 := gam_freeze (gam_cons of_ok (gam_cons conc_ok (gam_op append_ok gam_nil)))
theorem s1_ok : OpOK Tryd.prog DF 23 s1Q := by
  refine opOK_mk gS1_ok mixed Tryd.func23 (enters_of Tryd.func23 (by kernel_rfl) rfl) ?_
  rintro ⟨⟨ro, st, fu, dn, es⟩, f⟩ r' bs' ps h hps
  simp only [Option.some.injEq, Prod.mk.injEq] at h
  obtain ⟨rfl, rfl, rfl⟩ := h
  have hd : DkOK (ro, st, fu, dn, es) := hps (DkOK _) (by simp)
  have hs : f.size ≤ 9223372036854775807 := hps (f.size ≤ 9223372036854775807) (by simp)
  unfold sv1E
  by_cases c : (dropM (ro, st, fu, dn, es) f).1 ≠ 41
  · rw [if_pos c]
    exact ⟨_, _, s1_other f ro st fu _ dn es hd hs (bne_iff_ne.2 c) rfl⟩
  · rw [if_neg c]
    exact ⟨_, _, s1_gone f ro st fu _ dn es hd hs (by rw [Decidable.byContradiction c]; rfl) rfl⟩
theorem ofF_len (l : List (List Int)) : (ofF l).length = 32 := by
  unfold ofF sumF
  rw [outS_eq _ 32 (by decide)]
  simp
theorem s2_ok : OpOK Tryd.prog DF 25 s2Q := by
  refine opOK_mk gS2_ok mixed Tryd.func25 (enters_of Tryd.func25 (by kernel_rfl) rfl) ?_
  rintro ⟨⟨ro, st, fu, dn, es⟩, f, l⟩ r' bs' ps h hps
  simp only [Option.some.injEq, Prod.mk.injEq] at h
  obtain ⟨rfl, rfl, rfl⟩ := h
  have hd : DkOK (ro, st, fu, dn, es) := hps (DkOK _) (by simp)
  have hs : f.size ≤ 9223372036854775807 := hps (f.size ≤ 9223372036854775807) (by simp)
  have hl : l.length ≤ 65536 := hps (l.length ≤ 65536) (by simp)
  have h32 := ofF_len [l]
  refine ⟨_, _, s2_run f l ro st fu _ dn es es ?_ (by decide) ?_ ?_ (by decide) hd hs ?_ rfl rfl rfl rfl rfl rfl⟩
  all_goals simp [h32]
  all_goals omega
theorem s3_ok : OpOK Tryd.prog DF 29 s3Q := by
  refine opOK_mk gS1_ok mixed Tryd.func29 (enters_of Tryd.func29 (by kernel_rfl) rfl) ?_
  rintro ⟨⟨ro, st, fu, dn, es⟩, f⟩ r' bs' ps h hps
  simp only [Option.some.injEq, Prod.mk.injEq] at h
  obtain ⟨rfl, rfl, rfl⟩ := h
  have hd : DkOK (ro, st, fu, dn, es) := hps (DkOK _) (by simp)
  have hs : f.size ≤ 9223372036854775807 := hps (f.size ≤ 9223372036854775807) (by simp)
  exact ⟨_, _, s3_run f ro st fu _ dn es hd hs rfl⟩
theorem s4_ok : OpOK Tryd.prog DF 31 s4Q := by
  refine opOK_mk gS1_ok mixed Tryd.func31 (enters_of Tryd.func31 (by kernel_rfl) rfl) ?_
  rintro ⟨⟨ro, st, fu, dn, es⟩, f, n⟩ r' bs' ps h hps
  simp only [Option.some.injEq, Prod.mk.injEq] at h
  obtain ⟨rfl, rfl, rfl⟩ := h
  have hd : DkOK (ro, st, fu, dn, es) := hps (DkOK _) (by simp)
  have hs : f.size ≤ 9223372036854775807 := hps (f.size ≤ 9223372036854775807) (by simp)
  have hn : n.size ≤ 9223372036854775807 := hps (n.size ≤ 9223372036854775807) (by simp)
  exact ⟨_, _, s4_run f n ro st fu _ dn es hd hs hn rfl⟩
end Go.Num
namespace Go.Num
open Go.Abs Go.Proofs Go.Shelf Go.RowKit
noncomputable def gSv : Gam DF := [(22, .fn rightF), (23, .op [true, true] s1Q), (25, .op [true, true, true] s2Q), (29, .op [true, true] s3Q), (31, .op [true, true, true] s4Q), (24, .op [true, false] dropQ)]
theorem gSv_ok : GamOK Tryd.prog DF gSv := gam_cons right_ok (gam_op s1_ok (gam_op s2_ok (gam_op s3_ok (gam_op s4_ok (gam_op drop_ok gam_nil)))))
def svX (n : ByteArray) (l : List Int) : List (A0 DF.τ) := [.one (.ref 0 0), .one (.str n), .one (.pw .u8 l)]
def fnew (n : ByteArray) : ByteArray := n ++ ⟨#[45, 110, 101, 119]⟩
theorem sv_nil (n : ByteArray) :
 ∃ ps, runO Tryd.prog DF gSv 100 Tryd.f8 ([], [.one .nilp, .one (.str n), .one .nil]) [] (.v (.one (.int .i64 true 1))) [] = some ps ∧ AllQ ps := ⟨_, by kernel_rfl, allQ_nil⟩
theorem sv_name (n : ByteArray) (l : List Int) (d : DkT) (e : Int)
 (h1 : ((rightB n) = false))
 (h2 : ((ByteArray.size n) ≤ (9223372036854775807 : Nat)))
 (h3 : ((40 : Int) = e)) :
 ∃ ps, runO Tryd.prog DF gSv 100 Tryd.f8 (dkBt d, svX n l) [.is false] (eV e) (dkBt d) = some ps ∧ AllQ ps := ⟨_, by kernel_rfl, allQ_cons h1 (allQ_cons h2 (allQ_cons h3 (allQ_cons (show ((d).1 = (d).1) from rfl) (allQ_cons (show (((d).2).1 = ((d).2).1) from rfl) (allQ_cons (show ((((d).2).2).1 = (((d).2).2).1) from rfl) (allQ_cons (show (((((d).2).2).2).1 = ((((d).2).2).2).1) from rfl) (allQ_cons (show (((((d).2).2).2).2 = ((((d).2).2).2).2) from rfl) (allQ_nil))))))))⟩
theorem sv_long (n : ByteArray) (l : List Int) (d : DkT) (e : Int)
 (h1 : ((rightB n) = true))
 (h2 : ((ByteArray.size n) ≤ (9223372036854775807 : Nat)))
 (h3 : ((decide ((((ByteArray.size n) : Nat) : Int) > (20 : Int))) = true))
 (h4 : ((40 : Int) = e)) :
 ∃ ps, runO Tryd.prog DF gSv 100 Tryd.f8 (dkBt d, svX n l) [.is true, .is true] (eV e) (dkBt d) = some ps ∧ AllQ ps := ⟨_, by kernel_rfl, allQ_cons h1 (allQ_cons h2 (allQ_cons h3 (allQ_cons h4 (allQ_cons (show ((d).1 = (d).1) from rfl) (allQ_cons (show (((d).2).1 = ((d).2).1) from rfl) (allQ_cons (show ((((d).2).2).1 = (((d).2).2).1) from rfl) (allQ_cons (show (((((d).2).2).2).1 = ((((d).2).2).2).1) from rfl) (allQ_cons (show (((((d).2).2).2).2 = ((((d).2).2).2).2) from rfl) (allQ_nil)))))))))⟩
theorem sv_big (n : ByteArray) (l : List Int) (d : DkT) (e : Int)
 (h1 : ((rightB n) = true))
 (h2 : ((ByteArray.size n) ≤ (9223372036854775807 : Nat)))
 (h3 : ((decide ((((ByteArray.size n) : Nat) : Int) > (20 : Int))) = false))
 (h4 : ((decide ((((List.length l) : Nat) : Int) > (65536 : Int))) = true))
 (h5 : ((18 : Int) = e)) :
 ∃ ps, runO Tryd.prog DF gSv 100 Tryd.f8 (dkBt d, svX n l) [.is true, .is false, .is true] (eV e) (dkBt d) = some ps ∧ AllQ ps := ⟨_, by kernel_rfl, allQ_cons h1 (allQ_cons h2 (allQ_cons h3 (allQ_cons h4 (allQ_cons h5 (allQ_cons (show ((d).1 = (d).1) from rfl) (allQ_cons (show (((d).2).1 = ((d).2).1) from rfl) (allQ_cons (show ((((d).2).2).1 = (((d).2).2).1) from rfl) (allQ_cons (show (((((d).2).2).2).1 = ((((d).2).2).2).1) from rfl) (allQ_cons (show (((((d).2).2).2).2 = ((((d).2).2).2).2) from rfl) (allQ_nil))))))))))⟩
theorem sv_d1 (n : ByteArray) (l : List Int) (d : DkT) (e : Int)
 (h1 : ((rightB n) = true))
 (h2 : ((ByteArray.size n) ≤ (9223372036854775807 : Nat)))
 (h3 : ((decide ((((ByteArray.size n) : Nat) : Int) > (20 : Int))) = false))
 (h4 : ((decide ((((List.length l) : Nat) : Int) > (65536 : Int))) = false))
 (h5 : (((((ByteArray.size n) + (4 : Nat)) : Nat) : Int) ≤ (9223372036854775807 : Int)))
 (h6 : ((0 : Int) < (((4 : Nat) : Nat) : Int)))
 (h7 : (DkOK d))
 (h8 : ((ByteArray.size (n ++ (⟨#[45, 110, 101, 119]⟩ : ByteArray))) ≤ (9223372036854775807 : Nat)))
 (h9 : (((sv1E d (n ++ (⟨#[45, 110, 101, 119]⟩ : ByteArray))) != (0 : Int)) = true))
 (h10 : (((sv1E d (n ++ (⟨#[45, 110, 101, 119]⟩ : ByteArray))) != (2 : Int)) = false))
 (h11 : ((sv1E d (n ++ (⟨#[45, 110, 101, 119]⟩ : ByteArray))) = e))
 (h12 : ((((dropM d (n ++ (⟨#[45, 110, 101, 119]⟩ : ByteArray)))).2).1 = (((dropM d (fnew n))).2).1))
 (h13 : (((((dropM d (n ++ (⟨#[45, 110, 101, 119]⟩ : ByteArray)))).2).2).1 = ((((dropM d (fnew n))).2).2).1))
 (h14 : ((((((dropM d (n ++ (⟨#[45, 110, 101, 119]⟩ : ByteArray)))).2).2).2).1 = (((((dropM d (fnew n))).2).2).2).1))
 (h15 : (((((((dropM d (n ++ (⟨#[45, 110, 101, 119]⟩ : ByteArray)))).2).2).2).2).1 = ((((((dropM d (fnew n))).2).2).2).2).1))
 (h16 : (((((((dropM d (n ++ (⟨#[45, 110, 101, 119]⟩ : ByteArray)))).2).2).2).2).2 = ((((((dropM d (fnew n))).2).2).2).2).2)) :
 ∃ ps, runO Tryd.prog DF gSv 100 Tryd.f8 (dkBt d, svX n l) [.is true, .is false, .is false, .roll, .is true, .is false] (eV e) (dkBt (dropM d (fnew n)).2) = some ps ∧ AllQ ps := ⟨_, by kernel_rfl, allQ_cons h1 (allQ_cons h2 (allQ_cons h3 (allQ_cons h4 (allQ_cons h5 (allQ_cons (show ((0 : Int) ≤ (0 : Int)) from by decide) (allQ_cons h6 (allQ_cons (show ((n ++ (⟨#[45, 110, 101, 119]⟩ : ByteArray)) = (n ++ (⟨#[45, 110, 101, 119]⟩ : ByteArray))) from rfl) (allQ_cons (show ((d).1 = (d).1) from rfl) (allQ_cons (show (((d).2).1 = ((d).2).1) from rfl) (allQ_cons (show ((((d).2).2).1 = (((d).2).2).1) from rfl) (allQ_cons (show (((((d).2).2).2).1 = ((((d).2).2).2).1) from rfl) (allQ_cons (show (((((d).2).2).2).2 = ((((d).2).2).2).2) from rfl) (allQ_cons h7 (allQ_cons h8 (allQ_cons h9 (allQ_cons h10 (allQ_cons h11 (allQ_cons h12 (allQ_cons h13 (allQ_cons h14 (allQ_cons h15 (allQ_cons h16 (allQ_nil)))))))))))))))))))))))⟩
theorem sv_e1 (n : ByteArray) (l : List Int) (d : DkT) (e : Int)
 (h1 : ((rightB n) = true))
 (h2 : ((ByteArray.size n) ≤ (9223372036854775807 : Nat)))
 (h3 : ((decide ((((ByteArray.size n) : Nat) : Int) > (20 : Int))) = false))
 (h4 : ((decide ((((List.length l) : Nat) : Int) > (65536 : Int))) = false))
 (h5 : (((((ByteArray.size n) + (4 : Nat)) : Nat) : Int) ≤ (9223372036854775807 : Int)))
 (h6 : ((0 : Int) < (((4 : Nat) : Nat) : Int)))
 (h7 : (DkOK d))
 (h8 : ((ByteArray.size (n ++ (⟨#[45, 110, 101, 119]⟩ : ByteArray))) ≤ (9223372036854775807 : Nat)))
 (h9 : (((sv1E d (n ++ (⟨#[45, 110, 101, 119]⟩ : ByteArray))) != (0 : Int)) = true))
 (h10 : (((sv1E d (n ++ (⟨#[45, 110, 101, 119]⟩ : ByteArray))) != (2 : Int)) = true))
 (h11 : (DkOK ((dropM d (n ++ (⟨#[45, 110, 101, 119]⟩ : ByteArray)))).2))
 (h12 : ((sv1E d (n ++ (⟨#[45, 110, 101, 119]⟩ : ByteArray))) = e))
 (h13 : ((((dropM ((dropM d (n ++ (⟨#[45, 110, 101, 119]⟩ : ByteArray)))).2 (n ++ (⟨#[45, 110, 101, 119]⟩ : ByteArray)))).2).1 = (((dropM ((dropM d (fnew n))).2 (fnew n))).2).1))
 (h14 : (((((dropM ((dropM d (n ++ (⟨#[45, 110, 101, 119]⟩ : ByteArray)))).2 (n ++ (⟨#[45, 110, 101, 119]⟩ : ByteArray)))).2).2).1 = ((((dropM ((dropM d (fnew n))).2 (fnew n))).2).2).1))
 (h15 : ((((((dropM ((dropM d (n ++ (⟨#[45, 110, 101, 119]⟩ : ByteArray)))).2 (n ++ (⟨#[45, 110, 101, 119]⟩ : ByteArray)))).2).2).2).1 = (((((dropM ((dropM d (fnew n))).2 (fnew n))).2).2).2).1))
 (h16 : (((((((dropM ((dropM d (n ++ (⟨#[45, 110, 101, 119]⟩ : ByteArray)))).2 (n ++ (⟨#[45, 110, 101, 119]⟩ : ByteArray)))).2).2).2).2).1 = ((((((dropM ((dropM d (fnew n))).2 (fnew n))).2).2).2).2).1))
 (h17 : (((((((dropM ((dropM d (n ++ (⟨#[45, 110, 101, 119]⟩ : ByteArray)))).2 (n ++ (⟨#[45, 110, 101, 119]⟩ : ByteArray)))).2).2).2).2).2 = ((((((dropM ((dropM d (fnew n))).2 (fnew n))).2).2).2).2).2)) :
 ∃ ps, runO Tryd.prog DF gSv 100 Tryd.f8 (dkBt d, svX n l) [.is true, .is false, .is false, .roll, .is true, .is true] (eV e) (dkBt (dropM (dropM d (fnew n)).2 (fnew n)).2) = some ps ∧ AllQ ps := ⟨_, by kernel_rfl, allQ_cons h1 (allQ_cons h2 (allQ_cons h3 (allQ_cons h4 (allQ_cons h5 (allQ_cons (show ((0 : Int) ≤ (0 : Int)) from by decide) (allQ_cons h6 (allQ_cons (show ((n ++ (⟨#[45, 110, 101, 119]⟩ : ByteArray)) = (n ++ (⟨#[45, 110, 101, 119]⟩ : ByteArray))) from rfl) (allQ_cons (show ((d).1 = (d).1) from rfl) (allQ_cons (show (((d).2).1 = ((d).2).1) from rfl) (allQ_cons (show ((((d).2).2).1 = (((d).2).2).1) from rfl) (allQ_cons (show (((((d).2).2).2).1 = ((((d).2).2).2).1) from rfl) (allQ_cons (show (((((d).2).2).2).2 = ((((d).2).2).2).2) from rfl) (allQ_cons h7 (allQ_cons h8 (allQ_cons h9 (allQ_cons h10 (allQ_cons (show ((n ++ (⟨#[45, 110, 101, 119]⟩ : ByteArray)) = (n ++ (⟨#[45, 110, 101, 119]⟩ : ByteArray))) from rfl) (allQ_cons (show ((((dropM d (n ++ (⟨#[45, 110, 101, 119]⟩ : ByteArray)))).2).1 = (((dropM d (n ++ (⟨#[45, 110, 101, 119]⟩ : ByteArray)))).2).1) from rfl) (allQ_cons (show (((((dropM d (n ++ (⟨#[45, 110, 101, 119]⟩ : ByteArray)))).2).2).1 = ((((dropM d (n ++ (⟨#[45, 110, 101, 119]⟩ : ByteArray)))).2).2).1) from rfl) (allQ_cons (show ((((((dropM d (n ++ (⟨#[45, 110, 101, 119]⟩ : ByteArray)))).2).2).2).1 = (((((dropM d (n ++ (⟨#[45, 110, 101, 119]⟩ : ByteArray)))).2).2).2).1) from rfl) (allQ_cons (show (((((((dropM d (n ++ (⟨#[45, 110, 101, 119]⟩ : ByteArray)))).2).2).2).2).1 = ((((((dropM d (n ++ (⟨#[45, 110, 101, 119]⟩ : ByteArray)))).2).2).2).2).1) from rfl) (allQ_cons (show (((((((dropM d (n ++ (⟨#[45, 110, 101, 119]⟩ : ByteArray)))).2).2).2).2).2 = ((((((dropM d (n ++ (⟨#[45, 110, 101, 119]⟩ : ByteArray)))).2).2).2).2).2) from rfl) (allQ_cons h11 (allQ_cons h8 (allQ_cons h12 (allQ_cons h13 (allQ_cons h14 (allQ_cons h15 (allQ_cons h16 (allQ_cons h17 (allQ_nil)))))))))))))))))))))))))))))))⟩
theorem sv_d2 (n : ByteArray) (l : List Int) (d : DkT) (e : Int)
 (h1 : ((rightB n) = true))
 (h2 : ((ByteArray.size n) ≤ (9223372036854775807 : Nat)))
 (h3 : ((decide ((((ByteArray.size n) : Nat) : Int) > (20 : Int))) = false))
 (h4 : ((decide ((((List.length l) : Nat) : Int) > (65536 : Int))) = false))
 (h5 : (((((ByteArray.size n) + (4 : Nat)) : Nat) : Int) ≤ (9223372036854775807 : Int)))
 (h6 : ((0 : Int) < (((4 : Nat) : Nat) : Int)))
 (h7 : (DkOK d))
 (h8 : ((ByteArray.size (n ++ (⟨#[45, 110, 101, 119]⟩ : ByteArray))) ≤ (9223372036854775807 : Nat)))
 (h9 : (((sv1E d (n ++ (⟨#[45, 110, 101, 119]⟩ : ByteArray))) != (0 : Int)) = false))
 (h10 : ((Go.IntKind.wrap Go.IntKind.i64 ((0 : Int) + (1 : Int))) < (((4 : Nat) : Nat) : Int)))
 (h11 : (DkOK ((dropM d (n ++ (⟨#[45, 110, 101, 119]⟩ : ByteArray)))).2))
 (h12 : ((List.length l) ≤ (65536 : Nat)))
 (h13 : ((((appendM ((dropM d (n ++ (⟨#[45, 110, 101, 119]⟩ : ByteArray)))).2 (n ++ (⟨#[45, 110, 101, 119]⟩ : ByteArray)) (sealL l))).1 != (0 : Int)) = true))
 (h14 : ((((appendM ((dropM d (n ++ (⟨#[45, 110, 101, 119]⟩ : ByteArray)))).2 (n ++ (⟨#[45, 110, 101, 119]⟩ : ByteArray)) (sealL l))).1 != (2 : Int)) = false))
 (h15 : (((appendM ((dropM d (n ++ (⟨#[45, 110, 101, 119]⟩ : ByteArray)))).2 (n ++ (⟨#[45, 110, 101, 119]⟩ : ByteArray)) (sealL l))).1 = e))
 (h16 : ((((appendM ((dropM d (n ++ (⟨#[45, 110, 101, 119]⟩ : ByteArray)))).2 (n ++ (⟨#[45, 110, 101, 119]⟩ : ByteArray)) (sealL l))).2).1 = (((appendM ((dropM d (fnew n))).2 (fnew n) (sealL l))).2).1))
 (h17 : (((((appendM ((dropM d (n ++ (⟨#[45, 110, 101, 119]⟩ : ByteArray)))).2 (n ++ (⟨#[45, 110, 101, 119]⟩ : ByteArray)) (sealL l))).2).2).1 = ((((appendM ((dropM d (fnew n))).2 (fnew n) (sealL l))).2).2).1))
 (h18 : ((((((appendM ((dropM d (n ++ (⟨#[45, 110, 101, 119]⟩ : ByteArray)))).2 (n ++ (⟨#[45, 110, 101, 119]⟩ : ByteArray)) (sealL l))).2).2).2).1 = (((((appendM ((dropM d (fnew n))).2 (fnew n) (sealL l))).2).2).2).1))
 (h19 : (((((((appendM ((dropM d (n ++ (⟨#[45, 110, 101, 119]⟩ : ByteArray)))).2 (n ++ (⟨#[45, 110, 101, 119]⟩ : ByteArray)) (sealL l))).2).2).2).2).1 = ((((((appendM ((dropM d (fnew n))).2 (fnew n) (sealL l))).2).2).2).2).1))
 (h20 : (((((((appendM ((dropM d (n ++ (⟨#[45, 110, 101, 119]⟩ : ByteArray)))).2 (n ++ (⟨#[45, 110, 101, 119]⟩ : ByteArray)) (sealL l))).2).2).2).2).2 = ((((((appendM ((dropM d (fnew n))).2 (fnew n) (sealL l))).2).2).2).2).2)) :
 ∃ ps, runO Tryd.prog DF gSv 100 Tryd.f8 (dkBt d, svX n l) [.is true, .is false, .is false, .roll, .is false, .is true, .is false] (eV e) (dkBt (appendM (dropM d (fnew n)).2 (fnew n) (sealL l)).2) = some ps ∧ AllQ ps := ⟨_, by kernel_rfl, allQ_cons h1 (allQ_cons h2 (allQ_cons h3 (allQ_cons h4 (allQ_cons h5 (allQ_cons (show ((0 : Int) ≤ (0 : Int)) from by decide) (allQ_cons h6 (allQ_cons (show ((n ++ (⟨#[45, 110, 101, 119]⟩ : ByteArray)) = (n ++ (⟨#[45, 110, 101, 119]⟩ : ByteArray))) from rfl) (allQ_cons (show ((d).1 = (d).1) from rfl) (allQ_cons (show (((d).2).1 = ((d).2).1) from rfl) (allQ_cons (show ((((d).2).2).1 = (((d).2).2).1) from rfl) (allQ_cons (show (((((d).2).2).2).1 = ((((d).2).2).2).1) from rfl) (allQ_cons (show (((((d).2).2).2).2 = ((((d).2).2).2).2) from rfl) (allQ_cons h7 (allQ_cons h8 (allQ_cons h9 (allQ_cons (show ((0 : Int) ≤ (Go.IntKind.wrap Go.IntKind.i64 ((0 : Int) + (1 : Int)))) from by decide) (allQ_cons h10 (allQ_cons (show (l = l) from rfl) (allQ_cons (show ((n ++ (⟨#[45, 110, 101, 119]⟩ : ByteArray)) = (n ++ (⟨#[45, 110, 101, 119]⟩ : ByteArray))) from rfl) (allQ_cons (show ((((dropM d (n ++ (⟨#[45, 110, 101, 119]⟩ : ByteArray)))).2).1 = (((dropM d (n ++ (⟨#[45, 110, 101, 119]⟩ : ByteArray)))).2).1) from rfl) (allQ_cons (show (((((dropM d (n ++ (⟨#[45, 110, 101, 119]⟩ : ByteArray)))).2).2).1 = ((((dropM d (n ++ (⟨#[45, 110, 101, 119]⟩ : ByteArray)))).2).2).1) from rfl) (allQ_cons (show ((((((dropM d (n ++ (⟨#[45, 110, 101, 119]⟩ : ByteArray)))).2).2).2).1 = (((((dropM d (n ++ (⟨#[45, 110, 101, 119]⟩ : ByteArray)))).2).2).2).1) from rfl) (allQ_cons (show (((((((dropM d (n ++ (⟨#[45, 110, 101, 119]⟩ : ByteArray)))).2).2).2).2).1 = ((((((dropM d (n ++ (⟨#[45, 110, 101, 119]⟩ : ByteArray)))).2).2).2).2).1) from rfl) (allQ_cons (show (((((((dropM d (n ++ (⟨#[45, 110, 101, 119]⟩ : ByteArray)))).2).2).2).2).2 = ((((((dropM d (n ++ (⟨#[45, 110, 101, 119]⟩ : ByteArray)))).2).2).2).2).2) from rfl) (allQ_cons h11 (allQ_cons h8 (allQ_cons h12 (allQ_cons h13 (allQ_cons h14 (allQ_cons h15 (allQ_cons h16 (allQ_cons h17 (allQ_cons h18 (allQ_cons h19 (allQ_cons h20 (allQ_nil))))))))))))))))))))))))))))))))))))⟩
theorem sv_e2 (n : ByteArray) (l : List Int) (d : DkT) (e : Int)
 (h1 : ((rightB n) = true))
 (h2 : ((ByteArray.size n) ≤ (9223372036854775807 : Nat)))
 (h3 : ((decide ((((ByteArray.size n) : Nat) : Int) > (20 : Int))) = false))
 (h4 : ((decide ((((List.length l) : Nat) : Int) > (65536 : Int))) = false))
 (h5 : (((((ByteArray.size n) + (4 : Nat)) : Nat) : Int) ≤ (9223372036854775807 : Int)))
 (h6 : ((0 : Int) < (((4 : Nat) : Nat) : Int)))
 (h7 : (DkOK d))
 (h8 : ((ByteArray.size (n ++ (⟨#[45, 110, 101, 119]⟩ : ByteArray))) ≤ (9223372036854775807 : Nat)))
 (h9 : (((sv1E d (n ++ (⟨#[45, 110, 101, 119]⟩ : ByteArray))) != (0 : Int)) = false))
 (h10 : ((Go.IntKind.wrap Go.IntKind.i64 ((0 : Int) + (1 : Int))) < (((4 : Nat) : Nat) : Int)))
 (h11 : (DkOK ((dropM d (n ++ (⟨#[45, 110, 101, 119]⟩ : ByteArray)))).2))
 (h12 : ((List.length l) ≤ (65536 : Nat)))
 (h13 : ((((appendM ((dropM d (n ++ (⟨#[45, 110, 101, 119]⟩ : ByteArray)))).2 (n ++ (⟨#[45, 110, 101, 119]⟩ : ByteArray)) (sealL l))).1 != (0 : Int)) = true))
 (h14 : ((((appendM ((dropM d (n ++ (⟨#[45, 110, 101, 119]⟩ : ByteArray)))).2 (n ++ (⟨#[45, 110, 101, 119]⟩ : ByteArray)) (sealL l))).1 != (2 : Int)) = true))
 (h15 : (DkOK ((appendM ((dropM d (n ++ (⟨#[45, 110, 101, 119]⟩ : ByteArray)))).2 (n ++ (⟨#[45, 110, 101, 119]⟩ : ByteArray)) (sealL l))).2))
 (h16 : (((appendM ((dropM d (n ++ (⟨#[45, 110, 101, 119]⟩ : ByteArray)))).2 (n ++ (⟨#[45, 110, 101, 119]⟩ : ByteArray)) (sealL l))).1 = e))
 (h17 : ((((dropM ((appendM ((dropM d (n ++ (⟨#[45, 110, 101, 119]⟩ : ByteArray)))).2 (n ++ (⟨#[45, 110, 101, 119]⟩ : ByteArray)) (sealL l))).2 (n ++ (⟨#[45, 110, 101, 119]⟩ : ByteArray)))).2).1 = (((dropM ((appendM ((dropM d (fnew n))).2 (fnew n) (sealL l))).2 (fnew n))).2).1))
 (h18 : (((((dropM ((appendM ((dropM d (n ++ (⟨#[45, 110, 101, 119]⟩ : ByteArray)))).2 (n ++ (⟨#[45, 110, 101, 119]⟩ : ByteArray)) (sealL l))).2 (n ++ (⟨#[45, 110, 101, 119]⟩ : ByteArray)))).2).2).1 = ((((dropM ((appendM ((dropM d (fnew n))).2 (fnew n) (sealL l))).2 (fnew n))).2).2).1))
 (h19 : ((((((dropM ((appendM ((dropM d (n ++ (⟨#[45, 110, 101, 119]⟩ : ByteArray)))).2 (n ++ (⟨#[45, 110, 101, 119]⟩ : ByteArray)) (sealL l))).2 (n ++ (⟨#[45, 110, 101, 119]⟩ : ByteArray)))).2).2).2).1 = (((((dropM ((appendM ((dropM d (fnew n))).2 (fnew n) (sealL l))).2 (fnew n))).2).2).2).1))
 (h20 : (((((((dropM ((appendM ((dropM d (n ++ (⟨#[45, 110, 101, 119]⟩ : ByteArray)))).2 (n ++ (⟨#[45, 110, 101, 119]⟩ : ByteArray)) (sealL l))).2 (n ++ (⟨#[45, 110, 101, 119]⟩ : ByteArray)))).2).2).2).2).1 = ((((((dropM ((appendM ((dropM d (fnew n))).2 (fnew n) (sealL l))).2 (fnew n))).2).2).2).2).1))
 (h21 : (((((((dropM ((appendM ((dropM d (n ++ (⟨#[45, 110, 101, 119]⟩ : ByteArray)))).2 (n ++ (⟨#[45, 110, 101, 119]⟩ : ByteArray)) (sealL l))).2 (n ++ (⟨#[45, 110, 101, 119]⟩ : ByteArray)))).2).2).2).2).2 = ((((((dropM ((appendM ((dropM d (fnew n))).2 (fnew n) (sealL l))).2 (fnew n))).2).2).2).2).2)) :
 ∃ ps, runO Tryd.prog DF gSv 100 Tryd.f8 (dkBt d, svX n l) [.is true, .is false, .is false, .roll, .is false, .is true, .is true] (eV e) (dkBt (dropM (appendM (dropM d (fnew n)).2 (fnew n) (sealL l)).2 (fnew n)).2) = some ps ∧ AllQ ps := ⟨_, by kernel_rfl, allQ_cons h1 (allQ_cons h2 (allQ_cons h3 (allQ_cons h4 (allQ_cons h5 (allQ_cons (show ((0 : Int) ≤ (0 : Int)) from by decide) (allQ_cons h6 (allQ_cons (show ((n ++ (⟨#[45, 110, 101, 119]⟩ : ByteArray)) = (n ++ (⟨#[45, 110, 101, 119]⟩ : ByteArray))) from rfl) (allQ_cons (show ((d).1 = (d).1) from rfl) (allQ_cons (show (((d).2).1 = ((d).2).1) from rfl) (allQ_cons (show ((((d).2).2).1 = (((d).2).2).1) from rfl) (allQ_cons (show (((((d).2).2).2).1 = ((((d).2).2).2).1) from rfl) (allQ_cons (show (((((d).2).2).2).2 = ((((d).2).2).2).2) from rfl) (allQ_cons h7 (allQ_cons h8 (allQ_cons h9 (allQ_cons (show ((0 : Int) ≤ (Go.IntKind.wrap Go.IntKind.i64 ((0 : Int) + (1 : Int)))) from by decide) (allQ_cons h10 (allQ_cons (show (l = l) from rfl) (allQ_cons (show ((n ++ (⟨#[45, 110, 101, 119]⟩ : ByteArray)) = (n ++ (⟨#[45, 110, 101, 119]⟩ : ByteArray))) from rfl) (allQ_cons (show ((((dropM d (n ++ (⟨#[45, 110, 101, 119]⟩ : ByteArray)))).2).1 = (((dropM d (n ++ (⟨#[45, 110, 101, 119]⟩ : ByteArray)))).2).1) from rfl) (allQ_cons (show (((((dropM d (n ++ (⟨#[45, 110, 101, 119]⟩ : ByteArray)))).2).2).1 = ((((dropM d (n ++ (⟨#[45, 110, 101, 119]⟩ : ByteArray)))).2).2).1) from rfl) (allQ_cons (show ((((((dropM d (n ++ (⟨#[45, 110, 101, 119]⟩ : ByteArray)))).2).2).2).1 = (((((dropM d (n ++ (⟨#[45, 110, 101, 119]⟩ : ByteArray)))).2).2).2).1) from rfl) (allQ_cons (show (((((((dropM d (n ++ (⟨#[45, 110, 101, 119]⟩ : ByteArray)))).2).2).2).2).1 = ((((((dropM d (n ++ (⟨#[45, 110, 101, 119]⟩ : ByteArray)))).2).2).2).2).1) from rfl) (allQ_cons (show (((((((dropM d (n ++ (⟨#[45, 110, 101, 119]⟩ : ByteArray)))).2).2).2).2).2 = ((((((dropM d (n ++ (⟨#[45, 110, 101, 119]⟩ : ByteArray)))).2).2).2).2).2) from rfl) (allQ_cons h11 (allQ_cons h8 (allQ_cons h12 (allQ_cons h13 (allQ_cons h14 (allQ_cons (show ((n ++ (⟨#[45, 110, 101, 119]⟩ : ByteArray)) = (n ++ (⟨#[45, 110, 101, 119]⟩ : ByteArray))) from rfl) (allQ_cons (show ((((appendM ((dropM d (n ++ (⟨#[45, 110, 101, 119]⟩ : ByteArray)))).2 (n ++ (⟨#[45, 110, 101, 119]⟩ : ByteArray)) (sealL l))).2).1 = (((appendM ((dropM d (n ++ (⟨#[45, 110, 101, 119]⟩ : ByteArray)))).2 (n ++ (⟨#[45, 110, 101, 119]⟩ : ByteArray)) (sealL l))).2).1) from rfl) (allQ_cons (show (((((appendM ((dropM d (n ++ (⟨#[45, 110, 101, 119]⟩ : ByteArray)))).2 (n ++ (⟨#[45, 110, 101, 119]⟩ : ByteArray)) (sealL l))).2).2).1 = ((((appendM ((dropM d (n ++ (⟨#[45, 110, 101, 119]⟩ : ByteArray)))).2 (n ++ (⟨#[45, 110, 101, 119]⟩ : ByteArray)) (sealL l))).2).2).1) from rfl) (allQ_cons (show ((((((appendM ((dropM d (n ++ (⟨#[45, 110, 101, 119]⟩ : ByteArray)))).2 (n ++ (⟨#[45, 110, 101, 119]⟩ : ByteArray)) (sealL l))).2).2).2).1 = (((((appendM ((dropM d (n ++ (⟨#[45, 110, 101, 119]⟩ : ByteArray)))).2 (n ++ (⟨#[45, 110, 101, 119]⟩ : ByteArray)) (sealL l))).2).2).2).1) from rfl) (allQ_cons (show (((((((appendM ((dropM d (n ++ (⟨#[45, 110, 101, 119]⟩ : ByteArray)))).2 (n ++ (⟨#[45, 110, 101, 119]⟩ : ByteArray)) (sealL l))).2).2).2).2).1 = ((((((appendM ((dropM d (n ++ (⟨#[45, 110, 101, 119]⟩ : ByteArray)))).2 (n ++ (⟨#[45, 110, 101, 119]⟩ : ByteArray)) (sealL l))).2).2).2).2).1) from rfl) (allQ_cons (show (((((((appendM ((dropM d (n ++ (⟨#[45, 110, 101, 119]⟩ : ByteArray)))).2 (n ++ (⟨#[45, 110, 101, 119]⟩ : ByteArray)) (sealL l))).2).2).2).2).2 = ((((((appendM ((dropM d (n ++ (⟨#[45, 110, 101, 119]⟩ : ByteArray)))).2 (n ++ (⟨#[45, 110, 101, 119]⟩ : ByteArray)) (sealL l))).2).2).2).2).2) from rfl) (allQ_cons h15 (allQ_cons h8 (allQ_cons h16 (allQ_cons h17 (allQ_cons h18 (allQ_cons h19 (allQ_cons h20 (allQ_cons h21 (allQ_nil))))))))))))))))))))))))))))))))))))))))))))⟩
theorem sv_d3 (n : ByteArray) (l : List Int) (d : DkT) (e : Int)
 (h1 : ((rightB n) = true))
 (h2 : ((ByteArray.size n) ≤ (9223372036854775807 : Nat)))
 (h3 : ((decide ((((ByteArray.size n) : Nat) : Int) > (20 : Int))) = false))
 (h4 : ((decide ((((List.length l) : Nat) : Int) > (65536 : Int))) = false))
 (h5 : (((((ByteArray.size n) + (4 : Nat)) : Nat) : Int) ≤ (9223372036854775807 : Int)))
 (h6 : ((0 : Int) < (((4 : Nat) : Nat) : Int)))
 (h7 : (DkOK d))
 (h8 : ((ByteArray.size (n ++ (⟨#[45, 110, 101, 119]⟩ : ByteArray))) ≤ (9223372036854775807 : Nat)))
 (h9 : (((sv1E d (n ++ (⟨#[45, 110, 101, 119]⟩ : ByteArray))) != (0 : Int)) = false))
 (h10 : ((Go.IntKind.wrap Go.IntKind.i64 ((0 : Int) + (1 : Int))) < (((4 : Nat) : Nat) : Int)))
 (h11 : (DkOK ((dropM d (n ++ (⟨#[45, 110, 101, 119]⟩ : ByteArray)))).2))
 (h12 : ((List.length l) ≤ (65536 : Nat)))
 (h13 : ((((appendM ((dropM d (n ++ (⟨#[45, 110, 101, 119]⟩ : ByteArray)))).2 (n ++ (⟨#[45, 110, 101, 119]⟩ : ByteArray)) (sealL l))).1 != (0 : Int)) = false))
 (h14 : ((Go.IntKind.wrap Go.IntKind.i64 ((Go.IntKind.wrap Go.IntKind.i64 ((0 : Int) + (1 : Int))) + (1 : Int))) < (((4 : Nat) : Nat) : Int)))
 (h15 : (DkOK ((appendM ((dropM d (n ++ (⟨#[45, 110, 101, 119]⟩ : ByteArray)))).2 (n ++ (⟨#[45, 110, 101, 119]⟩ : ByteArray)) (sealL l))).2))
 (h16 : ((((syncM ((appendM ((dropM d (n ++ (⟨#[45, 110, 101, 119]⟩ : ByteArray)))).2 (n ++ (⟨#[45, 110, 101, 119]⟩ : ByteArray)) (sealL l))).2 (n ++ (⟨#[45, 110, 101, 119]⟩ : ByteArray)))).1 != (0 : Int)) = true))
 (h17 : ((((syncM ((appendM ((dropM d (n ++ (⟨#[45, 110, 101, 119]⟩ : ByteArray)))).2 (n ++ (⟨#[45, 110, 101, 119]⟩ : ByteArray)) (sealL l))).2 (n ++ (⟨#[45, 110, 101, 119]⟩ : ByteArray)))).1 != (2 : Int)) = false))
 (h18 : (((syncM ((appendM ((dropM d (n ++ (⟨#[45, 110, 101, 119]⟩ : ByteArray)))).2 (n ++ (⟨#[45, 110, 101, 119]⟩ : ByteArray)) (sealL l))).2 (n ++ (⟨#[45, 110, 101, 119]⟩ : ByteArray)))).1 = e))
 (h19 : ((((syncM ((appendM ((dropM d (n ++ (⟨#[45, 110, 101, 119]⟩ : ByteArray)))).2 (n ++ (⟨#[45, 110, 101, 119]⟩ : ByteArray)) (sealL l))).2 (n ++ (⟨#[45, 110, 101, 119]⟩ : ByteArray)))).2).1 = (((syncM ((appendM ((dropM d (fnew n))).2 (fnew n) (sealL l))).2 (fnew n))).2).1))
 (h20 : (((((syncM ((appendM ((dropM d (n ++ (⟨#[45, 110, 101, 119]⟩ : ByteArray)))).2 (n ++ (⟨#[45, 110, 101, 119]⟩ : ByteArray)) (sealL l))).2 (n ++ (⟨#[45, 110, 101, 119]⟩ : ByteArray)))).2).2).1 = ((((syncM ((appendM ((dropM d (fnew n))).2 (fnew n) (sealL l))).2 (fnew n))).2).2).1))
 (h21 : ((((((syncM ((appendM ((dropM d (n ++ (⟨#[45, 110, 101, 119]⟩ : ByteArray)))).2 (n ++ (⟨#[45, 110, 101, 119]⟩ : ByteArray)) (sealL l))).2 (n ++ (⟨#[45, 110, 101, 119]⟩ : ByteArray)))).2).2).2).1 = (((((syncM ((appendM ((dropM d (fnew n))).2 (fnew n) (sealL l))).2 (fnew n))).2).2).2).1))
 (h22 : (((((((syncM ((appendM ((dropM d (n ++ (⟨#[45, 110, 101, 119]⟩ : ByteArray)))).2 (n ++ (⟨#[45, 110, 101, 119]⟩ : ByteArray)) (sealL l))).2 (n ++ (⟨#[45, 110, 101, 119]⟩ : ByteArray)))).2).2).2).2).1 = ((((((syncM ((appendM ((dropM d (fnew n))).2 (fnew n) (sealL l))).2 (fnew n))).2).2).2).2).1))
 (h23 : (((((((syncM ((appendM ((dropM d (n ++ (⟨#[45, 110, 101, 119]⟩ : ByteArray)))).2 (n ++ (⟨#[45, 110, 101, 119]⟩ : ByteArray)) (sealL l))).2 (n ++ (⟨#[45, 110, 101, 119]⟩ : ByteArray)))).2).2).2).2).2 = ((((((syncM ((appendM ((dropM d (fnew n))).2 (fnew n) (sealL l))).2 (fnew n))).2).2).2).2).2)) :
 ∃ ps, runO Tryd.prog DF gSv 100 Tryd.f8 (dkBt d, svX n l) [.is true, .is false, .is false, .roll, .is false, .is false, .is true, .is false] (eV e) (dkBt (syncM (appendM (dropM d (fnew n)).2 (fnew n) (sealL l)).2 (fnew n)).2) = some ps ∧ AllQ ps := ⟨_, by kernel_rfl, allQ_cons h1 (allQ_cons h2 (allQ_cons h3 (allQ_cons h4 (allQ_cons h5 (allQ_cons (show ((0 : Int) ≤ (0 : Int)) from by decide) (allQ_cons h6 (allQ_cons (show ((n ++ (⟨#[45, 110, 101, 119]⟩ : ByteArray)) = (n ++ (⟨#[45, 110, 101, 119]⟩ : ByteArray))) from rfl) (allQ_cons (show ((d).1 = (d).1) from rfl) (allQ_cons (show (((d).2).1 = ((d).2).1) from rfl) (allQ_cons (show ((((d).2).2).1 = (((d).2).2).1) from rfl) (allQ_cons (show (((((d).2).2).2).1 = ((((d).2).2).2).1) from rfl) (allQ_cons (show (((((d).2).2).2).2 = ((((d).2).2).2).2) from rfl) (allQ_cons h7 (allQ_cons h8 (allQ_cons h9 (allQ_cons (show ((0 : Int) ≤ (Go.IntKind.wrap Go.IntKind.i64 ((0 : Int) + (1 : Int)))) from by decide) (allQ_cons h10 (allQ_cons (show (l = l) from rfl) (allQ_cons (show ((n ++ (⟨#[45, 110, 101, 119]⟩ : ByteArray)) = (n ++ (⟨#[45, 110, 101, 119]⟩ : ByteArray))) from rfl) (allQ_cons (show ((((dropM d (n ++ (⟨#[45, 110, 101, 119]⟩ : ByteArray)))).2).1 = (((dropM d (n ++ (⟨#[45, 110, 101, 119]⟩ : ByteArray)))).2).1) from rfl) (allQ_cons (show (((((dropM d (n ++ (⟨#[45, 110, 101, 119]⟩ : ByteArray)))).2).2).1 = ((((dropM d (n ++ (⟨#[45, 110, 101, 119]⟩ : ByteArray)))).2).2).1) from rfl) (allQ_cons (show ((((((dropM d (n ++ (⟨#[45, 110, 101, 119]⟩ : ByteArray)))).2).2).2).1 = (((((dropM d (n ++ (⟨#[45, 110, 101, 119]⟩ : ByteArray)))).2).2).2).1) from rfl) (allQ_cons (show (((((((dropM d (n ++ (⟨#[45, 110, 101, 119]⟩ : ByteArray)))).2).2).2).2).1 = ((((((dropM d (n ++ (⟨#[45, 110, 101, 119]⟩ : ByteArray)))).2).2).2).2).1) from rfl) (allQ_cons (show (((((((dropM d (n ++ (⟨#[45, 110, 101, 119]⟩ : ByteArray)))).2).2).2).2).2 = ((((((dropM d (n ++ (⟨#[45, 110, 101, 119]⟩ : ByteArray)))).2).2).2).2).2) from rfl) (allQ_cons h11 (allQ_cons h8 (allQ_cons h12 (allQ_cons h13 (allQ_cons (show ((0 : Int) ≤ (Go.IntKind.wrap Go.IntKind.i64 ((Go.IntKind.wrap Go.IntKind.i64 ((0 : Int) + (1 : Int))) + (1 : Int)))) from by decide) (allQ_cons h14 (allQ_cons (show ((n ++ (⟨#[45, 110, 101, 119]⟩ : ByteArray)) = (n ++ (⟨#[45, 110, 101, 119]⟩ : ByteArray))) from rfl) (allQ_cons (show ((((appendM ((dropM d (n ++ (⟨#[45, 110, 101, 119]⟩ : ByteArray)))).2 (n ++ (⟨#[45, 110, 101, 119]⟩ : ByteArray)) (sealL l))).2).1 = (((appendM ((dropM d (n ++ (⟨#[45, 110, 101, 119]⟩ : ByteArray)))).2 (n ++ (⟨#[45, 110, 101, 119]⟩ : ByteArray)) (sealL l))).2).1) from rfl) (allQ_cons (show (((((appendM ((dropM d (n ++ (⟨#[45, 110, 101, 119]⟩ : ByteArray)))).2 (n ++ (⟨#[45, 110, 101, 119]⟩ : ByteArray)) (sealL l))).2).2).1 = ((((appendM ((dropM d (n ++ (⟨#[45, 110, 101, 119]⟩ : ByteArray)))).2 (n ++ (⟨#[45, 110, 101, 119]⟩ : ByteArray)) (sealL l))).2).2).1) from rfl) (allQ_cons (show ((((((appendM ((dropM d (n ++ (⟨#[45, 110, 101, 119]⟩ : ByteArray)))).2 (n ++ (⟨#[45, 110, 101, 119]⟩ : ByteArray)) (sealL l))).2).2).2).1 = (((((appendM ((dropM d (n ++ (⟨#[45, 110, 101, 119]⟩ : ByteArray)))).2 (n ++ (⟨#[45, 110, 101, 119]⟩ : ByteArray)) (sealL l))).2).2).2).1) from rfl) (allQ_cons (show (((((((appendM ((dropM d (n ++ (⟨#[45, 110, 101, 119]⟩ : ByteArray)))).2 (n ++ (⟨#[45, 110, 101, 119]⟩ : ByteArray)) (sealL l))).2).2).2).2).1 = ((((((appendM ((dropM d (n ++ (⟨#[45, 110, 101, 119]⟩ : ByteArray)))).2 (n ++ (⟨#[45, 110, 101, 119]⟩ : ByteArray)) (sealL l))).2).2).2).2).1) from rfl) (allQ_cons (show (((((((appendM ((dropM d (n ++ (⟨#[45, 110, 101, 119]⟩ : ByteArray)))).2 (n ++ (⟨#[45, 110, 101, 119]⟩ : ByteArray)) (sealL l))).2).2).2).2).2 = ((((((appendM ((dropM d (n ++ (⟨#[45, 110, 101, 119]⟩ : ByteArray)))).2 (n ++ (⟨#[45, 110, 101, 119]⟩ : ByteArray)) (sealL l))).2).2).2).2).2) from rfl) (allQ_cons h15 (allQ_cons h8 (allQ_cons h16 (allQ_cons h17 (allQ_cons h18 (allQ_cons h19 (allQ_cons h20 (allQ_cons h21 (allQ_cons h22 (allQ_cons h23 (allQ_nil)))))))))))))))))))))))))))))))))))))))))))))))⟩
theorem sv_e3 (n : ByteArray) (l : List Int) (d : DkT) (e : Int)
 (h1 : ((rightB n) = true))
 (h2 : ((ByteArray.size n) ≤ (9223372036854775807 : Nat)))
 (h3 : ((decide ((((ByteArray.size n) : Nat) : Int) > (20 : Int))) = false))
 (h4 : ((decide ((((List.length l) : Nat) : Int) > (65536 : Int))) = false))
 (h5 : (((((ByteArray.size n) + (4 : Nat)) : Nat) : Int) ≤ (9223372036854775807 : Int)))
 (h6 : ((0 : Int) < (((4 : Nat) : Nat) : Int)))
 (h7 : (DkOK d))
 (h8 : ((ByteArray.size (n ++ (⟨#[45, 110, 101, 119]⟩ : ByteArray))) ≤ (9223372036854775807 : Nat)))
 (h9 : (((sv1E d (n ++ (⟨#[45, 110, 101, 119]⟩ : ByteArray))) != (0 : Int)) = false))
 (h10 : ((Go.IntKind.wrap Go.IntKind.i64 ((0 : Int) + (1 : Int))) < (((4 : Nat) : Nat) : Int)))
 (h11 : (DkOK ((dropM d (n ++ (⟨#[45, 110, 101, 119]⟩ : ByteArray)))).2))
 (h12 : ((List.length l) ≤ (65536 : Nat)))
 (h13 : ((((appendM ((dropM d (n ++ (⟨#[45, 110, 101, 119]⟩ : ByteArray)))).2 (n ++ (⟨#[45, 110, 101, 119]⟩ : ByteArray)) (sealL l))).1 != (0 : Int)) = false))
 (h14 : ((Go.IntKind.wrap Go.IntKind.i64 ((Go.IntKind.wrap Go.IntKind.i64 ((0 : Int) + (1 : Int))) + (1 : Int))) < (((4 : Nat) : Nat) : Int)))
 (h15 : (DkOK ((appendM ((dropM d (n ++ (⟨#[45, 110, 101, 119]⟩ : ByteArray)))).2 (n ++ (⟨#[45, 110, 101, 119]⟩ : ByteArray)) (sealL l))).2))
 (h16 : ((((syncM ((appendM ((dropM d (n ++ (⟨#[45, 110, 101, 119]⟩ : ByteArray)))).2 (n ++ (⟨#[45, 110, 101, 119]⟩ : ByteArray)) (sealL l))).2 (n ++ (⟨#[45, 110, 101, 119]⟩ : ByteArray)))).1 != (0 : Int)) = true))
 (h17 : ((((syncM ((appendM ((dropM d (n ++ (⟨#[45, 110, 101, 119]⟩ : ByteArray)))).2 (n ++ (⟨#[45, 110, 101, 119]⟩ : ByteArray)) (sealL l))).2 (n ++ (⟨#[45, 110, 101, 119]⟩ : ByteArray)))).1 != (2 : Int)) = true))
 (h18 : (DkOK ((syncM ((appendM ((dropM d (n ++ (⟨#[45, 110, 101, 119]⟩ : ByteArray)))).2 (n ++ (⟨#[45, 110, 101, 119]⟩ : ByteArray)) (sealL l))).2 (n ++ (⟨#[45, 110, 101, 119]⟩ : ByteArray)))).2))
 (h19 : (((syncM ((appendM ((dropM d (n ++ (⟨#[45, 110, 101, 119]⟩ : ByteArray)))).2 (n ++ (⟨#[45, 110, 101, 119]⟩ : ByteArray)) (sealL l))).2 (n ++ (⟨#[45, 110, 101, 119]⟩ : ByteArray)))).1 = e))
 (h20 : ((((dropM ((syncM ((appendM ((dropM d (n ++ (⟨#[45, 110, 101, 119]⟩ : ByteArray)))).2 (n ++ (⟨#[45, 110, 101, 119]⟩ : ByteArray)) (sealL l))).2 (n ++ (⟨#[45, 110, 101, 119]⟩ : ByteArray)))).2 (n ++ (⟨#[45, 110, 101, 119]⟩ : ByteArray)))).2).1 = (((dropM ((syncM ((appendM ((dropM d (fnew n))).2 (fnew n) (sealL l))).2 (fnew n))).2 (fnew n))).2).1))
 (h21 : (((((dropM ((syncM ((appendM ((dropM d (n ++ (⟨#[45, 110, 101, 119]⟩ : ByteArray)))).2 (n ++ (⟨#[45, 110, 101, 119]⟩ : ByteArray)) (sealL l))).2 (n ++ (⟨#[45, 110, 101, 119]⟩ : ByteArray)))).2 (n ++ (⟨#[45, 110, 101, 119]⟩ : ByteArray)))).2).2).1 = ((((dropM ((syncM ((appendM ((dropM d (fnew n))).2 (fnew n) (sealL l))).2 (fnew n))).2 (fnew n))).2).2).1))
 (h22 : ((((((dropM ((syncM ((appendM ((dropM d (n ++ (⟨#[45, 110, 101, 119]⟩ : ByteArray)))).2 (n ++ (⟨#[45, 110, 101, 119]⟩ : ByteArray)) (sealL l))).2 (n ++ (⟨#[45, 110, 101, 119]⟩ : ByteArray)))).2 (n ++ (⟨#[45, 110, 101, 119]⟩ : ByteArray)))).2).2).2).1 = (((((dropM ((syncM ((appendM ((dropM d (fnew n))).2 (fnew n) (sealL l))).2 (fnew n))).2 (fnew n))).2).2).2).1))
 (h23 : (((((((dropM ((syncM ((appendM ((dropM d (n ++ (⟨#[45, 110, 101, 119]⟩ : ByteArray)))).2 (n ++ (⟨#[45, 110, 101, 119]⟩ : ByteArray)) (sealL l))).2 (n ++ (⟨#[45, 110, 101, 119]⟩ : ByteArray)))).2 (n ++ (⟨#[45, 110, 101, 119]⟩ : ByteArray)))).2).2).2).2).1 = ((((((dropM ((syncM ((appendM ((dropM d (fnew n))).2 (fnew n) (sealL l))).2 (fnew n))).2 (fnew n))).2).2).2).2).1))
 (h24 : (((((((dropM ((syncM ((appendM ((dropM d (n ++ (⟨#[45, 110, 101, 119]⟩ : ByteArray)))).2 (n ++ (⟨#[45, 110, 101, 119]⟩ : ByteArray)) (sealL l))).2 (n ++ (⟨#[45, 110, 101, 119]⟩ : ByteArray)))).2 (n ++ (⟨#[45, 110, 101, 119]⟩ : ByteArray)))).2).2).2).2).2 = ((((((dropM ((syncM ((appendM ((dropM d (fnew n))).2 (fnew n) (sealL l))).2 (fnew n))).2 (fnew n))).2).2).2).2).2)) :
 ∃ ps, runO Tryd.prog DF gSv 100 Tryd.f8 (dkBt d, svX n l) [.is true, .is false, .is false, .roll, .is false, .is false, .is true, .is true] (eV e) (dkBt (dropM (syncM (appendM (dropM d (fnew n)).2 (fnew n) (sealL l)).2 (fnew n)).2 (fnew n)).2) = some ps ∧ AllQ ps := ⟨_, by kernel_rfl, allQ_cons h1 (allQ_cons h2 (allQ_cons h3 (allQ_cons h4 (allQ_cons h5 (allQ_cons (show ((0 : Int) ≤ (0 : Int)) from by decide) (allQ_cons h6 (allQ_cons (show ((n ++ (⟨#[45, 110, 101, 119]⟩ : ByteArray)) = (n ++ (⟨#[45, 110, 101, 119]⟩ : ByteArray))) from rfl) (allQ_cons (show ((d).1 = (d).1) from rfl) (allQ_cons (show (((d).2).1 = ((d).2).1) from rfl) (allQ_cons (show ((((d).2).2).1 = (((d).2).2).1) from rfl) (allQ_cons (show (((((d).2).2).2).1 = ((((d).2).2).2).1) from rfl) (allQ_cons (show (((((d).2).2).2).2 = ((((d).2).2).2).2) from rfl) (allQ_cons h7 (allQ_cons h8 (allQ_cons h9 (allQ_cons (show ((0 : Int) ≤ (Go.IntKind.wrap Go.IntKind.i64 ((0 : Int) + (1 : Int)))) from by decide) (allQ_cons h10 (allQ_cons (show (l = l) from rfl) (allQ_cons (show ((n ++ (⟨#[45, 110, 101, 119]⟩ : ByteArray)) = (n ++ (⟨#[45, 110, 101, 119]⟩ : ByteArray))) from rfl) (allQ_cons (show ((((dropM d (n ++ (⟨#[45, 110, 101, 119]⟩ : ByteArray)))).2).1 = (((dropM d (n ++ (⟨#[45, 110, 101, 119]⟩ : ByteArray)))).2).1) from rfl) (allQ_cons (show (((((dropM d (n ++ (⟨#[45, 110, 101, 119]⟩ : ByteArray)))).2).2).1 = ((((dropM d (n ++ (⟨#[45, 110, 101, 119]⟩ : ByteArray)))).2).2).1) from rfl) (allQ_cons (show ((((((dropM d (n ++ (⟨#[45, 110, 101, 119]⟩ : ByteArray)))).2).2).2).1 = (((((dropM d (n ++ (⟨#[45, 110, 101, 119]⟩ : ByteArray)))).2).2).2).1) from rfl) (allQ_cons (show (((((((dropM d (n ++ (⟨#[45, 110, 101, 119]⟩ : ByteArray)))).2).2).2).2).1 = ((((((dropM d (n ++ (⟨#[45, 110, 101, 119]⟩ : ByteArray)))).2).2).2).2).1) from rfl) (allQ_cons (show (((((((dropM d (n ++ (⟨#[45, 110, 101, 119]⟩ : ByteArray)))).2).2).2).2).2 = ((((((dropM d (n ++ (⟨#[45, 110, 101, 119]⟩ : ByteArray)))).2).2).2).2).2) from rfl) (allQ_cons h11 (allQ_cons h8 (allQ_cons h12 (allQ_cons h13 (allQ_cons (show ((0 : Int) ≤ (Go.IntKind.wrap Go.IntKind.i64 ((Go.IntKind.wrap Go.IntKind.i64 ((0 : Int) + (1 : Int))) + (1 : Int)))) from by decide) (allQ_cons h14 (allQ_cons (show ((n ++ (⟨#[45, 110, 101, 119]⟩ : ByteArray)) = (n ++ (⟨#[45, 110, 101, 119]⟩ : ByteArray))) from rfl) (allQ_cons (show ((((appendM ((dropM d (n ++ (⟨#[45, 110, 101, 119]⟩ : ByteArray)))).2 (n ++ (⟨#[45, 110, 101, 119]⟩ : ByteArray)) (sealL l))).2).1 = (((appendM ((dropM d (n ++ (⟨#[45, 110, 101, 119]⟩ : ByteArray)))).2 (n ++ (⟨#[45, 110, 101, 119]⟩ : ByteArray)) (sealL l))).2).1) from rfl) (allQ_cons (show (((((appendM ((dropM d (n ++ (⟨#[45, 110, 101, 119]⟩ : ByteArray)))).2 (n ++ (⟨#[45, 110, 101, 119]⟩ : ByteArray)) (sealL l))).2).2).1 = ((((appendM ((dropM d (n ++ (⟨#[45, 110, 101, 119]⟩ : ByteArray)))).2 (n ++ (⟨#[45, 110, 101, 119]⟩ : ByteArray)) (sealL l))).2).2).1) from rfl) (allQ_cons (show ((((((appendM ((dropM d (n ++ (⟨#[45, 110, 101, 119]⟩ : ByteArray)))).2 (n ++ (⟨#[45, 110, 101, 119]⟩ : ByteArray)) (sealL l))).2).2).2).1 = (((((appendM ((dropM d (n ++ (⟨#[45, 110, 101, 119]⟩ : ByteArray)))).2 (n ++ (⟨#[45, 110, 101, 119]⟩ : ByteArray)) (sealL l))).2).2).2).1) from rfl) (allQ_cons (show (((((((appendM ((dropM d (n ++ (⟨#[45, 110, 101, 119]⟩ : ByteArray)))).2 (n ++ (⟨#[45, 110, 101, 119]⟩ : ByteArray)) (sealL l))).2).2).2).2).1 = ((((((appendM ((dropM d (n ++ (⟨#[45, 110, 101, 119]⟩ : ByteArray)))).2 (n ++ (⟨#[45, 110, 101, 119]⟩ : ByteArray)) (sealL l))).2).2).2).2).1) from rfl) (allQ_cons (show (((((((appendM ((dropM d (n ++ (⟨#[45, 110, 101, 119]⟩ : ByteArray)))).2 (n ++ (⟨#[45, 110, 101, 119]⟩ : ByteArray)) (sealL l))).2).2).2).2).2 = ((((((appendM ((dropM d (n ++ (⟨#[45, 110, 101, 119]⟩ : ByteArray)))).2 (n ++ (⟨#[45, 110, 101, 119]⟩ : ByteArray)) (sealL l))).2).2).2).2).2) from rfl) (allQ_cons h15 (allQ_cons h8 (allQ_cons h16 (allQ_cons h17 (allQ_cons (show ((n ++ (⟨#[45, 110, 101, 119]⟩ : ByteArray)) = (n ++ (⟨#[45, 110, 101, 119]⟩ : ByteArray))) from rfl) (allQ_cons (show ((((syncM ((appendM ((dropM d (n ++ (⟨#[45, 110, 101, 119]⟩ : ByteArray)))).2 (n ++ (⟨#[45, 110, 101, 119]⟩ : ByteArray)) (sealL l))).2 (n ++ (⟨#[45, 110, 101, 119]⟩ : ByteArray)))).2).1 = (((syncM ((appendM ((dropM d (n ++ (⟨#[45, 110, 101, 119]⟩ : ByteArray)))).2 (n ++ (⟨#[45, 110, 101, 119]⟩ : ByteArray)) (sealL l))).2 (n ++ (⟨#[45, 110, 101, 119]⟩ : ByteArray)))).2).1) from rfl) (allQ_cons (show (((((syncM ((appendM ((dropM d (n ++ (⟨#[45, 110, 101, 119]⟩ : ByteArray)))).2 (n ++ (⟨#[45, 110, 101, 119]⟩ : ByteArray)) (sealL l))).2 (n ++ (⟨#[45, 110, 101, 119]⟩ : ByteArray)))).2).2).1 = ((((syncM ((appendM ((dropM d (n ++ (⟨#[45, 110, 101, 119]⟩ : ByteArray)))).2 (n ++ (⟨#[45, 110, 101, 119]⟩ : ByteArray)) (sealL l))).2 (n ++ (⟨#[45, 110, 101, 119]⟩ : ByteArray)))).2).2).1) from rfl) (allQ_cons (show ((((((syncM ((appendM ((dropM d (n ++ (⟨#[45, 110, 101, 119]⟩ : ByteArray)))).2 (n ++ (⟨#[45, 110, 101, 119]⟩ : ByteArray)) (sealL l))).2 (n ++ (⟨#[45, 110, 101, 119]⟩ : ByteArray)))).2).2).2).1 = (((((syncM ((appendM ((dropM d (n ++ (⟨#[45, 110, 101, 119]⟩ : ByteArray)))).2 (n ++ (⟨#[45, 110, 101, 119]⟩ : ByteArray)) (sealL l))).2 (n ++ (⟨#[45, 110, 101, 119]⟩ : ByteArray)))).2).2).2).1) from rfl) (allQ_cons (show (((((((syncM ((appendM ((dropM d (n ++ (⟨#[45, 110, 101, 119]⟩ : ByteArray)))).2 (n ++ (⟨#[45, 110, 101, 119]⟩ : ByteArray)) (sealL l))).2 (n ++ (⟨#[45, 110, 101, 119]⟩ : ByteArray)))).2).2).2).2).1 = ((((((syncM ((appendM ((dropM d (n ++ (⟨#[45, 110, 101, 119]⟩ : ByteArray)))).2 (n ++ (⟨#[45, 110, 101, 119]⟩ : ByteArray)) (sealL l))).2 (n ++ (⟨#[45, 110, 101, 119]⟩ : ByteArray)))).2).2).2).2).1) from rfl) (allQ_cons (show (((((((syncM ((appendM ((dropM d (n ++ (⟨#[45, 110, 101, 119]⟩ : ByteArray)))).2 (n ++ (⟨#[45, 110, 101, 119]⟩ : ByteArray)) (sealL l))).2 (n ++ (⟨#[45, 110, 101, 119]⟩ : ByteArray)))).2).2).2).2).2 = ((((((syncM ((appendM ((dropM d (n ++ (⟨#[45, 110, 101, 119]⟩ : ByteArray)))).2 (n ++ (⟨#[45, 110, 101, 119]⟩ : ByteArray)) (sealL l))).2 (n ++ (⟨#[45, 110, 101, 119]⟩ : ByteArray)))).2).2).2).2).2) from rfl) (allQ_cons h18 (allQ_cons h8 (allQ_cons h19 (allQ_cons h20 (allQ_cons h21 (allQ_cons h22 (allQ_cons h23 (allQ_cons h24 (allQ_nil)))))))))))))))))))))))))))))))))))))))))))))))))))))))⟩
theorem sv_d4 (n : ByteArray) (l : List Int) (d : DkT) (e : Int)
 (h1 : ((rightB n) = true))
 (h2 : ((ByteArray.size n) ≤ (9223372036854775807 : Nat)))
 (h3 : ((decide ((((ByteArray.size n) : Nat) : Int) > (20 : Int))) = false))
 (h4 : ((decide ((((List.length l) : Nat) : Int) > (65536 : Int))) = false))
 (h5 : (((((ByteArray.size n) + (4 : Nat)) : Nat) : Int) ≤ (9223372036854775807 : Int)))
 (h6 : ((0 : Int) < (((4 : Nat) : Nat) : Int)))
 (h7 : (DkOK d))
 (h8 : ((ByteArray.size (n ++ (⟨#[45, 110, 101, 119]⟩ : ByteArray))) ≤ (9223372036854775807 : Nat)))
 (h9 : (((sv1E d (n ++ (⟨#[45, 110, 101, 119]⟩ : ByteArray))) != (0 : Int)) = false))
 (h10 : ((Go.IntKind.wrap Go.IntKind.i64 ((0 : Int) + (1 : Int))) < (((4 : Nat) : Nat) : Int)))
 (h11 : (DkOK ((dropM d (n ++ (⟨#[45, 110, 101, 119]⟩ : ByteArray)))).2))
 (h12 : ((List.length l) ≤ (65536 : Nat)))
 (h13 : ((((appendM ((dropM d (n ++ (⟨#[45, 110, 101, 119]⟩ : ByteArray)))).2 (n ++ (⟨#[45, 110, 101, 119]⟩ : ByteArray)) (sealL l))).1 != (0 : Int)) = false))
 (h14 : ((Go.IntKind.wrap Go.IntKind.i64 ((Go.IntKind.wrap Go.IntKind.i64 ((0 : Int) + (1 : Int))) + (1 : Int))) < (((4 : Nat) : Nat) : Int)))
 (h15 : (DkOK ((appendM ((dropM d (n ++ (⟨#[45, 110, 101, 119]⟩ : ByteArray)))).2 (n ++ (⟨#[45, 110, 101, 119]⟩ : ByteArray)) (sealL l))).2))
 (h16 : ((((syncM ((appendM ((dropM d (n ++ (⟨#[45, 110, 101, 119]⟩ : ByteArray)))).2 (n ++ (⟨#[45, 110, 101, 119]⟩ : ByteArray)) (sealL l))).2 (n ++ (⟨#[45, 110, 101, 119]⟩ : ByteArray)))).1 != (0 : Int)) = false))
 (h17 : ((Go.IntKind.wrap Go.IntKind.i64 ((Go.IntKind.wrap Go.IntKind.i64 ((Go.IntKind.wrap Go.IntKind.i64 ((0 : Int) + (1 : Int))) + (1 : Int))) + (1 : Int))) < (((4 : Nat) : Nat) : Int)))
 (h18 : (DkOK ((syncM ((appendM ((dropM d (n ++ (⟨#[45, 110, 101, 119]⟩ : ByteArray)))).2 (n ++ (⟨#[45, 110, 101, 119]⟩ : ByteArray)) (sealL l))).2 (n ++ (⟨#[45, 110, 101, 119]⟩ : ByteArray)))).2))
 (h19 : ((((moveM ((syncM ((appendM ((dropM d (n ++ (⟨#[45, 110, 101, 119]⟩ : ByteArray)))).2 (n ++ (⟨#[45, 110, 101, 119]⟩ : ByteArray)) (sealL l))).2 (n ++ (⟨#[45, 110, 101, 119]⟩ : ByteArray)))).2 (n ++ (⟨#[45, 110, 101, 119]⟩ : ByteArray)) n)).1 != (0 : Int)) = true))
 (h20 : ((((moveM ((syncM ((appendM ((dropM d (n ++ (⟨#[45, 110, 101, 119]⟩ : ByteArray)))).2 (n ++ (⟨#[45, 110, 101, 119]⟩ : ByteArray)) (sealL l))).2 (n ++ (⟨#[45, 110, 101, 119]⟩ : ByteArray)))).2 (n ++ (⟨#[45, 110, 101, 119]⟩ : ByteArray)) n)).1 != (2 : Int)) = false))
 (h21 : (((moveM ((syncM ((appendM ((dropM d (n ++ (⟨#[45, 110, 101, 119]⟩ : ByteArray)))).2 (n ++ (⟨#[45, 110, 101, 119]⟩ : ByteArray)) (sealL l))).2 (n ++ (⟨#[45, 110, 101, 119]⟩ : ByteArray)))).2 (n ++ (⟨#[45, 110, 101, 119]⟩ : ByteArray)) n)).1 = e))
 (h22 : ((((moveM ((syncM ((appendM ((dropM d (n ++ (⟨#[45, 110, 101, 119]⟩ : ByteArray)))).2 (n ++ (⟨#[45, 110, 101, 119]⟩ : ByteArray)) (sealL l))).2 (n ++ (⟨#[45, 110, 101, 119]⟩ : ByteArray)))).2 (n ++ (⟨#[45, 110, 101, 119]⟩ : ByteArray)) n)).2).1 = (((moveM ((syncM ((appendM ((dropM d (fnew n))).2 (fnew n) (sealL l))).2 (fnew n))).2 (fnew n) n)).2).1))
 (h23 : (((((moveM ((syncM ((appendM ((dropM d (n ++ (⟨#[45, 110, 101, 119]⟩ : ByteArray)))).2 (n ++ (⟨#[45, 110, 101, 119]⟩ : ByteArray)) (sealL l))).2 (n ++ (⟨#[45, 110, 101, 119]⟩ : ByteArray)))).2 (n ++ (⟨#[45, 110, 101, 119]⟩ : ByteArray)) n)).2).2).1 = ((((moveM ((syncM ((appendM ((dropM d (fnew n))).2 (fnew n) (sealL l))).2 (fnew n))).2 (fnew n) n)).2).2).1))
 (h24 : ((((((moveM ((syncM ((appendM ((dropM d (n ++ (⟨#[45, 110, 101, 119]⟩ : ByteArray)))).2 (n ++ (⟨#[45, 110, 101, 119]⟩ : ByteArray)) (sealL l))).2 (n ++ (⟨#[45, 110, 101, 119]⟩ : ByteArray)))).2 (n ++ (⟨#[45, 110, 101, 119]⟩ : ByteArray)) n)).2).2).2).1 = (((((moveM ((syncM ((appendM ((dropM d (fnew n))).2 (fnew n) (sealL l))).2 (fnew n))).2 (fnew n) n)).2).2).2).1))
 (h25 : (((((((moveM ((syncM ((appendM ((dropM d (n ++ (⟨#[45, 110, 101, 119]⟩ : ByteArray)))).2 (n ++ (⟨#[45, 110, 101, 119]⟩ : ByteArray)) (sealL l))).2 (n ++ (⟨#[45, 110, 101, 119]⟩ : ByteArray)))).2 (n ++ (⟨#[45, 110, 101, 119]⟩ : ByteArray)) n)).2).2).2).2).1 = ((((((moveM ((syncM ((appendM ((dropM d (fnew n))).2 (fnew n) (sealL l))).2 (fnew n))).2 (fnew n) n)).2).2).2).2).1))
 (h26 : (((((((moveM ((syncM ((appendM ((dropM d (n ++ (⟨#[45, 110, 101, 119]⟩ : ByteArray)))).2 (n ++ (⟨#[45, 110, 101, 119]⟩ : ByteArray)) (sealL l))).2 (n ++ (⟨#[45, 110, 101, 119]⟩ : ByteArray)))).2 (n ++ (⟨#[45, 110, 101, 119]⟩ : ByteArray)) n)).2).2).2).2).2 = ((((((moveM ((syncM ((appendM ((dropM d (fnew n))).2 (fnew n) (sealL l))).2 (fnew n))).2 (fnew n) n)).2).2).2).2).2)) :
 ∃ ps, runO Tryd.prog DF gSv 100 Tryd.f8 (dkBt d, svX n l) [.is true, .is false, .is false, .roll, .is false, .is false, .is false, .is true, .is false] (eV e) (dkBt (moveM (syncM (appendM (dropM d (fnew n)).2 (fnew n) (sealL l)).2 (fnew n)).2 (fnew n) n).2) = some ps ∧ AllQ ps := ⟨_, by kernel_rfl, allQ_cons h1 (allQ_cons h2 (allQ_cons h3 (allQ_cons h4 (allQ_cons h5 (allQ_cons (show ((0 : Int) ≤ (0 : Int)) from by decide) (allQ_cons h6 (allQ_cons (show ((n ++ (⟨#[45, 110, 101, 119]⟩ : ByteArray)) = (n ++ (⟨#[45, 110, 101, 119]⟩ : ByteArray))) from rfl) (allQ_cons (show ((d).1 = (d).1) from rfl) (allQ_cons (show (((d).2).1 = ((d).2).1) from rfl) (allQ_cons (show ((((d).2).2).1 = (((d).2).2).1) from rfl) (allQ_cons (show (((((d).2).2).2).1 = ((((d).2).2).2).1) from rfl) (allQ_cons (show (((((d).2).2).2).2 = ((((d).2).2).2).2) from rfl) (allQ_cons h7 (allQ_cons h8 (allQ_cons h9 (allQ_cons (show ((0 : Int) ≤ (Go.IntKind.wrap Go.IntKind.i64 ((0 : Int) + (1 : Int)))) from by decide) (allQ_cons h10 (allQ_cons (show (l = l) from rfl) (allQ_cons (show ((n ++ (⟨#[45, 110, 101, 119]⟩ : ByteArray)) = (n ++ (⟨#[45, 110, 101, 119]⟩ : ByteArray))) from rfl) (allQ_cons (show ((((dropM d (n ++ (⟨#[45, 110, 101, 119]⟩ : ByteArray)))).2).1 = (((dropM d (n ++ (⟨#[45, 110, 101, 119]⟩ : ByteArray)))).2).1) from rfl) (allQ_cons (show (((((dropM d (n ++ (⟨#[45, 110, 101, 119]⟩ : ByteArray)))).2).2).1 = ((((dropM d (n ++ (⟨#[45, 110, 101, 119]⟩ : ByteArray)))).2).2).1) from rfl) (allQ_cons (show ((((((dropM d (n ++ (⟨#[45, 110, 101, 119]⟩ : ByteArray)))).2).2).2).1 = (((((dropM d (n ++ (⟨#[45, 110, 101, 119]⟩ : ByteArray)))).2).2).2).1) from rfl) (allQ_cons (show (((((((dropM d (n ++ (⟨#[45, 110, 101, 119]⟩ : ByteArray)))).2).2).2).2).1 = ((((((dropM d (n ++ (⟨#[45, 110, 101, 119]⟩ : ByteArray)))).2).2).2).2).1) from rfl) (allQ_cons (show (((((((dropM d (n ++ (⟨#[45, 110, 101, 119]⟩ : ByteArray)))).2).2).2).2).2 = ((((((dropM d (n ++ (⟨#[45, 110, 101, 119]⟩ : ByteArray)))).2).2).2).2).2) from rfl) (allQ_cons h11 (allQ_cons h8 (allQ_cons h12 (allQ_cons h13 (allQ_cons (show ((0 : Int) ≤ (Go.IntKind.wrap Go.IntKind.i64 ((Go.IntKind.wrap Go.IntKind.i64 ((0 : Int) + (1 : Int))) + (1 : Int)))) from by decide) (allQ_cons h14 (allQ_cons (show ((n ++ (⟨#[45, 110, 101, 119]⟩ : ByteArray)) = (n ++ (⟨#[45, 110, 101, 119]⟩ : ByteArray))) from rfl) (allQ_cons (show ((((appendM ((dropM d (n ++ (⟨#[45, 110, 101, 119]⟩ : ByteArray)))).2 (n ++ (⟨#[45, 110, 101, 119]⟩ : ByteArray)) (sealL l))).2).1 = (((appendM ((dropM d (n ++ (⟨#[45, 110, 101, 119]⟩ : ByteArray)))).2 (n ++ (⟨#[45, 110, 101, 119]⟩ : ByteArray)) (sealL l))).2).1) from rfl) (allQ_cons (show (((((appendM ((dropM d (n ++ (⟨#[45, 110, 101, 119]⟩ : ByteArray)))).2 (n ++ (⟨#[45, 110, 101, 119]⟩ : ByteArray)) (sealL l))).2).2).1 = ((((appendM ((dropM d (n ++ (⟨#[45, 110, 101, 119]⟩ : ByteArray)))).2 (n ++ (⟨#[45, 110, 101, 119]⟩ : ByteArray)) (sealL l))).2).2).1) from rfl) (allQ_cons (show ((((((appendM ((dropM d (n ++ (⟨#[45, 110, 101, 119]⟩ : ByteArray)))).2 (n ++ (⟨#[45, 110, 101, 119]⟩ : ByteArray)) (sealL l))).2).2).2).1 = (((((appendM ((dropM d (n ++ (⟨#[45, 110, 101, 119]⟩ : ByteArray)))).2 (n ++ (⟨#[45, 110, 101, 119]⟩ : ByteArray)) (sealL l))).2).2).2).1) from rfl) (allQ_cons (show (((((((appendM ((dropM d (n ++ (⟨#[45, 110, 101, 119]⟩ : ByteArray)))).2 (n ++ (⟨#[45, 110, 101, 119]⟩ : ByteArray)) (sealL l))).2).2).2).2).1 = ((((((appendM ((dropM d (n ++ (⟨#[45, 110, 101, 119]⟩ : ByteArray)))).2 (n ++ (⟨#[45, 110, 101, 119]⟩ : ByteArray)) (sealL l))).2).2).2).2).1) from rfl) (allQ_cons (show (((((((appendM ((dropM d (n ++ (⟨#[45, 110, 101, 119]⟩ : ByteArray)))).2 (n ++ (⟨#[45, 110, 101, 119]⟩ : ByteArray)) (sealL l))).2).2).2).2).2 = ((((((appendM ((dropM d (n ++ (⟨#[45, 110, 101, 119]⟩ : ByteArray)))).2 (n ++ (⟨#[45, 110, 101, 119]⟩ : ByteArray)) (sealL l))).2).2).2).2).2) from rfl) (allQ_cons h15 (allQ_cons h8 (allQ_cons h16 (allQ_cons (show ((0 : Int) ≤ (Go.IntKind.wrap Go.IntKind.i64 ((Go.IntKind.wrap Go.IntKind.i64 ((Go.IntKind.wrap Go.IntKind.i64 ((0 : Int) + (1 : Int))) + (1 : Int))) + (1 : Int)))) from by decide) (allQ_cons h17 (allQ_cons (show ((n ++ (⟨#[45, 110, 101, 119]⟩ : ByteArray)) = (n ++ (⟨#[45, 110, 101, 119]⟩ : ByteArray))) from rfl) (allQ_cons (show (n = n) from rfl) (allQ_cons (show ((((syncM ((appendM ((dropM d (n ++ (⟨#[45, 110, 101, 119]⟩ : ByteArray)))).2 (n ++ (⟨#[45, 110, 101, 119]⟩ : ByteArray)) (sealL l))).2 (n ++ (⟨#[45, 110, 101, 119]⟩ : ByteArray)))).2).1 = (((syncM ((appendM ((dropM d (n ++ (⟨#[45, 110, 101, 119]⟩ : ByteArray)))).2 (n ++ (⟨#[45, 110, 101, 119]⟩ : ByteArray)) (sealL l))).2 (n ++ (⟨#[45, 110, 101, 119]⟩ : ByteArray)))).2).1) from rfl) (allQ_cons (show (((((syncM ((appendM ((dropM d (n ++ (⟨#[45, 110, 101, 119]⟩ : ByteArray)))).2 (n ++ (⟨#[45, 110, 101, 119]⟩ : ByteArray)) (sealL l))).2 (n ++ (⟨#[45, 110, 101, 119]⟩ : ByteArray)))).2).2).1 = ((((syncM ((appendM ((dropM d (n ++ (⟨#[45, 110, 101, 119]⟩ : ByteArray)))).2 (n ++ (⟨#[45, 110, 101, 119]⟩ : ByteArray)) (sealL l))).2 (n ++ (⟨#[45, 110, 101, 119]⟩ : ByteArray)))).2).2).1) from rfl) (allQ_cons (show ((((((syncM ((appendM ((dropM d (n ++ (⟨#[45, 110, 101, 119]⟩ : ByteArray)))).2 (n ++ (⟨#[45, 110, 101, 119]⟩ : ByteArray)) (sealL l))).2 (n ++ (⟨#[45, 110, 101, 119]⟩ : ByteArray)))).2).2).2).1 = (((((syncM ((appendM ((dropM d (n ++ (⟨#[45, 110, 101, 119]⟩ : ByteArray)))).2 (n ++ (⟨#[45, 110, 101, 119]⟩ : ByteArray)) (sealL l))).2 (n ++ (⟨#[45, 110, 101, 119]⟩ : ByteArray)))).2).2).2).1) from rfl) (allQ_cons (show (((((((syncM ((appendM ((dropM d (n ++ (⟨#[45, 110, 101, 119]⟩ : ByteArray)))).2 (n ++ (⟨#[45, 110, 101, 119]⟩ : ByteArray)) (sealL l))).2 (n ++ (⟨#[45, 110, 101, 119]⟩ : ByteArray)))).2).2).2).2).1 = ((((((syncM ((appendM ((dropM d (n ++ (⟨#[45, 110, 101, 119]⟩ : ByteArray)))).2 (n ++ (⟨#[45, 110, 101, 119]⟩ : ByteArray)) (sealL l))).2 (n ++ (⟨#[45, 110, 101, 119]⟩ : ByteArray)))).2).2).2).2).1) from rfl) (allQ_cons (show (((((((syncM ((appendM ((dropM d (n ++ (⟨#[45, 110, 101, 119]⟩ : ByteArray)))).2 (n ++ (⟨#[45, 110, 101, 119]⟩ : ByteArray)) (sealL l))).2 (n ++ (⟨#[45, 110, 101, 119]⟩ : ByteArray)))).2).2).2).2).2 = ((((((syncM ((appendM ((dropM d (n ++ (⟨#[45, 110, 101, 119]⟩ : ByteArray)))).2 (n ++ (⟨#[45, 110, 101, 119]⟩ : ByteArray)) (sealL l))).2 (n ++ (⟨#[45, 110, 101, 119]⟩ : ByteArray)))).2).2).2).2).2) from rfl) (allQ_cons h18 (allQ_cons h8 (allQ_cons h2 (allQ_cons h19 (allQ_cons h20 (allQ_cons h21 (allQ_cons h22 (allQ_cons h23 (allQ_cons h24 (allQ_cons h25 (allQ_cons h26 (allQ_nil))))))))))))))))))))))))))))))))))))))))))))))))))))))))))))⟩
theorem sv_e4 (n : ByteArray) (l : List Int) (d : DkT) (e : Int)
 (h1 : ((rightB n) = true))
 (h2 : ((ByteArray.size n) ≤ (9223372036854775807 : Nat)))
 (h3 : ((decide ((((ByteArray.size n) : Nat) : Int) > (20 : Int))) = false))
 (h4 : ((decide ((((List.length l) : Nat) : Int) > (65536 : Int))) = false))
 (h5 : (((((ByteArray.size n) + (4 : Nat)) : Nat) : Int) ≤ (9223372036854775807 : Int)))
 (h6 : ((0 : Int) < (((4 : Nat) : Nat) : Int)))
 (h7 : (DkOK d))
 (h8 : ((ByteArray.size (n ++ (⟨#[45, 110, 101, 119]⟩ : ByteArray))) ≤ (9223372036854775807 : Nat)))
 (h9 : (((sv1E d (n ++ (⟨#[45, 110, 101, 119]⟩ : ByteArray))) != (0 : Int)) = false))
 (h10 : ((Go.IntKind.wrap Go.IntKind.i64 ((0 : Int) + (1 : Int))) < (((4 : Nat) : Nat) : Int)))
 (h11 : (DkOK ((dropM d (n ++ (⟨#[45, 110, 101, 119]⟩ : ByteArray)))).2))
 (h12 : ((List.length l) ≤ (65536 : Nat)))
 (h13 : ((((appendM ((dropM d (n ++ (⟨#[45, 110, 101, 119]⟩ : ByteArray)))).2 (n ++ (⟨#[45, 110, 101, 119]⟩ : ByteArray)) (sealL l))).1 != (0 : Int)) = false))
 (h14 : ((Go.IntKind.wrap Go.IntKind.i64 ((Go.IntKind.wrap Go.IntKind.i64 ((0 : Int) + (1 : Int))) + (1 : Int))) < (((4 : Nat) : Nat) : Int)))
 (h15 : (DkOK ((appendM ((dropM d (n ++ (⟨#[45, 110, 101, 119]⟩ : ByteArray)))).2 (n ++ (⟨#[45, 110, 101, 119]⟩ : ByteArray)) (sealL l))).2))
 (h16 : ((((syncM ((appendM ((dropM d (n ++ (⟨#[45, 110, 101, 119]⟩ : ByteArray)))).2 (n ++ (⟨#[45, 110, 101, 119]⟩ : ByteArray)) (sealL l))).2 (n ++ (⟨#[45, 110, 101, 119]⟩ : ByteArray)))).1 != (0 : Int)) = false))
 (h17 : ((Go.IntKind.wrap Go.IntKind.i64 ((Go.IntKind.wrap Go.IntKind.i64 ((Go.IntKind.wrap Go.IntKind.i64 ((0 : Int) + (1 : Int))) + (1 : Int))) + (1 : Int))) < (((4 : Nat) : Nat) : Int)))
 (h18 : (DkOK ((syncM ((appendM ((dropM d (n ++ (⟨#[45, 110, 101, 119]⟩ : ByteArray)))).2 (n ++ (⟨#[45, 110, 101, 119]⟩ : ByteArray)) (sealL l))).2 (n ++ (⟨#[45, 110, 101, 119]⟩ : ByteArray)))).2))
 (h19 : ((((moveM ((syncM ((appendM ((dropM d (n ++ (⟨#[45, 110, 101, 119]⟩ : ByteArray)))).2 (n ++ (⟨#[45, 110, 101, 119]⟩ : ByteArray)) (sealL l))).2 (n ++ (⟨#[45, 110, 101, 119]⟩ : ByteArray)))).2 (n ++ (⟨#[45, 110, 101, 119]⟩ : ByteArray)) n)).1 != (0 : Int)) = true))
 (h20 : ((((moveM ((syncM ((appendM ((dropM d (n ++ (⟨#[45, 110, 101, 119]⟩ : ByteArray)))).2 (n ++ (⟨#[45, 110, 101, 119]⟩ : ByteArray)) (sealL l))).2 (n ++ (⟨#[45, 110, 101, 119]⟩ : ByteArray)))).2 (n ++ (⟨#[45, 110, 101, 119]⟩ : ByteArray)) n)).1 != (2 : Int)) = true))
 (h21 : (DkOK ((moveM ((syncM ((appendM ((dropM d (n ++ (⟨#[45, 110, 101, 119]⟩ : ByteArray)))).2 (n ++ (⟨#[45, 110, 101, 119]⟩ : ByteArray)) (sealL l))).2 (n ++ (⟨#[45, 110, 101, 119]⟩ : ByteArray)))).2 (n ++ (⟨#[45, 110, 101, 119]⟩ : ByteArray)) n)).2))
 (h22 : (((moveM ((syncM ((appendM ((dropM d (n ++ (⟨#[45, 110, 101, 119]⟩ : ByteArray)))).2 (n ++ (⟨#[45, 110, 101, 119]⟩ : ByteArray)) (sealL l))).2 (n ++ (⟨#[45, 110, 101, 119]⟩ : ByteArray)))).2 (n ++ (⟨#[45, 110, 101, 119]⟩ : ByteArray)) n)).1 = e))
 (h23 : ((((dropM ((moveM ((syncM ((appendM ((dropM d (n ++ (⟨#[45, 110, 101, 119]⟩ : ByteArray)))).2 (n ++ (⟨#[45, 110, 101, 119]⟩ : ByteArray)) (sealL l))).2 (n ++ (⟨#[45, 110, 101, 119]⟩ : ByteArray)))).2 (n ++ (⟨#[45, 110, 101, 119]⟩ : ByteArray)) n)).2 (n ++ (⟨#[45, 110, 101, 119]⟩ : ByteArray)))).2).1 = (((dropM ((moveM ((syncM ((appendM ((dropM d (fnew n))).2 (fnew n) (sealL l))).2 (fnew n))).2 (fnew n) n)).2 (fnew n))).2).1))
 (h24 : (((((dropM ((moveM ((syncM ((appendM ((dropM d (n ++ (⟨#[45, 110, 101, 119]⟩ : ByteArray)))).2 (n ++ (⟨#[45, 110, 101, 119]⟩ : ByteArray)) (sealL l))).2 (n ++ (⟨#[45, 110, 101, 119]⟩ : ByteArray)))).2 (n ++ (⟨#[45, 110, 101, 119]⟩ : ByteArray)) n)).2 (n ++ (⟨#[45, 110, 101, 119]⟩ : ByteArray)))).2).2).1 = ((((dropM ((moveM ((syncM ((appendM ((dropM d (fnew n))).2 (fnew n) (sealL l))).2 (fnew n))).2 (fnew n) n)).2 (fnew n))).2).2).1))
 (h25 : ((((((dropM ((moveM ((syncM ((appendM ((dropM d (n ++ (⟨#[45, 110, 101, 119]⟩ : ByteArray)))).2 (n ++ (⟨#[45, 110, 101, 119]⟩ : ByteArray)) (sealL l))).2 (n ++ (⟨#[45, 110, 101, 119]⟩ : ByteArray)))).2 (n ++ (⟨#[45, 110, 101, 119]⟩ : ByteArray)) n)).2 (n ++ (⟨#[45, 110, 101, 119]⟩ : ByteArray)))).2).2).2).1 = (((((dropM ((moveM ((syncM ((appendM ((dropM d (fnew n))).2 (fnew n) (sealL l))).2 (fnew n))).2 (fnew n) n)).2 (fnew n))).2).2).2).1))
 (h26 : (((((((dropM ((moveM ((syncM ((appendM ((dropM d (n ++ (⟨#[45, 110, 101, 119]⟩ : ByteArray)))).2 (n ++ (⟨#[45, 110, 101, 119]⟩ : ByteArray)) (sealL l))).2 (n ++ (⟨#[45, 110, 101, 119]⟩ : ByteArray)))).2 (n ++ (⟨#[45, 110, 101, 119]⟩ : ByteArray)) n)).2 (n ++ (⟨#[45, 110, 101, 119]⟩ : ByteArray)))).2).2).2).2).1 = ((((((dropM ((moveM ((syncM ((appendM ((dropM d (fnew n))).2 (fnew n) (sealL l))).2 (fnew n))).2 (fnew n) n)).2 (fnew n))).2).2).2).2).1))
 (h27 : (((((((dropM ((moveM ((syncM ((appendM ((dropM d (n ++ (⟨#[45, 110, 101, 119]⟩ : ByteArray)))).2 (n ++ (⟨#[45, 110, 101, 119]⟩ : ByteArray)) (sealL l))).2 (n ++ (⟨#[45, 110, 101, 119]⟩ : ByteArray)))).2 (n ++ (⟨#[45, 110, 101, 119]⟩ : ByteArray)) n)).2 (n ++ (⟨#[45, 110, 101, 119]⟩ : ByteArray)))).2).2).2).2).2 = ((((((dropM ((moveM ((syncM ((appendM ((dropM d (fnew n))).2 (fnew n) (sealL l))).2 (fnew n))).2 (fnew n) n)).2 (fnew n))).2).2).2).2).2)) :
 ∃ ps, runO Tryd.prog DF gSv 100 Tryd.f8 (dkBt d, svX n l) [.is true, .is false, .is false, .roll, .is false, .is false, .is false, .is true, .is true] (eV e) (dkBt (dropM (moveM (syncM (appendM (dropM d (fnew n)).2 (fnew n) (sealL l)).2 (fnew n)).2 (fnew n) n).2 (fnew n)).2) = some ps ∧ AllQ ps := ⟨_, by kernel_rfl, allQ_cons h1 (allQ_cons h2 (allQ_cons h3 (allQ_cons h4 (allQ_cons h5 (allQ_cons (show ((0 : Int) ≤ (0 : Int)) from by decide) (allQ_cons h6 (allQ_cons (show ((n ++ (⟨#[45, 110, 101, 119]⟩ : ByteArray)) = (n ++ (⟨#[45, 110, 101, 119]⟩ : ByteArray))) from rfl) (allQ_cons (show ((d).1 = (d).1) from rfl) (allQ_cons (show (((d).2).1 = ((d).2).1) from rfl) (allQ_cons (show ((((d).2).2).1 = (((d).2).2).1) from rfl) (allQ_cons (show (((((d).2).2).2).1 = ((((d).2).2).2).1) from rfl) (allQ_cons (show (((((d).2).2).2).2 = ((((d).2).2).2).2) from rfl) (allQ_cons h7 (allQ_cons h8 (allQ_cons h9 (allQ_cons (show ((0 : Int) ≤ (Go.IntKind.wrap Go.IntKind.i64 ((0 : Int) + (1 : Int)))) from by decide) (allQ_cons h10 (allQ_cons (show (l = l) from rfl) (allQ_cons (show ((n ++ (⟨#[45, 110, 101, 119]⟩ : ByteArray)) = (n ++ (⟨#[45, 110, 101, 119]⟩ : ByteArray))) from rfl) (allQ_cons (show ((((dropM d (n ++ (⟨#[45, 110, 101, 119]⟩ : ByteArray)))).2).1 = (((dropM d (n ++ (⟨#[45, 110, 101, 119]⟩ : ByteArray)))).2).1) from rfl) (allQ_cons (show (((((dropM d (n ++ (⟨#[45, 110, 101, 119]⟩ : ByteArray)))).2).2).1 = ((((dropM d (n ++ (⟨#[45, 110, 101, 119]⟩ : ByteArray)))).2).2).1) from rfl) (allQ_cons (show ((((((dropM d (n ++ (⟨#[45, 110, 101, 119]⟩ : ByteArray)))).2).2).2).1 = (((((dropM d (n ++ (⟨#[45, 110, 101, 119]⟩ : ByteArray)))).2).2).2).1) from rfl) (allQ_cons (show (((((((dropM d (n ++ (⟨#[45, 110, 101, 119]⟩ : ByteArray)))).2).2).2).2).1 = ((((((dropM d (n ++ (⟨#[45, 110, 101, 119]⟩ : ByteArray)))).2).2).2).2).1) from rfl) (allQ_cons (show (((((((dropM d (n ++ (⟨#[45, 110, 101, 119]⟩ : ByteArray)))).2).2).2).2).2 = ((((((dropM d (n ++ (⟨#[45, 110, 101, 119]⟩ : ByteArray)))).2).2).2).2).2) from rfl) (allQ_cons h11 (allQ_cons h8 (allQ_cons h12 (allQ_cons h13 (allQ_cons (show ((0 : Int) ≤ (Go.IntKind.wrap Go.IntKind.i64 ((Go.IntKind.wrap Go.IntKind.i64 ((0 : Int) + (1 : Int))) + (1 : Int)))) from by decide) (allQ_cons h14 (allQ_cons (show ((n ++ (⟨#[45, 110, 101, 119]⟩ : ByteArray)) = (n ++ (⟨#[45, 110, 101, 119]⟩ : ByteArray))) from rfl) (allQ_cons (show ((((appendM ((dropM d (n ++ (⟨#[45, 110, 101, 119]⟩ : ByteArray)))).2 (n ++ (⟨#[45, 110, 101, 119]⟩ : ByteArray)) (sealL l))).2).1 = (((appendM ((dropM d (n ++ (⟨#[45, 110, 101, 119]⟩ : ByteArray)))).2 (n ++ (⟨#[45, 110, 101, 119]⟩ : ByteArray)) (sealL l))).2).1) from rfl) (allQ_cons (show (((((appendM ((dropM d (n ++ (⟨#[45, 110, 101, 119]⟩ : ByteArray)))).2 (n ++ (⟨#[45, 110, 101, 119]⟩ : ByteArray)) (sealL l))).2).2).1 = ((((appendM ((dropM d (n ++ (⟨#[45, 110, 101, 119]⟩ : ByteArray)))).2 (n ++ (⟨#[45, 110, 101, 119]⟩ : ByteArray)) (sealL l))).2).2).1) from rfl) (allQ_cons (show ((((((appendM ((dropM d (n ++ (⟨#[45, 110, 101, 119]⟩ : ByteArray)))).2 (n ++ (⟨#[45, 110, 101, 119]⟩ : ByteArray)) (sealL l))).2).2).2).1 = (((((appendM ((dropM d (n ++ (⟨#[45, 110, 101, 119]⟩ : ByteArray)))).2 (n ++ (⟨#[45, 110, 101, 119]⟩ : ByteArray)) (sealL l))).2).2).2).1) from rfl) (allQ_cons (show (((((((appendM ((dropM d (n ++ (⟨#[45, 110, 101, 119]⟩ : ByteArray)))).2 (n ++ (⟨#[45, 110, 101, 119]⟩ : ByteArray)) (sealL l))).2).2).2).2).1 = ((((((appendM ((dropM d (n ++ (⟨#[45, 110, 101, 119]⟩ : ByteArray)))).2 (n ++ (⟨#[45, 110, 101, 119]⟩ : ByteArray)) (sealL l))).2).2).2).2).1) from rfl) (allQ_cons (show (((((((appendM ((dropM d (n ++ (⟨#[45, 110, 101, 119]⟩ : ByteArray)))).2 (n ++ (⟨#[45, 110, 101, 119]⟩ : ByteArray)) (sealL l))).2).2).2).2).2 = ((((((appendM ((dropM d (n ++ (⟨#[45, 110, 101, 119]⟩ : ByteArray)))).2 (n ++ (⟨#[45, 110, 101, 119]⟩ : ByteArray)) (sealL l))).2).2).2).2).2) from rfl) (allQ_cons h15 (allQ_cons h8 (allQ_cons h16 (allQ_cons (show ((0 : Int) ≤ (Go.IntKind.wrap Go.IntKind.i64 ((Go.IntKind.wrap Go.IntKind.i64 ((Go.IntKind.wrap Go.IntKind.i64 ((0 : Int) + (1 : Int))) + (1 : Int))) + (1 : Int)))) from by decide) (allQ_cons h17 (allQ_cons (show ((n ++ (⟨#[45, 110, 101, 119]⟩ : ByteArray)) = (n ++ (⟨#[45, 110, 101, 119]⟩ : ByteArray))) from rfl) (allQ_cons (show (n = n) from rfl) (allQ_cons (show ((((syncM ((appendM ((dropM d (n ++ (⟨#[45, 110, 101, 119]⟩ : ByteArray)))).2 (n ++ (⟨#[45, 110, 101, 119]⟩ : ByteArray)) (sealL l))).2 (n ++ (⟨#[45, 110, 101, 119]⟩ : ByteArray)))).2).1 = (((syncM ((appendM ((dropM d (n ++ (⟨#[45, 110, 101, 119]⟩ : ByteArray)))).2 (n ++ (⟨#[45, 110, 101, 119]⟩ : ByteArray)) (sealL l))).2 (n ++ (⟨#[45, 110, 101, 119]⟩ : ByteArray)))).2).1) from rfl) (allQ_cons (show (((((syncM ((appendM ((dropM d (n ++ (⟨#[45, 110, 101, 119]⟩ : ByteArray)))).2 (n ++ (⟨#[45, 110, 101, 119]⟩ : ByteArray)) (sealL l))).2 (n ++ (⟨#[45, 110, 101, 119]⟩ : ByteArray)))).2).2).1 = ((((syncM ((appendM ((dropM d (n ++ (⟨#[45, 110, 101, 119]⟩ : ByteArray)))).2 (n ++ (⟨#[45, 110, 101, 119]⟩ : ByteArray)) (sealL l))).2 (n ++ (⟨#[45, 110, 101, 119]⟩ : ByteArray)))).2).2).1) from rfl) (allQ_cons (show ((((((syncM ((appendM ((dropM d (n ++ (⟨#[45, 110, 101, 119]⟩ : ByteArray)))).2 (n ++ (⟨#[45, 110, 101, 119]⟩ : ByteArray)) (sealL l))).2 (n ++ (⟨#[45, 110, 101, 119]⟩ : ByteArray)))).2).2).2).1 = (((((syncM ((appendM ((dropM d (n ++ (⟨#[45, 110, 101, 119]⟩ : ByteArray)))).2 (n ++ (⟨#[45, 110, 101, 119]⟩ : ByteArray)) (sealL l))).2 (n ++ (⟨#[45, 110, 101, 119]⟩ : ByteArray)))).2).2).2).1) from rfl) (allQ_cons (show (((((((syncM ((appendM ((dropM d (n ++ (⟨#[45, 110, 101, 119]⟩ : ByteArray)))).2 (n ++ (⟨#[45, 110, 101, 119]⟩ : ByteArray)) (sealL l))).2 (n ++ (⟨#[45, 110, 101, 119]⟩ : ByteArray)))).2).2).2).2).1 = ((((((syncM ((appendM ((dropM d (n ++ (⟨#[45, 110, 101, 119]⟩ : ByteArray)))).2 (n ++ (⟨#[45, 110, 101, 119]⟩ : ByteArray)) (sealL l))).2 (n ++ (⟨#[45, 110, 101, 119]⟩ : ByteArray)))).2).2).2).2).1) from rfl) (allQ_cons (show (((((((syncM ((appendM ((dropM d (n ++ (⟨#[45, 110, 101, 119]⟩ : ByteArray)))).2 (n ++ (⟨#[45, 110, 101, 119]⟩ : ByteArray)) (sealL l))).2 (n ++ (⟨#[45, 110, 101, 119]⟩ : ByteArray)))).2).2).2).2).2 = ((((((syncM ((appendM ((dropM d (n ++ (⟨#[45, 110, 101, 119]⟩ : ByteArray)))).2 (n ++ (⟨#[45, 110, 101, 119]⟩ : ByteArray)) (sealL l))).2 (n ++ (⟨#[45, 110, 101, 119]⟩ : ByteArray)))).2).2).2).2).2) from rfl) (allQ_cons h18 (allQ_cons h8 (allQ_cons h2 (allQ_cons h19 (allQ_cons h20 (allQ_cons (show ((n ++ (⟨#[45, 110, 101, 119]⟩ : ByteArray)) = (n ++ (⟨#[45, 110, 101, 119]⟩ : ByteArray))) from rfl) (allQ_cons (show ((((moveM ((syncM ((appendM ((dropM d (n ++ (⟨#[45, 110, 101, 119]⟩ : ByteArray)))).2 (n ++ (⟨#[45, 110, 101, 119]⟩ : ByteArray)) (sealL l))).2 (n ++ (⟨#[45, 110, 101, 119]⟩ : ByteArray)))).2 (n ++ (⟨#[45, 110, 101, 119]⟩ : ByteArray)) n)).2).1 = (((moveM ((syncM ((appendM ((dropM d (n ++ (⟨#[45, 110, 101, 119]⟩ : ByteArray)))).2 (n ++ (⟨#[45, 110, 101, 119]⟩ : ByteArray)) (sealL l))).2 (n ++ (⟨#[45, 110, 101, 119]⟩ : ByteArray)))).2 (n ++ (⟨#[45, 110, 101, 119]⟩ : ByteArray)) n)).2).1) from rfl) (allQ_cons (show (((((moveM ((syncM ((appendM ((dropM d (n ++ (⟨#[45, 110, 101, 119]⟩ : ByteArray)))).2 (n ++ (⟨#[45, 110, 101, 119]⟩ : ByteArray)) (sealL l))).2 (n ++ (⟨#[45, 110, 101, 119]⟩ : ByteArray)))).2 (n ++ (⟨#[45, 110, 101, 119]⟩ : ByteArray)) n)).2).2).1 = ((((moveM ((syncM ((appendM ((dropM d (n ++ (⟨#[45, 110, 101, 119]⟩ : ByteArray)))).2 (n ++ (⟨#[45, 110, 101, 119]⟩ : ByteArray)) (sealL l))).2 (n ++ (⟨#[45, 110, 101, 119]⟩ : ByteArray)))).2 (n ++ (⟨#[45, 110, 101, 119]⟩ : ByteArray)) n)).2).2).1) from rfl) (allQ_cons (show ((((((moveM ((syncM ((appendM ((dropM d (n ++ (⟨#[45, 110, 101, 119]⟩ : ByteArray)))).2 (n ++ (⟨#[45, 110, 101, 119]⟩ : ByteArray)) (sealL l))).2 (n ++ (⟨#[45, 110, 101, 119]⟩ : ByteArray)))).2 (n ++ (⟨#[45, 110, 101, 119]⟩ : ByteArray)) n)).2).2).2).1 = (((((moveM ((syncM ((appendM ((dropM d (n ++ (⟨#[45, 110, 101, 119]⟩ : ByteArray)))).2 (n ++ (⟨#[45, 110, 101, 119]⟩ : ByteArray)) (sealL l))).2 (n ++ (⟨#[45, 110, 101, 119]⟩ : ByteArray)))).2 (n ++ (⟨#[45, 110, 101, 119]⟩ : ByteArray)) n)).2).2).2).1) from rfl) (allQ_cons (show (((((((moveM ((syncM ((appendM ((dropM d (n ++ (⟨#[45, 110, 101, 119]⟩ : ByteArray)))).2 (n ++ (⟨#[45, 110, 101, 119]⟩ : ByteArray)) (sealL l))).2 (n ++ (⟨#[45, 110, 101, 119]⟩ : ByteArray)))).2 (n ++ (⟨#[45, 110, 101, 119]⟩ : ByteArray)) n)).2).2).2).2).1 = ((((((moveM ((syncM ((appendM ((dropM d (n ++ (⟨#[45, 110, 101, 119]⟩ : ByteArray)))).2 (n ++ (⟨#[45, 110, 101, 119]⟩ : ByteArray)) (sealL l))).2 (n ++ (⟨#[45, 110, 101, 119]⟩ : ByteArray)))).2 (n ++ (⟨#[45, 110, 101, 119]⟩ : ByteArray)) n)).2).2).2).2).1) from rfl) (allQ_cons (show (((((((moveM ((syncM ((appendM ((dropM d (n ++ (⟨#[45, 110, 101, 119]⟩ : ByteArray)))).2 (n ++ (⟨#[45, 110, 101, 119]⟩ : ByteArray)) (sealL l))).2 (n ++ (⟨#[45, 110, 101, 119]⟩ : ByteArray)))).2 (n ++ (⟨#[45, 110, 101, 119]⟩ : ByteArray)) n)).2).2).2).2).2 = ((((((moveM ((syncM ((appendM ((dropM d (n ++ (⟨#[45, 110, 101, 119]⟩ : ByteArray)))).2 (n ++ (⟨#[45, 110, 101, 119]⟩ : ByteArray)) (sealL l))).2 (n ++ (⟨#[45, 110, 101, 119]⟩ : ByteArray)))).2 (n ++ (⟨#[45, 110, 101, 119]⟩ : ByteArray)) n)).2).2).2).2).2) from rfl) (allQ_cons h21 (allQ_cons h8 (allQ_cons h22 (allQ_cons h23 (allQ_cons h24 (allQ_cons h25 (allQ_cons h26 (allQ_cons h27 (allQ_nil))))))))))))))))))))))))))))))))))))))))))))))))))))))))))))))))))))⟩
theorem sv_ok (n : ByteArray) (l : List Int) (d : DkT) (e : Int)
 (h1 : ((rightB n) = true))
 (h2 : ((ByteArray.size n) ≤ (9223372036854775807 : Nat)))
 (h3 : ((decide ((((ByteArray.size n) : Nat) : Int) > (20 : Int))) = false))
 (h4 : ((decide ((((List.length l) : Nat) : Int) > (65536 : Int))) = false))
 (h5 : (((((ByteArray.size n) + (4 : Nat)) : Nat) : Int) ≤ (9223372036854775807 : Int)))
 (h6 : ((0 : Int) < (((4 : Nat) : Nat) : Int)))
 (h7 : (DkOK d))
 (h8 : ((ByteArray.size (n ++ (⟨#[45, 110, 101, 119]⟩ : ByteArray))) ≤ (9223372036854775807 : Nat)))
 (h9 : (((sv1E d (n ++ (⟨#[45, 110, 101, 119]⟩ : ByteArray))) != (0 : Int)) = false))
 (h10 : ((Go.IntKind.wrap Go.IntKind.i64 ((0 : Int) + (1 : Int))) < (((4 : Nat) : Nat) : Int)))
 (h11 : (DkOK ((dropM d (n ++ (⟨#[45, 110, 101, 119]⟩ : ByteArray)))).2))
 (h12 : ((List.length l) ≤ (65536 : Nat)))
 (h13 : ((((appendM ((dropM d (n ++ (⟨#[45, 110, 101, 119]⟩ : ByteArray)))).2 (n ++ (⟨#[45, 110, 101, 119]⟩ : ByteArray)) (sealL l))).1 != (0 : Int)) = false))
 (h14 : ((Go.IntKind.wrap Go.IntKind.i64 ((Go.IntKind.wrap Go.IntKind.i64 ((0 : Int) + (1 : Int))) + (1 : Int))) < (((4 : Nat) : Nat) : Int)))
 (h15 : (DkOK ((appendM ((dropM d (n ++ (⟨#[45, 110, 101, 119]⟩ : ByteArray)))).2 (n ++ (⟨#[45, 110, 101, 119]⟩ : ByteArray)) (sealL l))).2))
 (h16 : ((((syncM ((appendM ((dropM d (n ++ (⟨#[45, 110, 101, 119]⟩ : ByteArray)))).2 (n ++ (⟨#[45, 110, 101, 119]⟩ : ByteArray)) (sealL l))).2 (n ++ (⟨#[45, 110, 101, 119]⟩ : ByteArray)))).1 != (0 : Int)) = false))
 (h17 : ((Go.IntKind.wrap Go.IntKind.i64 ((Go.IntKind.wrap Go.IntKind.i64 ((Go.IntKind.wrap Go.IntKind.i64 ((0 : Int) + (1 : Int))) + (1 : Int))) + (1 : Int))) < (((4 : Nat) : Nat) : Int)))
 (h18 : (DkOK ((syncM ((appendM ((dropM d (n ++ (⟨#[45, 110, 101, 119]⟩ : ByteArray)))).2 (n ++ (⟨#[45, 110, 101, 119]⟩ : ByteArray)) (sealL l))).2 (n ++ (⟨#[45, 110, 101, 119]⟩ : ByteArray)))).2))
 (h19 : ((((moveM ((syncM ((appendM ((dropM d (n ++ (⟨#[45, 110, 101, 119]⟩ : ByteArray)))).2 (n ++ (⟨#[45, 110, 101, 119]⟩ : ByteArray)) (sealL l))).2 (n ++ (⟨#[45, 110, 101, 119]⟩ : ByteArray)))).2 (n ++ (⟨#[45, 110, 101, 119]⟩ : ByteArray)) n)).1 != (0 : Int)) = false))
 (h20 : ((0 : Int) = e))
 (h21 : ((((moveM ((syncM ((appendM ((dropM d (n ++ (⟨#[45, 110, 101, 119]⟩ : ByteArray)))).2 (n ++ (⟨#[45, 110, 101, 119]⟩ : ByteArray)) (sealL l))).2 (n ++ (⟨#[45, 110, 101, 119]⟩ : ByteArray)))).2 (n ++ (⟨#[45, 110, 101, 119]⟩ : ByteArray)) n)).2).1 = (((moveM ((syncM ((appendM ((dropM d (fnew n))).2 (fnew n) (sealL l))).2 (fnew n))).2 (fnew n) n)).2).1))
 (h22 : (((((moveM ((syncM ((appendM ((dropM d (n ++ (⟨#[45, 110, 101, 119]⟩ : ByteArray)))).2 (n ++ (⟨#[45, 110, 101, 119]⟩ : ByteArray)) (sealL l))).2 (n ++ (⟨#[45, 110, 101, 119]⟩ : ByteArray)))).2 (n ++ (⟨#[45, 110, 101, 119]⟩ : ByteArray)) n)).2).2).1 = ((((moveM ((syncM ((appendM ((dropM d (fnew n))).2 (fnew n) (sealL l))).2 (fnew n))).2 (fnew n) n)).2).2).1))
 (h23 : ((((((moveM ((syncM ((appendM ((dropM d (n ++ (⟨#[45, 110, 101, 119]⟩ : ByteArray)))).2 (n ++ (⟨#[45, 110, 101, 119]⟩ : ByteArray)) (sealL l))).2 (n ++ (⟨#[45, 110, 101, 119]⟩ : ByteArray)))).2 (n ++ (⟨#[45, 110, 101, 119]⟩ : ByteArray)) n)).2).2).2).1 = (((((moveM ((syncM ((appendM ((dropM d (fnew n))).2 (fnew n) (sealL l))).2 (fnew n))).2 (fnew n) n)).2).2).2).1))
 (h24 : (((((((moveM ((syncM ((appendM ((dropM d (n ++ (⟨#[45, 110, 101, 119]⟩ : ByteArray)))).2 (n ++ (⟨#[45, 110, 101, 119]⟩ : ByteArray)) (sealL l))).2 (n ++ (⟨#[45, 110, 101, 119]⟩ : ByteArray)))).2 (n ++ (⟨#[45, 110, 101, 119]⟩ : ByteArray)) n)).2).2).2).2).1 = ((((((moveM ((syncM ((appendM ((dropM d (fnew n))).2 (fnew n) (sealL l))).2 (fnew n))).2 (fnew n) n)).2).2).2).2).1))
 (h25 : (((((((moveM ((syncM ((appendM ((dropM d (n ++ (⟨#[45, 110, 101, 119]⟩ : ByteArray)))).2 (n ++ (⟨#[45, 110, 101, 119]⟩ : ByteArray)) (sealL l))).2 (n ++ (⟨#[45, 110, 101, 119]⟩ : ByteArray)))).2 (n ++ (⟨#[45, 110, 101, 119]⟩ : ByteArray)) n)).2).2).2).2).2 = ((((((moveM ((syncM ((appendM ((dropM d (fnew n))).2 (fnew n) (sealL l))).2 (fnew n))).2 (fnew n) n)).2).2).2).2).2)) :
 ∃ ps, runO Tryd.prog DF gSv 100 Tryd.f8 (dkBt d, svX n l) [.is true, .is false, .is false, .roll, .is false, .is false, .is false, .is false] (eV e) (dkBt (moveM (syncM (appendM (dropM d (fnew n)).2 (fnew n) (sealL l)).2 (fnew n)).2 (fnew n) n).2) = some ps ∧ AllQ ps := ⟨_, by kernel_rfl, allQ_cons h1 (allQ_cons h2 (allQ_cons h3 (allQ_cons h4 (allQ_cons h5 (allQ_cons (show ((0 : Int) ≤ (0 : Int)) from by decide) (allQ_cons h6 (allQ_cons (show ((n ++ (⟨#[45, 110, 101, 119]⟩ : ByteArray)) = (n ++ (⟨#[45, 110, 101, 119]⟩ : ByteArray))) from rfl) (allQ_cons (show ((d).1 = (d).1) from rfl) (allQ_cons (show (((d).2).1 = ((d).2).1) from rfl) (allQ_cons (show ((((d).2).2).1 = (((d).2).2).1) from rfl) (allQ_cons (show (((((d).2).2).2).1 = ((((d).2).2).2).1) from rfl) (allQ_cons (show (((((d).2).2).2).2 = ((((d).2).2).2).2) from rfl) (allQ_cons h7 (allQ_cons h8 (allQ_cons h9 (allQ_cons (show ((0 : Int) ≤ (Go.IntKind.wrap Go.IntKind.i64 ((0 : Int) + (1 : Int)))) from by decide) (allQ_cons h10 (allQ_cons (show (l = l) from rfl) (allQ_cons (show ((n ++ (⟨#[45, 110, 101, 119]⟩ : ByteArray)) = (n ++ (⟨#[45, 110, 101, 119]⟩ : ByteArray))) from rfl) (allQ_cons (show ((((dropM d (n ++ (⟨#[45, 110, 101, 119]⟩ : ByteArray)))).2).1 = (((dropM d (n ++ (⟨#[45, 110, 101, 119]⟩ : ByteArray)))).2).1) from rfl) (allQ_cons (show (((((dropM d (n ++ (⟨#[45, 110, 101, 119]⟩ : ByteArray)))).2).2).1 = ((((dropM d (n ++ (⟨#[45, 110, 101, 119]⟩ : ByteArray)))).2).2).1) from rfl) (allQ_cons (show ((((((dropM d (n ++ (⟨#[45, 110, 101, 119]⟩ : ByteArray)))).2).2).2).1 = (((((dropM d (n ++ (⟨#[45, 110, 101, 119]⟩ : ByteArray)))).2).2).2).1) from rfl) (allQ_cons (show (((((((dropM d (n ++ (⟨#[45, 110, 101, 119]⟩ : ByteArray)))).2).2).2).2).1 = ((((((dropM d (n ++ (⟨#[45, 110, 101, 119]⟩ : ByteArray)))).2).2).2).2).1) from rfl) (allQ_cons (show (((((((dropM d (n ++ (⟨#[45, 110, 101, 119]⟩ : ByteArray)))).2).2).2).2).2 = ((((((dropM d (n ++ (⟨#[45, 110, 101, 119]⟩ : ByteArray)))).2).2).2).2).2) from rfl) (allQ_cons h11 (allQ_cons h8 (allQ_cons h12 (allQ_cons h13 (allQ_cons (show ((0 : Int) ≤ (Go.IntKind.wrap Go.IntKind.i64 ((Go.IntKind.wrap Go.IntKind.i64 ((0 : Int) + (1 : Int))) + (1 : Int)))) from by decide) (allQ_cons h14 (allQ_cons (show ((n ++ (⟨#[45, 110, 101, 119]⟩ : ByteArray)) = (n ++ (⟨#[45, 110, 101, 119]⟩ : ByteArray))) from rfl) (allQ_cons (show ((((appendM ((dropM d (n ++ (⟨#[45, 110, 101, 119]⟩ : ByteArray)))).2 (n ++ (⟨#[45, 110, 101, 119]⟩ : ByteArray)) (sealL l))).2).1 = (((appendM ((dropM d (n ++ (⟨#[45, 110, 101, 119]⟩ : ByteArray)))).2 (n ++ (⟨#[45, 110, 101, 119]⟩ : ByteArray)) (sealL l))).2).1) from rfl) (allQ_cons (show (((((appendM ((dropM d (n ++ (⟨#[45, 110, 101, 119]⟩ : ByteArray)))).2 (n ++ (⟨#[45, 110, 101, 119]⟩ : ByteArray)) (sealL l))).2).2).1 = ((((appendM ((dropM d (n ++ (⟨#[45, 110, 101, 119]⟩ : ByteArray)))).2 (n ++ (⟨#[45, 110, 101, 119]⟩ : ByteArray)) (sealL l))).2).2).1) from rfl) (allQ_cons (show ((((((appendM ((dropM d (n ++ (⟨#[45, 110, 101, 119]⟩ : ByteArray)))).2 (n ++ (⟨#[45, 110, 101, 119]⟩ : ByteArray)) (sealL l))).2).2).2).1 = (((((appendM ((dropM d (n ++ (⟨#[45, 110, 101, 119]⟩ : ByteArray)))).2 (n ++ (⟨#[45, 110, 101, 119]⟩ : ByteArray)) (sealL l))).2).2).2).1) from rfl) (allQ_cons (show (((((((appendM ((dropM d (n ++ (⟨#[45, 110, 101, 119]⟩ : ByteArray)))).2 (n ++ (⟨#[45, 110, 101, 119]⟩ : ByteArray)) (sealL l))).2).2).2).2).1 = ((((((appendM ((dropM d (n ++ (⟨#[45, 110, 101, 119]⟩ : ByteArray)))).2 (n ++ (⟨#[45, 110, 101, 119]⟩ : ByteArray)) (sealL l))).2).2).2).2).1) from rfl) (allQ_cons (show (((((((appendM ((dropM d (n ++ (⟨#[45, 110, 101, 119]⟩ : ByteArray)))).2 (n ++ (⟨#[45, 110, 101, 119]⟩ : ByteArray)) (sealL l))).2).2).2).2).2 = ((((((appendM ((dropM d (n ++ (⟨#[45, 110, 101, 119]⟩ : ByteArray)))).2 (n ++ (⟨#[45, 110, 101, 119]⟩ : ByteArray)) (sealL l))).2).2).2).2).2) from rfl) (allQ_cons h15 (allQ_cons h8 (allQ_cons h16 (allQ_cons (show ((0 : Int) ≤ (Go.IntKind.wrap Go.IntKind.i64 ((Go.IntKind.wrap Go.IntKind.i64 ((Go.IntKind.wrap Go.IntKind.i64 ((0 : Int) + (1 : Int))) + (1 : Int))) + (1 : Int)))) from by decide) (allQ_cons h17 (allQ_cons (show ((n ++ (⟨#[45, 110, 101, 119]⟩ : ByteArray)) = (n ++ (⟨#[45, 110, 101, 119]⟩ : ByteArray))) from rfl) (allQ_cons (show (n = n) from rfl) (allQ_cons (show ((((syncM ((appendM ((dropM d (n ++ (⟨#[45, 110, 101, 119]⟩ : ByteArray)))).2 (n ++ (⟨#[45, 110, 101, 119]⟩ : ByteArray)) (sealL l))).2 (n ++ (⟨#[45, 110, 101, 119]⟩ : ByteArray)))).2).1 = (((syncM ((appendM ((dropM d (n ++ (⟨#[45, 110, 101, 119]⟩ : ByteArray)))).2 (n ++ (⟨#[45, 110, 101, 119]⟩ : ByteArray)) (sealL l))).2 (n ++ (⟨#[45, 110, 101, 119]⟩ : ByteArray)))).2).1) from rfl) (allQ_cons (show (((((syncM ((appendM ((dropM d (n ++ (⟨#[45, 110, 101, 119]⟩ : ByteArray)))).2 (n ++ (⟨#[45, 110, 101, 119]⟩ : ByteArray)) (sealL l))).2 (n ++ (⟨#[45, 110, 101, 119]⟩ : ByteArray)))).2).2).1 = ((((syncM ((appendM ((dropM d (n ++ (⟨#[45, 110, 101, 119]⟩ : ByteArray)))).2 (n ++ (⟨#[45, 110, 101, 119]⟩ : ByteArray)) (sealL l))).2 (n ++ (⟨#[45, 110, 101, 119]⟩ : ByteArray)))).2).2).1) from rfl) (allQ_cons (show ((((((syncM ((appendM ((dropM d (n ++ (⟨#[45, 110, 101, 119]⟩ : ByteArray)))).2 (n ++ (⟨#[45, 110, 101, 119]⟩ : ByteArray)) (sealL l))).2 (n ++ (⟨#[45, 110, 101, 119]⟩ : ByteArray)))).2).2).2).1 = (((((syncM ((appendM ((dropM d (n ++ (⟨#[45, 110, 101, 119]⟩ : ByteArray)))).2 (n ++ (⟨#[45, 110, 101, 119]⟩ : ByteArray)) (sealL l))).2 (n ++ (⟨#[45, 110, 101, 119]⟩ : ByteArray)))).2).2).2).1) from rfl) (allQ_cons (show (((((((syncM ((appendM ((dropM d (n ++ (⟨#[45, 110, 101, 119]⟩ : ByteArray)))).2 (n ++ (⟨#[45, 110, 101, 119]⟩ : ByteArray)) (sealL l))).2 (n ++ (⟨#[45, 110, 101, 119]⟩ : ByteArray)))).2).2).2).2).1 = ((((((syncM ((appendM ((dropM d (n ++ (⟨#[45, 110, 101, 119]⟩ : ByteArray)))).2 (n ++ (⟨#[45, 110, 101, 119]⟩ : ByteArray)) (sealL l))).2 (n ++ (⟨#[45, 110, 101, 119]⟩ : ByteArray)))).2).2).2).2).1) from rfl) (allQ_cons (show (((((((syncM ((appendM ((dropM d (n ++ (⟨#[45, 110, 101, 119]⟩ : ByteArray)))).2 (n ++ (⟨#[45, 110, 101, 119]⟩ : ByteArray)) (sealL l))).2 (n ++ (⟨#[45, 110, 101, 119]⟩ : ByteArray)))).2).2).2).2).2 = ((((((syncM ((appendM ((dropM d (n ++ (⟨#[45, 110, 101, 119]⟩ : ByteArray)))).2 (n ++ (⟨#[45, 110, 101, 119]⟩ : ByteArray)) (sealL l))).2 (n ++ (⟨#[45, 110, 101, 119]⟩ : ByteArray)))).2).2).2).2).2) from rfl) (allQ_cons h18 (allQ_cons h8 (allQ_cons h2 (allQ_cons h19 (allQ_cons h20 (allQ_cons h21 (allQ_cons h22 (allQ_cons h23 (allQ_cons h24 (allQ_cons h25 (allQ_nil)))))))))))))))))))))))))))))))))))))))))))))))))))))))))))⟩
end Go.Num
namespace Go.Num
open Go.Abs Go.Proofs Go.Shelf Go.RowKit
noncomputable def newQ := mkF DF Tryd.f7.ntmps (fun bs xs => match bs, xs with | [], [.one (.int .i64 _ n)] => some n | _, _ => none) (fun n => ([], [.one (.int .i64 false n)]))
  (fun n => some (.v (.one (.ref 0 0)), dkBt (clampR n, 0, 0, false, []), []))
theorem new_ok : OpOK Tryd.prog DF 7 newQ := by
  refine opOK_mk gam_nil mixed Tryd.func7 (enters_of Tryd.func7 (by kernel_rfl) rfl) ?_
  intro n r' bs' ps h hps
  simp only [Option.some.injEq, Prod.mk.injEq] at h
  obtain ⟨rfl, rfl, rfl⟩ := h
  exact ⟨_, _, ne_run n _ rfl⟩
theorem okd_new (n : Int) : Okd (clampR n, 0, 0, false, []) :=
  ⟨fun e he => (List.not_mem_nil he).elim, List.nodup_nil, fun e he => (List.not_mem_nil he).elim, Nat.zero_le _, clampR_ok n, (clampR_ok n).1, Int.le_refl _, ⟨Int.le_refl _, (by decide : (0 : Int) ≤ 9223372036854775807)⟩⟩
def OkN (d : DkT) (n : Int) : Prop := Okd d ∧ d.2.1 ≤ n
theorem OkN.dk {d : DkT} {n : Int} (h : OkN d n) (hn : n ≤ 4611686018427387904) : DkOK d := ⟨h.1, by have := h.2; omega⟩
theorem OkN.nxt {d d' : DkT} {n : Int} (h : OkN d n) (hx : Nxt d d') : OkN d' (n + 1) := ⟨hx.1, by have := h.2; have := hx.2.1; omega⟩
end Go.Num
namespace Go.Num
open Go.Abs Go.Proofs Go.Shelf Go.RowKit
def one (s : ByteArray) (l : List Int) (n : Int) : List (Rec × Ob) := [([Fd.s s], fileOb l n)]
theorem err_one {dn : Bool} {s : ByteArray} {l : List Int} {n : Int} (hs : rightB s = true) : errF dn (one s l n) s = if dn = true then 2 else 0 := by
  unfold errF one
  simp [hs, hasE, getE]
theorem err_nil {s : ByteArray} (hs : rightB s = true) : errF false [] s = 41 := by
  unfold errF
  simp [hs, hasE, getE]
theorem ob_one (s : ByteArray) (l : List Int) (n : Int) : obE (one s l n) [Fd.s s] = fileOb l n := by simp [obE, one, getE]
theorem set_one (s : ByteArray) (l : List Int) (n : Int) (o : Ob) : setE (one s l n) [Fd.s s] o = [([Fd.s s], o)] := by simp [one, setE]
theorem safe_one (s : ByteArray) (l : List Int) (n : Int) : safeSum none (one s l n) = n := by
  unfold one
  rw [safeSum_cons, safeSum_nil]
  show n + 0 = n
  omega
theorem app_nil {ro st fu : Int} {s : ByteArray} {b : List Int} (hs : rightB s = true) (h : b.length ≤ 4194304) :
    appendM (ro, st, fu, false, []) s b = (if stV fu = true then 0 else 2, (ro, stSt fu st, stFu fu, stDn fu false, one s b 0)) := by
  have he : DkT.err (ro, st, fu, false, []) s = 41 := err_nil hs
  have hd : fD (ro, st, fu, false, []) s = [] := rfl
  have hn : fS (ro, st, fu, false, []) s = 0 := rfl
  unfold appendM
  rw [if_neg (by rw [he]; simp), if_neg (by show ¬ (_ ∧ 32 ≤ (0 : Nat)); omega), if_neg (by rw [hd]; simp; omega), hd, hn]
  rfl
theorem sync_one {ro st fu n : Int} {s : ByteArray} {l : List Int} (hs : rightB s = true) (h : (l.length : Int) ≤ ro) :
    syncM (ro, st, fu, false, one s l n) s = if stV fu = true then (0, (ro, stSt fu st, stFu fu, stDn fu false, one s l l.length)) else (2, (ro, stSt fu st, stFu fu, stDn fu false, one s l n)) := by
  have he : DkT.err (ro, st, fu, false, one s l n) s = 0 := err_one hs
  have hd : fD (ro, st, fu, false, one s l n) s = l := by show obD (obE (one s l n) [Fd.s s]) = l; rw [ob_one]; rfl
  have hn : fS (ro, st, fu, false, one s l n) s = n := by show obS (obE (one s l n) [Fd.s s]) = n; rw [ob_one]; rfl
  unfold syncM
  rw [if_neg (by rw [he]; simp), if_neg (by rw [hd, hn]; show ¬ (ro - safeSum none (one s l n) < _); rw [safe_one]; omega), hd]
  unfold stp
  simp only
  rw [set_one]
  rfl
theorem read_one {ro st fu n : Int} {s : ByteArray} {l : List Int} (hs : rightB s = true) : readM (ro, st, fu, false, one s l n) s = (0, l) := by
  have he : DkT.err (ro, st, fu, false, one s l n) s = 0 := err_one hs
  have hd : fD (ro, st, fu, false, one s l n) s = l := by show obD (obE (one s l n) [Fd.s s]) = l; rw [ob_one]; rfl
  unfold readM
  rw [if_neg (by rw [he]; simp), hd]
abbrev cX : ByteArray := ⟨#[120]⟩
theorem right_x : rightB cX = true := by kernel_rfl
end Go.Num
