/- HKDF: the keyed digest, of the code and of the reference. -/
import Derived.Test.YtjglidfemgodiaaDoorK1
namespace Go.Num
open Go.Abs Go.Proofs Go.Shelf

def xrc (c x : Int) : Int := bitsOf .xor .u8 x c

/-- The key in its block. -/
def pk (key : List Int) : List Int := if key.length > 64 then rfSum key else key
def k64 (key : List Int) : List Int := pk key ++ List.replicate (64 - (pk key).length) 0
def xk (c : Int) (key : List Int) : List Int := (k64 key).map (xrc c)

/-- The keyed digest. -/
def hmF (key m : List Int) : List Int := rfSum (xk 92 key ++ rfSum (xk 54 key ++ m))

theorem pk_len (key : List Int) : (pk key).length ≤ 64 := by
  unfold pk
  split
  · rw [rfSum_len]; omega
  · omega

theorem k64_len (key : List Int) : (k64 key).length = 64 := by
  have := pk_len key
  unfold k64
  rw [List.length_append, List.length_replicate]
  omega

theorem xk_len (c : Int) (key : List Int) : (xk c key).length = 64 := by
  unfold xk
  rw [List.length_map, k64_len]

theorem xrc_inB (c x : Int) : 0 ≤ xrc c x ∧ xrc c x < 256 := by
  show 0 ≤ IntKind.u8.wrap _ ∧ IntKind.u8.wrap _ < 256
  rw [IntKind.wrap_u8]
  omega

theorem xk_inB (c : Int) (key : List Int) : InB (xk c key) := fun x hx => by
  obtain ⟨y, _, rfl⟩ := List.mem_map.1 hx
  exact xrc_inB c y

theorem outS_inB (s : List Int) : ∀ i, InB (outS s i)
  | 0 => fun x hx => by
    rw [outS] at hx
    rw [(List.mem_replicate.1 hx).2]
    omega
  | i + 1 => fun x hx => by
    rw [outS] at hx
    rcases List.mem_or_eq_of_mem_set hx with h | h
    · exact outS_inB s i x h
    · rw [h, IntKind.wrap_u8]; omega

theorem rfSum_inB (l : List Int) : InB (rfSum l) := by
  unfold rfSum
  rw [← out_same]
  exact outS_inB _ _

theorem hmF_len (key m : List Int) : (hmF key m).length = 32 := rfSum_len _
theorem hmF_inB (key m : List Int) : InB (hmF key m) := rfSum_inB _

/-- The first i turned over. -/
def xo (c : Int) (l : List Int) : Nat → List Int
  | 0 => l
  | i + 1 => (xo c l i).set i (xrc c ((xo c l i).getD i 0))

theorem xo_eq (c : Int) (l : List Int) : ∀ i, i ≤ l.length → xo c l i = (l.take i).map (xrc c) ++ l.drop i
  | 0, _ => by simp [xo]
  | i + 1, h => by
    have e : l.drop i = l[i]'(by omega) :: l.drop (i + 1) := List.drop_eq_getElem_cons (by omega)
    rw [xo, xo_eq c l i (by omega), e]
    have hl : ((l.take i).map (xrc c)).length = i := by rw [List.length_map, List.length_take]; omega
    rw [set_at hl.symm, List.getD_eq_getElem?_getD, List.getElem?_append_right (by omega), hl, Nat.sub_self, List.take_succ_eq_append_getElem (by omega), List.map_append, List.getElem?_cons_zero, List.append_assoc]
    rfl

theorem xo_all (c : Int) (key : List Int) : xo c (k64 key) 64 = xk c key := by
  have h := k64_len key
  rw [xo_eq c _ 64 (by omega), List.take_of_length_le (by omega), List.drop_of_length_le (by omega), List.append_nil]
  rfl

theorem xo_len (c : Int) (l : List Int) : ∀ i, (xo c l i).length = l.length
  | 0 => rfl
  | i + 1 => by rw [xo, List.length_set, xo_len c l i]

theorem mc_loop (ll : List (List Int)) (z key : List Int) : SumOK Tryd.prog DS (bodyN Tryd.f22 0) (loopL DS (mcSn ll z (k64 key) (k64 key) [slI 24 (0 : Nat)]) (.exit 0) (mcSn ll z (xk 54 key) (xk 92 key) [])) := by
  have hs := sum_loop gamM_ok mixed (c := bodyN Tryd.f22 0) (fun i => mcSn ll z (xo 54 (k64 key) i) (xo 92 (k64 key) i) [slI 24 i]) 64 (e := .exit 0) (s := mcSn ll z (xo 54 (k64 key) 64) (xo 92 (k64 key) 64) []) rfl (fun i hi => ?_) ?_
  · rw [xo_all, xo_all] at hs
    exact hs
  · exact ⟨_, _, _, mc_round ll z _ _ _ _ i (decide_eq_true (by omega)) (by omega) (by omega) ⟨by omega, by omega⟩ rfl rfl⟩
  · exact ⟨_, _, _, mc_exit ll z _ _ 64 (decide_eq_false (by omega))⟩

theorem over_zero {p : List Int} (hp : p.length ≤ 64) : (List.take 0 (List.replicate 64 (0 : Int)) ++ List.take (64 - 0) p) ++ List.drop (0 + (List.take (64 - 0) p).length) (List.replicate 64 (0 : Int)) = p ++ List.replicate (64 - p.length) 0 := by
  rw [List.take_of_length_le (l := p) (by omega), List.take_zero, List.nil_append, List.drop_replicate, Nat.zero_add]

theorem over_key {key : List Int} (h : ¬ key.length > 64) : (List.take 0 (List.replicate 64 (0 : Int)) ++ List.take (64 - 0) key) ++ List.drop (0 + (List.take (64 - 0) key).length) (List.replicate 64 (0 : Int)) = k64 key := by
  rw [over_zero (by omega)]
  unfold k64 pk
  rw [if_neg h]

theorem over_sum {key : List Int} (h : key.length > 64) : (List.take 0 (List.replicate 64 (0 : Int)) ++ List.take (64 - 0) (List.take (32 - 0) (List.drop 0 (rfSum key)))) ++ List.drop (0 + (List.take (64 - 0) (List.take (32 - 0) (List.drop 0 (rfSum key)))).length) (List.replicate 64 (0 : Int)) = k64 key := by
  have hl := rfSum_len key
  rw [List.drop_zero, List.take_of_length_le (l := rfSum key) (i := 32 - 0) (by omega), over_zero (by omega)]
  unfold k64 pk
  rw [if_pos h]

def macD : FnD DS
  | [.one (.words .u8 key), .one (.wordss .u8 ll)] => some (.v (.agg [.arr .u8 32 (hmF key ll.flatten)]), [InB key, InB ll.flatten, key.length ≤ 1000000, ll.flatten.length ≤ 1000000, ll.length ≤ 2000000])
  | _ => none

theorem mac_flat {key : List Int} {ll : List (List Int)} (h : InB ll.flatten) : ofF [xk 92 key, ofF ([xk 54 key] ++ ll)] = hmF key ll.flatten := by
  have h1 : ([xk 54 key] ++ ll).flatten = xk 54 key ++ ll.flatten := by simp
  have h2 : InB ([xk 54 key] ++ ll).flatten := by rw [h1]; exact inB_append (xk_inB _ _) h
  have h3 : InB [xk 92 key, rfSum (xk 54 key ++ ll.flatten)].flatten := by rw [two_flat]; exact inB_append (xk_inB _ _) (rfSum_inB _)
  rw [of_same h2, h1, of_same h3, two_flat]
  rfl

theorem mac_ok : FnOK Tryd.prog DS 22 macD := by
  refine fnOK_of gamM_ok mixed Tryd.func22 (enters_of Tryd.func22 (by kernel_rfl) rfl) ?_
  intro xs r ps h hps
  unfold macD at h
  split at h
  · rename_i key ll
    simp only [Option.some.injEq, Prod.mk.injEq] at h
    obtain ⟨rfl, rfl⟩ := h
    have i1 : InB key := hps _ (by simp)
    have i2 : InB ll.flatten := hps _ (by simp)
    have l1 : key.length ≤ 1000000 := hps _ (by simp)
    have l2 : ll.flatten.length ≤ 1000000 := hps _ (by simp)
    have l3 : ll.length ≤ 2000000 := hps _ (by simp)
    have hf := mac_flat (key := key) i2
    have n1 := (flat_len ([xk 54 key] ++ ll)).symm
    have e1 : ([xk 54 key] ++ ll).flatten.length = 64 + ll.flatten.length := by
      rw [List.flatten_append, List.length_append, one_flat, xk_len]
    have n2 := (flat_len [xk 92 key, ofF ([xk 54 key] ++ ll)]).symm
    have e2 : [xk 92 key, ofF ([xk 54 key] ++ ll)].flatten.length = 96 := by
      rw [two_flat, List.length_append, xk_len]
      have h1 : ([xk 54 key] ++ ll).flatten = xk 54 key ++ ll.flatten := by simp
      rw [of_same (by rw [h1]; exact inB_append (xk_inB _ _) i2), rfSum_len]
    have n3 : ([xk 54 key] ++ ll).length = ll.length + 1 := by simp
    by_cases hk : key.length > 64
    · have n4 := (flat_len [key]).symm
      rw [one_flat] at n4
      have hs : ofF [key] = rfSum key := by rw [of_same (by rw [one_flat]; exact i1), one_flat]
      obtain ⟨qs, q1, q2⟩ := mc_long ll key (List.replicate 32 0) (k64 key) (xk 54 key) (xk 92 key) (decide_eq_true (by omega)) (show ofN [key] [key].length ≤ _ by omega) (by omega) (mc_loop ll _ key) rfl
        (by rw [hs]; exact over_sum hk) (by omega) (by omega) (by omega) (by omega) (show ofN [xk 92 key, ofF ([xk 54 key] ++ ll)] [xk 92 key, ofF ([xk 54 key] ++ ll)].length ≤ _ by omega) (by omega)
      refine ⟨_, _, _, _, _, fun w vs hx => hx, q1, q2, fun E v hv => ?_⟩
      rw [← hf]
      exact hv
    · obtain ⟨qs, q1, q2⟩ := mc_short ll key (List.replicate 32 0) (k64 key) (xk 54 key) (xk 92 key) (decide_eq_false (by omega)) (mc_loop ll _ key) rfl
        (over_key hk) (by omega) (by omega) (by omega) (by omega) (show ofN [xk 92 key, ofF ([xk 54 key] ++ ll)] [xk 92 key, ofF ([xk 54 key] ++ ll)].length ≤ _ by omega) (by omega)
      refine ⟨_, _, _, _, _, fun w vs hx => hx, q1, q2, fun E v hv => ?_⟩
      rw [← hf]
      exact hv
  · cases h

/-! The reference's. -/

def ra (c : Int) (l : List Int) (i : Nat) : List Int := (List.range i).map fun j => xrc c (l.getD j 0)

theorem ra_succ (c : Int) (l : List Int) (i : Nat) : ra c l i ++ [xrc c (l.getD i 0)] = ra c l (i + 1) := by
  unfold ra
  rw [List.range_succ, List.map_append]
  rfl

theorem ra_len (c : Int) (l : List Int) (i : Nat) : (ra c l i).length = i := by simp [ra]

theorem ra_all (c : Int) (key : List Int) : ra c (pk key) 64 = xk c key := by
  have h := pk_len key
  apply List.ext_getElem
  · rw [ra_len, xk_len]
  · intro i h1 h2
    rw [ra_len] at h1
    simp only [ra, xk, k64, List.getElem_map, List.getElem_range]
    congr 1
    by_cases hi : i < (pk key).length
    · rw [List.getElem_append_left hi, List.getD_eq_getElem?_getD, List.getElem?_eq_getElem hi]
      rfl
    · rw [List.getElem_append_right (by omega), List.getElem_replicate, List.getD_eq_getElem?_getD, List.getElem?_eq_none (by omega)]
      rfl

theorem rm_loop (key m : List Int) : SumOK Tryd.prog DS (bodyN Tryd.f23 0) (loopL DS (rmSn (pk key) m [] [] (0 : Nat)) (.exit 0) (rmEnd m (xk 54 key) (xk 92 key))) := by
  have hs := sum_loop gamN_ok mixed (c := bodyN Tryd.f23 0) (fun i => rmSn (pk key) m (ra 54 (pk key) i) (ra 92 (pk key) i) i) 64 (e := .exit 0) (s := rmEnd m (ra 54 (pk key) 64) (ra 92 (pk key) 64)) rfl (fun i hi => ?_) ?_
  · rw [ra_all, ra_all] at hs
    exact hs
  · have l1 := ra_len 54 (pk key) i
    have l2 := ra_len 92 (pk key) i
    by_cases h : i < (pk key).length
    · exact ⟨_, _, _, rm_in (pk key) m _ _ (ra 54 (pk key) (i + 1)) (ra 92 (pk key) (i + 1)) i (decide_eq_true (by omega)) (decide_eq_true (by omega)) (by omega) (by omega) (by omega) (by omega) (by omega) (by omega) ⟨by omega, by omega⟩ (by rw [Int.toNat_natCast]; exact ra_succ _ _ _) (by rw [Int.toNat_natCast]; exact ra_succ _ _ _)⟩
    · have e : (pk key).getD i 0 = 0 := by rw [List.getD_eq_getElem?_getD, List.getElem?_eq_none (by omega)]; rfl
      exact ⟨_, _, _, rm_out (pk key) m _ _ (ra 54 (pk key) (i + 1)) (ra 92 (pk key) (i + 1)) i (decide_eq_true (by omega)) (decide_eq_false (by omega)) (by omega) (by omega) (by omega) (by omega) ⟨by omega, by omega⟩ (by rw [← ra_succ, e]; rfl) (by rw [← ra_succ, e]; rfl)⟩
  · exact ⟨_, _, _, rm_exit (pk key) m _ _ 64 (decide_eq_false (by omega))⟩

def rmacD : FnD DS
  | [.one (.words .u8 key), .one (.words .u8 m)] => some (.v (.one (.fresh 0 5 .u8 (hmF key m))), [key.length ≤ 1000000, m.length ≤ 1000000])
  | _ => none

theorem rmac_ok : FnOK Tryd.prog DS 23 rmacD := by
  refine fnOK_of gamN_ok mixed Tryd.func23 (enters_of Tryd.func23 (by kernel_rfl) rfl) ?_
  intro xs r ps h hps
  unfold rmacD at h
  split at h
  · rename_i key m
    simp only [Option.some.injEq, Prod.mk.injEq] at h
    obtain ⟨rfl, rfl⟩ := h
    have l1 : key.length ≤ 1000000 := hps _ (by simp)
    have l2 : m.length ≤ 1000000 := hps _ (by simp)
    have n1 := xk_len 54 key
    have n2 := xk_len 92 key
    have n3 := rfSum_len (xk 54 key ++ m)
    have hl := rm_loop key m
    by_cases hk : key.length > 64
    · obtain ⟨qs, q1, q2⟩ := rm_long key (pk key) m (xk 54 key) (xk 92 key) (decide_eq_true (by omega)) (by omega) hl (by unfold pk; rw [if_pos hk]) (by omega) (by omega) (by rw [List.length_append]; omega) (by omega) (by omega) (by rw [List.length_append]; omega)
      exact ⟨_, _, _, _, _, fun w vs hx => hx, q1, q2, fun E v hv => hv⟩
    · have e : pk key = key := by unfold pk; rw [if_neg hk]
      rw [e] at hl
      obtain ⟨qs, q1, q2⟩ := rm_short key m (xk 54 key) (xk 92 key) (decide_eq_false (by omega)) hl (by omega) (by omega) (by rw [List.length_append]; omega) (by omega) (by omega) (by rw [List.length_append]; omega)
      exact ⟨_, _, _, _, _, fun w vs hx => hx, q1, q2, fun E v hv => hv⟩
  · cases h

end Go.Num
