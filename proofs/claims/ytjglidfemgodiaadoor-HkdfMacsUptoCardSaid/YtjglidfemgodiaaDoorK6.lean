/- HKDF: the laws. -/
import Derived.Test.YtjglidfemgodiaaDoorK5
namespace Go.Num
open Go.Abs Go.Proofs Go.Shelf

theorem mask13 (m : Int) : 0 ≤ bitsOf .and .i64 m 8191 ∧ bitsOf .and .i64 m 8191 ≤ 8191 := by
  show 0 ≤ IntKind.i64.wrap _ ∧ IntKind.i64.wrap _ ≤ 8191
  have h : (BitVec.ofInt IntKind.i64.bits m &&& BitVec.ofInt IntKind.i64.bits 8191).toNat ≤ 8191 := by
    rw [BitVec.toNat_and]
    exact Nat.le_trans Nat.and_le_right (by decide)
  rw [IntKind.wrap_i64]
  omega

theorem hm_loop1 {key : List Int} {ll : List (List Int)} (hk : key.length ≤ 1048576) (h : ll.flatten.length + ll.length ≤ 1048576) : SumOK Tryd.prog DS (bodyN Tryd.f6 0) (loopL DS (hm1Sn key ll [] key.length (hm1In ll (0 : Nat))) (.exit 0) (hm1Sn key ll ll ((key.length + ll.flatten.length : Nat) : Int) [])) := by
  have hs := sum_loop gamL_ok mixed (c := bodyN Tryd.f6 0) (fun k => hm1Sn key ll (ll.take k) ((key.length + (ll.take k).flatten.length : Nat) : Int) (hm1In ll k)) ll.length (e := .exit 0) (s := hm1Sn key ll (ll.take ll.length) ((key.length + (ll.take ll.length).flatten.length : Nat) : Int) []) rfl (fun k hk => ?_) ?_
  · rw [List.take_length] at hs
    exact hs
  · have hf := flat_succ hk
    have hl := flat_le ll (k + 1)
    have hn := congrArg List.length hf
    rw [List.length_append] at hn
    have ht : (ll.take k).length = k := by rw [List.length_take]; omega
    refine ⟨_, _, _, hm1_round key ll (ll.take k) (ll.take (k + 1)) ((key.length + (ll.take k).flatten.length : Nat) : Int) ((key.length + (ll.take (k + 1)).flatten.length : Nat) : Int) k (decide_eq_true (by omega)) (by omega) (by omega) ⟨by rw [Int.toNat_natCast]; omega, by rw [Int.toNat_natCast]; omega⟩ (by rw [Int.toNat_natCast]; omega) (by omega) (by omega) ⟨by omega, by omega⟩ (by rw [Int.toNat_natCast]; omega) ?_⟩
    rw [Int.toNat_natCast, List.take_succ_eq_append_getElem hk, List.getD_eq_getElem?_getD, List.getElem?_eq_getElem hk]
    rfl
  · exact ⟨_, _, _, hm1_exit key ll (ll.take ll.length) _ ll.length (decide_eq_false (by omega))⟩

theorem hm_loop2 {ll : List (List Int)} (h : ll.flatten.length + ll.length ≤ 1048576) : SumOK Tryd.prog DS (bodyN Tryd.f6 1) (loopL DS (hm2Sn ll ll [slI 53 ll.length, slI 54 (0 : Nat)]) (.exit 2) hm2End) := by
  refine sum_loop gamL_ok mixed (c := bodyN Tryd.f6 1) (fun k => hm2Sn ll ll [slI 53 ll.length, slI 54 k]) ll.length (e := .exit 2) (s := hm2End) rfl (fun k hk => ?_) ?_
  · have hf := flat_succ hk
    have hl := flat_le ll (k + 1)
    rw [hf, List.length_append] at hl
    exact ⟨_, _, _, hm2_round ll ll k (decide_eq_true (by omega)) (by omega) (by omega) (by omega) (by omega) (decide_eq_true rfl) (by rw [Int.toNat_natCast]; omega) (by rw [Int.toNat_natCast]; omega) ⟨by omega, by omega⟩⟩
  · exact ⟨_, _, _, hm2_exit ll ll ll.length (decide_eq_false (by omega))⟩

theorem take32 {l : List Int} (h : l.length = 32) : List.take (32 - 0) (List.drop 0 l) = l := by
  rw [List.drop_zero, List.take_of_length_le (by omega)]

theorem lawMacs {key : List Int} {ll : List (List Int)} (ik : InB key) (_lk : key.length ≤ 140737488351232) (uk : key.length ≤ 1048576) (hb : ∀ l ∈ ll, InB l ∧ l.length ≤ 140737488351232) (_hl : ll.length * 24 ≤ 140737488351232) (hu : ll.flatten.length + ll.length ≤ 1048576) :
    LawOKS Tryd.f6 [.one (.words .u8 key), .one (.wordss .u8 ll)] := by
  have hi : InB ll.flatten := flat_inB fun l hl => (hb l hl).1
  by_cases h : ((key.length + ll.flatten.length : Nat) : Int) > 16384
  · exact ⟨gamL, gamL_ok, _, hm_big key ll ll _ (hm_loop1 uk hu) (decide_eq_true h)⟩
  have e := hmF_len key ll.flatten
  exact ⟨gamL, gamL_ok, _, hm_run key ll ll _ (hm_loop1 uk hu) (decide_eq_false h) (by omega) ik hi (by omega) (by omega) (by omega) (by omega) (by omega) (by rw [take32 e]; exact decide_eq_true rfl) (by rw [take32 e]; omega) (by omega) (decide_eq_true rfl) (by omega) (hm_loop2 hu)⟩

theorem lawGrows {key info : List Int} {n m : Int} (ik : InB key) (lk : key.length ≤ 140737488351232) (ii : InB info) (li : info.length ≤ 140737488351232) (_hn : -9223372036854775808 ≤ n ∧ n ≤ 9223372036854775807) (_hm : -9223372036854775808 ≤ m ∧ m ≤ 9223372036854775807) :
    LawOKS Tryd.f7 [.one (.words .u8 key), .one (.words .u8 info), .one (.int .i64 false n), .one (.int .i64 false m)] := by
  have i0 : InI64 ((key.length : Int) + info.length) := ⟨by omega, by omega⟩
  by_cases h : (key.length : Int) + info.length > 4096
  · exact ⟨gamL, gamL_ok, _, hg_big key info n m i0 (decide_eq_true h)⟩
  have el := exF_len key info n
  by_cases h0 : n < 0
  · rw [if_pos (.inl h0)] at el
    exact ⟨gamL, gamL_ok, _, hg_neg key info n m i0 (decide_eq_false h) (decide_eq_true h0) (by omega) (by omega) ik ii (by omega) (by omega) (beq_iff_eq.2 (by omega))⟩
  by_cases h1 : n > 8160
  · rw [if_pos (.inr h1)] at el
    exact ⟨gamL, gamL_ok, _, hg_most key info n m i0 (decide_eq_false h) (decide_eq_false h0) (decide_eq_true h1) (by omega) (by omega) ik ii (by omega) (by omega) (beq_iff_eq.2 (by omega))⟩
  rw [if_neg (by omega)] at el
  obtain ⟨m0, m1⟩ := mask13 m
  generalize hM : bitsOf .and .i64 m 8191 = M at m0 m1
  have em := exF_len key info M
  by_cases h2 : M > 8160
  · rw [if_pos (.inr h2)] at em
    have := hg_much key info n m i0 (decide_eq_false h) (decide_eq_false h0) (decide_eq_false h1) (by omega) (by omega) ik ii (by omega) (by omega)
    rw [hM] at this
    exact ⟨gamL, gamL_ok, _, this (decide_eq_true h2) (beq_iff_eq.2 (by omega))⟩
  · rw [if_neg (by omega)] at em
    have := hg_both key info n m i0 (decide_eq_false h) (decide_eq_false h0) (decide_eq_false h1) (by omega) (by omega) ik ii (by omega) (by omega)
    rw [hM] at this
    have hK : ∃ K : Int, (if M < n then M else n) = K ∧ 0 ≤ K ∧ K ≤ n ∧ K ≤ M := by
      by_cases hh : M < n
      · exact ⟨M, if_pos hh, by omega, by omega, by omega⟩
      · exact ⟨n, if_neg hh, by omega, by omega, by omega⟩
    obtain ⟨K, hK, k0, k1, k2⟩ := hK
    rw [hK] at this
    have hp := exF_pre key info (n := n) (m := M) (by omega) (by omega) (by omega) (by omega) K.toNat (by omega) (by omega)
    exact ⟨gamL, gamL_ok, _, this (decide_eq_false h2) (bne_eq_false_iff_eq.2 (by omega)) (bne_eq_false_iff_eq.2 (by omega)) (by omega) (by omega) (by omega) (decide_eq_true hp) (by rw [List.length_take]; omega) (by rw [List.length_take]; omega)⟩

theorem hk_loop (x : List Int) (hx : x.length ≤ 1000000) : SumOK Tryd.prog DS (bodyN Tryd.f8 0) (loopL DS (hkSn2 x x x x.length (0 : Nat)) (.exit 0) (hkEnd x x)) := by
  refine sum_loop gamL_ok mixed (c := bodyN Tryd.f8 0) (fun k => hkSn2 (xq x k) x x x.length k) x.length (e := .exit 0) (s := hkEnd x x) rfl (fun k hk => ?_) ?_
  · have := xq_len x k
    exact ⟨_, _, _, hk_round (xq x k) (xq x (k + 1)) x x x.length k (decide_eq_true (by omega)) (by omega) (by omega) (by omega) ⟨by omega, by omega⟩ rfl⟩
  · exact ⟨_, _, _, hk_exit (xq x x.length) x x x.length x.length (decide_eq_false (by omega))⟩

theorem exF_le (key info : List Int) (n : Int) : (exF key info n).length ≤ 8160 := by
  rw [exF_len]
  split <;> omega

theorem lawKeys {salt drawn info : List Int} {n : Int} (is : InB salt) (ls : salt.length ≤ 140737488351232) (id : InB drawn) (ld : drawn.length ≤ 140737488351232) (ii : InB info) (li : info.length ≤ 140737488351232) (_hn : -9223372036854775808 ≤ n ∧ n ≤ 9223372036854775807) :
    LawOKS Tryd.f8 [.one (.words .u8 salt), .one (.words .u8 drawn), .one (.words .u8 info), .one (.int .i64 false n)] := by
  have i0 : InI64 ((salt.length : Int) + drawn.length) := ⟨by omega, by omega⟩
  have i1 : InI64 ((salt.length : Int) + drawn.length + info.length) := ⟨by omega, by omega⟩
  by_cases h : (salt.length : Int) + drawn.length + info.length > 4096
  · exact ⟨gamL, gamL_ok, _, hk_big salt drawn info n i0 i1 (decide_eq_true h)⟩
  have e := hmF_len salt drawn
  have t := take32 e
  have it : InB (List.take (32 - 0) (List.drop 0 (hmF salt drawn))) := by rw [t]; exact hmF_inB _ _
  have tl : (List.take (32 - 0) (List.drop 0 (hmF salt drawn))).length = 32 := by rw [t]; exact e
  have l1 := exF_le (List.take (32 - 0) (List.drop 0 (hmF salt drawn))) info n
  have l2 := exF_le (List.take (32 - 0) (List.drop 0 (hmF salt drawn))) info (bitsOf .and .i64 n 255)
  have hd : decide (List.take (32 - 0) (List.drop 0 (hmF salt drawn)) = hmF salt drawn) = true := by rw [t]; exact decide_eq_true rfl
  by_cases h4 : n > 400
  · by_cases h8 : n ≤ 8160
    · exact ⟨gamL, gamL_ok, _, hk_c salt drawn info _ n _ i0 i1 (decide_eq_false h) (by omega) (by omega) is id (by omega) (by omega) hd (by omega) (by omega) (decide_eq_true h4) (decide_eq_true h8) (by omega) (by omega) it ii (by omega) (by omega) (decide_eq_true rfl) (by omega) (hk_loop _ (by omega)) rfl rfl (decide_eq_true rfl) (by omega)⟩
    · exact ⟨gamL, gamL_ok, _, hk_b salt drawn info _ n _ i0 i1 (decide_eq_false h) (by omega) (by omega) is id (by omega) (by omega) hd (by omega) (by omega) (decide_eq_true h4) (decide_eq_false h8) (by omega) (by omega) it ii (by omega) (by omega) (decide_eq_true rfl) (by omega) (hk_loop _ (by omega)) rfl rfl (decide_eq_true rfl) (by omega)⟩
  · exact ⟨gamL, gamL_ok, _, hk_a salt drawn info _ n _ i0 i1 (decide_eq_false h) (by omega) (by omega) is id (by omega) (by omega) hd (by omega) (by omega) (decide_eq_false h4) (by omega) (by omega) it ii (by omega) (by omega) (decide_eq_true rfl) (by omega) (hk_loop _ (by omega)) rfl rfl (decide_eq_true rfl) (by omega)⟩

end Go.Num
