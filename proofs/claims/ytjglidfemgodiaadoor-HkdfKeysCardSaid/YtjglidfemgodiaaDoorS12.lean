/- SHA-256: the laws ShaSums and ShaStreams. -/
import Derived.Test.YtjglidfemgodiaaDoorS11
namespace Go.Num
open Go.Abs Go.Proofs Go.Shelf

theorem flat_succ {ll : List (List Int)} {k : Nat} (h : k < ll.length) : (ll.take (k + 1)).flatten = (ll.take k).flatten ++ ll.getD k [] := by
  rw [List.take_succ_eq_append_getElem h, List.flatten_append, List.getD_eq_getElem?_getD, List.getElem?_eq_getElem h]
  simp

theorem flat_le (ll : List (List Int)) (k : Nat) : (ll.take k).flatten.length ≤ ll.flatten.length := by
  have : (ll.take k ++ ll.drop k).flatten = ll.flatten := by rw [List.take_append_drop]
  rw [← this, List.flatten_append, List.length_append]
  omega

theorem flat_len (ll : List (List Int)) : ll.flatten.length = ofN ll ll.length := by
  have := (of_took ll ll.length (Nat.le_refl _)).2
  rwa [List.take_length] at this

theorem getD_mem {ll : List (List Int)} {k : Nat} (h : k < ll.length) : ll.getD k [] ∈ ll := by
  rw [List.getD_eq_getElem?_getD, List.getElem?_eq_getElem h]
  exact List.getElem_mem h

theorem flat_inB {ll : List (List Int)} (h : ∀ l ∈ ll, InB l) : InB ll.flatten := fun x hx => by
  obtain ⟨l, hl, hx⟩ := List.mem_flatten.1 hx
  exact h l hl x hx

theorem rfSum_len (l : List Int) : (rfSum l).length = 32 := by
  unfold rfSum
  rw [rfO_eq]
  simp

theorem join_ok : FnOK Tryd.prog DS 14 joinD := by
  refine fnOK_of gam_nil mixed Tryd.func14 (enters_of Tryd.func14 (by kernel_rfl) rfl) ?_
  intro xs r ps h hps
  unfold joinD at h
  split at h
  · rename_i ll
    simp only [Option.some.injEq, Prod.mk.injEq] at h
    obtain ⟨rfl, rfl⟩ := h
    have h1 : ll.flatten.length ≤ 1000000 := hps _ (by simp)
    have h2 : ll.length ≤ 9223372036854775807 := hps _ (by simp)
    have hs := sum_loop gam_nil mixed (c := bodyN Tryd.f14 0) (fun k => jnSn ll (ll.take k).flatten [slI 8 k]) ll.length (e := .exit 0) (s := jnEnd ll.flatten) rfl (fun k hk => ?_) ?_
    · obtain ⟨qs, q1, q2⟩ := jn_run ll [] ll.flatten hs rfl
      exact ⟨_, _, _, _, _, fun w vs hx => hx, q1, q2, fun E v hv => hv⟩
    · have hf := flat_succ hk
      have hl := flat_le ll (k + 1)
      rw [hf, List.length_append] at hl
      exact ⟨_, _, _, jn_round ll (ll.take k).flatten (ll.take (k + 1)).flatten k (decide_eq_true (by omega)) (by omega) (by omega) (by rw [Int.toNat_natCast]; omega) (by rw [Int.toNat_natCast]; omega) ⟨by omega, by omega⟩ (by rw [Int.toNat_natCast]; exact hf.symm)⟩
    · have := jn_exit ll (ll.take ll.length).flatten ll.length (decide_eq_false (by omega))
      rw [List.take_length] at this
      rw [List.take_length]
      exact ⟨_, _, _, this⟩
  · cases h

theorem gamU_ok : GamOK Tryd.prog DS gamU := gam_cons head_ok (gam_fz (copy_ok DS) (gam_cons of_ok (gam_cons join_ok (gam_cons ref_ok (gam_cons is_ok (gam_cons (same_ok DS) gam_nil))))))

theorem su_loop1 {ll : List (List Int)} (h : ll.flatten.length + ll.length ≤ 1048576) : SumOK Tryd.prog DS (bodyN Tryd.f3 0) (loopL DS (su1Sn ll [] 0 (su1In ll (0 : Nat))) (.exit 0) (su1Sn ll ll ll.flatten.length [])) := by
  have hs := sum_loop gamU_ok mixed (c := bodyN Tryd.f3 0) (fun k => su1Sn ll (ll.take k) (ll.take k).flatten.length (su1In ll k)) ll.length (e := .exit 0) (s := su1Sn ll (ll.take ll.length) (ll.take ll.length).flatten.length []) rfl (fun k hk => ?_) ?_
  · rw [List.take_length] at hs
    exact hs
  · have hf := flat_succ hk
    have hl := flat_le ll (k + 1)
    have hn := congrArg List.length hf
    rw [List.length_append] at hn
    have ht : (ll.take k).length = k := by rw [List.length_take]; omega
    refine ⟨_, _, _, su1_round ll (ll.take k) (ll.take (k + 1)) (ll.take k).flatten.length (ll.take (k + 1)).flatten.length k (decide_eq_true (by omega)) (by omega) (by omega) (by rw [Int.toNat_natCast]; omega) (by omega) (by omega) ⟨by rw [Int.toNat_natCast]; omega, by rw [Int.toNat_natCast]; omega⟩ ⟨by omega, by omega⟩ (by rw [Int.toNat_natCast]; omega) ?_⟩
    rw [Int.toNat_natCast, List.take_succ_eq_append_getElem hk, List.getD_eq_getElem?_getD, List.getElem?_eq_getElem hk]
    rfl
  · exact ⟨_, _, _, su1_exit ll (ll.take ll.length) _ ll.length (decide_eq_false (by omega))⟩

theorem su_loop2 {ll : List (List Int)} (h : ll.flatten.length + ll.length ≤ 1048576) : SumOK Tryd.prog DS (bodyN Tryd.f3 1) (loopL DS (su2Sn ll ll [slI 37 ll.length, slI 38 (0 : Nat)]) (.exit 2) su2End) := by
  refine sum_loop gamU_ok mixed (c := bodyN Tryd.f3 1) (fun k => su2Sn ll ll [slI 37 ll.length, slI 38 k]) ll.length (e := .exit 2) (s := su2End) rfl (fun k hk => ?_) ?_
  · have hf := flat_succ hk
    have hl := flat_le ll (k + 1)
    rw [hf, List.length_append] at hl
    exact ⟨_, _, _, su2_round ll ll k (decide_eq_true (by omega)) (by omega) (by omega) (by omega) (by omega) (decide_eq_true rfl) (by rw [Int.toNat_natCast]; omega) (by rw [Int.toNat_natCast]; omega) ⟨by omega, by omega⟩⟩
  · exact ⟨_, _, _, su2_exit ll ll ll.length (decide_eq_false (by omega))⟩

theorem lawSums {ll : List (List Int)} (hb : ∀ l ∈ ll, InB l ∧ l.length ≤ 140737488351232) (_hl : ll.length * 24 ≤ 140737488351232) (hu : ll.flatten.length + ll.length ≤ 1048576) : LawOKS Tryd.f3 [.one (.wordss .u8 ll)] := by
  have hi : InB ll.flatten := flat_inB fun l hl => (hb l hl).1
  by_cases h : (ll.flatten.length : Int) > 65536
  · exact ⟨gamU, gamU_ok, _, su_big ll ll ll.flatten.length (su_loop1 hu) (decide_eq_true h)⟩
  · have he := of_same hi
    have hr := rfSum_len ll.flatten
    have hn := flat_len ll
    exact ⟨gamU, gamU_ok, _, su_run ll ll ll.flatten.length (su_loop1 hu) (decide_eq_false h) (show ofN ll ll.length ≤ 4611686018427387904 by omega) (by omega) (by omega) (by omega) (by omega) (decide_eq_true he) (by rw [he]; exact hr) (by omega) (su_loop2 hu)⟩

theorem gamV_ok : GamOK Tryd.prog DS gamV := gam_cons head_ok (gam_cons (copy_ok DS) (gam_cons ref_ok (gam_cons is_ok (gam_op new_ok (gam_op write_ok (gam_op sum_ok (gam_op len_ok (gam_op reset_ok gam_nil))))))))

/-- All bytes turned over, the first k. -/
def xq (l : List Int) : Nat → List Int
  | 0 => l
  | k + 1 => (xq l k).set k (bitsOf .xor .u8 ((xq l k).getD k 0) 255)

theorem xq_len (l : List Int) : ∀ k, (xq l k).length = l.length
  | 0 => rfl
  | k + 1 => by rw [xq, List.length_set, xq_len l k]

theorem si_loop (ll : List (List Int)) (rs : Int) (s r all p q : List Int) (n i : Int) (hq : q.length ≤ 1000000) : SumOK Tryd.prog DS (bodyN Tryd.f5 1) (loopL DS (siSn ll rs s r all p q n i (siIn q.length (0 : Nat))) (.exit 2) (siEd ll rs s r all p n i)) := by
  refine sum_loop gamV_ok mixed (c := bodyN Tryd.f5 1) (fun k => siSn ll rs s r all p (xq q k) n i (siIn q.length k)) q.length (e := .exit 2) (s := siEd ll rs s r all p n i) rfl (fun k hk => ?_) ?_
  · have := xq_len q k
    exact ⟨_, _, _, si_round ll rs s r all p (xq q k) (xq q (k + 1)) n i q.length k (decide_eq_true (by omega)) (by omega) (by omega) (by omega) ⟨by omega, by omega⟩ rfl⟩
  · exact ⟨_, _, _, si_exit ll rs s r all p (xq q q.length) n i q.length q.length (decide_eq_false (by omega))⟩

theorem si0_loop (ll : List (List Int)) (rs : Int) (s r p q : List Int) (n i : Int) (hq : q.length ≤ 1000000) : SumOK Tryd.prog DS (bodyN Tryd.f5 1) (loopL DS (siSn0 ll rs s r p q n i (siIn q.length (0 : Nat))) (.exit 2) (siEd0 ll rs s r p n i)) := by
  refine sum_loop gamV_ok mixed (c := bodyN Tryd.f5 1) (fun k => siSn0 ll rs s r p (xq q k) n i (siIn q.length k)) q.length (e := .exit 2) (s := siEd0 ll rs s r p n i) rfl (fun k hk => ?_) ?_
  · have := xq_len q k
    exact ⟨_, _, _, si0_round ll rs s r p (xq q k) (xq q (k + 1)) n i q.length k (decide_eq_true (by omega)) (by omega) (by omega) (by omega) ⟨by omega, by omega⟩ rfl⟩
  · exact ⟨_, _, _, si0_exit ll rs s r p (xq q q.length) n i q.length q.length (decide_eq_false (by omega))⟩

structure StI where
  all : List Int
  s : List Int
  r : List Int

/-- What the hash has taken ahead of piece k. -/
def stI (ll : List (List Int)) (rs : Int) : Nat → StI
  | 0 => ⟨[], List.replicate 8 0, List.replicate 64 0⟩
  | k + 1 => if (k : Int) = rs then ⟨ll.getD k [], writeS (List.replicate 8 0) (List.replicate 64 0) 0 (ll.getD k []), writeR (List.replicate 8 0) (List.replicate 64 0) 0 (ll.getD k [])⟩
    else ⟨(stI ll rs k).all ++ ll.getD k [], writeS (stI ll rs k).s (stI ll rs k).r (stI ll rs k).all.length (ll.getD k []), writeR (stI ll rs k).s (stI ll rs k).r (stI ll rs k).all.length (ll.getD k [])⟩

theorem stI_took (ll : List (List Int)) (rs : Int) : ∀ k, Took (stI ll rs k).all (stI ll rs k).s (stI ll rs k).r
  | 0 => took_none _ List.length_replicate
  | k + 1 => by
    unfold stI
    split
    · exact took_write (took_none (List.replicate 8 0) (List.length_replicate (n := 64) (a := (0 : Int)))) (ll.getD k [])
    · exact took_write (stI_took ll rs k) _

theorem getD_inB {ll : List (List Int)} (h : ∀ l ∈ ll, InB l) (k : Nat) : InB (ll.getD k []) := by
  by_cases hk : k < ll.length
  · exact h _ (getD_mem hk)
  · rw [List.getD_eq_getElem?_getD, List.getElem?_eq_none (by omega)]
    intro x hx
    cases hx

theorem stI_inB {ll : List (List Int)} (h : ∀ l ∈ ll, InB l) (rs : Int) : ∀ k, InB (stI ll rs k).all
  | 0 => fun x hx => by cases hx
  | k + 1 => by
    unfold stI
    split
    · exact getD_inB h k
    · exact inB_append (stI_inB h rs k) (getD_inB h k)

/-- Behind piece k the law is over. -/
def stBad (ll : List (List Int)) (rs : Int) (k : Nat) : Prop := (stI ll rs k).all.length + (ll.getD k []).length > 16384 ∨ k > 40

theorem stI_small {ll : List (List Int)} {rs : Int} : ∀ {k : Nat}, (∀ j, j < k → ¬ stBad ll rs j) → (stI ll rs k).all.length ≤ 16384
  | 0, _ => Nat.zero_le _
  | k + 1, h => by
    have h1 := h k (by omega)
    unfold stBad at h1
    unfold stI
    split
    · show (ll.getD k []).length ≤ 16384
      omega
    · show ((stI ll rs k).all ++ ll.getD k []).length ≤ 16384
      rw [List.length_append]
      omega

theorem first_bad (p : Nat → Prop) : ∀ n : Nat, (∃ k, k < n ∧ p k ∧ ∀ j, j < k → ¬ p j) ∨ ∀ k, k < n → ¬ p k
  | 0 => .inr fun k hk => by omega
  | n + 1 => by
    rcases first_bad p n with ⟨k, h1, h2, h3⟩ | h
    · exact .inl ⟨k, by omega, h2, h3⟩
    · rcases Classical.em (p n) with hp | hp
      · exact .inl ⟨n, by omega, hp, h⟩
      · refine .inr fun k hk => ?_
        rcases Nat.lt_or_ge k n with h' | h'
        · exact h k h'
        · rw [show k = n from by omega]; exact hp

/-- One good piece. -/
theorem st_step {ll : List (List Int)} (hb : ∀ l ∈ ll, InB l) (rs : Int) {k : Nat} (hk : k < ll.length) (hg : ¬ stBad ll rs k) :
    ∃ fuel nid ds ps, stepPs Tryd.prog DS gamV fuel (bodyN Tryd.f5 0) nid (stSn ll rs (stI ll rs k).s (stI ll rs k).r (stI ll rs k).all (stI ll rs k).all.length k).st ds .normal
      (stSn ll rs (stI ll rs (k + 1)).s (stI ll rs (k + 1)).r (stI ll rs (k + 1)).all (stI ll rs (k + 1)).all.length ((k : Int) + 1)) = some ps ∧ AllQ ps := by
  have hs := sum_same (stI_inB hb rs (k + 1)) (stI_took ll rs (k + 1))
  have hlen := rfSum_len (stI ll rs (k + 1)).all
  have hq : EqT Tryd.prog 27 := eqT_of (n := 32) (by kernel_rfl) (by kernel_rfl) (by kernel_rfl) (by kernel_rfl)
  unfold stBad at hg
  by_cases hr : (k : Int) = rs
  · have e : stI ll rs (k + 1) = ⟨ll.getD k [], writeS (List.replicate 8 0) (List.replicate 64 0) 0 (ll.getD k []), writeR (List.replicate 8 0) (List.replicate 64 0) 0 (ll.getD k [])⟩ := by rw [stI, if_pos hr]
    rw [e] at hs hlen ⊢
    simp only at hs hlen ⊢
    have := st_reset ll rs (stI ll rs k).s (stI ll rs k).r (stI ll rs k).all (writeS (List.replicate 8 0) (List.replicate 64 0) 0 (ll.getD k [])) (writeR (List.replicate 8 0) (List.replicate 64 0) 0 (ll.getD k [])) (ll.getD k []) (ll.getD k []) (ll.getD k []) (stI ll rs k).all.length (ll.getD k []).length (ll.getD k []).length k
      (decide_eq_true (by omega)) (by omega) (by omega) ⟨by rw [Int.toNat_natCast]; omega, by rw [Int.toNat_natCast]; omega⟩ (decide_eq_false (by rw [Int.toNat_natCast]; omega)) (decide_eq_false (by omega)) (beq_iff_eq.2 hr) (by rw [Int.toNat_natCast]; omega) (by rw [Int.toNat_natCast]; omega)
      (si0_loop ll rs _ _ _ _ _ _ (by omega)) (by rw [Int.toNat_natCast]) (by rw [Int.toNat_natCast]) (by rw [Int.toNat_natCast]) (by rw [Int.toNat_natCast]) (by rw [Int.toNat_natCast]; omega) (by rw [Int.toNat_natCast]) (by omega) (by omega) (by omega) (by omega) (by simp)
      (by simp) hq (by omega) (by rw [Int.toNat_natCast]; exact decide_eq_true hs) (by rw [Int.toNat_natCast, hs]; exact hlen) (by omega) ⟨by omega, by omega⟩ rfl
    exact ⟨_, _, _, this⟩
  · have e : stI ll rs (k + 1) = ⟨(stI ll rs k).all ++ ll.getD k [], writeS (stI ll rs k).s (stI ll rs k).r (stI ll rs k).all.length (ll.getD k []), writeR (stI ll rs k).s (stI ll rs k).r (stI ll rs k).all.length (ll.getD k [])⟩ := by rw [stI, if_neg hr]
    rw [e] at hs hlen ⊢
    simp only at hs hlen ⊢
    have hn : (((stI ll rs k).all ++ ll.getD k []).length : Int) = (stI ll rs k).all.length + (ll.getD k []).length := by rw [List.length_append]; omega
    have hn2 : ((stI ll rs k).all ++ ll.getD k []).length = (stI ll rs k).all.length + (ll.getD k []).length := List.length_append
    have := st_round ll rs (stI ll rs k).s (stI ll rs k).r (stI ll rs k).all (writeS (stI ll rs k).s (stI ll rs k).r (stI ll rs k).all.length (ll.getD k [])) (writeR (stI ll rs k).s (stI ll rs k).r (stI ll rs k).all.length (ll.getD k [])) ((stI ll rs k).all ++ ll.getD k []) (ll.getD k []) (ll.getD k []) (stI ll rs k).all.length ((stI ll rs k).all ++ ll.getD k []).length (ll.getD k []).length k
      (decide_eq_true (by omega)) (by omega) (by omega) ⟨by rw [Int.toNat_natCast]; omega, by rw [Int.toNat_natCast]; omega⟩ (decide_eq_false (by rw [Int.toNat_natCast]; omega)) (decide_eq_false (by omega)) (beq_eq_false_iff_ne.2 hr) (by rw [Int.toNat_natCast]; omega) (by omega) (by rw [Int.toNat_natCast]; omega)
      (si_loop ll rs _ _ _ _ _ _ _ (by omega)) (by rw [Int.toNat_natCast]) (by rw [Int.toNat_natCast]) (by rw [Int.toNat_natCast, Int.toNat_natCast]) (by rw [Int.toNat_natCast, Int.toNat_natCast]) (by rw [Int.toNat_natCast]; omega) (by rw [Int.toNat_natCast]) (by omega) (by omega) (by omega) (by omega) (by simp)
      (by simp) hq (by omega) (by rw [Int.toNat_natCast]; exact decide_eq_true hs) (by rw [Int.toNat_natCast, hs]; exact hlen) (by omega) ⟨by omega, by omega⟩ rfl
    exact ⟨_, _, _, this⟩

theorem lawStreams {ll : List (List Int)} {rs : Int} (hb : ∀ l ∈ ll, InB l ∧ l.length ≤ 140737488351232) (_hl : ll.length * 24 ≤ 140737488351232) (_hr : -9223372036854775808 ≤ rs ∧ rs ≤ 9223372036854775807) : LawOKS Tryd.f5 [.one (.wordss .u8 ll), .one (.int .i64 false rs)] := by
  have hi : ∀ l ∈ ll, InB l := fun l hl => (hb l hl).1
  rcases first_bad (stBad ll rs) ll.length with ⟨k, hk, hbad, hgood⟩ | hgood
  · have hsm := stI_small hgood
    have hp := (hb _ (getD_mem hk)).2
    have hs := sum_loop gamV_ok mixed (c := bodyN Tryd.f5 0) (fun j => stSn ll rs (stI ll rs j).s (stI ll rs j).r (stI ll rs j).all (stI ll rs j).all.length j) k (e := .ret) (s := stEnd) rfl (fun j hj => st_step hi rs (by omega) (hgood j hj)) ?_
    · exact ⟨gamV, gamV_ok, _, st_ret ll rs _ _ hs rfl rfl⟩
    · unfold stBad at hbad
      by_cases h1 : (stI ll rs k).all.length + (ll.getD k []).length > 16384
      · exact ⟨_, _, _, st_big ll rs _ _ _ _ k (decide_eq_true (by omega)) (by omega) (by omega) ⟨by rw [Int.toNat_natCast]; omega, by rw [Int.toNat_natCast]; omega⟩ (decide_eq_true (by rw [Int.toNat_natCast]; omega))⟩
      · exact ⟨_, _, _, st_many ll rs _ _ _ _ k (decide_eq_true (by omega)) (by omega) (by omega) ⟨by rw [Int.toNat_natCast]; omega, by rw [Int.toNat_natCast]; omega⟩ (decide_eq_false (by rw [Int.toNat_natCast]; omega)) (decide_eq_true (by omega))⟩
  · have hs := sum_loop gamV_ok mixed (c := bodyN Tryd.f5 0) (fun j => stSn ll rs (stI ll rs j).s (stI ll rs j).r (stI ll rs j).all (stI ll rs j).all.length j) ll.length (e := .exit 0) (s := ⟨[], [], 96, 0⟩) rfl (fun j hj => st_step hi rs hj (hgood j hj)) ?_
    · exact ⟨gamV, gamV_ok, _, st_end ll rs _ _ hs rfl rfl (eqT_of (n := 32) (by kernel_rfl) (by kernel_rfl) (by kernel_rfl) (by kernel_rfl))⟩
    · exact ⟨_, _, _, st_exit ll rs _ _ _ _ ll.length (decide_eq_false (by omega))⟩

end Go.Num
