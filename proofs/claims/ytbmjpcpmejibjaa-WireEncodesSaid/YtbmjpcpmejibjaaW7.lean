/- Messages: the laws. -/
import Derived.Test.YtbmjpcpmejibjaaW6
namespace Go.Num
open Go.Abs Go.Proofs Go.Shelf

theorem err_bad {m : Msg} (h : ¬ m.Ck) : m.err = 60 := if_neg h
theorem enc_good {m : Msg} (h : m.Ck) : m.enc = m.bytes := if_pos h
theorem enc_none {m : Msg} (h : ¬ m.Ck) : m.enc = [] := if_neg h
theorem ne_t {m : Msg} (h : ¬ m.Ck) : (m.err != 0) = true := by rw [err_bad h]; rfl
theorem ne_f {m : Msg} (h : m.Ck) : (m.err != 0) = false := by rw [err_ok h]; rfl

theorem enc_len {m : Msg} (h : m.Ck) : m.enc.length = 18 + m.bd.length := by rw [enc_good h, m.bytes_len]

theorem bytes_inj {a b : Msg} (ha : a.Ck) (hb : b.Ck) : a.bytes = b.bytes ↔ a.eqv b := by
  constructor
  · intro h
    refine Msg.eqv_iff.2 ?_
    rw [← decM_bytes ha, h, decM_bytes hb]
  · intro h
    rw [Msg.eqv_iff.1 h]

theorem lawUnlike {a b : Msg} (_ha : InB a.bd) (la : a.bd.length ≤ 140737488351232) (_hb : InB b.bd) (lb : b.bd.length ≤ 140737488351232) : LawOK0 Try.f5 [.agg a.P, .agg b.P] := by
  by_cases ca : a.Ck
  · by_cases cb : b.Ck
    · have na := Msg.Ck_len ca
      have nb := Msg.Ck_len cb
      have ea := enc_len ca
      have eb := enc_len cb
      obtain ⟨ps, h1, h2⟩ := unlike_c a b (by omega) (by omega) (by omega) (by omega) (ne_f ca) (ne_f cb) (show a.enc.length ≤ _ by omega) (show b.enc.length ≤ _ by omega)
        (beq_iff_eq.2 (decide_eq_decide.2 (show a.enc = b.enc ↔ a.eqv b by rw [enc_good ca, enc_good cb]; exact bytes_inj ca cb))) ⟨by omega, by omega⟩ (beq_iff_eq.2 (show ((a.enc.length : Nat) : Int) = 18 + ((a.bd.length : Nat) : Int) by omega))
      exact ⟨gw6, gw6_ok, _, ps, h1, h2⟩
    · obtain ⟨ps, h1, h2⟩ := unlike_b a b (by omega) (by omega) (by omega) (by omega) (ne_f ca) (ne_t cb)
      exact ⟨gw6, gw6_ok, _, ps, h1, h2⟩
  · obtain ⟨ps, h1, h2⟩ := unlike_a a b (by omega) (by omega) (by omega) (by omega) (ne_t ca)
    exact ⟨gw6, gw6_ok, _, ps, h1, h2⟩

theorem inB_take {l : List Int} (h : InB l) (j : Nat) : InB (l.take j) := fun a ha => h a (List.mem_of_mem_take ha)

theorem lawBack {a : Msg} {n : Int} (ha : InB a.bd) (la : a.bd.length ≤ 140737488351232) (_hn : -9223372036854775808 ≤ n ∧ n ≤ 9223372036854775807) : LawOK0 Try.f7 [.agg a.P, .one (.int .i64 false n)] := by
  by_cases ca : a.Ck
  · have na := Msg.Ck_len ca
    have ea := enc_len ca
    have eg := enc_good ca
    have hin : InB a.enc := by rw [eg]; exact Msg.bytes_inB ha
    have hde : decE a.enc = 0 := by rw [eg]; exact decE_bytes ca
    have hdr : decR a.enc = a := by rw [decR, if_pos hde, eg, decM_bytes ca]
    have hf : (decE a.enc != 0) = false := by rw [hde]; rfl
    have hs : decide ((decR a.enc).eqv a) = true := decide_eq_true (by rw [hdr]; exact Msg.eqv_iff.2 rfl)
    have hl : (decR a.enc).bd.length ≤ 9223372036854775807 := by rw [hdr]; omega
    have hmore : (decE (a.enc ++ [0]) == 17) = true := by rw [eg, decE_more ca]; rfl
    have hin1 : InB (a.enc ++ [0]) := inB_app hin (inB_cons (by decide) inB_nil)
    have hlen1 : (a.enc ++ [0]).length ≤ 140737488355328 := by rw [List.length_append, ea]; simp only [List.length_cons, List.length_nil]; omega
    have cut : ∀ c : Nat, c < a.enc.length → ((a.enc.drop 0).take (c - 0)).length ≤ 140737488355328 ∧ InB ((a.enc.drop 0).take (c - 0)) ∧ (decE ((a.enc.drop 0).take (c - 0)) == 16) = true := fun c hc => by
      rw [List.drop_zero, Nat.sub_zero]
      refine ⟨by rw [List.length_take]; omega, inB_take hin c, ?_⟩
      rw [eg] at hc ⊢
      rw [decE_cut ca hc]
      rfl
    by_cases h0 : n < 0
    · have hc := cut (Int.toNat (((a.enc.length : Nat) : Int) - 1)) (by omega)
      obtain ⟨ps, h1, h2⟩ := back_b a n (by omega) (by omega) (ne_f ca) hin (show a.enc.length ≤ _ by omega) hf hs hl (decide_eq_true h0) ⟨(show _ ≤ ((a.enc.length : Nat) : Int) - 1 by omega), (show ((a.enc.length : Nat) : Int) - 1 ≤ _ by omega)⟩ (show 0 < a.enc.length by omega) (show 0 ≤ ((a.enc.length : Nat) : Int) - 1 by omega)
        (show ((a.enc.length : Nat) : Int) - 1 ≤ ((a.enc.length : Nat) : Int) by omega) (show 0 < ((a.enc.length : Nat) : Int) by omega) (Nat.le_trans hc.1 (by decide)) hc.2.1 hc.1 (show a.enc.length ≤ _ by omega) (show a.enc.length + 1 ≤ _ by omega) (show (a.enc.length + 1) * 1 ≤ _ by omega) hin1 hlen1 hc.2.2 hmore
      exact ⟨gw7, gw7_ok, _, ps, h1, h2⟩
    by_cases h3 : n ≥ ((a.enc.length : Nat) : Int)
    · have hc := cut (Int.toNat (((a.enc.length : Nat) : Int) - 1)) (by omega)
      obtain ⟨ps, h1, h2⟩ := back_c a n (by omega) (by omega) (ne_f ca) hin (show a.enc.length ≤ _ by omega) hf hs hl (decide_eq_false h0) (decide_eq_true h3) ⟨(show _ ≤ ((a.enc.length : Nat) : Int) - 1 by omega), (show ((a.enc.length : Nat) : Int) - 1 ≤ _ by omega)⟩ (show 0 < a.enc.length by omega) (show 0 ≤ ((a.enc.length : Nat) : Int) - 1 by omega)
        (show ((a.enc.length : Nat) : Int) - 1 ≤ ((a.enc.length : Nat) : Int) by omega) (show 0 < ((a.enc.length : Nat) : Int) by omega) (Nat.le_trans hc.1 (by decide)) hc.2.1 hc.1 (show a.enc.length ≤ _ by omega) (show a.enc.length + 1 ≤ _ by omega) (show (a.enc.length + 1) * 1 ≤ _ by omega) hin1 hlen1 hc.2.2 hmore
      exact ⟨gw7, gw7_ok, _, ps, h1, h2⟩
    · have hc := cut (Int.toNat n) (by omega)
      obtain ⟨ps, h1, h2⟩ := back_d a n (by omega) (by omega) (ne_f ca) hin (show a.enc.length ≤ _ by omega) hf hs hl (decide_eq_false h0) (decide_eq_false h3) (show 0 < a.enc.length by omega) (by omega)
        (show n ≤ ((a.enc.length : Nat) : Int) by omega) (show 0 < ((a.enc.length : Nat) : Int) by omega) (Nat.le_trans hc.1 (by decide)) hc.2.1 hc.1 (show a.enc.length ≤ _ by omega) (show a.enc.length + 1 ≤ _ by omega) (show (a.enc.length + 1) * 1 ≤ _ by omega) hin1 hlen1 hc.2.2 hmore
      exact ⟨gw7, gw7_ok, _, ps, h1, h2⟩
  · obtain ⟨ps, h1, h2⟩ := back_a a n (by omega) (by omega) (ne_t ca)
    exact ⟨gw6, gw6_ok, _, ps, h1, h2⟩

/-! loops that turn all bytes over -/

theorem xl_len (l : List Int) : ∀ k, (xl l k).length = l.length
  | 0 => rfl
  | k + 1 => by rw [xl, List.length_set, xl_len l k]

theorem we_loop (m : Msg) (l : List Int) (hl : l.length ≤ 9223372036854775806) :
    SumOK Try.prog D0 (bodyOf Try.f4) (loopL D0 (weSn m l l.length (0 : Nat)) (.exit 0) (weSn m (xl l l.length) l.length l.length)) := by
  refine sum_loop gam_nil mixed (fun k => weSn m (xl l k) l.length k) l.length rfl (fun k hk => ⟨100, 100, [.is true], ?_⟩) ⟨100, 100, [.is false], we_exit m _ _ _ (decide_eq_false (by omega))⟩
  have := xl_len l k
  exact we_round m _ _ l.length k _ (decide_eq_true (by omega)) (by omega) (by omega) (by omega) ⟨by omega, by omega⟩ rfl rfl

theorem lawEncodes {m : Msg} (_hm : InB m.bd) (lm : m.bd.length ≤ 140737488351232) : LawOK0 Try.f4 [.agg m.P] := by
  have he : decide (m.eqv m) = true := decide_eq_true (Msg.eqv_iff.2 rfl)
  have hn : (m.err != m.err) = false := by rw [bne_self_eq_false]
  by_cases c : m.Ck
  · have nm := Msg.Ck_len c
    have el := enc_len c
    have bl := m.bytes_len
    obtain ⟨ps, h1, h2⟩ := we_yes m _ _ _ (by omega) (by omega) he hn (decide_eq_true c) (ne_f c) (by omega) (decide_eq_true (enc_good c)) (show m.enc.length ≤ _ by omega) (show m.bytes.length ≤ _ by omega) (we_loop m m.enc (by omega)) rfl
    exact ⟨gw6, gw6_ok, _, ps, h1, h2⟩
  · obtain ⟨ps, h1, h2⟩ := we_no m (by omega) (by omega) he hn (decide_eq_false c) (show (m.err == 60) = true by rw [err_bad c]; rfl) (show (((m.enc.length : Nat) : Int) == 0) = true by rw [enc_none c]; rfl)
    exact ⟨gw6, gw6_ok, _, ps, h1, h2⟩

theorem wd_loop (b : List Int) (m : Msg) (c : List Int) (f : Int) (l : List Int) (hl : l.length ≤ 9223372036854775806) :
    SumOK Try.prog D0 (bodyOf Try.f6) (loopL D0 (wdSn b m c f l l.length (0 : Nat)) (.exit 0) (wdSn b m c f (xl l l.length) l.length l.length)) := by
  refine sum_loop gam_nil mixed (fun k => wdSn b m c f (xl l k) l.length k) l.length rfl (fun k hk => ⟨100, 100, [.is true], ?_⟩) ⟨100, 100, [.is false], wd_exit b m c f _ _ _ (decide_eq_false (by omega))⟩
  have := xl_len l k
  exact wd_round b m c f _ _ l.length k _ (decide_eq_true (by omega)) (by omega) (by omega) (by omega) ⟨by omega, by omega⟩ rfl rfl

theorem lawDecodes {b : List Int} (hb : InB b) (lb : b.length ≤ 140737488351232) : LawOK0 Try.f6 [.one (.words .u8 b)] := by
  have hbb : decide (b = b) = true := decide_eq_true rfl
  by_cases h0 : decE b = 0
  · obtain ⟨hck, hby, _⟩ := bytes_decM hb h0
    have hR : decR b = decM b := if_pos h0
    have hen : (decM b).enc = b := by rw [enc_good hck, hby]
    have n := Msg.Ck_len hck
    have e0 : ((decR b).err == 0) = true := by rw [hR, err_ok hck]; rfl
    have e1 : decide ((decR b).enc = b) = true := decide_eq_true (by rw [hR]; exact hen)
    have e2 : (decR b).enc.length ≤ 9223372036854775807 := by rw [hR, hen]; omega
    obtain ⟨ps, h1, h2⟩ := wd_ok b _ _ _ (by omega) hb (by omega) hbb (by omega) (by rw [h0]; rfl) (by rw [hR]; omega) (wd_loop b (decR b) (decR b).enc (decR b).err b (by omega)) rfl e0 e0 e1 e2 e1 e2
    exact ⟨gw6, gw6_ok, _, ps, h1, h2⟩
  · have hR : decR b = ⟨0, 0, 0, 0, 0, 0, []⟩ := if_neg h0
    have hz : decide ((decR b).eqv ⟨0, 0, 0, 0, 0, 0, []⟩) = true := decide_eq_true (by rw [hR]; exact Msg.eqv_iff.2 rfl)
    have hl0 : (decR b).bd.length ≤ 9223372036854775807 := by rw [hR]; exact Nat.zero_le _
    have hne : (decE b == 0) = false := beq_eq_false_iff_ne.2 h0
    by_cases c1 : b.length < 18
    · obtain ⟨ps, h1, h2⟩ := wd_short b (by omega) hb (by omega) hbb (by omega) hne hz hl0 (decide_eq_true (by omega)) (by rw [decE, if_pos c1]; rfl)
      exact ⟨gw6, gw6_ok, _, ps, h1, h2⟩
    have hsz : 256 * IntKind.wrap .i64 (b.getD 16 0) + IntKind.wrap .i64 (b.getD 17 0) = getV ((b.take 18).drop 16) ∧ 0 ≤ IntKind.wrap .i64 (b.getD 16 0) ∧ IntKind.wrap .i64 (b.getD 16 0) < 256 ∧ 0 ≤ IntKind.wrap .i64 (b.getD 17 0) ∧ IntKind.wrap .i64 (b.getD 17 0) < 256 := by
      have g0 := inB_getD hb 16
      have g1 := inB_getD hb 17
      have e : (b.take 18).drop 16 = [b.getD 16 0, b.getD 17 0] := by
        apply List.ext_getElem
        · rw [List.length_drop, List.length_take]
          simp only [List.length_cons, List.length_nil]
          omega
        · intro i hi1 hi2
          have hi : i = 0 ∨ i = 1 := by simp only [List.length_cons, List.length_nil] at hi2; omega
          rcases hi with rfl | rfl
          · simp [List.getD, show 16 < b.length from by omega]
          · simp [List.getD, show 17 < b.length from by omega]
      rw [e, wrap_i64 (by omega) (by omega), wrap_i64 (by omega) (by omega)]
      have e2 : be [b.getD 16 0, b.getD 17 0] = 256 * b.getD 16 0 + b.getD 17 0 := by
        show b.getD 16 0 * 256 ^ 1 + (b.getD 17 0 * 256 ^ 0 + 0) = _
        omega
      rw [getV, e2, wrap_i64 (by omega) (by omega)]
      omega
    obtain ⟨hv, a1, a2, a3, a4⟩ := hsz
    by_cases c2 : ((b.length - 18 : Nat) : Int) < getV ((b.take 18).drop 16)
    · obtain ⟨ps, h1, h2⟩ := wd_short2 b (by omega) hb (by omega) hbb (by omega) hne hz hl0 (decide_eq_false (by omega)) (by omega) ⟨by omega, by omega⟩ (by omega) ⟨by omega, by omega⟩ ⟨by omega, by omega⟩ (decide_eq_true (by omega)) (by rw [decE, if_neg c1, if_pos c2]; rfl)
      exact ⟨gw6, gw6_ok, _, ps, h1, h2⟩
    by_cases c3 : ((b.length - 18 : Nat) : Int) > getV ((b.take 18).drop 16)
    · obtain ⟨ps, h1, h2⟩ := wd_trail b (by omega) hb (by omega) hbb (by omega) hne hz hl0 (decide_eq_false (by omega)) (by omega) ⟨by omega, by omega⟩ (by omega) ⟨by omega, by omega⟩ ⟨by omega, by omega⟩ (decide_eq_false (by omega)) (decide_eq_true (by omega)) (by rw [decE, if_neg c1, if_neg c2, if_pos c3]; rfl)
      exact ⟨gw6, gw6_ok, _, ps, h1, h2⟩
    have he : decE b = (decM b).err := by rw [decE, if_neg c1, if_neg c2, if_neg c3]
    have h60 : decE b = 60 := by
      rw [he] at h0 ⊢
      unfold Msg.err at h0 ⊢
      split
      · rename_i hk
        rw [if_pos hk] at h0
        exact (h0 rfl).elim
      · rfl
    obtain ⟨ps, h1, h2⟩ := wd_bad b (by omega) hb (by omega) hbb (by omega) hne hz hl0 (decide_eq_false (by omega)) (by omega) ⟨by omega, by omega⟩ (by omega) ⟨by omega, by omega⟩ ⟨by omega, by omega⟩ (decide_eq_false (by omega)) (decide_eq_false (by omega)) (by rw [h60]; rfl)
    exact ⟨gw6, gw6_ok, _, ps, h1, h2⟩

end Go.Num
