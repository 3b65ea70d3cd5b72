/- The number that bytes are, in words. -/
import Derived.Test.YtbgcfmmkbocpoaaEl6
import Derived.Test.YtbgcfmmkbocpoaaOr
namespace Go.Num
open Go.Abs Go.Proofs Go.Shelf

def wordsSn (l w : List Int) (k : Int) : Sn FD.τ where
  slots := [(0, .v (.one (.words .u8 l))), (2, .v (.one (.ref 0 0))), (3, .v (.one (.ref 1 0))), (7, .v (.one (.words .u8 l))), (8, .v (.one (.int .i64 false l.length))), (9, .v (.one (.int .i64 false k)))]
  boxes := [(0, .fixed 32 [.int .u64 true 0, .int .u64 true 0, .int .u64 true 0, .int .u64 true 0, .int .u64 true 0, .int .u64 true 0]), (1, .fixed 32 [.ints .u64 w])]
  nt := 33

def wordsEnd (x : Int) : Sn FD.τ where
  slots := [(2, .v (.one (.ref 0 0))), (3, .v (.one (.ref 1 0)))]
  boxes := [(0, .fixed 32 [.int .u64 true 0, .int .u64 true 0, .int .u64 true 0, .int .u64 true 0, .int .u64 true 0, .int .u64 true 0]), (1, .fixed 32 [.tag (.num x)])]
  nt := 33

/-- The place of a byte, and how far it is shifted there. -/
def wAt (n k : Int) : Nat := 0 + (IntKind.i64.wrap ((n - 1 - k).tdiv 8)).toNat * 1
def wSh (n k : Int) : Int := 8 * (n - 1 - k).tmod 8
def wNew (l w : List Int) (k : Nat) : List Int :=
  w.set (wAt l.length k) (bitsOf .or .u64 (w.getD (wAt l.length k) 0) (IntKind.u64.wrap (IntKind.u64.wrap (l.getD k 0) * 2 ^ min (wSh l.length k).toNat 64)))

theorem words_round (l w : List Int) (k : Nat) : stepPs Try.prog FD [] 100 (bodyOf Try.f79) 100 (wordsSn l w k).st [.is true] .normal (wordsSn l (wNew l w k) ((k : Int) + 1)) =
    some [decide ((k : Int) < l.length) = true, 0 ≤ (k : Int), (k : Int) < l.length, InI64 ((l.length : Int) - 1), InI64 ((l.length : Int) - 1 - k), (8 : Int) ≠ 0,
      0 ≤ IntKind.i64.wrap (((l.length : Int) - 1 - k).tdiv 8), IntKind.i64.wrap (((l.length : Int) - 1 - k).tdiv 8) < (6 : Nat), wAt l.length k < w.length,
      InI64 (wSh l.length k), 0 ≤ wSh l.length k,
      0 ≤ IntKind.i64.wrap (((l.length : Int) - 1 - k).tdiv 8), IntKind.i64.wrap (((l.length : Int) - 1 - k).tdiv 8) < (6 : Nat), wAt l.length k < w.length, some 1 = some 1,
      InI64 ((k : Int) + 1), l = l, l = l, (l.length : Int) = l.length, (k : Int) + 1 = k + 1, wNew l w k = wNew l w k] := by kernel_rfl

theorem wAt_eq {n k : Nat} (h : k < n) (hn : n ≤ 1000) : wAt n k = (n - 1 - k) / 8 ∧ IntKind.i64.wrap (((n : Int) - 1 - k).tdiv 8) = ((n - 1 - k) / 8 : Nat) ∧ wSh n k = (8 * ((n - 1 - k) % 8) : Nat) := by
  have e : (n : Int) - 1 - k = ((n - 1 - k : Nat) : Int) := by omega
  have e1 : ((n - 1 - k : Nat) : Int).tdiv 8 = ((n - 1 - k) / 8 : Nat) := by
    rw [Int.tdiv_eq_ediv_of_nonneg (by omega)]; omega
  have e2 : ((n - 1 - k : Nat) : Int).tmod 8 = ((n - 1 - k) % 8 : Nat) := by
    rw [Int.tmod_eq_emod_of_nonneg (by omega)]; omega
  have e3 : IntKind.i64.wrap (((n - 1 - k) / 8 : Nat) : Int) = ((n - 1 - k) / 8 : Nat) := by
    rw [IntKind.wrap_i64]
    omega
  unfold wAt wSh
  rw [e, e1, e2, e3]
  refine ⟨by omega, rfl, by omega⟩

/-- The number of the first k of n bytes, at its place. -/
def nk (l : List Int) (k : Nat) : Int := be (l.take k) * 256 ^ (l.length - k)

theorem nk_succ {l : List Int} {k : Nat} (h : k < l.length) : nk l (k + 1) = nk l k + l.getD k 0 * 256 ^ (l.length - 1 - k) := by
  unfold nk
  have e : l.getD k 0 = l[k] := by simp [List.getD_eq_getElem?_getD, List.getElem?_eq_getElem h]
  rw [List.take_succ_eq_append_getElem h, be_append, e, show l.length - k = (l.length - 1 - k) + 1 from by omega, show l.length - (k + 1) = l.length - 1 - k from by omega]
  simp only [List.length_cons, List.length_nil, be, Int.pow_succ]
  generalize (256 : Int) ^ (l.length - 1 - k) = x
  generalize be (l.take k) = y
  generalize l[k] = z
  simp
  grind

theorem limbs_getD : ∀ {n i : Nat} {x : Int}, i < n → (limbs n x).getD i 0 = x / B ^ i % B
  | n + 1, 0, x, _ => by simp [limbs]
  | n + 1, i + 1, x, h => by
    simp only [limbs, List.getD_cons_succ]
    rw [limbs_getD (by omega), Int.pow_succ, Int.mul_comm, Int.ediv_ediv_of_nonneg (by decide)]

theorem pow_256 (i : Nat) : (256 : Int) ^ (8 * i) = B ^ i := by
  rw [Int.pow_mul]
  rfl

/-- A place among the bytes, and the place in its word. -/
theorem pow_split (j : Nat) : (256 : Int) ^ j = ((2 ^ (8 * (j % 8)) : Nat) : Int) * B ^ (j / 8) := by
  have h : j = j % 8 + 8 * (j / 8) := by omega
  have e : (256 : Int) ^ (j % 8) = ((2 ^ (8 * (j % 8)) : Nat) : Int) := by
    rw [Nat.pow_mul]
    simp
  calc (256 : Int) ^ j = 256 ^ (j % 8 + 8 * (j / 8)) := by rw [← h]
    _ = 256 ^ (j % 8) * 256 ^ (8 * (j / 8)) := Int.pow_add ..
    _ = _ := by rw [e, pow_256]

theorem pow_mono_256 {a b : Nat} (h : a ≤ b) : (256 : Int) ^ a ≤ 256 ^ b := by
  rcases Nat.lt_or_ge a b with h1 | h1
  · exact Int.le_of_lt (Int.pow_lt_pow_of_lt (by decide) h1)
  · rw [show a = b from by omega]; exact Int.le_refl _

theorem wNew_eq {l : List Int} {k : Nat} (h : k < l.length) (hn : l.length ≤ 48) (hl : InB l) : wNew l (limbs 6 (nk l k)) k = limbs 6 (nk l (k + 1)) := by
  obtain ⟨h1, h2, h3⟩ := wAt_eq h (by omega)
  generalize hj : l.length - 1 - k = j at h1 h2 h3
  have hjl : j / 8 < 6 := by omega
  have hb : 0 ≤ l.getD k 0 ∧ l.getD k 0 < 256 := by
    have e : l.getD k 0 = l[k] := by simp [List.getD_eq_getElem?_getD, List.getElem?_eq_getElem h]
    rw [e]; exact hl _ (List.getElem_mem h)
  have hsucc := nk_succ h
  rw [hj] at hsucc
  unfold wNew
  rw [h1, h3]
  obtain ⟨b, hbe⟩ := Int.eq_ofNat_of_zero_le hb.1
  rw [hbe] at hb hsucc ⊢
  have hb2 : b < 256 := by omega
  generalize hs : 8 * (j % 8) = s at *
  have hs56 : s ≤ 56 := by omega
  have hmin : min ((s : Nat) : Int).toNat 64 = s := by omega
  have hps : 2 ^ s * 2 ^ (64 - s) = 18446744073709551616 := by rw [← Nat.pow_add, show s + (64 - s) = 64 from by omega]
  have hp8 : 2 ^ (s + 8) = 2 ^ s * 256 := Nat.pow_add ..
  have hbs : b * 2 ^ s < 2 ^ (s + 8) := by rw [hp8, Nat.mul_comm]; exact Nat.mul_lt_mul_of_pos_left hb2 (Nat.pow_pos (by omega))
  have hs8 : 2 ^ (s + 8) * 2 ^ (56 - s) = 18446744073709551616 := by rw [← Nat.pow_add, show s + 8 + (56 - s) = 64 from by omega]
  have hle : 2 ^ (s + 8) ≤ 18446744073709551616 := by rw [← hs8]; exact Nat.le_mul_of_pos_right _ (Nat.pow_pos (by omega))
  have hw : IntKind.u64.wrap (IntKind.u64.wrap (b : Int) * 2 ^ min ((s : Nat) : Int).toNat 64) = ((b * 2 ^ s : Nat) : Int) := by
    have hbB : (b : Int) % B = b := Int.emod_eq_of_lt (by omega) (by unfold B; omega)
    rw [hmin, wrap_B, wrap_B, hbB]
    have e : (b : Int) * 2 ^ s = ((b * 2 ^ s : Nat) : Int) := by simp
    rw [e, Int.emod_eq_of_lt (by omega) (by unfold B; omega)]
  rw [hw, limbs_getD hjl]
  -- the word so far is a multiple of what lies above the byte
  obtain ⟨q, hq⟩ : ∃ q : Nat, nk l k / B ^ (j / 8) % B = ((2 ^ (s + 8) * q : Nat) : Int) ∧ 2 ^ (s + 8) * q + b * 2 ^ s < 18446744073709551616 := by
    have e1 : nk l k = be (l.take k) * ((2 ^ (s + 8) : Nat) : Int) * B ^ (j / 8) := by
      unfold nk
      rw [show l.length - k = j + 1 from by omega, Int.pow_succ, pow_split j, hs, hp8]
      rw [Int.natCast_mul]
      generalize B ^ (j / 8) = x
      generalize be (l.take k) = y
      generalize ((2 ^ s : Nat) : Int) = z
      show y * (z * x * 256) = y * (z * 256) * x
      grind
    have hr : 0 ≤ be (l.take k) := (be_range (fun a ha => hl a (List.mem_of_mem_take ha))).1
    obtain ⟨y, hy⟩ := Int.eq_ofNat_of_zero_le hr
    refine ⟨y % 2 ^ (56 - s), ?_, ?_⟩
    · rw [e1, Int.mul_ediv_cancel _ (by have := Bpow_pos (j / 8); omega), hy]
      have e2 : (y : Int) * ((2 ^ (s + 8) : Nat) : Int) % B = ((y * 2 ^ (s + 8) % 18446744073709551616 : Nat) : Int) := by
        rw [← Int.natCast_mul, Int.natCast_emod]; rfl
      rw [e2, ← hs8, Nat.mul_comm y, Nat.mul_mod_mul_left]
    · have hlt : y % 2 ^ (56 - s) < 2 ^ (56 - s) := Nat.mod_lt _ (Nat.pow_pos (by omega))
      have := Nat.mul_le_mul_left (2 ^ (s + 8)) (Nat.succ_le_of_lt hlt)
      rw [Nat.mul_succ, hs8] at this
      omega
  obtain ⟨hq1, hq2⟩ := hq
  rw [hq1, or_add hbs hq2]
  symm
  have hin := limbs_inR 6 (nk l k)
  refine limbs_of (inR_set hin ⟨by omega, by unfold B; omega⟩) (by rw [List.length_set, limbs_len]) ?_
  have hN : ∀ k, k ≤ l.length → 0 ≤ nk l k ∧ nk l k < B ^ 6 := by
    intro k hk
    have hr := be_range (l := l.take k) (fun a ha => hl a (List.mem_of_mem_take ha))
    have hlk : (l.take k).length = k := by rw [List.length_take]; omega
    rw [hlk] at hr
    have hp : (0 : Int) < 256 ^ (l.length - k) := Int.pow_pos (by decide)
    have hm : be (l.take k) * 256 ^ (l.length - k) < 256 ^ k * 256 ^ (l.length - k) := Int.mul_lt_mul_of_pos_right hr.2 hp
    rw [← Int.pow_add, show k + (l.length - k) = l.length from by omega] at hm
    have hle2 : (256 : Int) ^ l.length ≤ 256 ^ 48 := pow_mono_256 hn
    refine ⟨Int.mul_nonneg hr.1 (by omega), ?_⟩
    have e : (256 : Int) ^ 48 = B ^ 6 := pow_256 6
    rw [← e]
    unfold nk
    omega
  rw [val_set _ (by rw [limbs_len]; exact hjl), val_limbs, limbs_getD hjl, hq1, Int.emod_eq_of_lt (hN (k + 1) (by omega)).1 (hN (k + 1) (by omega)).2, Int.emod_eq_of_lt (hN k (by omega)).1 (hN k (by omega)).2, hsucc, pow_split j, hs]
  have e3 : ((2 ^ (s + 8) * q + b * 2 ^ s : Nat) : Int) - ((2 ^ (s + 8) * q : Nat) : Int) = (b : Int) * ((2 ^ s : Nat) : Int) := by push_cast; omega
  rw [e3, Int.mul_assoc]

end Go.Num
