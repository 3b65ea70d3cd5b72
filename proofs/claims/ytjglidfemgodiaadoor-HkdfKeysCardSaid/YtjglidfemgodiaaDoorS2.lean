/- SHA-256: what the method take does. -/
import Derived.Test.YtjglidfemgodiaaDoorS1
namespace Go.Num
open Go.Abs Go.Proofs Go.Shelf

def sft (x : Int) (l r : Nat) : Int := bitsOf .or .u32 (IntKind.u32.wrap (x * 2 ^ min l 32)) (x.fdiv (2 ^ min r 32))
def xr (a b : Int) : Int := bitsOf .xor .u32 a b
def an (a b : Int) : Int := bitsOf .and .u32 a b
def ad (a b : Int) : Int := IntKind.u32.wrap (a + b)
def nt (a : Int) : Int := bitsOf .xor .u32 4294967295 a

/-- Words of a block out of its bytes. -/
def tw1 (p w : List Int) (i : Int) : Nat → List Int
  | 0 => w
  | j + 1 => (tw1 p w i j).set i.toNat (bitsOf .or .u32 (IntKind.u32.wrap ((tw1 p w i j).getD i.toNat 0 * 2 ^ min 8 32)) (IntKind.u32.wrap (p.getD (4 * i + (j : Int)).toNat 0)))

def tw0 (p : List Int) : Nat → List Int
  | 0 => List.replicate 64 0
  | i + 1 => tw1 p (tw0 p i) i 4

/-- The words behind them. -/
def twStep (w : List Int) (i : Nat) : List Int :=
  w.set ((i : Int) + 16).toNat (ad (ad (ad (w.getD (i : Int).toNat 0) (xr (xr (sft (w.getD ((i : Int) + 1).toNat 0) 25 7) (sft (w.getD ((i : Int) + 1).toNat 0) 14 18)) ((w.getD ((i : Int) + 1).toNat 0).fdiv (2 ^ min 3 32)))) (w.getD ((i : Int) + 9).toNat 0))
    (xr (xr (sft (w.getD ((i : Int) + 14).toNat 0) 15 17) (sft (w.getD ((i : Int) + 14).toNat 0) 13 19)) ((w.getD ((i : Int) + 14).toNat 0).fdiv (2 ^ min 10 32))))

def tw2 (w : List Int) : Nat → List Int
  | 0 => w
  | i + 1 => twStep (tw2 w i) i

/-- A round. -/
def tvT (w v : List Int) (i : Nat) : Int :=
  ad (ad (v.getD 7 0) (xr (xr (sft (v.getD 4 0) 26 6) (sft (v.getD 4 0) 21 11)) (sft (v.getD 4 0) 7 25))) (ad (ad (xr (an (v.getD 4 0) (v.getD 5 0)) (an (nt (v.getD 4 0)) (v.getD 6 0))) (rootsL.getD (i : Int).toNat 0)) (w.getD (i : Int).toNat 0))
def tvU (v : List Int) : Int :=
  ad (xr (xr (sft (v.getD 0 0) 30 2) (sft (v.getD 0 0) 19 13)) (sft (v.getD 0 0) 10 22)) (xr (xr (an (v.getD 0 0) (v.getD 1 0)) (an (v.getD 0 0) (v.getD 2 0))) (an (v.getD 1 0) (v.getD 2 0)))
def tvStep (w v : List Int) (i : Nat) : List Int :=
  [ad (tvT w v i) (tvU v), v.getD 0 0, v.getD 1 0, v.getD 2 0, ad (v.getD 3 0) (tvT w v i), v.getD 4 0, v.getD 5 0, v.getD 6 0]

def tv3 (w v : List Int) : Nat → List Int
  | 0 => v
  | i + 1 => tvStep w (tv3 w v i) i

/-- The state behind it. -/
def ts4 (s v : List Int) : Nat → List Int
  | 0 => s
  | i + 1 => (ts4 s v i).set (i : Int).toNat (ad ((ts4 s v i).getD (i : Int).toNat 0) (v.getD (i : Int).toNat 0))

def takeF (s p : List Int) : List Int := ts4 s (tv3 (tw2 (tw0 p 16) 48) s 64) 8

theorem inI64_small {x : Int} (h0 : 0 ≤ x) (h1 : x < 1000000) : InI64 x := ⟨by omega, by omega⟩

theorem take_l1 (s r p w : List Int) (n : Int) (i : Nat) (hi : i < 16) : SumOK Tryd.prog DS (bodyN Tryd.f31 1) (loopL DS (tkSn s r n p w [slI 23 i, slI 5 i, slI 26 (0 : Nat)]) (.exit 2) (tkSn s r n p (tw1 p w i 4) [slI 23 i])) := by
  refine sum_loop gamT_ok mixed (fun j => tkSn s r n p (tw1 p w i j) [slI 23 i, slI 5 i, slI 26 j]) 4 rfl (fun j hj => ?_) ?_
  · exact ⟨_, _, _, t1_round s r p (tw1 p w i j) (tw1 p w i (j + 1)) n i j (decide_eq_true (by omega)) (by omega) (by omega) (inI64_small (by omega) (by omega)) (inI64_small (by omega) (by omega)) (by omega) (by omega) (inI64_small (by omega) (by omega)) rfl⟩
  · exact ⟨_, _, _, t1_exit s r p (tw1 p w i 4) n i 4 (decide_eq_false (by omega))⟩

theorem take_l0 (s r p : List Int) (n : Int) : SumOK Tryd.prog DS (bodyN Tryd.f31 0) (loopL DS (tkSn s r n p (tw0 p 0) [slI 23 (0 : Nat)]) (.exit 0) (tkSn s r n p (tw0 p 16) [])) := by
  refine sum_loop gamT_ok mixed (fun i => tkSn s r n p (tw0 p i) [slI 23 i]) 16 rfl (fun i hi => ?_) ?_
  · exact ⟨_, _, _, t0_round s r p (tw0 p i) (tw0 p (i + 1)) n i (decide_eq_true (by omega)) (take_l1 s r p (tw0 p i) n i hi) (inI64_small (by omega) (by omega))⟩
  · exact ⟨_, _, _, t0_exit s r p (tw0 p 16) n 16 (decide_eq_false (by omega))⟩

theorem take_l2 (s r p w : List Int) (n : Int) : SumOK Tryd.prog DS (bodyN Tryd.f31 2) (loopL DS (tkSn s r n p w [slI 45 (0 : Nat)]) (.exit 4) (tkSn s r n p (tw2 w 48) [])) := by
  refine sum_loop gamT_ok mixed (fun i => tkSn s r n p (tw2 w i) [slI 45 i]) 48 rfl (fun i hi => ?_) ?_
  · exact ⟨_, _, _, t2_round s r p (tw2 w i) (tw2 w (i + 1)) n i (decide_eq_true (by omega)) (inI64_small (by omega) (by omega)) (by omega) (by omega) (inI64_small (by omega) (by omega)) (by omega) (by omega) (inI64_small (by omega) (by omega)) (by omega) (by omega) (inI64_small (by omega) (by omega)) (by omega) (by omega) (by omega) (by omega) rfl⟩
  · exact ⟨_, _, _, t2_exit s r p (tw2 w 48) n 48 (decide_eq_false (by omega))⟩

theorem take_l3 (s r w : List Int) (n : Int) : SumOK Tryd.prog DS (bodyN Tryd.f31 3) (loopL DS (tk3Sn s r n w s [slI 92 (0 : Nat)]) (.exit 6) (tk3Sn s r n w (tv3 w s 64) [])) := by
  refine sum_loop gamT_ok mixed (fun i => tk3Sn s r n w (tv3 w s i) [slI 92 i]) 64 rfl (fun i hi => ?_) ?_
  · exact ⟨_, _, _, t3_round s r w (tv3 w s i) (tv3 w s (i + 1)) n i (decide_eq_true (by omega)) (by omega) (by omega) (inI64_small (by omega) (by omega)) rfl⟩
  · exact ⟨_, _, _, t3_exit s r w (tv3 w s 64) n 64 (decide_eq_false (by omega))⟩

theorem take_l4 (s r w v : List Int) (n : Int) : SumOK Tryd.prog DS (bodyN Tryd.f31 4) (loopL DS (tk3Sn s r n w v [slI 172 (0 : Nat)]) (.exit 8) (tk3Sn (ts4 s v 8) r n w v [])) := by
  refine sum_loop gamT_ok mixed (fun i => tk3Sn (ts4 s v i) r n w v [slI 172 i]) 8 rfl (fun i hi => ?_) ?_
  · exact ⟨_, _, _, t4_round (ts4 s v i) r w v (ts4 s v (i + 1)) n i (decide_eq_true (by omega)) (by omega) (by omega) (inI64_small (by omega) (by omega)) rfl⟩
  · exact ⟨_, _, _, t4_exit (ts4 s v 8) r w v n 8 (decide_eq_false (by omega))⟩

/-- A hash that is read. -/
def hashOf (ps : List (Part DS.τ)) : Option (List Int × List Int × Int) :=
  match intsAt DS ps 0 8 with
  | some (_, s) => match intsAt DS ps 8 64 with
    | some (_, r) => match splitP DS ps 72 1 with
      | some (_, [.int .i64 _ n], _) => some (s, r, n)
      | _ => none
    | none => none
  | none => none

def takeRd : List (BoxSt DS.τ) → List (A0 DS.τ) → Option (List Int × List Int × Int × List Int)
  | [.fixed _ ps], [.one (.ref 0 0), .agg qs] => match hashOf ps with
    | some (s, r, n) => match allInts .u8 qs with
      | some p => some (s, r, n, p)
      | none => none
    | none => none
  | _, _ => none

def takePre (t : List Int × List Int × Int × List Int) : List (BoxSt DS.τ) × List (A0 DS.τ) :=
  ([.fixed 50 (hashP t.1 t.2.1 t.2.2.1)], [.one (.ref 0 0), .agg [.arr .u8 64 t.2.2.2]])

def takePost (t : List Int × List Int × Int × List Int) : Option (AV DS.τ × List (BoxSt DS.τ) × List Prop) :=
  some (.tup [], [.fixed 50 (hashP (takeF t.1 t.2.2.2) t.2.1 t.2.2.1)], [])

noncomputable def takeD := mkF DS Tryd.f31.ntmps takeRd takePre takePost

theorem take_ok : OpOK Tryd.prog DS 31 takeD := by
  refine opOK_mk gamT_ok mixed Tryd.func31 (enters_of Tryd.func31 (by kernel_rfl) rfl) ?_
  rintro ⟨s, r, n, p⟩ r' bs' ps h hps
  simp only [takePost, Option.some.injEq, Prod.mk.injEq] at h
  obtain ⟨rfl, rfl, rfl⟩ := h
  exact ⟨_, _, take_run s r p (tw0 p 0) (tw0 p 16) (tw2 (tw0 p 16) 48) (tv3 (tw2 (tw0 p 16) 48) s 64) (takeF s p) n (take_l0 s r p n) rfl (take_l2 s r p _ n) (take_l3 s r _ n) (take_l4 s r _ _ n)⟩

end Go.Num
