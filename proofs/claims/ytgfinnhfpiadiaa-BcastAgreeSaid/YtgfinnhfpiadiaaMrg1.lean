/- Several texts put together: Own. -/
import Derived.WalkKit
import Derived.Orders
import Derived.Scope
import Derived.KernelRfl
namespace Go
open Go.RowKit
def World.ownsL (w : World) (base : Nat) (e : TypeId) (size : Nat) (v : Value) (n : Nat) (xs : List Value) : Prop :=
  xs.length = n * size ∧
  ((v = .slice none 0 0 ∧ n = 0) ∨
   ∃ g cap cur, v = .slice (some ⟨g, 0, none⟩) n cap ∧ base ≤ g ∧ w.heap[g]? = some (.cells cur e (0, 0)) ∧ n ≤ cap ∧ cap ≤ maxLen ∧ cap * size ≤ cur.size ∧ cur.toList.take (n * size) = xs)
section
variable {w : World} {base : Nat} {e : TypeId} {size : Nat} {v : Value} {n : Nat} {xs : List Value}
theorem World.ownsRow.loose (h : w.ownsRow base e size v n xs) : w.ownsL base e size v n xs := by
  refine ⟨h.1, ?_⟩
  rcases h.2 with hn | ⟨g, cap, cur, hv, hb, hg, h1, h2, h3, h4⟩
  · exact .inl hn
  · exact .inr ⟨g, cap, cur, hv, hb, hg, h1, h2, Nat.le_of_eq h3.symm, h4⟩
theorem World.ownsL_nil (w : World) (base : Nat) (e : TypeId) (size : Nat) : w.ownsL base e size (.slice none 0 0) 0 [] := ⟨by simp, .inl ⟨rfl, rfl⟩⟩
theorem World.ownsL.lt (h : w.ownsL base e size v n xs) : ∀ k, v.ownBlock = some k → base ≤ k ∧ k < w.heap.size := by
  intro k hk
  rcases h.2 with ⟨rfl, _⟩ | ⟨g, cap, cur, rfl, hb, hg, _⟩
  · simp [Value.ownBlock] at hk
  · simp [Value.ownBlock] at hk
    subst hk
    exact ⟨hb, (Array.getElem?_eq_some_iff.1 hg).1⟩
theorem World.ownsL.kept {w' : World} {row : Option Nat} (h : w.ownsL base e size v n xs) (hg : w.grownBy w' row) (hne : v.ownBlock = none ∨ v.ownBlock ≠ row) : w'.ownsL base e size v n xs := by
  refine ⟨h.1, ?_⟩
  rcases h.2 with hn | ⟨g, cap, cur, rfl, hb, hgg, rest⟩
  · exact .inl hn
  · refine .inr ⟨g, cap, cur, rfl, hb, ?_, rest⟩
    rw [hg.block g (Array.getElem?_eq_some_iff.1 hgg).1 (by simpa [Value.ownBlock] using hne)]
    exact hgg
theorem World.ownsL.cells (h : w.ownsL base e size v n xs) {g : Nat} (hg : v.ownBlock = some g) : ∀ j u, xs[j]? = some u → w.cell? ((⟨g, 0, none⟩ : Addr).add j) = some u := by
  intro j u hu
  rcases h.2 with ⟨rfl, _⟩ | ⟨g', cap, cur, rfl, _, hgg, _, _, _, htake⟩
  · simp [Value.ownBlock] at hg
  · simp [Value.ownBlock] at hg
    subst hg
    have hadd : (⟨g', 0, none⟩ : Addr).add j = ⟨g', j, none⟩ := by unfold Addr.add; split <;> simp_all
    rw [hadd, cell_of_row w g' j cur e (0, 0) hgg]
    rw [← htake, List.getElem?_take] at hu
    split at hu
    · simpa using hu
    · cases hu
end
section
variable {P : Program} (w : World)
theorem run_append_ownedL_none (base : Nat) (t ty e : TypeId) (i : TypeInfo) (size : Nat) (ht : P.underlying t = some (.slice e)) (hi : P.info? e = some i)
    (v : Value) (n : Nat) (xs : List Value) (hown : w.ownsL base e size v n xs) :
    (Builtin.append_ #[t, t] ty #[v, .slice none 0 0]).run P w = .ok v w := by
  rcases hown.2 with ⟨rfl, rfl⟩ | ⟨g, cap, cur, rfl, _, _, hnc, _⟩
  · simp [Builtin.append_, run_underlying ht, sizeOf, typeInfo, hi, Builtin.lenOf, Builtin.firstCells]
  · simp [Builtin.append_, run_underlying ht, sizeOf, typeInfo, hi, Builtin.lenOf, Builtin.firstCells, hnc, storeCells]
theorem run_append_fitsL (base : Nat) (t ty e : TypeId) (i : TypeInfo) (size : Nat) (ht : P.underlying t = some (.slice e)) (hi : P.info? e = some i) (hsize : i.size = size)
    (g n cap : Nat) (xs : List Value) (hown : w.ownsL base e size (.slice (some ⟨g, 0, none⟩) n cap) n xs)
    (a : Addr) (m c : Nat) (news : List Value) (hl : news.length = m * size) (hnews : ∀ j u, news[j]? = some u → w.cell? (a.add j) = some u) (h1 : ∀ u ∈ news, u.oneCell' = true)
    (hroom : n + m ≤ cap) :
    ∃ w', (Builtin.append_ #[t, t] ty #[.slice (some ⟨g, 0, none⟩) n cap, .slice (some a) m c]).run P w = .ok (.slice (some ⟨g, 0, none⟩) (n + m) cap) w' ∧
      w'.ownsL base e size (.slice (some ⟨g, 0, none⟩) (n + m) cap) (n + m) (xs ++ news) ∧ w.grownBy w' (some g) := by
  subst hsize
  have hlen : (xs ++ news).length = (n + m) * i.size := by rw [List.length_append, hown.1, hl, Nat.add_mul]
  rcases hown.2 with ⟨h, _⟩ | ⟨g', cap', cur, h, hbg, hg, hnc, hcm, hcs, htake⟩
  · simp at h
  · simp only [Value.slice.injEq, Option.some.injEq, Addr.mk.injEq, and_true, true_and] at h
    obtain ⟨rfl, rfl⟩ := h
    have hfit : n * i.size + news.length ≤ cur.size := by rw [hl, ← Nat.add_mul]; exact Nat.le_trans (Nat.mul_le_mul_right _ hroom) hcs
    have hr := run_append_room (P := P) w t ty e i ht hi g n cap cur hg a m c news hl hnews h1 hroom hfit
    refine ⟨_, hr, ⟨hlen, .inr ⟨g, cap, _, rfl, hbg, setRow_heap w g cur _ e _ hg, hroom, hcm, ?_, ?_⟩⟩, ⟨rfl, rfl, rfl, by simp, fun k _ hk => setRow_other w g k _ (fun e => hk (by simp [e]))⟩⟩
    · simp only [List.size_toArray, List.length_append, List.length_take, List.length_drop, Array.length_toList]
      omega
    · rw [htake, ← hlen]
      exact List.take_left
theorem run_append_ownL (base : Nat) (t ty e : TypeId) (i : TypeInfo) (z : Value) (size bytes : Nat) (ht : P.underlying t = some (.slice e)) (hi : P.info? e = some i) (hz : i.zero = some z)
    (hsize : i.size = size) (hby : i.bytes = bytes) (hzs : z.cells.size = size) (hsz : 0 < size)
    (v : Value) (n : Nat) (xs : List Value) (hown : w.ownsL base e size v n xs)
    (a : Addr) (m c : Nat) (news : List Value) (hl : news.length = m * size) (hnews : ∀ j u, news[j]? = some u → w.cell? (a.add j) = some u) (h1 : ∀ u ∈ news, u.oneCell' = true)
    (h63 : n + m ≤ maxLen) (hbytes : (n + m) * bytes ≤ 140737488355328) (hbase : base ≤ w.heap.size) :
    ∃ v' w', (Builtin.append_ #[t, t] ty #[v, .slice (some a) m c]).run P w = .ok v' w' ∧ w'.ownsL base e size v' (n + m) (xs ++ news) ∧ w.grownBy w' v.ownBlock ∧
      (v' = .slice none 0 0 ↔ v = .slice none 0 0 ∧ m = 0) := by
  rcases hown.2 with ⟨hv, hn⟩ | ⟨g, cap, cur, hv, hbg, hg, hnc, hcm, hcs, htake⟩
  · have hx : xs = [] := List.eq_nil_of_length_eq_zero (by rw [hown.1, hn, Nat.zero_mul])
    subst hv hn hx
    obtain ⟨v', w', h1', h2, h3, h4⟩ := run_append_own (P := P) w base t ty e i z size bytes ht hi hz hsize hby hzs hsz _ 0 [] (World.ownsRow_nil w base e size) a m c news hl hnews h1 h63 hbytes hbase
    exact ⟨v', w', h1', h2.loose, h3, h4⟩
  · subst hv
    by_cases hroom : n + m ≤ cap
    · obtain ⟨w', h1', h2, h3⟩ := run_append_fitsL (P := P) w base t ty e i size ht hi hsize g n cap xs hown a m c news hl hnews h1 hroom
      exact ⟨_, w', h1', h2, h3, by simp⟩
    · subst hsize
      subst hby
      have hlen : (xs ++ news).length = (n + m) * i.size := by rw [List.length_append, hown.1, hl, Nat.add_mul]
      have hsmall : n + m ≤ 9223372036854775807 := by simp only [maxLen] at h63; omega
      have holds : ∀ j u, xs[j]? = some u → w.cell? ((⟨g, 0, none⟩ : Addr).add j) = some u := hown.cells (g := g) rfl
      have hr := run_append_grow (P := P) w t ty e i z ht hi hz ⟨g, 0, none⟩ n cap xs hown.1 holds a m c news hl hnews (by omega) (by omega) (growslice_fits (by omega) hbytes)
      have hge := grownCap_ge w (n + m) cap e
      have hcm2 : grownCap w (n + m) cap e ≤ maxLen := grownCap_le_maxLen w (n + m) cap e h63
      refine ⟨_, _, hr, ⟨hlen, .inr ⟨w.heap.size, _, _, rfl, hbase, heap_alloc_new w.drew _, hge, hcm2, ?_, ?_⟩⟩, ⟨rfl, rfl, rfl, by simp, fun k hk _ => heap_alloc_old w.drew _ hk⟩, by simp⟩
      · refine Nat.le_of_eq ?_
        simp only [Array.size_append, List.size_toArray, size_zeroCells, hzs, hown.1, hl, ← Nat.add_mul]
        congr 1
        omega
      · simp only [Array.toList_append, List.append_assoc]
        rw [← List.append_assoc, ← hlen]
        exact List.take_left
end
end Go
namespace Go.Abs
inductive FK where
  | int (k : IntKind)
  | bool
  | str
  | words (k : IntKind)
  | arr (k : IntKind) (n : Nat)
def FK.size : FK → Nat
  | .arr _ n => n
  | _ => 1
def FK.beq : FK → FK → Bool
  | .int k, .int k' => decide (k = k')
  | .bool, .bool => true
  | .str, .str => true
  | .words k, .words k' => decide (k = k')
  | .arr k n, .arr k' n' => decide (k = k') && Nat.beq n n'
  | _, _ => false
theorem FK.eq_of_beq {a b : FK} (h : a.beq b = true) : a = b := by
  cases a <;> cases b <;> simp only [FK.beq, decide_eq_true_eq, Bool.and_eq_true, Bool.false_eq_true] at h
  · rw [h]
  · rfl
  · rfl
  · rw [h]
  · rw [h.1, Nat.eq_of_beq_eq_true h.2]
def shEq : List FK → List FK → Bool
  | [], [] => true
  | a :: as, b :: bs => a.beq b && shEq as bs
  | _, _ => false
theorem shEq_eq : ∀ {a b : List FK}, shEq a b = true → a = b
  | [], [], _ => rfl
  | [], _ :: _, h => by cases h
  | _ :: _, [], h => by cases h
  | _ :: _, _ :: _, h => by
    simp only [shEq, Bool.and_eq_true] at h
    rw [FK.eq_of_beq h.1, shEq_eq h.2]
def rsz : List FK → Nat
  | [] => 0
  | f :: fs => f.size + rsz fs
inductive Fd where
  | i (n : Int)
  | b (x : Bool)
  | s (x : ByteArray)
  | w (l : List Int)
abbrev Rec := List Fd
def recI (r : Rec) (j : Nat) : Int := match r[j]? with
  | some (.i n) => n
  | _ => 0
def recB (r : Rec) (j : Nat) : Bool := match r[j]? with
  | some (.b x) => x
  | _ => false
def recS (r : Rec) (j : Nat) : ByteArray := match r[j]? with
  | some (.s x) => x
  | _ => ByteArray.empty
def recW (r : Rec) (j : Nat) : List Int := match r[j]? with
  | some (.w l) => l
  | _ => []
instance : DecidableEq Fd := fun a b => match a, b with
  | .i m, .i n => if h : m = n then .isTrue (by rw [h]) else .isFalse (fun e => h (Fd.i.inj e))
  | .b m, .b n => if h : m = n then .isTrue (by rw [h]) else .isFalse (fun e => h (Fd.b.inj e))
  | .s m, .s n => if h : m = n then .isTrue (by rw [h]) else .isFalse (fun e => h (Fd.s.inj e))
  | .w m, .w n => if h : m = n then .isTrue (by rw [h]) else .isFalse (fun e => h (Fd.w.inj e))
  | .i _, .b _ => .isFalse (fun e => by cases e)
  | .i _, .s _ => .isFalse (fun e => by cases e)
  | .i _, .w _ => .isFalse (fun e => by cases e)
  | .b _, .i _ => .isFalse (fun e => by cases e)
  | .b _, .s _ => .isFalse (fun e => by cases e)
  | .b _, .w _ => .isFalse (fun e => by cases e)
  | .s _, .i _ => .isFalse (fun e => by cases e)
  | .s _, .b _ => .isFalse (fun e => by cases e)
  | .s _, .w _ => .isFalse (fun e => by cases e)
  | .w _, .i _ => .isFalse (fun e => by cases e)
  | .w _, .b _ => .isFalse (fun e => by cases e)
  | .w _, .s _ => .isFalse (fun e => by cases e)
inductive Ob where
  | node (r : Rec) (cs : List (List (Rec × Ob)))
def Ob.r : Ob → Rec
  | .node r _ => r
def Ob.c (o : Ob) (j : Nat) : List (Rec × Ob) := match o with
  | .node _ cs => cs.getD j []
def getE : List (Rec × Ob) → Rec → Option Ob
  | [], _ => none
  | (k, o) :: es, x => if k = x then some o else getE es x
def setE : List (Rec × Ob) → Rec → Ob → List (Rec × Ob)
  | [], x, o => [(x, o)]
  | (k, p) :: es, x, o => if k = x then (k, o) :: es else (k, p) :: setE es x o
def delE : List (Rec × Ob) → Rec → List (Rec × Ob)
  | [], _ => []
  | (k, p) :: es, x => if k = x then es else (k, p) :: delE es x
def obE (es : List (Rec × Ob)) (x : Rec) : Ob := (getE es x).getD (.node [] [])
def hasE (es : List (Rec × Ob)) (x : Rec) : Bool := (getE es x).isSome
def keyCells : List FK → Nat → Rec → List Value
  | [], _, _ => []
  | .int k :: fs, j, r => .int k (recI r j) :: keyCells fs (j + 1) r
  | .bool :: fs, j, r => .bool (recB r j) :: keyCells fs (j + 1) r
  | .str :: fs, j, r => .string (recS r j) :: keyCells fs (j + 1) r
  | _ :: fs, j, r => keyCells fs (j + 1) r
def keyOK : List FK → Rec → Bool
  | [], [] => true
  | .int _ :: fs, .i _ :: r => keyOK fs r
  | .bool :: fs, .b _ :: r => keyOK fs r
  | .str :: fs, .s _ :: r => keyOK fs r
  | _, _ => false
def keyV (agg : Bool) (sh : List FK) (r : Rec) : Value := match agg with
  | true => .agg (keyCells sh 0 r).toArray
  | false => (keyCells sh 0 r).headD undef
end Go.Abs
