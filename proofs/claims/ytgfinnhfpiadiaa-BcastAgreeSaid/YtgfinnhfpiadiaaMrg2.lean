/- Several texts put together: Abs. -/
import Derived.Test.YtgfinnhfpiadiaaMrg1
import Derived.WalkKit
import Derived.Orders
import Derived.Scope
import Derived.KernelRfl
namespace Go.Abs
open Go.RowKit
inductive C1 where
  | s (x : ByteArray)
  | i (k : IntKind) (n : Int)
  | o (b : Nat)
inductive Part (τ : Type) where
  | int (k : IntKind) (lit : Bool) (n : Int)
  | bool (lit : Bool) (b : Bool)
  | str (s : ByteArray)
  | nil
  | ref (b off : Nat)
  | oref (b i : Nat)
  | own (b : Nat)
  | view (b off n cap : Nat)
  | ov (b lo n : Nat)
  | words (k : IntKind) (l : List Int)
  | nnw (k : IntKind) (l : List Int)
  | wref (k : IntKind) (l : List Int) (i : Nat)
  | wordss (k : IntKind) (ll : List (List Int))
  | wsref (k : IntKind) (ll : List (List Int)) (i : Nat)
  | tag (t : τ)
  | ints (k : IntKind) (l : List Int)
  | tags (sz : Nat) (l : List τ)
  | fresh (i : Nat) (e : TypeId) (k : IntKind) (l : List Int)
  | arr (k : IntKind) (n : Nat) (l : List Int)
  | pw (k : IntKind) (l : List Int)
  | lws (k : IntKind) (ll : List (List Int))
  | nilp
  | parr (k : IntKind) (n : Nat) (l : List Int)
  | aref (b base N i : Nat)
  | av (b base N lo n cap : Nat)
  | lrs (sh : List FK) (ll : List Rec)
  | prs (sh : List FK) (ll : List Rec)
  | lref (b : Nat) (sh : List FK) (i off : Nat)
  | pref (sh : List FK) (r : Rec) (off : Nat)
  | ifr (t : TypeId) (b off : Nat)
  | ifa (t : TypeId) (sh : List FK) (r : Rec)
  | nilif
  | clo (f : FuncId) (bs : List Nat)
  | clos (l : List (FuncId × List Nat))
  | ovr (b sz lo n : Nat)
  | mapr (b : Nat)
  | nilmap
  | prss (sh : List FK) (n : Nat) (lll : List (List Rec))
  | rec1 (cs : List C1)
inductive A0 (τ : Type) where
  | one (p : Part τ)
  | agg (ps : List (Part τ))
inductive AV (τ : Type) where
  | v (a : A0 τ)
  | tup (as : List (A0 τ))
inductive BoxSt (τ : Type) where
  | un
  | dead
  | fixed (ty : TypeId) (ps : List (Part τ))
  | dyn (e : TypeId) (p : Part τ)
  | fam (k : Nat) (es : List (Rec × Ob)) (out : Option (Rec × List (Part τ)))
structure St (τ : Type) where
  slot : Nat → Option (AV τ)
  box : Nat → BoxSt τ
  nt : Nat
  np : Nat
inductive Ref where
  | slot (t : Nat)
  | box (b : Nat)
def Ref.beq : Ref → Ref → Bool
  | .slot a, .slot b => Nat.beq a b
  | .box a, .box b => Nat.beq a b
  | _, _ => false
inductive Upd (τ : Type) where
  | slot (t : Nat) (v : Option (AV τ))
  | box (b : Nat) (s : BoxSt τ)
def Upd.ref {τ : Type} : Upd τ → Ref
  | .slot t _ => .slot t
  | .box b _ => .box b
def St.upd {τ : Type} (S : St τ) : Upd τ → St τ
  | .slot t v => { S with slot := fun i => bif Nat.beq i t then v else S.slot i }
  | .box b s => { S with box := fun i => bif Nat.beq i b then s else S.box i }
def St.app {τ : Type} (S : St τ) : List (Upd τ) → St τ
  | [] => S
  | u :: us => (S.upd u).app us
inductive Rd (τ α : Type) where
  | ret (a : α)
  | fail
  | slot (t : Nat) (k : Option (AV τ) → Rd τ α)
  | box (b : Nat) (k : BoxSt τ → Rd τ α)
def Rd.run {τ α : Type} : Rd τ α → St τ → Option (α × List Ref)
  | .ret a, _ => some (a, [])
  | .fail, _ => none
  | .slot t k, S => match (k (S.slot t)).run S with
    | some (a, l) => some (a, .slot t :: l)
    | none => none
  | .box b k, S => match (k (S.box b)).run S with
    | some (a, l) => some (a, .box b :: l)
    | none => none
structure FamD (τ : Type) where
  row : Bool
  kt : TypeId
  vt : TypeId
  ksh : List FK
  kagg : Bool
  vagg : Bool
  n : Nat
  root : Ob → List (Part τ)
  boxes : Ob → List (BoxSt τ)
  impl : List (Part τ) → Rd τ (Ob × List Nat)
structure Dom where
  τ : Type
  size : τ → Nat
  rel : τ → List Value → Prop
  eqv : τ → τ → Option Bool
  eqs : ∀ s t c xs ys, eqv s t = some c → rel s xs → rel t ys →
    xs.length = ys.length ∧ ((xs.zip ys).all fun c => intOf c.1 == intOf c.2) = c ∧ ∀ (i : Nat) u v, xs[i]? = some u → ys[i]? = some v → ∃ k a b, u = .int k a ∧ v = .int k b
  len : ∀ t cs, rel t cs → cs.length = size t
  one : ∀ t cs, rel t cs → ∀ c ∈ cs, c.oneCell' = true
  zero : Option (IntKind × τ) := none
  zeros : ∀ k t, zero = some (k, t) → rel t (List.replicate (size t) (.int k 0)) := by intro k t h; cases h
  split : τ → Option (τ × τ) := fun _ => none
  splits : ∀ t a b cs, split t = some (a, b) → rel t cs → ∃ c1 c2, cs = c1 ++ c2 ∧ rel a c1 ∧ rel b c2 := by intro t a b cs h; cases h
  glob : Nat → Option (IntKind × List Int) := fun _ => none
  fam : Nat → Option (FamD τ) := fun _ => none
  famOf : Nat → Option Nat := fun _ => none
section
variable (P : Program) (D : Dom)
def psize : Part D.τ → Nat
  | .tag t => D.size t
  | .ints _ l => l.length
  | .tags sz l => l.length * sz
  | .arr _ n _ => n
  | .lws _ l => l.length
  | .lrs sh l => l.length * rsz sh
  | .clos l => l.length
  | .prss _ n _ => n
  | .rec1 cs => cs.length
  | _ => 1
def esz : Part D.τ → Nat
  | .lrs sh _ => rsz sh
  | .rec1 cs => cs.length
  | _ => 1
structure Loc where
  f : Nat → Nat
  zw : World
  zm : Nat → Prop
  φ : Nat → Nat → Prop := fun _ _ => False
instance : CoeFun Loc (fun _ => Nat → Nat) := ⟨Loc.f⟩
def Loc.set (σ : Loc) (n x : Nat) : Loc := { σ with f := fun i => if i = n then x else σ.f i }
def Loc.le (σ σ' : Loc) : Prop := ∀ g, σ.zm g → σ'.zm g ∧ σ'.zw.heap[g]? = σ.zw.heap[g]?
structure Mem where
  f : Nat → Prop
  pin : Nat → Nat × Value
  zw : World
  zm : Nat → Prop
instance : CoeFun Mem (fun _ => Nat → Prop) := ⟨Mem.f⟩
def noM (w : World) : Mem := ⟨fun _ => False, fun _ => (0, undef), w, fun g => g < w.heap.size⟩
structure Env where
  al : Nat → Prop
  σ : Loc
  ν : Nat → Value
  w0 : World
  M : Nat → Prop
  wr : Option World := none
def SlRel (M : Nat → Prop) (w : World) (k : IntKind) (l : List Int) (v : Value) : Prop :=
  ∃ ao cap, v = .slice ao l.length cap ∧ l.length ≤ cap ∧ cap ≤ maxLen ∧ (ao = none → cap = 0) ∧
    ∀ i, i < l.length → ∃ b off, ao = some ⟨b, off, none⟩ ∧ ¬ M b ∧ w.cell? ⟨b, off + i, none⟩ = some (.int k (l.getD i 0))
def SlsRel (M : Nat → Prop) (w : World) (k : IntKind) (ll : List (List Int)) (v : Value) : Prop :=
  ∃ ao cap, v = .slice ao ll.length cap ∧ ll.length ≤ cap ∧ cap ≤ maxLen ∧ (ao = none → cap = 0) ∧
    ∀ i, i < ll.length → ∃ b off u, ao = some ⟨b, off, none⟩ ∧ ¬ M b ∧ w.cell? ⟨b, off + i, none⟩ = some u ∧ SlRel M w k (ll.getD i []) u
def FdRel (σ : Loc) (f : FK) (r : Rec) (j : Nat) (cs : List Value) : Prop := match f with
  | .int k => cs = [.int k (recI r j)]
  | .bool => cs = [.bool (recB r j)]
  | .str => cs = [.string (recS r j)]
  | .words k => ∃ v, cs = [v] ∧ SlRel (fun b => ¬ σ.zm b) σ.zw k (recW r j) v
  | .arr k n => (recW r j).length = n ∧ cs = (recW r j).map (.int k)
def RecRel (σ : Loc) : List FK → Nat → Rec → List Value → Prop
  | [], _, _, cs => cs = []
  | f :: fs, j, r, cs => ∃ c1 c2, cs = c1 ++ c2 ∧ FdRel σ f r j c1 ∧ RecRel σ fs (j + 1) r c2
def RsRel (σ : Loc) (sh : List FK) (ll : List Rec) (v : Value) : Prop :=
  ∃ ao cap, v = .slice ao ll.length cap ∧ ll.length ≤ cap ∧ cap ≤ maxLen ∧ (ao = none → cap = 0) ∧
    ∀ i r, ll[i]? = some r → ∃ g o vs, ao = some ⟨g, o, none⟩ ∧ σ.zm g ∧ RecRel σ sh 0 r vs ∧ ∀ j v, vs[j]? = some v → σ.zw.cell? ⟨g, o + i * rsz sh + j, none⟩ = some v
def PsRel (σ : Loc) (sh : List FK) (ll : List Rec) (v : Value) : Prop := RsRel σ sh ll v ∧ (ll = [] → v = .slice none 0 0)
def Base (E : Env) (M : Nat → Prop) (W : World) : Prop := (M = E.M ∧ W = E.w0) ∨ (M = (fun b => ¬ E.σ.zm b) ∧ W = E.σ.zw)
def cloV (σ : Nat → Nat) (f : FuncId) (bs : List Nat) : Value := .func (.func f) #[] (bs.map fun b => Value.pointer (some ⟨σ b, 0, none⟩)).toArray
def C1Rel (E : Env) : C1 → Value → Prop
  | .s x, v => v = .string x
  | .i k n, v => v = .int k n
  | .o b, v => E.al b ∧ (E.ν b).oneCell' = true ∧ v = E.ν b
def C1sRel (E : Env) : List C1 → List Value → Prop
  | [], vs => vs = []
  | c :: cs, vs => ∃ v us, vs = v :: us ∧ C1Rel E c v ∧ C1sRel E cs us
def PartRel (E : Env) : Part D.τ → List Value → Prop
  | .int k _ n, cs => cs = [.int k n]
  | .bool _ b, cs => cs = [.bool b]
  | .str s, cs => cs = [.string s]
  | .nil, cs => cs = [.slice none 0 0]
  | .ref b off, cs => E.al b ∧ cs = [.pointer (some ⟨E.σ b, off, none⟩)]
  | .oref b i, cs => E.al b ∧ ∃ g, (E.ν b).ownBlock = some g ∧ cs = [.pointer (some ⟨g, i, none⟩)]
  | .own b, cs => E.al b ∧ (E.ν b).oneCell' = true ∧ cs = [E.ν b]
  | .view b off n cap, cs => E.al b ∧ n ≤ cap ∧ cap ≤ maxLen ∧ cs = [.slice (some ⟨E.σ b, off, none⟩) n cap]
  | .ov b lo n, cs => E.al b ∧ ∃ g len cap c2, E.ν b = .slice (some ⟨g, 0, none⟩) len cap ∧ lo + n ≤ len ∧ n ≤ c2 ∧ c2 ≤ maxLen ∧ cs = [.slice (some ⟨g, lo, none⟩) n c2]
  | .words k l, cs => ∃ v, cs = [v] ∧ ∃ M W, Base E M W ∧ SlRel M W k l v
  | .nnw k l, cs => ∃ a n c, cs = [.slice (some a) n c] ∧ SlRel E.M E.w0 k l (.slice (some a) n c)
  | .wref k l i, cs => ∃ a, cs = [.pointer (some a)] ∧ ∃ M W, Base E M W ∧ a.spot = none ∧ ¬ M a.block ∧ W.cell? a = some (.int k (l.getD i 0))
  | .wordss k ll, cs => ∃ v, cs = [v] ∧ SlsRel E.M E.w0 k ll v
  | .wsref k ll i, cs => ∃ a u, cs = [.pointer (some a)] ∧ a.spot = none ∧ ¬ E.M a.block ∧ E.w0.cell? a = some u ∧ SlRel E.M E.w0 k (ll.getD i []) u
  | .tag t, cs => D.rel t cs
  | .ints k l, cs => cs = l.map (.int k)
  | .tags sz l, cs => cs.length = l.length * sz ∧ (∀ c ∈ cs, c.oneCell' = true) ∧ ∀ i t, l[i]? = some t → D.size t = sz ∧ D.rel t ((cs.drop (i * sz)).take sz)
  | .fresh i e k l, cs => cs = [E.ν i] ∧ ∃ w', E.wr = some w' ∧ w'.ownsL E.w0.heap.size e 1 (E.ν i) l.length (l.map (.int k))
  | .arr k n l, cs => l.length = n ∧ cs = l.map (.int k)
  | .pw k l, cs => ∃ v, cs = [v] ∧ SlRel (fun b => ¬ E.σ.zm b) E.σ.zw k l v
  | .lws k ll, cs => cs.length = ll.length ∧ ∀ i u, cs[i]? = some u → ∃ M W, Base E M W ∧ SlRel M W k (ll.getD i []) u
  | .nilp, cs => cs = [.pointer none]
  | .parr k n l, cs => l.length = n ∧ ∃ a, cs = [.pointer (some a)] ∧ ∃ M W, Base E M W ∧ a.spot = none ∧ ∀ i, i < l.length → ¬ M a.block ∧ W.cell? (a.add i) = some (.int k (l.getD i 0))
  | .aref b base N i, cs => E.al b ∧ i < N ∧ cs = [.pointer (some ⟨E.σ b, base + i, none⟩)]
  | .av b base N lo n cap, cs => E.al b ∧ lo + n ≤ N ∧ n ≤ cap ∧ cap ≤ maxLen ∧ cs = [.slice (some ⟨E.σ b, base + lo, none⟩) n cap]
  | .lrs sh ll, cs => cs.length = ll.length * rsz sh ∧ ∀ i r, ll[i]? = some r → RecRel E.σ sh 0 r ((cs.drop (i * rsz sh)).take (rsz sh))
  | .prs sh ll, cs => ∃ v, cs = [v] ∧ RsRel E.σ sh ll v
  | .lref b sh i off, cs => E.al b ∧ ∃ g, (E.ν b).ownBlock = some g ∧ cs = [.pointer (some ⟨g, i * rsz sh + off, none⟩)]
  | .ifr t b off, cs => E.al b ∧ cs = [.iface t (.pointer (some ⟨E.σ b, off, none⟩))]
  | .ifa t sh r, cs => ∃ vs : List Value, cs = [.iface t (.agg vs.toArray)] ∧ RecRel E.σ sh 0 r vs
  | .nilif, cs => cs = [.nilIface]
  | .clo f bs, cs => (∀ b ∈ bs, E.al b) ∧ cs = [cloV E.σ.f f bs]
  | .clos l, cs => (∀ x ∈ l, ∀ b ∈ x.2, E.al b) ∧ cs = l.map fun x => cloV E.σ.f x.1 x.2
  | .ovr b sz lo n, cs => E.al b ∧ ∃ g len cap c2, E.ν b = .slice (some ⟨g, 0, none⟩) len cap ∧ lo + n ≤ len ∧ n ≤ c2 ∧ c2 ≤ maxLen ∧ ∃ o, (0 < n → o = lo * sz) ∧ cs = [.slice (some ⟨g, o, none⟩) n c2]
  | .mapr b, cs => E.al b ∧ cs = [.map (some (E.σ b))]
  | .nilmap, cs => cs = [.map none]
  | .rec1 ds, cs => C1sRel E ds cs
  | .prss sh n lll, cs => lll.length = n ∧ cs.length = n ∧ ∀ i v, cs[i]? = some v → PsRel E.σ sh (lll.getD i []) v
  | .pref sh r off, cs => ∃ g o vs, cs = [.pointer (some ⟨g, o + off, none⟩)] ∧ E.σ.zm g ∧ RecRel E.σ sh 0 r vs ∧ ∀ j v, vs[j]? = some v → E.σ.zw.cell? ⟨g, o + j, none⟩ = some v
def PartsRel (E : Env) : List (Part D.τ) → List Value → Prop
  | [], cs => cs = []
  | p :: ps, cs => ∃ c1 c2, cs = c1 ++ c2 ∧ PartRel D E p c1 ∧ PartsRel E ps c2
def A0Rel (E : Env) : A0 D.τ → Value → Prop
  | .one p, v => v.oneCell' = true ∧ PartRel D E p [v]
  | .agg ps, v => ∃ cs : List Value, v = .agg cs.toArray ∧ PartsRel D E ps cs
def A0sRel (E : Env) : List (A0 D.τ) → List Value → Prop
  | [], vs => vs = []
  | a :: as, vs => ∃ v us, vs = v :: us ∧ A0Rel D E a v ∧ A0sRel E as us
def AVRel (E : Env) : AV D.τ → Value → Prop
  | .v a, v => A0Rel D E a v
  | .tup as, v => ∃ vs : List Value, v = .tuple vs.toArray ∧ A0sRel D E as vs
def fdPart {τ : Type} (f : FK) (r : Rec) (j : Nat) : Part τ := match f with
  | .int k => .int k false (recI r j)
  | .bool => .bool false (recB r j)
  | .str => .str (recS r j)
  | .words k => .pw k (recW r j)
  | .arr k n => .arr k n (recW r j)
def recParts {τ : Type} : List FK → Nat → Rec → List (Part τ)
  | [], _, _ => []
  | f :: fs, j, r => fdPart f r j :: recParts fs (j + 1) r
def constPart {τ : Type} : Value → Option (Part τ)
  | .int k n => some (.int k true n)
  | .bool b => some (.bool true b)
  | .string s => some (.str s)
  | .slice none 0 0 => some .nil
  | .pointer none => some .nilp
  | .map none => some .nilmap
  | .nilIface => some .nilif
  | _ => none
def constParts {τ : Type} : List Value → Option (List (Part τ))
  | [] => some []
  | v :: vs => match constPart v with
    | some p => match constParts vs with
      | some ps => some (p :: ps)
      | none => none
    | none => none
def constAV {τ : Type} : Value → Option (AV τ)
  | .agg cs => match constParts cs.toList with
    | some ps => some (.v (.agg ps))
    | none => none
  | .tuple _ => none
  | v => match constPart v with
    | some p => some (.v (.one p))
    | none => none
def szOf (t : TypeId) : Option Nat :=
  match P.underlying t with
  | some _ => (P.info? t).map (·.size)
  | none => none
def aggB (t : TypeId) : Bool :=
  match P.underlying t with
  | some (.struct _) => true
  | some (.array _ _) => true
  | _ => false
def zeroParts {τ : Type} (t : TypeId) : Option (List (Part τ)) :=
  match (P.info? t).bind (·.zero) with
  | some z => constParts z.cells.toList
  | none => none
def cutT : Nat → D.τ → Nat → Option (List D.τ × List D.τ)
  | 0, _, _ => none
  | f + 1, t, off => match D.split t with
    | none => none
    | some (a, b) => bif Nat.beq (D.size a) off then some ([a], [b]) else
      bif Nat.ble off (D.size a) then
        match cutT f a off with
        | some (x, y) => some (x, y ++ [b])
        | none => none
      else match cutT f b (off - D.size a) with
        | some (x, y) => some (a :: x, y)
        | none => none
def tagsP (l : List D.τ) : List (Part D.τ) := l.map .tag
def dropP : List (Part D.τ) → Nat → Option (List (Part D.τ) × List (Part D.τ))
  | [], off => bif Nat.beq off 0 then some ([], []) else none
  | p :: ps, off => bif Nat.beq off 0 then some ([], p :: ps) else
    bif Nat.ble (psize D p) off then
      match dropP ps (off - psize D p) with
      | some (a, b) => some (p :: a, b)
      | none => none
    else match p with
      | .tag t => match cutT D 5 t off with
        | some (x, y) => some (tagsP D x, tagsP D y ++ ps)
        | none => none
      | .arr k n l => some ([.arr k off (l.take off)], .arr k (n - off) (l.drop off) :: ps)
      | .prss sh n l => some ([.prss sh off (l.take off)], .prss sh (n - off) (l.drop off) :: ps)
      | _ => none
def splitP (ps : List (Part D.τ)) (off n : Nat) : Option (List (Part D.τ) × List (Part D.τ) × List (Part D.τ)) :=
  match dropP D ps off with
  | some (a, r) => match dropP D r n with
    | some (m, b) => some (a, m, b)
    | none => none
  | none => none
def mkAV {τ : Type} (g : Bool) (ps : List (Part τ)) : Option (AV τ) :=
  match g, ps with
  | true, ps => some (.v (.agg ps))
  | false, [.tag _] => none
  | false, [.ints _ _] => none
  | false, [.tags _ _] => none
  | false, [.fresh _ _ _ _] => none
  | false, [.arr k n l] => bif Nat.beq n 1 then some (.v (.one (.int k false (l.getD 0 0)))) else none
  | false, [.lws _ _] => none
  | false, [.lrs _ _] => none
  | false, [.clos _] => none
  | false, [.rec1 _] => none
  | false, [.prss sh n l] => bif Nat.beq n 1 then some (.v (.one (.prs sh (l.getD 0 [])))) else none
  | false, [p] => some (.v (.one p))
  | false, _ => none
def partsOf {τ : Type} : AV τ → Option (List (Part τ))
  | .v (.one p) => some [p]
  | .v (.agg ps) => some ps
  | .tup _ => none
def allInts {τ : Type} (k : IntKind) : List (Part τ) → Option (List Int)
  | [] => some []
  | .int k' _ n :: ps => if k = k' then (allInts k ps).map (n :: ·) else none
  | [.ints k' l] => if k = k' then some l else none
  | .ints k' l :: ps => if k = k' then (allInts k ps).map (l ++ ·) else none
  | [.arr k' _ l] => if k = k' then some l else none
  | .arr k' _ l :: ps => if k = k' then (allInts k ps).map (l ++ ·) else none
  | _ => none
def mkRec : List FK → List (Part D.τ) → Option Rec
  | [], [] => some []
  | [], _ :: _ => none
  | .int k :: fs, .int k' _ n :: ps => if k = k' then (mkRec fs ps).map (.i n :: ·) else none
  | .bool :: fs, .bool _ x :: ps => (mkRec fs ps).map (.b x :: ·)
  | .str :: fs, .str x :: ps => (mkRec fs ps).map (.s x :: ·)
  | .words k :: fs, .pw k' l :: ps => if k = k' then (mkRec fs ps).map (.w l :: ·) else none
  | .words _ :: fs, .nil :: ps => (mkRec fs ps).map (.w [] :: ·)
  | .arr k n :: fs, ps => match dropP D ps n with
    | some (m, r) => match allInts k m with
      | some l => (mkRec fs r).map (.w l :: ·)
      | none => none
    | none => none
  | _, _ => none
def assoc {α : Type} : List (Nat × α) → Nat → Option α
  | [], _ => none
  | (k, x) :: r, t => bif Nat.beq t k then some x else assoc r t
def Imp (ps qs : List (Part D.τ)) : Prop := ∀ E F cs, PartsRel D E qs cs → PartsRel D F ps cs
def isKey (ρ : List (Nat × Nat)) (b c : Nat) : Bool :=
  match assoc ρ b with
  | some d => Nat.beq d c
  | none => false
def TagLe (s t : D.τ) : Prop := ∀ cs, D.rel s cs → D.rel t cs
def nilB : Nat := 2000000
def keysL (ρ : List (Nat × Nat)) : List Nat → List Nat → Bool
  | [], [] => true
  | b :: bs, c :: cs => isKey ρ b c && keysL ρ bs cs
  | _, _ => false
def fitC (ρ : List (Nat × Nat)) : List C1 → List C1 → Option (List Prop)
  | [], [] => some []
  | .s x :: cs, .s y :: ds => (fitC ρ cs ds).map ((y = x) :: ·)
  | .i k m :: cs, .i k' n :: ds => if k = k' then (fitC ρ cs ds).map ((n = m) :: ·) else none
  | .o b :: cs, .o c :: ds => bif isKey ρ b c then fitC ρ cs ds else none
  | _, _ => none
def fitP (ρ : List (Nat × Nat)) : Part D.τ → Part D.τ → Option (List Prop)
  | .int k true m, .int k' true n => if k = k' then (if m = n then some [] else none) else none
  | .int k false m, .int k' _ n => if k = k' then some [n = m] else none
  | .int k false m, .ints k' [n] => if k = k' then some [n = m] else none
  | .bool true b, .bool true c => bif b == c then some [] else none
  | .bool false b, .bool _ c => some [c = b]
  | .str s, .str t => some [t = s]
  | .nil, .nil => some []
  | .ref b o, .ref c o' => bif isKey ρ b c && Nat.beq o o' then some [] else none
  | .oref b i, .oref c i' => bif isKey ρ b c then some [i' = i] else none
  | .own b, .own c => bif isKey ρ b c then some [] else none
  | .own b, .nil => bif isKey ρ b (nilB + b) then some [] else none
  | .view b o n cap, .view c o' n' cap' => bif isKey ρ b c && Nat.beq o o' then some [n' = n, cap' = cap] else none
  | .words k l, .words k' l' => if k = k' then some [l' = l] else none
  | .wref k l i, .wref k' l' i' => if k = k' then some [l' = l, i' = i] else none
  | .wordss k l, .wordss k' l' => if k = k' then some [l' = l] else none
  | .wsref k l i, .wsref k' l' i' => if k = k' then some [l' = l, i' = i] else none
  | .tag t, .tag t' => some [TagLe D t' t]
  | .ints k l, .ints k' l' => if k = k' then some [l' = l] else none
  | .tags s l, .tags s' l' => bif Nat.beq s s' then some [l' = l] else none
  | .pw k l, .pw k' l' => if k = k' then some [l' = l] else none
  | .words k l, .pw k' l' => if k = k' then some [l' = l] else none
  | .words _ l, .nil => some [[] = l]
  | .lrs sh ll, .lrs sh' ll' => bif shEq sh sh' then some [ll' = ll] else none
  | .prs sh ll, .prs sh' ll' => bif shEq sh sh' then some [ll' = ll] else none
  | .prs _ ll, .nil => some [[] = ll]
  | .ifr t b o, .ifr t' c o' => bif isKey ρ b c && (Nat.beq t t' && Nat.beq o o') then some [] else none
  | .ifa t sh r, .ifa t' sh' r' => bif Nat.beq t t' && shEq sh sh' then some [r' = r] else none
  | .nilif, .nilif => some []
  | .nilmap, .nilmap => some []
  | .mapr b, .mapr c => bif isKey ρ b c then some [] else none
  | .clo f bs, .clo f' cs => bif Nat.beq f f' && keysL ρ bs cs then some [] else none
  | .prss sh n l, .prss sh' n' l' => bif shEq sh sh' && Nat.beq n n' then some [l' = l] else none
  | .lws k l, .lws k' l' => if k = k' then some [l' = l] else none
  | .nilp, .nilp => some []
  | .aref b o n i, .aref c o' n' i' => bif isKey ρ b c && (Nat.beq o o' && Nat.beq n n') then some [i' = i] else none
  | .av b o m lo n cap, .av c o' m' lo' n' cap' => bif isKey ρ b c && (Nat.beq o o' && Nat.beq m m') then some [lo' = lo, n' = n, cap' = cap] else none
  | .rec1 cs, .rec1 ds => fitC ρ cs ds
  | _, _ => none
def wide : Part D.τ → Bool
  | .ints _ _ => true
  | .tag _ => true
  | .tags _ _ => true
  | _ => false
def fitW (p : Part D.τ) (qs : List (Part D.τ)) : Option (List Prop) :=
  match p with
  | .ints k l => match allInts k qs with
    | some l' => some [l' = l]
    | none => some [Imp D [p] qs]
  | _ => some [Imp D [p] qs]
def fitPs (ρ : List (Nat × Nat)) : List (Part D.τ) → List (Part D.τ) → Option (List Prop)
  | [], [] => some []
  | .arr k n l :: ps, qs => match dropP D qs n with
    | some (m, r) => match allInts k m with
      | some l' => match fitPs ρ ps r with
        | some ys => some ((l' = l) :: ys)
        | none => none
      | none => none
    | none => none
  | p :: ps, qs => match wide D p && ps.isEmpty, qs with
    | true, [q] => match fitP D ρ p q with
      | some xs => some xs
      | none => fitW D p [q]
    | true, qs => fitW D p qs
    | false, q :: qs => match fitP D ρ p q with
      | some xs => match fitPs ρ ps qs with
        | some ys => some (xs ++ ys)
        | none => none
      | none => none
    | false, [] => none
  | [], _ :: _ => none
def fit0 (ρ : List (Nat × Nat)) : A0 D.τ → A0 D.τ → Option (List Prop)
  | .one p, .one q => fitP D ρ p q
  | .agg ps, .agg qs => fitPs D ρ ps qs
  | _, _ => none
def fit0s (ρ : List (Nat × Nat)) : List (A0 D.τ) → List (A0 D.τ) → Option (List Prop)
  | [], [] => some []
  | a :: as, b :: bs => match fit0 D ρ a b with
    | some xs => match fit0s ρ as bs with
      | some ys => some (xs ++ ys)
      | none => none
    | none => none
  | _, _ => none
def fitA (ρ : List (Nat × Nat)) : AV D.τ → AV D.τ → Option (List Prop)
  | .v a, .v b => fit0 D ρ a b
  | .tup as, .tup bs => fit0s D ρ as bs
  | _, _ => none
def fitB (ρ : List (Nat × Nat)) : BoxSt D.τ → BoxSt D.τ → Option (List Prop)
  | .dead, _ => some []
  | .fixed ty ps, .fixed ty' qs => bif Nat.beq ty ty' then fitPs D ρ ps qs else none
  | .dyn e p, .dyn e' q => bif Nat.beq e e' && Nat.beq (esz D p) (esz D q) then fitPs D ρ [p] [q] else none
  | .fam k es none, .fam k' es' none => bif Nat.beq k k' then some [es' = es] else none
  | .fam k es (some (x, ps)), .fam k' es' (some (y, qs)) => bif Nat.beq k k' then match fitPs D ρ ps qs with
    | some xs => some ((y = x) :: (es' = es) :: xs)
    | none => none
    else none
  | _, _ => none
def lowB {τ : Type} (n : Nat) : BoxSt τ → Bool
  | .fam k _ _ => Nat.blt k n
  | _ => true
structure Res (τ : Type) where
  val : AV τ
  us : List (Nat × BoxSt τ)
  ps : List Prop
def Rd.bind {τ α β : Type} : Rd τ α → (α → Rd τ β) → Rd τ β
  | .ret a, f => f a
  | .fail, _ => .fail
  | .slot t k, f => .slot t fun x => (k x).bind f
  | .box b k, f => .box b fun x => (k x).bind f
def rdA {τ α : Type} (x : Operand) (k : AV τ → Rd τ α) : Rd τ α :=
  match x with
  | .tmp t => .slot t fun
    | some av => k av
    | none => .fail
  | .const v => match constAV v with
    | some av => k av
    | none => .fail
  | _ => .fail
def rdAs {τ α : Type} : List Operand → (List (AV τ) → Rd τ α) → Rd τ α
  | [], k => k []
  | x :: xs, k => rdA x fun a => rdAs xs fun as => k (a :: as)
def ok1 {τ : Type} (p : Part τ) (ps : List Prop := []) : Rd τ (Res τ) := .ret ⟨.v (.one p), [], ps⟩
def InI64 (n : Int) : Prop := -9223372036854775808 ≤ n ∧ n ≤ 9223372036854775807
def arith {τ : Type} (k : IntKind) (la lb : Bool) (n : Int) : Rd τ (Res τ) :=
  bif la && lb then ok1 (.int k true (k.wrap n))
  else match k with
    | .i64 => ok1 (.int .i64 false n) [InI64 n]
    | k => ok1 (.int k false (k.wrap n))
def bitsOf (op : BinOp) (k : IntKind) (x y : Int) : Int :=
  match op with
  | .and => k.wrap (BitVec.ofInt k.bits x &&& BitVec.ofInt k.bits y).toNat
  | .or => k.wrap (BitVec.ofInt k.bits x ||| BitVec.ofInt k.bits y).toNat
  | .xor => k.wrap (BitVec.ofInt k.bits x ^^^ BitVec.ofInt k.bits y).toNat
  | _ => k.wrap (BitVec.ofInt k.bits x &&& ~~~ BitVec.ofInt k.bits y).toNat
def cmpOf (op : BinOp) (x y : Int) : Option Bool :=
  match op with
  | .eql => some (x == y)
  | .neq => some (x != y)
  | .lss => some (decide (x < y))
  | .leq => some (decide (x ≤ y))
  | .gtr => some (decide (x > y))
  | .geq => some (decide (x ≥ y))
  | _ => none
def intOp {τ : Type} (op : BinOp) (k : IntKind) (la : Bool) (a : Int) (lb : Bool) (b : Int) : Rd τ (Res τ) :=
  match op with
  | .add => arith k la lb (a + b)
  | .sub => arith k la lb (a - b)
  | .mul => arith k la lb (a * b)
  | .and => ok1 (.int k (la && lb) (bitsOf .and k a b))
  | .or => ok1 (.int k (la && lb) (bitsOf .or k a b))
  | .xor => ok1 (.int k (la && lb) (bitsOf .xor k a b))
  | .andNot => ok1 (.int k (la && lb) (bitsOf .andNot k a b))
  | .quo => ok1 (.int k (la && lb) (k.wrap (a.tdiv b))) (bif la && lb && !(b == 0) then [] else [b ≠ 0])
  | .rem => ok1 (.int k (la && lb) (a.tmod b)) (bif lb && !(b == 0) then [] else [b ≠ 0])
  | op => match cmpOf op a b with
    | some c => ok1 (.bool (la && lb) c)
    | none => .fail
def shiftOp {τ : Type} (op : BinOp) (k : IntKind) (la : Bool) (a : Int) (lb : Bool) (b : Int) : Rd τ (Res τ) :=
  let ps : List Prop := bif lb && decide (0 ≤ b) then [] else [0 ≤ b]
  match op with
  | .shl => ok1 (.int k (la && lb) (k.wrap (a * 2 ^ min b.toNat k.bits))) ps
  | .shr => ok1 (.int k (la && lb) (a.fdiv (2 ^ min b.toNat k.bits))) ps
  | _ => .fail
def eqF : Nat → List (Part D.τ) → List (Part D.τ) → Option Bool
  | 0, _, _ => none
  | _ + 1, [], [] => some true
  | f + 1, .int k _ a :: ps, .int k' _ b :: qs => if k = k' then (eqF f ps qs).map ((a == b) && ·) else none
  | f + 1, .tag s :: ps, .tag t :: qs => match D.eqv s t with
    | some c => match ps, qs with
      | [], [] => some c
      | _, _ => (eqF f ps qs).map (c && ·)
    | none => bif Nat.blt (D.size t) (D.size s) then
        match D.split s with
        | some (a, b) => eqF f (.tag a :: .tag b :: ps) (.tag t :: qs)
        | none => none
      else
        match D.split t with
        | some (a, b) => eqF f (.tag s :: ps) (.tag a :: .tag b :: qs)
        | none => none
  | f + 1, .arr k n l :: ps, .arr k' n' l' :: qs => if k = k' then (bif Nat.beq n n' then (eqF f ps qs).map (decide (l = l') && ·) else none) else none
  | _ + 1, _, _ => none
def eqParts (ps qs : List (Part D.τ)) : Option Bool := eqF D 400 ps qs
def takeZ {τ : Type} (k : IntKind) : Nat → List (Part τ) → Option (List (Part τ))
  | 0, ps => some ps
  | n + 1, .int k' _ a :: ps => if k = k' then (match a with | .ofNat 0 => takeZ k n ps | _ => none) else none
  | _ + 1, _ => none
def tagify : Nat → List (Part D.τ) → List (Part D.τ)
  | 0, ps => ps
  | f + 1, ps => match D.zero with
    | some (k, t) => match takeZ k (D.size t) ps with
      | some r => .tag t :: tagify f r
      | none => match ps with
        | [] => []
        | p :: ps => p :: tagify f ps
    | none => ps
def firstKind {τ : Type} : List (Part τ) → Option IntKind
  | .int k _ _ :: _ => some k
  | .ints k _ :: _ => some k
  | .arr k _ _ :: _ => some k
  | _ => none
def eqParts2 (n : Nat) (ps qs : List (Part D.τ)) : Option (Bool × List Prop) :=
  match ps, qs with
  | [.ints k l], [.ints k' l'] => if k = k' then some (decide (l = l'), [l.length = l'.length, l.length = n]) else none
  | ps, qs => bif Nat.beq (ps.map (psize D)).sum n then
      match eqParts D ps qs with
      | some c => some (c, [])
      | none => match eqParts D (tagify D ps.length ps) (tagify D qs.length qs) with
        | some c => some (c, [])
        | none => bif Nat.beq (qs.map (psize D)).sum n then
          match firstKind ps with
          | some k => match allInts k ps with
            | some l => match allInts k qs with
              | some l' => some (decide (l = l'), [])
              | none => none
            | none => none
          | none => none
          else none
    else none
def EqT (t : TypeId) : Prop := ∀ (w : World) (xs ys : List Value), xs.length = ys.length → xs.length = (szOf P t).getD 0 →
  (∀ (i : Nat) u v, xs[i]? = some u → ys[i]? = some v → ∃ k a b, u = .int k a ∧ v = .int k b) →
  (Op.equal t (.agg xs.toArray) (.agg ys.toArray)).run P w = .ok ((xs.zip ys).all fun c => intOf c.1 == intOf c.2) w ∧
  P.eqGuardType P.depth t = false
abbrev FnD := List (A0 D.τ) → Option (AV D.τ × List Prop)
inductive Con where
  | fn (F : FnD D)
  | fz (F : FnD D)
  | op (modes : List Bool) (F : List (BoxSt D.τ) → List (A0 D.τ) → Option (AV D.τ × List (BoxSt D.τ) × List Prop))
  | rd (modes : List Bool) (F : List (BoxSt D.τ) → List (A0 D.τ) → Option (AV D.τ × List (BoxSt D.τ) × List Prop))
instance : Coe (FnD D) (Con D) := ⟨.fn⟩
abbrev Gam := List (FuncId × Con D)
def Gam.get : Gam D → FuncId → Option (Con D)
  | [], _ => none
  | (g, F) :: r, f => bif Nat.beq g f then some F else Gam.get r f
def elemKind (t : TypeId) : Option IntKind :=
  match P.underlying t with
  | some (.slice e) => match P.underlying e with
    | some (.int k) => some k
    | _ => none
  | _ => none
def lend {α : Type} (al : Bool) (ids : List Nat) (t : Option TypeId) (p : Part D.τ) (k : Part D.τ → Rd D.τ α) : Rd D.τ α :=
  match p with
  | .nil => match t with
    | none => k .nil
    | some t => match elemKind P t with
      | some kd => k (.words kd [])
      | none => k (.wordss .u8 [])
  | .own b => bif ids.any (Nat.beq b) then .fail else .box b fun
    | .dyn _ (.ints kd l) => k (.words kd l)
    | .dyn _ (.lws kd ll) => k (.wordss kd ll)
    | .dyn _ (.lrs sh ll) => bif al && Nat.ble 1 (rsz sh) then k (.prs sh ll) else .fail
    | _ => .fail
  | .av b base N lo n _ => bif ids.any (Nat.beq b) then .fail else .box b fun
    | .fixed _ ps => match t.bind (elemKind P) with
      | some kd => match splitP D ps base N with
        | some (_, m, _) => match allInts kd m with
          | some l => k (.words kd ((l.drop lo).take n))
          | none => .fail
        | none => .fail
      | none => .fail
    | _ => .fail
  | .view b off n _ => bif ids.any (Nat.beq b) then .fail else .box b fun
    | .fixed _ ps => match t.bind (elemKind P) with
      | some kd => match splitP D ps off n with
        | some (_, m, _) => match allInts kd m with
          | some l => k (.words kd l)
          | none => .fail
        | none => .fail
      | none => .fail
    | _ => .fail
  | .ov b lo n => bif ids.any (Nat.beq b) then .fail else .box b fun
    | .dyn _ (.ints kd l) => k (.words kd ((l.drop lo).take n))
    | _ => .fail
  | .pw kd l => k (.words kd l)
  | .arr kd n l => k (.arr kd n l)
  | .nilp => k .nilp
  | .words kd l => k (.words kd l)
  | .nnw kd l => k (.words kd l)
  | .wordss kd l => k (.wordss kd l)
  | .int kd b n => k (.int kd b n)
  | .bool b n => k (.bool b n)
  | .str s => k (.str s)
  | .tag t => k (.tag t)
  | .ints kd l => k (.ints kd l)
  | .tags s l => k (.tags s l)
  | .prs sh ll => k (.prs sh ll)
  | .ifa t sh r => k (.ifa t sh r)
  | .nilif => k .nilif
  | .nilmap => k .nilmap
  | _ => .fail
def lendAll {α : Type} (al : Bool) (ids : List Nat) : List (Part D.τ) → (List (Part D.τ) → Rd D.τ α) → Rd D.τ α
  | [], k => k []
  | p :: ps, k => lend P D al ids none p fun q => lendAll al ids ps fun qs => k (q :: qs)
def lendA {α : Type} (al : Bool) (ids : List Nat) (t : TypeId) (a : AV D.τ) (k : A0 D.τ → Rd D.τ α) : Rd D.τ α :=
  match a with
  | .v (.one p) => lend P D al ids (some t) p fun q => k (.one q)
  | .v (.agg ps) => lendAll P D al ids ps fun qs => k (.agg qs)
  | .tup _ => .fail
def lendAs {α : Type} (al : Bool) (ids : List Nat) : List TypeId → List (AV D.τ) → (List (A0 D.τ) → Rd D.τ α) → Rd D.τ α
  | _, [], k => k []
  | [], _ :: _, _ => .fail
  | t :: ts, a :: as, k => lendA P D al ids t a fun x => lendAs al ids ts as fun xs => k (x :: xs)
abbrev Fr := TypeId × IntKind × List Int
def absP (nid c : Nat) : Part D.τ → Option (Part D.τ × List Fr)
  | .fresh i e k l => bif Nat.beq i c then some (.own (nid + c), [(e, k, l)]) else none
  | .int k b n => some (.int k b n, [])
  | .bool b n => some (.bool b n, [])
  | .str s => some (.str s, [])
  | .nil => some (.nil, [])
  | .tag t => some (.tag t, [])
  | .ints k l => some (.ints k l, [])
  | .tags s l => some (.tags s l, [])
  | .arr k n l => some (.arr k n l, [])
  | .nilp => some (.nilp, [])
  | _ => none
def absPs (nid c : Nat) : List (Part D.τ) → Option (List (Part D.τ) × List Fr)
  | [] => some ([], [])
  | p :: ps => match absP D nid c p with
    | some (q, us) => match absPs nid (c + us.length) ps with
      | some (qs, vs) => some (q :: qs, us ++ vs)
      | none => none
    | none => none
def abs0 (nid c : Nat) : A0 D.τ → Option (A0 D.τ × List Fr)
  | .one p => match absP D nid c p with
    | some (q, us) => some (.one q, us)
    | none => none
  | .agg ps => match absPs D nid c ps with
    | some (qs, us) => some (.agg qs, us)
    | none => none
def abs0s (nid c : Nat) : List (A0 D.τ) → Option (List (A0 D.τ) × List Fr)
  | [] => some ([], [])
  | a :: as => match abs0 D nid c a with
    | some (q, us) => match abs0s nid (c + us.length) as with
      | some (qs, vs) => some (q :: qs, us ++ vs)
      | none => none
    | none => none
def absA (nid : Nat) : AV D.τ → Option (AV D.τ × List Fr)
  | .v a => match abs0 D nid 0 a with
    | some (q, us) => some (.v q, us)
    | none => none
  | .tup as => match abs0s D nid 0 as with
    | some (qs, us) => some (.tup qs, us)
    | none => none
def mkUs {τ : Type} (nid : Nat) : List Fr → List (Nat × BoxSt τ)
  | [] => []
  | (e, k, l) :: ds => (nid, .dyn e (.ints k l)) :: mkUs (nid + 1) ds
def rdUn {τ α : Type} (nid : Nat) : Nat → Rd τ α → Rd τ α
  | 0, k => k
  | n + 1, k => .box nid fun
    | .un => rdUn (nid + 1) n k
    | _ => .fail
def lenOf1 (a : Part D.τ) (k : Int → Bool → Rd D.τ (Res D.τ)) : Rd D.τ (Res D.τ) :=
  match a with
  | .nil => k 0 true
  | .words _ l => k l.length false
  | .wordss _ l => k l.length false
  | .view _ _ n _ => k n true
  | .ov _ _ n => k n false
  | .own b => .box b fun
    | .dyn _ (.ints _ l) => k l.length false
    | _ => .fail
  | _ => .fail
def bytesOfT (t : TypeId) : Nat := ((P.info? t).map (·.bytes)).getD 0
def pair {τ : Type} (x y : Operand) (k : AV τ → AV τ → Rd τ (Res τ)) : Rd τ (Res τ) := rdA x fun a => rdA y fun b => k a b
def oPick (c a b : Operand) : Rd D.τ (Res D.τ) :=
  rdA c fun
    | .v (.one (.bool true v)) => rdA (bif v then a else b) fun x => .ret ⟨x, [], []⟩
    | _ => .fail
def oAlloc (nid : Nat) (t : TypeId) : Rd D.τ (Res D.τ) :=
  .box nid fun
    | .un => match zeroParts P t with
      | some ps => .ret ⟨.v (.one (.ref nid 0)), [(nid, .fixed t ps)], []⟩
      | none => .fail
    | _ => .fail
def placesOf (t : TypeId) : Option (Nat → Option (Nat × Nat)) :=
  match P.underlying t with
  | some (.struct fs) => match fs.toList.mapM (fun f => (P.info? f.type).map fun i => (f.offset, i.size)) with
    | some pl => some fun i => pl.toArray[i]?
    | none => none
  | some (.array _ e) => match P.info? e with
    | some ie => some fun i => some (i * ie.size, ie.size)
    | none => none
  | _ => none
def lay (pl : Nat → Option (Nat × Nat)) : List Nat → List (AV D.τ) → List (Part D.τ) → Option (List (Part D.τ))
  | [], [], cs => some cs
  | i :: is, a :: as, cs => match pl i with
    | some (off, n) => match partsOf a with
      | some ps => match splitP D cs off n with
        | some (x, _, y) => bif Nat.beq ((ps.map (psize D)).sum) n then lay pl is as (x ++ ps ++ y) else none
        | none => none
      | none => none
    | none => none
  | _, _, _ => none
def oBuild (t : TypeId) (parts : List (Nat × Operand)) : Rd D.τ (Res D.τ) :=
  match (zeroParts P t : Option (List (Part D.τ))) with
  | some zs => match placesOf P t with
    | some pl => rdAs (parts.map (·.2)) fun as =>
      match lay D pl (parts.map (·.1)) as zs with
      | some cs => .ret ⟨.v (.agg cs), [], []⟩
      | none => .fail
    | none => .fail
  | none => .fail
def loadF (t : TypeId) (n off : Nat) (ps : List (Part D.τ)) : Rd D.τ (Res D.τ) :=
  match splitP D ps off n with
  | some (_, m, _) => match mkAV (aggB P t) m with
    | some a => .ret ⟨a, [], []⟩
    | none => .fail
  | none => .fail
def loadI (t : TypeId) (n off : Nat) (k : IntKind) (l : List Int) : Rd D.τ (Res D.τ) :=
  bif aggB P t then (bif Nat.beq off 0 then .ret ⟨.v (.agg [.ints k l]), [], [l.length = n]⟩ else .fail)
  else ok1 (.int k false (l.getD off 0)) [off < l.length]
def oLoad (t : TypeId) (x : Operand) : Rd D.τ (Res D.τ) :=
  match szOf P t with
  | none => .fail
  | some n => rdA x fun
    | .v (.one (.ref b off)) => .box b fun
      | .fixed _ [.ints k l] => loadI P D t n off k l
      | .fixed _ ps => loadF P D t n off ps
      | _ => .fail
    | .v (.one (.oref b i)) => bif aggB P t then .fail else .box b fun
      | .dyn _ (.ints k l) => ok1 (.int k false (l.getD i 0)) [i < l.length]
      | _ => .fail
    | .v (.one (.wref k l i)) => bif aggB P t then .fail else ok1 (.int k false (l.getD i 0))
    | .v (.one (.wsref k ll i)) => bif aggB P t then .fail else ok1 (.words k (ll.getD i []))
    | _ => .fail
def storeF (t : TypeId) (b off : Nat) (ty : TypeId) (ps : List (Part D.τ)) (a : AV D.τ) : Rd D.τ (Res D.τ) :=
  match szOf P t with
  | none => .fail
  | some n => match partsOf a with
    | none => .fail
    | some qs => match splitP D ps off n with
      | some (x, _, y) => bif Nat.beq ((qs.map (psize D)).sum) n then .ret ⟨.tup [], [(b, .fixed ty (x ++ qs ++ y))], []⟩ else .fail
      | none => .fail
def storeI (t : TypeId) (b off : Nat) (st : IntKind → List Int → BoxSt D.τ) (k : IntKind) (l : List Int) (a : AV D.τ) : Rd D.τ (Res D.τ) :=
  match a with
  | .v (.one (.int k' _ n)) => if k = k' then .ret ⟨.tup [], [(b, st k (l.set off n))], [off < l.length, szOf P t = some 1]⟩ else .fail
  | _ => .fail
def oStore (t : TypeId) (x y : Operand) : Rd D.τ (Res D.τ) :=
  rdA x fun
    | .v (.one (.ref b off)) => rdA y fun a => .box b fun
      | .fixed ty [.ints k l] => storeI P D t b off (fun k l => .fixed ty [.ints k l]) k l a
      | .fixed ty ps => storeF P D t b off ty ps a
      | _ => .fail
    | .v (.one (.oref b i)) => rdA y fun a => .box b fun
      | .dyn e (.ints k l) => storeI P D t b i (fun k l => .dyn e (.ints k l)) k l a
      | _ => .fail
    | _ => .fail
def oNilCheck (x : Operand) : Rd D.τ (Res D.τ) :=
  rdA x fun
    | .v (.one (.ref b off)) => ok1 (.ref b off)
    | _ => .fail
def oFieldAddr (s : TypeId) (x : Operand) (i : Nat) : Rd D.τ (Res D.τ) :=
  rdA x fun
    | .v (.one (.ref b off)) => match P.underlying s with
      | some (.struct fs) => match fs[i]? with
        | some f => match szOf P f.type with
          | some (_ + 1) => ok1 (.ref b (off + f.offset))
          | _ => .fail
        | none => .fail
      | _ => .fail
    | _ => .fail
def oField (s : TypeId) (x : Operand) (i : Nat) : Rd D.τ (Res D.τ) := (fun (_ : Program) => Rd.fail) P
def oIndexAddr (t : TypeId) (x y : Operand) : Rd D.τ (Res D.τ) :=
  pair x y fun a c => match c with
    | .v (.one (.int _ lit i)) =>
      match P.underlying t, a with
      | some (.array n e), .v (.one (.ref b off)) => match szOf P e with
        | some s => bif lit then (bif decide (0 ≤ i) && decide (i < n) then ok1 (.ref b (off + i.toNat * s)) else .fail)
          else ok1 (.ref b (off + i.toNat * s)) [0 ≤ i, i < n]
        | none => .fail
      | some (.slice e), .v (.one (.words k l)) => match szOf P e with
        | some 1 => ok1 (.wref k l i.toNat) [0 ≤ i, i < l.length]
        | _ => .fail
      | some (.slice e), .v (.one (.wordss k l)) => match szOf P e with
        | some 1 => ok1 (.wsref k l i.toNat) [0 ≤ i, i < l.length]
        | _ => .fail
      | some (.slice e), .v (.one (.own b)) => match szOf P e with
        | some 1 => .box b fun
          | .dyn _ (.ints _ l) => ok1 (.oref b i.toNat) [0 ≤ i, i < l.length]
          | _ => .fail
        | _ => .fail
      | some (.slice e), .v (.one (.view b off n _)) => match szOf P e with
        | some 1 => bif lit then (bif decide (0 ≤ i) && decide (i < n) then ok1 (.ref b (off + i.toNat)) else .fail)
          else ok1 (.ref b (off + i.toNat)) [0 ≤ i, i < n]
        | _ => .fail
      | _, _ => .fail
    | _ => .fail
def oIndex (t : TypeId) (x y : Operand) : Rd D.τ (Res D.τ) := (fun (_ : Program) => Rd.fail) P
def oExtract (x : Operand) (i : Nat) : Rd D.τ (Res D.τ) :=
  rdA x fun
    | .tup as => match as[i]? with
      | some a => .ret ⟨.v a, [], []⟩
      | none => .fail
    | _ => .fail
def oBin (op : BinOp) (t : TypeId) (x y : Operand) : Rd D.τ (Res D.τ) :=
  pair x y fun a b =>
    match a, b with
    | .v (.one (.int k la m)), .v (.one (.int k' lb n)) =>
      match op with
      | .shl => shiftOp .shl k la m lb n
      | .shr => shiftOp .shr k la m lb n
      | op => if k = k' then intOp op k la m lb n else .fail
    | .v (.one (.bool la m)), .v (.one (.bool lb n)) =>
      match P.underlying t, op with
      | some .bool, .eql => ok1 (.bool (la && lb) (m == n))
      | some .bool, .neq => ok1 (.bool (la && lb) (!(m == n)))
      | _, _ => .fail
    | .v (.agg ps), .v (.agg qs) =>
      match eqParts2 D ((szOf P t).getD 0) ps qs, op with
        | some (c, cs), .eql => ok1 (.bool false c) (EqT P t :: cs)
        | some (c, cs), .neq => ok1 (.bool false (!c)) (EqT P t :: cs)
        | _, _ => .fail
    | .v (.one .nil), .v (.one .nil) => match P.underlying t, op with
      | some (.slice _), .eql => ok1 (.bool true true)
      | some (.slice _), .neq => ok1 (.bool true false)
      | _, _ => .fail
    | .v (.one (.nnw _ _)), .v (.one .nil) => match P.underlying t, op with
      | some (.slice _), .eql => ok1 (.bool true false)
      | some (.slice _), .neq => ok1 (.bool true true)
      | _, _ => .fail
    | _, _ => .fail
def oUn (op : UnOp) (x : Operand) : Rd D.τ (Res D.τ) :=
  rdA x fun
    | .v (.one (.bool l b)) => match op with
      | .not => ok1 (.bool l (!b))
      | _ => .fail
    | .v (.one (.int k l n)) => match op with
      | .neg => arith k l true (0 - n)
      | .xor => ok1 (.int k l (bitsOf .xor k (if k.signed then -1 else k.max) n))
      | _ => .fail
    | _ => .fail
def oConvert (s t : TypeId) (x : Operand) : Rd D.τ (Res D.τ) :=
  rdA x fun
    | .v (.one (.int _ l n)) => match P.underlying s, P.underlying t with
      | some (.int _), some (.int k) => ok1 (.int k l (k.wrap n))
      | _, _ => .fail
    | _ => .fail
def bnd {τ α : Type} (h : Option Operand) (d : Int) (k : Int → Rd τ α) : Rd τ α :=
  match h with
  | none => k d
  | some y => rdA y fun
    | .v (.one (.int _ _ i)) => k i
    | _ => .fail
def zeroInt (e : TypeId) : Option IntKind :=
  match (P.info? e).bind (·.zero) with
  | some (.int k n) => bif n == 0 then some k else none
  | _ => none
def oMakeSlice (nid : Nat) (t : TypeId) (l c : Operand) : Rd D.τ (Res D.τ) :=
  pair l c fun x y => .box nid fun
    | .un => match x, y with
      | .v (.one (.int _ _ n)), .v (.one (.int _ _ m)) => match P.underlying t with
        | some (.slice e) => match szOf P e with
          | some 1 => match zeroInt P e with
            | some k => .ret ⟨.v (.one (.own nid)), [(nid, .dyn e (.ints k (List.replicate n.toNat 0)))], [0 ≤ n, n ≤ m, m ≤ 9223372036854775807, (bytesOfT P e : Int) * m ≤ 281474976710656]⟩
            | none => .fail
          | _ => .fail
        | _ => .fail
      | _, _ => .fail
    | _ => .fail
def vals (k : IntKind) : Nat → List Nat → List (AV D.τ) → Option (List Int)
  | _, [], [] => some []
  | i, j :: js, .v (.one (.int k' _ n)) :: as => bif Nat.beq i j then (if k = k' then (vals k (i + 1) js as).map (n :: ·) else none) else none
  | _, _, _ => none
def oBuildSlice (nid : Nat) (t : TypeId) (len : Nat) (parts : List (Nat × Operand)) : Rd D.τ (Res D.τ) :=
  rdAs (parts.map (·.2)) fun as => .box nid fun
    | .un => match P.underlying t with
      | some (.slice e) => match zeroInt P e with
        | some k => match szOf P e with
          | some 1 => match vals D k 0 (parts.map (·.1)) as with
            | some l => bif Nat.beq l.length len && Nat.ble len 16777216 then .ret ⟨.v (.one (.own nid)), [(nid, .dyn e (.ints k l))], []⟩ else .fail
            | none => .fail
          | _ => .fail
        | _ => .fail
      | _ => .fail
    | _ => .fail
def rnL (ρ : Nat → Option Nat) : List Nat → Option (List Nat)
  | [] => some []
  | b :: bs => match ρ b with
    | some c => match rnL ρ bs with
      | some cs => some (c :: cs)
      | none => none
    | none => none
def rnC (ρ : Nat → Option Nat) : List C1 → Option (List C1)
  | [] => some []
  | .s x :: cs => (rnC ρ cs).map (.s x :: ·)
  | .i k n :: cs => (rnC ρ cs).map (.i k n :: ·)
  | .o b :: cs => match ρ b with
    | some c => (rnC ρ cs).map (.o c :: ·)
    | none => none
def rnP (ρ : Nat → Option Nat) : Part D.τ → Option (Part D.τ)
  | .int k b n => some (.int k b n)
  | .bool b n => some (.bool b n)
  | .str s => some (.str s)
  | .nil => some .nil
  | .nilp => some .nilp
  | .tag t => some (.tag t)
  | .ints k l => some (.ints k l)
  | .tags s l => some (.tags s l)
  | .arr k n l => some (.arr k n l)
  | .pw k l => some (.pw k l)
  | .ref b o => match ρ b with
    | some c => some (.ref c o)
    | none => none
  | .oref b i => match ρ b with
    | some c => some (.oref c i)
    | none => none
  | .own b => match ρ b with
    | some c => some (.own c)
    | none => none
  | .view b o n cap => match ρ b with
    | some c => some (.view c o n cap)
    | none => none
  | .aref b o n i => match ρ b with
    | some c => some (.aref c o n i)
    | none => none
  | .av b o m lo n cap => match ρ b with
    | some c => some (.av c o m lo n cap)
    | none => none
  | .lrs sh ll => some (.lrs sh ll)
  | .prs sh ll => some (.prs sh ll)
  | .ifr t b o => match ρ b with
    | some c => some (.ifr t c o)
    | none => none
  | .ifa t sh r => some (.ifa t sh r)
  | .nilif => some .nilif
  | .nilmap => some .nilmap
  | .mapr b => match ρ b with
    | some c => some (.mapr c)
    | none => none
  | .clo f bs => match rnL ρ bs with
    | some cs => some (.clo f cs)
    | none => none
  | .prss sh n lll => some (.prss sh n lll)
  | .rec1 cs => match rnC ρ cs with
    | some ds => some (.rec1 ds)
    | none => none
  | _ => none
def rnPs (ρ : Nat → Option Nat) : List (Part D.τ) → Option (List (Part D.τ))
  | [] => some []
  | p :: ps => match rnP D ρ p with
    | some q => match rnPs ρ ps with
      | some qs => some (q :: qs)
      | none => none
    | none => none
def rn0 (ρ : Nat → Option Nat) : A0 D.τ → Option (A0 D.τ)
  | .one p => match rnP D ρ p with
    | some q => some (.one q)
    | none => none
  | .agg ps => match rnPs D ρ ps with
    | some qs => some (.agg qs)
    | none => none
def rn0s (ρ : Nat → Option Nat) : List (A0 D.τ) → Option (List (A0 D.τ))
  | [] => some []
  | p :: ps => match rn0 D ρ p with
    | some q => match rn0s ρ ps with
      | some qs => some (q :: qs)
      | none => none
    | none => none
def rnA (ρ : Nat → Option Nat) : AV D.τ → Option (AV D.τ)
  | .v a => match rn0 D ρ a with
    | some q => some (.v q)
    | none => none
  | .tup as => match rn0s D ρ as with
    | some q => some (.tup q)
    | none => none
def rnB (ρ : Nat → Option Nat) : BoxSt D.τ → Option (BoxSt D.τ)
  | .un => none
  | .dead => some .dead
  | .fixed ty ps => match rnPs D ρ ps with
    | some qs => some (.fixed ty qs)
    | none => none
  | .dyn e p => match rnP D ρ p with
    | some q => some (.dyn e q)
    | none => none
  | .fam k es none => some (.fam k es none)
  | .fam k es (some (x, ps)) => match rnPs D ρ ps with
    | some qs => some (.fam k es (some (x, qs)))
    | none => none
def rnBs (ρ : Nat → Option Nat) : List (BoxSt D.τ) → Option (List (BoxSt D.τ))
  | [] => some []
  | p :: ps => match rnB D ρ p with
    | some q => match rnBs ρ ps with
      | some qs => some (q :: qs)
      | none => none
    | none => none
def refC : List C1 → List Nat
  | [] => []
  | .o b :: cs => b :: refC cs
  | _ :: cs => refC cs
def refP : Part D.τ → List Nat
  | .ref b _ => [b]
  | .oref b _ => [b]
  | .own b => [b]
  | .view b _ _ _ => [b]
  | .aref b _ _ _ => [b]
  | .av b _ _ _ _ _ => [b]
  | .ifr _ b _ => [b]
  | .mapr b => [b]
  | .clo _ bs => bs
  | .rec1 cs => refC cs
  | _ => []
def refPs : List (Part D.τ) → List Nat
  | [] => []
  | p :: ps => refP D p ++ refPs ps
def refA : AV D.τ → List Nat
  | .v (.one p) => refP D p
  | .v (.agg ps) => refPs D ps
  | .tup _ => []
def refB : BoxSt D.τ → List Nat
  | .fixed _ ps => refPs D ps
  | .dyn _ p => refP D p
  | .fam _ _ (some (_, ps)) => refPs D ps
  | _ => []
def addAll : List Nat → List Nat → List Nat
  | ids, [] => ids
  | ids, b :: bs => bif ids.any (Nat.beq b) then addAll ids bs else addAll (ids ++ [b]) bs
def startIds : List Bool → List (AV D.τ) → List Nat → List Nat
  | m :: ms, a :: as, ids => startIds ms as (bif m then addAll ids (refA D a) else ids)
  | _, _, ids => ids
def reach {α : Type} : Nat → List Nat → Nat → (List Nat → Rd D.τ α) → Rd D.τ α
  | 0, _, _, _ => .fail
  | f + 1, ids, i, k => match ids[i]? with
    | none => k ids
    | some b => .box b fun s => reach f (addAll ids (refB D s)) (i + 1) k
def rdBs {τ α : Type} : List Nat → (List (BoxSt τ) → Rd τ α) → Rd τ α
  | [], k => k []
  | b :: bs, k => .box b fun s => rdBs bs fun ss => k (s :: ss)
def idxFrom (i : Nat) : List Nat → Nat → Option Nat
  | [], _ => none
  | c :: cs, b => bif Nat.beq b c then some i else idxFrom (i + 1) cs b
def idx (ids : List Nat) (b : Nat) : Option Nat := idxFrom 0 ids b
def newIds (nid : Nat) : Nat → List Nat
  | 0 => []
  | n + 1 => nid :: newIds (nid + 1) n
def nodupB : List Nat → Bool
  | [] => true
  | b :: bs => !(bs.any (Nat.beq b)) && nodupB bs
def passA {α : Type} (ids : List Nat) (m : Bool) (t : TypeId) (a : AV D.τ) (k : A0 D.τ → Rd D.τ α) : Rd D.τ α :=
  bif m then match a with
    | .v a0 => match rn0 D (idx ids) a0 with
      | some x => k x
      | none => .fail
    | .tup _ => .fail
  else lendA P D false ids t a k
def passAs {α : Type} (ids : List Nat) : List Bool → List TypeId → List (AV D.τ) → (List (A0 D.τ) → Rd D.τ α) → Rd D.τ α
  | _, _, [], k => k []
  | m :: ms, t :: ts, a :: as, k => passA P D ids m t a fun x => passAs ids ms ts as fun xs => k (x :: xs)
  | _, _, _ :: _, _ => .fail
def zipU {τ : Type} : List Nat → List (BoxSt τ) → List (Nat × BoxSt τ)
  | b :: bs, s :: ss => (b, s) :: zipU bs ss
  | _, _ => []
def oOpA (nid : Nat) (modes : List Bool) (F : List (BoxSt D.τ) → List (A0 D.τ) → Option (AV D.τ × List (BoxSt D.τ) × List Prop)) (as : List (AV D.τ)) (ts : List TypeId) : Rd D.τ (Res D.τ) :=
  reach D 64 (startIds D modes as []) 0 fun ids => bif nodupB ids then
    rdBs ids fun sts => match rnBs D (idx ids) sts with
    | some bs => passAs P D ids modes ts as fun xs => match F bs xs with
      | some (r, bs', ps) => bif Nat.ble ids.length bs'.length then
          let js := ids ++ newIds nid (bs'.length - ids.length)
          match rnA D (fun i => js[i]?) r with
          | some r' => match rnBs D (fun i => js[i]?) bs' with
            | some us => rdUn nid (bs'.length - ids.length) (.ret ⟨r', zipU js us, ps⟩)
            | none => .fail
          | none => .fail
        else .fail
      | none => .fail
    | none => .fail
  else .fail
def oRdA (nid : Nat) (modes : List Bool) (F : List (BoxSt D.τ) → List (A0 D.τ) → Option (AV D.τ × List (BoxSt D.τ) × List Prop)) (as : List (AV D.τ)) (ts : List TypeId) : Rd D.τ (Res D.τ) :=
  reach D 64 (startIds D modes as []) 0 fun ids => bif nodupB ids then
    rdBs ids fun sts => match rnBs D (idx ids) sts with
    | some bs => passAs P D ids modes ts as fun xs => match F bs xs with
      | some (r, ns, ps) =>
          let js := ids ++ newIds nid ns.length
          match rnA D (fun i => js[i]?) r with
          | some r' => match rnBs D (fun i => js[i]?) ns with
            | some us => rdUn nid ns.length (.ret ⟨r', zipU (newIds nid ns.length) us, ps⟩)
            | none => .fail
          | none => .fail
      | none => .fail
    | none => .fail
  else .fail
def callA (Γ : Gam D) (nid : Nat) (f : FuncId) (as : List (AV D.τ)) (ts : List TypeId) : Rd D.τ (Res D.τ) :=
  match Gam.get D Γ f with
  | some (.fn F) => lendAs P D true [] ts as fun xs =>
    match F xs with
    | some (r, ps) => match absA D nid r with
      | some (a, ds) => rdUn nid ds.length (.ret ⟨a, mkUs nid ds, ps⟩)
      | none => .fail
    | none => .fail
  | some (.fz F) => lendAs P D true [] ts as fun xs =>
    match F xs with
    | some (r, ps) => match absA D nid r with
      | some (.v (.one (.own b)), [(_, k, l)]) => bif Nat.beq b nid then rdUn nid 1 (.ret ⟨.v (.one (.pw k l)), [(nid, .dead)], ps⟩) else .fail
      | _ => .fail
    | none => .fail
  | some (.op modes F) => oOpA P D nid modes F as ts
  | some (.rd modes F) => oRdA P D nid modes F as ts
  | none => .fail
def oCall (Γ : Gam D) (nid : Nat) (f : FuncId) (args : List Operand) (ts : List TypeId) : Rd D.τ (Res D.τ) :=
  rdAs args fun as => callA P D Γ nid f as ts
def oInvoke (Γ : Gam D) (nid : Nat) (recv : Operand) (name : String) (args : List Operand) (ts : List TypeId) : Rd D.τ (Res D.τ) := (fun (_ : Program) => Rd.fail) P
def oCallV (Γ : Gam D) (nid : Nat) (x : Operand) (args : List Operand) (ts : List TypeId) : Rd D.τ (Res D.τ) := (fun (_ : Program) => Rd.fail) P
def oMakeFunc (fn : Fn) (first captured : List Operand) : Rd D.τ (Res D.τ) := .fail
def oLen (x : Operand) (t : TypeId) : Rd D.τ (Res D.τ) :=
  rdA x fun
    | .v (.one p) => match P.underlying t with
      | some .string => (match p with
        | .str s => ok1 (.int .i64 false s.size)
        | _ => .fail)
      | some (.slice _) => lenOf1 D p fun n l => ok1 (.int .i64 l n)
      | _ => .fail
    | _ => .fail
def oAppend (nid : Nat) (x y : Operand) (t u : TypeId) : Rd D.τ (Res D.τ) :=
  bif Nat.beq t u then
    match P.underlying t with
    | some (.slice e) => match zeroInt P e with
      | some k => match szOf P e with
        | some 1 => rdA x fun
          | .v (.one p) => rdA y fun
            | .v (.one q) => lend P D false [] (some t) q fun
              | .words kl l => if k = kl then .box nid fun
                | .un => match p with
                  | .nil => .ret ⟨.v (.one (.own nid)), [(nid, .dyn e (.ints k l))], [l.length ≤ 9223372036854775807, l.length * bytesOfT P e ≤ 140737488355328]⟩
                  | .own b => .box b fun
                    | .dyn e' (.ints k' xs) => if k = k' then (bif Nat.beq e e' then
                        .ret ⟨.v (.one (.own nid)), [(b, .dead), (nid, .dyn e (.ints k (xs ++ l)))], [xs.length + l.length ≤ 9223372036854775807, (xs.length + l.length) * bytesOfT P e ≤ 140737488355328]⟩ else .fail) else .fail
                    | _ => .fail
                  | _ => .fail
                | _ => .fail
                else .fail
              | _ => .fail
            | _ => .fail
          | _ => .fail
        | _ => .fail
      | _ => .fail
    | _ => .fail
  else .fail
def kindOf : List (Part D.τ) → Option IntKind
  | .int k _ _ :: _ => some k
  | .ints k _ :: _ => some k
  | .arr k _ _ :: _ => some k
  | _ => none
def intsAt (ps : List (Part D.τ)) (base N : Nat) : Option (IntKind × List Int) :=
  match splitP D ps base N with
  | some (_, m, _) => match kindOf D m with
    | some k => match allInts k m with
      | some l => some (k, l)
      | none => none
    | none => none
  | none => none
def oLoad2 (t : TypeId) (x : Operand) : Rd D.τ (Res D.τ) :=
  match x with
  | .global g => match D.glob g with
    | some (k, l) => match szOf P t with
      | some n => bif aggB P t && Nat.beq n l.length then .ret ⟨.v (.agg [.arr k n l]), [], []⟩ else .fail
      | none => .fail
    | none => .fail
  | x => match szOf P t with
    | none => .fail
    | some n => rdA x fun
      | .v (.one (.aref b base N i)) => bif aggB P t then .fail else .box b fun
        | .fixed _ ps => match intsAt D ps base N with
          | some (k, l) => ok1 (.int k false (l.getD i 0))
          | none => .fail
        | _ => .fail
      | .v (.one (.parr k m l)) => bif aggB P t && Nat.beq n m then .ret ⟨.v (.agg [.arr k m l]), [], []⟩ else .fail
      | .v (.one (.oref b i)) => .box b fun
        | .dyn _ (.lws k ll) => bif aggB P t then .fail else ok1 (.words k (ll.getD i [])) [i < ll.length]
        | _ => oLoad P D t x
      | _ => oLoad P D t x
def oStore2 (t : TypeId) (x y : Operand) : Rd D.τ (Res D.τ) :=
  rdA x fun
    | .v (.one (.aref b base N i)) => rdA y fun
      | .v (.one (.int k _ v)) => .box b fun
        | .fixed ty ps => match splitP D ps base N with
          | some (p, m, q) => match allInts k m with
            | some l => match szOf P t with
              | some 1 => .ret ⟨.tup [], [(b, .fixed ty (p ++ (.arr k N (l.set i v) :: q)))], []⟩
              | _ => .fail
            | none => .fail
          | none => .fail
        | _ => .fail
      | _ => .fail
    | _ => oStore P D t x y
def arrAt (ps : List (Part D.τ)) (off : Nat) : Bool :=
  match dropP D ps off with
  | some (_, .arr _ _ _ :: _) => true
  | _ => false
def oIndexAddr2 (t : TypeId) (x y : Operand) : Rd D.τ (Res D.τ) :=
  match x with
  | .global g => match D.glob g with
    | some (k, l) => match P.underlying t with
      | some (.array n e) => match szOf P e with
        | some 1 => bif Nat.beq n l.length then rdA y fun
          | .v (.one (.int _ _ i)) => ok1 (.wref k l i.toNat) [0 ≤ i, i < n]
          | _ => .fail
          else .fail
        | _ => .fail
      | _ => .fail
    | none => .fail
  | x => pair x y fun a c => match a, c with
    | .v (.one (.ref b off)), .v (.one (.int _ lit i)) => match P.underlying t with
      | some (.array n e) => match szOf P e with
        | some 1 => .box b fun
          | .fixed _ [.ints _ _] => oIndexAddr P D t x y
          | .fixed _ ps => bif lit && !arrAt D ps off then oIndexAddr P D t x y else ok1 (.aref b off n i.toNat) (bif lit && (decide (0 ≤ i) && decide (i < n)) then [] else [0 ≤ i, i < n])
          | _ => .fail
        | _ => oIndexAddr P D t x y
      | _ => oIndexAddr P D t x y
    | .v (.one (.pw k l)), .v (.one (.int _ _ i)) => match P.underlying t with
      | some (.slice e) => match szOf P e with
        | some 1 => ok1 (.wref k l i.toNat) [0 ≤ i, i < l.length]
        | _ => .fail
      | _ => .fail
    | .v (.one (.av b base N lo n _)), .v (.one (.int _ _ i)) => match P.underlying t with
      | some (.slice e) => match szOf P e with
        | some 1 => ok1 (.aref b base N (lo + i.toNat)) [0 ≤ i, i < n]
        | _ => .fail
      | _ => .fail
    | .v (.one (.own b)), .v (.one (.int _ _ i)) => .box b fun
      | .dyn _ (.lws _ ll) => match P.underlying t with
        | some (.slice e) => match szOf P e with
          | some 1 => ok1 (.oref b i.toNat) [0 ≤ i, i < ll.length]
          | _ => .fail
        | _ => .fail
      | _ => oIndexAddr P D t x y
    | _, _ => oIndexAddr P D t x y
def freezeId : FuncId := 1000000008
def frozenAt (Γ : Gam D) (d : Option Tmp) : Bool :=
  match Gam.get D Γ freezeId, d with
  | some (.fn F), some t => (F [.one (.int .i64 true t)]).isSome
  | _, _ => false
def oSlice2 (Γ : Gam D) (nid : Nat) (dst : Option Tmp) (t : TypeId) (x : Operand) (lo hi : Option Operand) : Rd D.τ (Res D.τ) := (fun (_ : Program) => Rd.fail) P
def oSlice3 (nid : Nat) (t : TypeId) (x y z : Operand) : Rd D.τ (Res D.τ) := (fun (_ : Program) => Rd.fail) P
def oMin (x y : Operand) : Rd D.τ (Res D.τ) := .fail
def oArrPtr (t : TypeId) (x : Operand) : Rd D.τ (Res D.τ) := (fun (_ : Program) => Rd.fail) P
def over (a : List Int) (lo : Nat) (l : List Int) : List Int := a.take lo ++ l ++ a.drop (lo + l.length)
def oCopy2 (x y : Operand) (t : TypeId) : Rd D.τ (Res D.τ) := (fun (_ : Program) => Rd.fail) P
def oLen2 (x : Operand) (t : TypeId) : Rd D.τ (Res D.τ) :=
  rdA x fun
    | .v (.one (.pw _ l)) => match P.underlying t with
      | some (.slice _) => ok1 (.int .i64 false l.length)
      | _ => .fail
    | .v (.one (.av _ _ _ _ n _)) => match P.underlying t with
      | some (.slice _) => ok1 (.int .i64 false n)
      | _ => .fail
    | .v (.one (.own b)) => .box b fun
      | .dyn _ (.lws _ ll) => match P.underlying t with
        | some (.slice _) => ok1 (.int .i64 false ll.length)
        | _ => .fail
      | _ => oLen P D x t
    | _ => oLen P D x t
def zeroSl (e : TypeId) : Bool :=
  match (P.info? e).bind (·.zero) with
  | some (.slice none 0 0) => true
  | _ => false
def wordsOf (k : IntKind) : Nat → List Nat → List (AV D.τ) → Option (List (List Int))
  | _, [], [] => some []
  | i, j :: js, .v (.one p) :: as => bif Nat.beq i j then
      match p with
      | .words k' l => if k = k' then (wordsOf k (i + 1) js as).map (l :: ·) else none
      | .pw k' l => if k = k' then (wordsOf k (i + 1) js as).map (l :: ·) else none
      | .nil => (wordsOf k (i + 1) js as).map ([] :: ·)
      | _ => none
    else none
  | _, _, _ => none
def oBuildSlice2 (nid : Nat) (t : TypeId) (len : Nat) (parts : List (Nat × Operand)) : Rd D.τ (Res D.τ) :=
  match P.underlying t with
  | some (.slice e) => match elemKind P e with
    | some k => match szOf P e with
      | some 1 => rdAs (parts.map (·.2)) fun as => .box nid fun
        | .un => match wordsOf D k 0 (parts.map (·.1)) as with
          | some ll => bif Nat.beq ll.length len && (Nat.ble len 16777216 && zeroSl P e) then .ret ⟨.v (.one (.own nid)), [(nid, .dyn e (.lws k ll))], []⟩ else .fail
          | none => .fail
        | _ => .fail
      | _ => .fail
    | none => oBuildSlice P D nid t len parts
  | _ => .fail
def rowsOf {α : Type} (e : TypeId) (k : IntKind) (p : Part D.τ) (f : List (List Int) → Rd D.τ α) : Rd D.τ α :=
  match p with
  | .nil => f []
  | .wordss k' ll => if k = k' then f ll else .fail
  | .own c => .box c fun
    | .dyn e' (.lws k' ll) => bif Nat.beq e e' then (if k = k' then f ll else .fail) else .fail
    | _ => .fail
  | _ => .fail
def oAppend2 (nid : Nat) (x y : Operand) (t u : TypeId) : Rd D.τ (Res D.τ) :=
  match P.underlying t with
  | some (.slice e) => match elemKind P e with
    | some k => match szOf P e with
      | some 1 => bif Nat.beq t u && zeroSl P e then rdA x fun
        | .v (.one p) => rdA y fun
          | .v (.one q) => rowsOf D e k q fun ll => .box nid fun
            | .un => match p with
              | .nil => .ret ⟨.v (.one (.own nid)), [(nid, .dyn e (.lws k ll))], [ll.length * bytesOfT P e ≤ 140737488355328, ll.length ≤ 9223372036854775807]⟩
              | .own b => .box b fun
                | .dyn e' (.lws k' xs) => if k = k' then (bif Nat.beq e e' then
                    .ret ⟨.v (.one (.own nid)), [(b, .dead), (nid, .dyn e (.lws k (xs ++ ll)))], [(xs.length + ll.length) * bytesOfT P e ≤ 140737488355328, xs.length + ll.length ≤ 9223372036854775807]⟩ else .fail) else .fail
                | _ => .fail
              | _ => .fail
            | _ => .fail
          | _ => .fail
        | _ => .fail
        else .fail
      | _ => .fail
    | none => oAppend P D nid x y t u
  | _ => .fail
def oBin2 (op : BinOp) (t : TypeId) (x y : Operand) : Rd D.τ (Res D.τ) :=
  pair x y fun a b => match a, b with
    | .v (.one (.ref _ _)), .v (.one .nilp) => match P.underlying t, op with
      | some (.pointer _), .eql => ok1 (.bool true false)
      | some (.pointer _), .neq => ok1 (.bool true true)
      | _, _ => .fail
    | .v (.one .nilp), .v (.one .nilp) => match P.underlying t, op with
      | some (.pointer _), .eql => ok1 (.bool true true)
      | some (.pointer _), .neq => ok1 (.bool true false)
      | _, _ => .fail
    | .v (.one (.prs _ ll)), .v (.one .nil) => match P.underlying t, op with
      | some (.slice _), .eql => ok1 (.bool true false) [0 < ll.length]
      | some (.slice _), .neq => ok1 (.bool true true) [0 < ll.length]
      | _, _ => .fail
    | _, _ => oBin P D op t x y
def oConvert2 (s t : TypeId) (x : Operand) : Rd D.τ (Res D.τ) :=
  rdA x fun
    | .v (.one (.own b)) => bif Nat.beq s t then match P.underlying t with
      | some (.slice e) => match P.underlying e with
        | some (.int .u8) => .box b fun
          | .dyn _ (.ints k l) => .ret ⟨.v (.one (.pw k l)), [(b, .dead)], [0 < l.length]⟩
          | _ => .fail
        | _ => .fail
      | _ => .fail
      else .fail
    | .v (.one (.pw k l)) => match P.underlying s, P.underlying t with
      | some (.slice e), some .string => match k, P.underlying e with
        | .u8, some (.int .u8) => ok1 (.str ⟨(l.map fun n => UInt8.ofNat n.toNat).toArray⟩)
        | _, _ => .fail
      | _, _ => .fail
    | _ => oConvert P D s t x
def shapeOf : Nat → TypeId → Option (List FK × Nat)
  | 0, _ => none
  | d + 1, t => match P.underlying t with
    | some (.int k) => some ([.int k], 1)
    | some .bool => some ([.bool], 1)
    | some .string => some ([.str], 1)
    | some (.slice e) => match P.underlying e with
      | some (.int k) => some ([.words k], 1)
      | _ => none
    | some (.array n e) => match P.underlying e with
      | some (.int k) => some ([.arr k n], n)
      | _ => none
    | some (.struct fs) => shapeFs (shapeOf d) 0 fs.toList
    | _ => none
where shapeFs (f : TypeId → Option (List FK × Nat)) : Nat → List Field → Option (List FK × Nat)
  | off, [] => some ([], off)
  | off, g :: gs => bif Nat.beq g.offset off then match f g.type with
    | some (a, n) => match shapeFs f (off + n) gs with
      | some (b, m) => some (a ++ b, m)
      | none => none
    | none => none else none
def recShape (e : TypeId) : Option (List FK) :=
  bif aggB P e then match shapeOf P 20 e, szOf P e with
  | some (sh, _), some n => bif Nat.beq n (rsz sh) && Nat.ble 1 n then some sh else none
  | _, _ => none
  else none
def zeroFits (e : TypeId) (n : Nat) : Bool :=
  match (P.info? e).bind (·.zero) with
  | some z => Nat.beq z.cells.size n
  | none => false
def oLenR (x : Operand) (t : TypeId) : Rd D.τ (Res D.τ) :=
  rdA x fun
    | .v (.one (.prs _ ll)) => match P.underlying t with
      | some (.slice _) => ok1 (.int .i64 false ll.length)
      | _ => .fail
    | .v (.one (.own b)) => .box b fun
      | .dyn _ (.lrs sh ll) => match P.underlying t with
        | some (.slice _) => bif Nat.ble 1 (rsz sh) then ok1 (.int .i64 false ll.length) else .fail
        | _ => .fail
      | _ => oLen2 P D x t
    | _ => oLen2 P D x t
def oIndexAddrR (t : TypeId) (x y : Operand) : Rd D.τ (Res D.τ) :=
  match x with
  | .global g => oIndexAddr2 P D t (.global g) y
  | x => pair x y fun a c => match a, c with
    | .v (.one (.own b)), .v (.one (.int _ _ i)) => .box b fun
      | .dyn _ (.lrs sh ll) => match P.underlying t with
        | some (.slice e) => match szOf P e with
          | some n => bif Nat.beq n (rsz sh) && Nat.ble 1 n then ok1 (.lref b sh i.toNat 0) [0 ≤ i, i < ll.length] else .fail
          | none => .fail
        | _ => .fail
      | _ => oIndexAddr2 P D t x y
    | .v (.one (.prs sh ll)), .v (.one (.int _ _ i)) => match P.underlying t with
      | some (.slice e) => match szOf P e with
        | some n => bif Nat.beq n (rsz sh) then ok1 (.pref sh (ll.getD i.toNat []) 0) [0 ≤ i, i < ll.length] else .fail
        | none => .fail
      | _ => .fail
    | _, _ => oIndexAddr2 P D t x y
def oFieldAddrR (s : TypeId) (x : Operand) (i : Nat) : Rd D.τ (Res D.τ) :=
  rdA x fun
    | .v (.one (.lref b sh k off)) => match P.underlying s with
      | some (.struct fs) => match fs[i]? with
        | some f => match szOf P f.type with
          | some (_ + 1) => ok1 (.lref b sh k (off + f.offset))
          | _ => .fail
        | none => .fail
      | _ => .fail
    | .v (.one (.pref sh r off)) => match P.underlying s with
      | some (.struct fs) => match fs[i]? with
        | some f => match szOf P f.type with
          | some (_ + 1) => ok1 (.pref sh r (off + f.offset))
          | _ => .fail
        | none => .fail
      | _ => .fail
    | _ => oFieldAddr P D s x i
def oLoadR (t : TypeId) (x : Operand) : Rd D.τ (Res D.τ) :=
  match x with
  | .global g => oLoad2 P D t (.global g)
  | x => rdA x fun
    | .v (.one (.lref b sh i off)) => .box b fun
      | .dyn _ (.lrs sh' ll) => bif shEq sh sh' then match szOf P t with
        | some n => match splitP D (recParts sh 0 (ll.getD i [])) off n with
          | some (_, m, _) => match mkAV (aggB P t) m with
            | some v => .ret ⟨v, [], [i < ll.length]⟩
            | none => .fail
          | none => .fail
        | none => .fail
        else .fail
      | _ => .fail
    | .v (.one (.pref sh r off)) => match szOf P t with
      | some n => match splitP D (recParts sh 0 r) off n with
        | some (_, m, _) => match mkAV (aggB P t) m with
          | some v => .ret ⟨v, [], []⟩
          | none => .fail
        | none => .fail
      | none => .fail
    | _ => oLoad2 P D t x
def oStoreR (t : TypeId) (x y : Operand) : Rd D.τ (Res D.τ) :=
  rdA x fun
    | .v (.one (.lref b sh i off)) => rdA y fun a => .box b fun
      | .dyn e (.lrs sh' ll) => bif shEq sh sh' then match szOf P t, partsOf a with
        | some n, some qs => match splitP D (recParts sh 0 (ll.getD i [])) off n with
          | some (p1, _, p3) => match mkRec D sh (p1 ++ (qs ++ p3)) with
            | some r => .ret ⟨.tup [], [(b, .dyn e (.lrs sh' (ll.set i r)))], [i < ll.length, (qs.map (psize D)).sum = n]⟩
            | none => .fail
          | none => .fail
        | _, _ => .fail
        else .fail
      | _ => .fail
    | _ => oStore2 P D t x y
def oSliceR (Γ : Gam D) (nid : Nat) (dst : Option Tmp) (t : TypeId) (x : Operand) (lo hi : Option Operand) : Rd D.τ (Res D.τ) :=
  rdA x fun
    | .v (.one (.prs sh ll)) => match P.underlying t with
      | some (.slice e) => match szOf P e with
        | some n => bif Nat.beq n (rsz sh) then bnd lo 0 fun a => bnd hi ll.length fun b => ok1 (.prs sh ((ll.take b.toNat).drop a.toNat)) [0 ≤ a, a ≤ b, b ≤ ll.length] else .fail
        | none => .fail
      | _ => .fail
    | .v (.one (.own b)) => .box b fun
      | .dyn e (.lrs sh ll) => match P.underlying t, lo, hi with
        | some (.slice e'), none, some y => match szOf P e' with
          | some n => bif Nat.beq n (rsz sh) then rdA y fun
            | .v (.one (.int _ _ h)) => .box nid fun
              | .un => .ret ⟨.v (.one (.own nid)), [(b, .dead), (nid, .dyn e (.lrs sh (ll.take h.toNat)))], [0 ≤ h, h ≤ ll.length, 1 ≤ rsz sh]⟩
              | _ => .fail
            | _ => .fail
            else .fail
          | none => .fail
        | some (.slice e'), some y, none => match szOf P e' with
          | some n => bif Nat.beq n (rsz sh) && Nat.ble 1 n then rdA y fun
            | .v (.one (.int _ _ h)) => ok1 (.ovr b n h.toNat (ll.length - h.toNat)) [0 ≤ h, h ≤ ll.length, 0 < ll.length]
            | _ => .fail
            else .fail
          | none => .fail
        | _, _, _ => .fail
      | _ => oSlice2 P D Γ nid dst t x lo hi
    | _ => oSlice2 P D Γ nid dst t x lo hi
def recsOf (sh : List FK) : Nat → List Nat → List (AV D.τ) → Option (List Rec)
  | _, [], [] => some []
  | i, j :: js, .v (.agg ps) :: as => bif Nat.beq i j then match mkRec D sh ps with
    | some r => (recsOf sh (i + 1) js as).map (r :: ·)
    | none => none
    else none
  | _, _, _ => none
def oBuildR (nid : Nat) (t : TypeId) (len : Nat) (parts : List (Nat × Operand)) : Rd D.τ (Res D.τ) :=
  match P.underlying t with
  | some (.slice e) => match recShape P e with
    | some sh => rdAs (parts.map (·.2)) fun as => .box nid fun
      | .un => match recsOf D sh 0 (parts.map (·.1)) as with
        | some ll => bif Nat.beq ll.length len && (Nat.ble (len * rsz sh) 16777216 && zeroFits P e (rsz sh)) then .ret ⟨.v (.one (.own nid)), [(nid, .dyn e (.lrs sh ll))], []⟩ else .fail
        | none => .fail
      | _ => .fail
    | none => oBuildSlice2 P D nid t len parts
  | _ => .fail
def recRows {α : Type} (e : TypeId) (sh : List FK) (p : Part D.τ) (f : List Rec → Rd D.τ α) : Rd D.τ α :=
  match p with
  | .nil => f []
  | .prs sh' ll => bif shEq sh sh' then f ll else .fail
  | .own c => .box c fun
    | .dyn e' (.lrs sh' ll) => bif Nat.beq e e' && shEq sh sh' then f ll else .fail
    | _ => .fail
  | _ => .fail
def oAppendR (nid : Nat) (x y : Operand) (t u : TypeId) : Rd D.τ (Res D.τ) :=
  match P.underlying t with
  | some (.slice e) => match recShape P e with
    | some sh => bif Nat.beq t u && zeroFits P e (rsz sh) then rdA x fun
      | .v (.one p) => rdA y fun
        | .v (.one q) => recRows D e sh q fun ll => .box nid fun
          | .un => match p with
            | .nil => .ret ⟨.v (.one (.own nid)), [(nid, .dyn e (.lrs sh ll))], [ll.length * bytesOfT P e ≤ 140737488355328, ll.length ≤ 9223372036854775807]⟩
            | .own b => .box b fun
              | .dyn e' (.lrs sh' xs) => bif Nat.beq e e' && shEq sh sh' then
                  .ret ⟨.v (.one (.own nid)), [(b, .dead), (nid, .dyn e (.lrs sh (xs ++ ll)))], [(xs.length + ll.length) * bytesOfT P e ≤ 140737488355328, xs.length + ll.length ≤ 9223372036854775807]⟩ else .fail
              | _ => .fail
            | _ => .fail
          | _ => .fail
        | _ => .fail
      | _ => .fail
      else .fail
    | none => oAppend2 P D nid x y t u
  | _ => .fail
def oMakeIface (t : TypeId) (x : Operand) : Rd D.τ (Res D.τ) := (fun (_ : Program) => Rd.fail) P
def oTypeAssert (x : Operand) (t : TypeId) (commaOk : Bool) : Rd D.τ (Res D.τ) := (fun (_ : Program) => Rd.fail) P
def oClear (x : Operand) (t : TypeId) : Rd D.τ (Res D.τ) := (fun (_ : Program) => Rd.fail) P
def oMax (x y : Operand) : Rd D.τ (Res D.τ) := .fail
def oMin3 (x y z : Operand) : Rd D.τ (Res D.τ) := .fail
def strLt (s t : ByteArray) : Bool := Op.bytesLess s.data.toList t.data.toList
def strOp {τ : Type} (op : BinOp) (s t : ByteArray) : Rd τ (Res τ) :=
  match op with
  | .add => ok1 (.str (s ++ t)) [((s.size + t.size : Nat) : Int) ≤ 9223372036854775807]
  | .eql => ok1 (.bool false (decide (s = t)))
  | .neq => ok1 (.bool false (!decide (s = t)))
  | .lss => ok1 (.bool false (strLt s t))
  | .leq => ok1 (.bool false (strLt s t || decide (s = t)))
  | .gtr => ok1 (.bool false (!(strLt s t || decide (s = t))))
  | .geq => ok1 (.bool false (!strLt s t))
  | _ => .fail
def oBin3 (op : BinOp) (t : TypeId) (x y : Operand) : Rd D.τ (Res D.τ) :=
  pair x y fun a b => match a, b with
    | .v (.one (.str s)), .v (.one (.str u)) => match P.underlying t with
      | some .string => strOp op s u
      | _ => .fail
    | .v (.one (.mapr _)), .v (.one .nilmap) => match P.underlying t, op with
      | some (.map _ _), .eql => ok1 (.bool true false)
      | some (.map _ _), .neq => ok1 (.bool true true)
      | _, _ => .fail
    | _, _ => oBin2 P D op t x y
def oBuildC (nid : Nat) (t : TypeId) (len : Nat) (parts : List (Nat × Operand)) : Rd D.τ (Res D.τ) := oBuildR P D nid t len parts
def oLenM (x : Operand) (t : TypeId) : Rd D.τ (Res D.τ) :=
  rdA x fun
    | .v (.one (.mapr b)) => match P.underlying t with
      | some (.map _ _) => .box b fun
        | .fam k es _ => match D.fam k with
          | some fd => bif fd.row then .fail else ok1 (.int .i64 false es.length)
          | none => .fail
        | _ => .fail
      | _ => .fail
    | .v (.one (.own b)) => .box b fun
      | .dyn _ (.clos l) => match P.underlying t with
        | some (.slice _) => ok1 (.int .i64 true l.length)
        | _ => .fail
      | _ => oLenR P D x t
    | _ => oLenR P D x t
def oIndexAddrC (t : TypeId) (x y : Operand) : Rd D.τ (Res D.τ) := oIndexAddrR P D t x y
def oLoadC (t : TypeId) (x : Operand) : Rd D.τ (Res D.τ) := oLoadR P D t x
def KeyT (kt : TypeId) (agg : Bool) (sh : List FK) : Prop :=
  ∀ (w : World) (key : Rec), keyOK sh key = true → (∀ b, (Instr.checkKey b 10000 kt (keyV agg sh key)).run P w = .ok () w) ∧
    (∀ ens : List MapEntry, ∀ ks : List Rec, ens.map (·.key) = ks.map (keyV agg sh) → (∀ k ∈ ks, keyOK sh k = true) →
      (Instr.findKey kt (keyV agg sh key) ens).run P w = .ok (match ks.findIdx? (· == key) with | some i => (ens[i]?).map fun e => (i, e.val) | none => none) w) ∧
    ∀ k', keyOK sh k' = true → keyV agg sh k' = keyV agg sh key → (Instr.keyThatStays (keyV agg sh k') (keyV agg sh key)).run P w = .ok (keyV agg sh key) w
def famFits (fd : FamD D.τ) (t : TypeId) : Bool :=
  match P.underlying t with
  | some (.map kt vt) => (!fd.row && (Nat.beq kt fd.kt && Nat.beq vt fd.vt)) && (fd.vagg == aggB P vt && (szOf P vt).isSome)
  | _ => false
def oMakeMap (nid : Nat) (t : TypeId) (r : Option Operand) : Rd D.τ (Res D.τ) :=
  match r with
  | some _ => .fail
  | none => .box nid fun
    | .un => match D.famOf t with
      | some k => match D.fam k with
        | some fd => bif famFits P D fd t then .ret ⟨.v (.one (.mapr nid)), [(nid, .fam k [] none)], []⟩ else .fail
        | none => .fail
      | none => .fail
    | _ => .fail
def isAggA {τ : Type} : AV τ → Bool
  | .v (.agg _) => true
  | _ => false
def lookId : FuncId := 1000000009
def lookMode (Γ : Gam D) (d : Option Tmp) : Nat :=
  match Gam.get D Γ lookId, d with
  | some (.fn F), some t => match F [.one (.int .i64 true t)] with
    | some (.v (.one (.int _ _ n)), _) => n.toNat
    | _ => 1
  | _, _ => 1
def zeroAgg (t : TypeId) : Bool :=
  match (P.info? t).bind (·.zero) with
  | some (.agg _) => true
  | _ => false
def shift (nid n : Nat) : Nat → Option Nat := fun i => bif Nat.blt i n then some (nid + i) else none
def wrapOk (commaOk : Bool) (a : AV D.τ) (ok : Bool) : Option (AV D.τ) :=
  match a with
  | .v a0 => bif commaOk then some (.tup [a0, .one (.bool true ok)]) else some (.v a0)
  | .tup _ => none
def idρ : Nat → List (Nat × Nat)
  | 0 => []
  | n + 1 => (n, n) :: idρ n
def fitBs (ρ : List (Nat × Nat)) : List (BoxSt D.τ) → List (BoxSt D.τ) → Option (List Prop)
  | [], [] => some []
  | b :: bs, c :: cs => match fitB D ρ b c with
    | some xs => match fitBs ρ bs cs with
      | some ys => some (xs ++ ys)
      | none => none
    | none => none
  | _, _ => none
def putBack (k b : Nat) (fd : FamD D.τ) (es : List (Rec × Ob)) (key : Rec) (ps : List (Part D.τ)) : Rd D.τ (List (Nat × BoxSt D.τ) × List (Rec × Ob) × List Prop) :=
  (fd.impl ps).bind fun (ob, ids) => bif nodupB ids && (!(ids.any (Nat.beq b)) && Nat.beq ids.length fd.n) then
    rdBs ids fun sts => match rnBs D (idx ids) sts, rnPs D (idx ids) ps with
    | some bs, some qs => bif bs.all (lowB k) then match fitPs D (idρ fd.n) (fd.root ob) qs, fitBs D (idρ fd.n) (fd.boxes ob) bs with
      | some xs, some ys => .ret (ids.map fun i => (i, .dead), setE es key ob, xs ++ ys)
      | _, _ => .fail
      else .fail
    | _, _ => .fail
  else .fail
def settled {α : Type} (k b : Nat) (fd : FamD D.τ) (es : List (Rec × Ob)) (out : Option (Rec × List (Part D.τ))) (f : List (Nat × BoxSt D.τ) → List (Rec × Ob) → List Prop → Rd D.τ α) : Rd D.τ α :=
  match out with
  | none => f [] es []
  | some (key, ps) => (putBack D k b fd es key ps).bind fun (us, es', qs) => f us es' qs
def oLookup (Γ : Gam D) (nid : Nat) (dst : Option Tmp) (t : TypeId) (x y : Operand) (commaOk : Bool) : Rd D.τ (Res D.τ) :=
  rdA x fun
    | .v (.one (.mapr b)) => rdA y fun kav => match partsOf kav with
      | some kps => .box b fun
        | .fam k es out => match D.fam k with
          | some fd => bif famFits P D fd t && (fd.kagg == isAggA kav) then match mkRec D fd.ksh kps with
            | some key => match lookMode D Γ dst with
              | 0 => match (zeroParts P fd.vt : Option (List (Part D.τ))) with
                | some zs => match (bif zeroAgg P fd.vt == fd.vagg then mkAV fd.vagg zs else none) with
                  | some a => match wrapOk D commaOk a false with
                    | some v => .ret ⟨v, [], [KeyT P fd.kt fd.kagg fd.ksh, keyOK fd.ksh key = true, hasE es key = false]⟩
                    | none => .fail
                  | none => .fail
                | none => .fail
              | 1 => settled D k b fd es out fun us es' qs =>
                rdUn nid fd.n (match rnPs D (shift nid fd.n) (fd.root (obE es' key)), rnBs D (shift nid fd.n) (fd.boxes (obE es' key)) with
                | some ps, some bs => match mkAV fd.vagg ps with
                  | some a => match wrapOk D commaOk a true with
                    | some v => .ret ⟨v, us ++ ((b, .fam k es' (bif Nat.beq fd.n 0 then none else some (key, ps))) :: zipU (newIds nid fd.n) bs), [KeyT P fd.kt fd.kagg fd.ksh, keyOK fd.ksh key = true, hasE es' key = true] ++ qs⟩
                    | none => .fail
                  | none => .fail
                | _, _ => .fail)
              | _ => match out with
                | some (key', ps) => match mkAV fd.vagg ps with
                  | some a => match wrapOk D commaOk a true with
                    | some v => .ret ⟨v, [], [KeyT P fd.kt fd.kagg fd.ksh, keyOK fd.ksh key = true, key = key']⟩
                    | none => .fail
                  | none => .fail
                | none => .fail
            | none => .fail
            else .fail
          | none => .fail
        | _ => .fail
      | none => .fail
    | _ => .fail
def outDuty {τ : Type} (key : Rec) : Option (Rec × List (Part τ)) → List Prop
  | none => []
  | some (key', _) => [key = key']
def oUpdate (t : TypeId) (m y z : Operand) : Rd D.τ (Res D.τ) :=
  rdA m fun
    | .v (.one (.mapr b)) => rdA y fun kav => rdA z fun vav => match partsOf kav, partsOf vav with
      | some kps, some vps => .box b fun
        | .fam k es out => match D.fam k with
          | some fd => bif famFits P D fd t && ((fd.kagg == isAggA kav) && (fd.vagg == isAggA vav)) then match mkRec D fd.ksh kps with
            | some key => bif Nat.beq fd.n 0 then
                (match out with
                | none => (fd.impl vps).bind fun (ob, _) => match rnPs D (fun _ => none) vps with
                  | some qs => match fitPs D [] (fd.root ob) qs, fd.boxes ob with
                    | some xs, [] => .ret ⟨.tup [], [(b, .fam k (setE es key ob) none)], [KeyT P fd.kt fd.kagg fd.ksh, keyOK fd.ksh key = true] ++ xs⟩
                    | _, _ => .fail
                  | none => .fail
                | some _ => .fail)
              else (fd.impl vps).bind fun (ob, _) => .ret ⟨.tup [], [(b, .fam k (setE es key ob) (some (key, vps)))], [KeyT P fd.kt fd.kagg fd.ksh, keyOK fd.ksh key = true] ++ outDuty key out⟩
            | none => .fail
            else .fail
          | none => .fail
        | _ => .fail
      | _, _ => .fail
    | _ => .fail
def oDelete (m y : Operand) (t : TypeId) : Rd D.τ (Res D.τ) := (fun (_ : Program) => Rd.fail) P
def Rd.map {τ α β : Type} (f : α → β) : Rd τ α → Rd τ β
  | .ret a => .ret (f a)
  | .fail => .fail
  | .slot t k => .slot t fun x => (k x).map f
  | .box b k => .box b fun x => (k x).map f
def lastB {τ : Type} : List (Nat × BoxSt τ) → Nat → Option (BoxSt τ)
  | [], _ => none
  | (c, s) :: us, b => match lastB us b with
    | some t => some t
    | none => bif Nat.beq b c then some s else none
def frz {τ : Type} (fr : Bool) (r : Res τ) : Res τ :=
  bif fr then match r with
  | ⟨.v (.one (.own b)), us, ps⟩ => match lastB us b with
    | some (.dyn _ (.ints k l)) => ⟨.v (.one (.pw k l)), us ++ [(b, .dead)], ps⟩
    | some (.dyn _ (.lrs sh ll)) => bif Nat.ble 1 (rsz sh) then ⟨.v (.one (.prs sh ll)), us ++ [(b, .dead)], ps⟩ else r
    | _ => r
  | _ => r
  else r
def oBuild1 (nid : Nat) (t : TypeId) (len : Nat) (parts : List (Nat × Operand)) : Rd D.τ (Res D.τ) := oBuildC P D nid t len parts
def oAppend1 (nid : Nat) (x y : Operand) (t u : TypeId) : Rd D.τ (Res D.τ) := oAppendR P D nid x y t u
def oLen1 (x : Operand) (t : TypeId) : Rd D.τ (Res D.τ) := oLenM P D x t
def oIndexAddr1 (t : TypeId) (x y : Operand) : Rd D.τ (Res D.τ) := oIndexAddrC P D t x y
def oLoad1 (t : TypeId) (x : Operand) : Rd D.τ (Res D.τ) := oLoadC P D t x
def oSliceE (Γ : Gam D) (nid : Nat) (dst : Option Tmp) (t : TypeId) (x : Operand) (lo hi : Option Operand) : Rd D.τ (Res D.τ) := oSliceR P D Γ nid dst t x lo hi
def bigArr (t : TypeId) : Option (Nat × Nat) :=
  match P.underlying t with
  | some (.struct fs) => match fs.toList.filterMap (fun f => match P.underlying f.type, szOf P f.type with | some (.array _ _), some n => bif Nat.ble 100 n then some (f.offset, n) else none | _, _ => none) with
    | [x] => some x
    | _ => none
  | _ => none
def nilPB {τ : Type} : Part τ → Bool
  | .nil => true
  | _ => false
def packT (t : TypeId) (ps : List (Part D.τ)) : List (Part D.τ) :=
  match bigArr P t with
  | some (off, n) => match splitP D ps off n with
    | some (a, m, b) => bif m.all nilPB then a ++ (.prss [.words .u8] n (List.replicate n []) :: b) else ps
    | none => ps
  | none => ps
def oBoxP (nid : Nat) (t : TypeId) (x : Operand) : Rd D.τ (Res D.τ) :=
  rdA x fun a => .box nid fun
    | .un => match partsOf a with
      | some ps => .ret ⟨.v (.one (.ref nid 0)), [(nid, .fixed t (packT P D t ps))], []⟩
      | none => .fail
    | _ => .fail
def prssOf {τ : Type} : List (Part τ) → Option (List (Part τ) × List FK × Nat × List (List Rec) × List (Part τ))
  | .prss sh n l :: ps => some ([], sh, n, l, ps)
  | p :: ps => match prssOf ps with
    | some (a, r) => some (p :: a, r)
    | none => none
  | [] => none
def offP (a : List (Part D.τ)) : Nat := (a.map (psize D)).sum
def nilId : FuncId := 1000000020
def nilAt (Γ : Gam D) (d : Option Tmp) : Bool :=
  match Gam.get D Γ nilId, d with
  | some (.fn F), some t => (F [.one (.int .i64 true t)]).isSome
  | _, _ => false
def oLoad6 (Γ : Gam D) (nid : Nat) (dst : Option Tmp) (t : TypeId) (x : Operand) : Rd D.τ (Res D.τ) :=
  match x with
  | .global g => oLoad1 P D t (.global g)
  | x => rdA x fun
    | .v (.one (.aref b base _ i)) => .box b fun
      | .fixed _ ps => match prssOf ps with
        | some (a, sh, n, l, _) => match szOf P t with
          | some 1 => bif aggB P t then .fail else bif nilAt D Γ dst
            then ok1 .nil [offP D a ≤ base + i, base + i < offP D a + n, l.getD (base + i - offP D a) [] = []]
            else ok1 (.prs sh (l.getD (base + i - offP D a) [])) [offP D a ≤ base + i, base + i < offP D a + n]
          | _ => .fail
        | none => oLoad1 P D t x
      | _ => oLoad1 P D t x
    | .v (.one (.oref b i)) => .box b fun
      | .fam k es out => match D.fam k with
        | some fd => bif fd.row && (!fd.vagg && !aggB P t) then match szOf P t with
          | some 1 => settled D k b fd es out fun us es' qs =>
            rdUn nid fd.n (match rnPs D (shift nid fd.n) (fd.root (obE es' [.i i])), rnBs D (shift nid fd.n) (fd.boxes (obE es' [.i i])) with
            | some ps, some bs => match mkAV false ps with
              | some v => .ret ⟨v, us ++ ((b, .fam k es' (bif Nat.beq fd.n 0 then none else some ([.i i], ps))) :: zipU (newIds nid fd.n) bs), [hasE es' [.i i] = true] ++ qs⟩
              | none => .fail
            | _, _ => .fail)
          | _ => .fail
          else .fail
        | none => .fail
      | _ => oLoad1 P D t x
    | _ => oLoad1 P D t x
def oStore6 (t : TypeId) (x y : Operand) : Rd D.τ (Res D.τ) :=
  rdA x fun
    | .v (.one (.aref b base _ i)) => rdA y fun
      | .v (.one (.prs sh ll)) => .box b fun
        | .fixed ty ps => match prssOf ps with
          | some (a, sh', n, l, r) => match szOf P t with
            | some 1 => bif shEq sh sh' then .ret ⟨.tup [], [(b, .fixed ty (a ++ (.prss sh n (l.set (base + i - offP D a) ll) :: r)))], [offP D a ≤ base + i, base + i < offP D a + n, ll ≠ []]⟩ else .fail
            | _ => .fail
          | none => .fail
        | _ => .fail
      | _ => oStoreR P D t x y
    | _ => oStoreR P D t x y
def oBuild6 (nid : Nat) (t : TypeId) (len : Nat) (parts : List (Nat × Operand)) : Rd D.τ (Res D.τ) :=
  match parts with
  | [(0, x)] => rdA x fun
    | .v (.one (.pw k l)) => match P.underlying t with
      | some (.slice e) => match szOf P e with
        | some 1 => bif Nat.beq len 1 && zeroFits P e 1 then .box nid fun
          | .un => .ret ⟨.v (.one (.own nid)), [(nid, .dyn e (.lrs [.words k] [[.w l]]))], []⟩
          | _ => .fail
          else .fail
        | _ => .fail
      | _ => .fail
    | .v (.one (.ref b off)) => match P.underlying t with
      | some (.slice e) => match szOf P e with
        | some 1 => bif Nat.beq len 1 && zeroFits P e 1 then .box nid fun
          | .un => .ret ⟨.v (.one (.own nid)), [(nid, .dyn e (.ref b off))], []⟩
          | _ => .fail
          else .fail
        | _ => .fail
      | _ => .fail
    | _ => oBuild1 P D nid t len parts
  | parts => oBuild1 P D nid t len parts
def rowFam (t e : TypeId) : Option (Nat × FamD D.τ) :=
  match D.famOf t with
  | some k => match D.fam k with
    | some fd => bif fd.row && (Nat.beq fd.vt e && (!fd.vagg && Nat.ble 1 fd.n)) then some (k, fd) else none
    | none => none
  | none => none
def oAppend6 (nid : Nat) (x y : Operand) (t u : TypeId) : Rd D.τ (Res D.τ) :=
  rdA y fun
    | .v (.one (.own c)) => .box c fun
      | .dyn e' (.lrs [.words k] ll) => match P.underlying t with
        | some (.slice e) => match szOf P e with
          | some 1 => bif Nat.beq t u && (zeroFits P e 1 && Nat.beq e e') then rdA x fun
            | .v (.one .nil) => .box nid fun
              | .un => .ret ⟨.v (.one (.own nid)), [(nid, .dyn e (.lrs [.words k] ll))], [ll.length * bytesOfT P e ≤ 140737488355328, ll.length ≤ 9223372036854775807]⟩
              | _ => .fail
            | _ => .fail
            else .fail
          | _ => .fail
        | _ => .fail
      | .dyn e' (.ref b off) => match P.underlying t with
        | some (.slice e) => match szOf P e, rowFam D t e with
          | some 1, some (k, fd) => bif Nat.beq t u && (zeroFits P e 1 && Nat.beq e e') then (fd.impl [.ref b off]).bind fun (ob, _) => rdA x fun
            | .v (.one .nil) => .box nid fun
              | .un => .box (nid + 1) fun
                | .un => .ret ⟨.v (.one (.own nid)), [(nid + 1, .dead), (nid, .fam k [([.i 0], ob)] (some ([.i 0], [.ref b off])))], [bytesOfT P e ≤ 140737488355328]⟩
                | _ => .fail
              | _ => .fail
            | .v (.one (.own a)) => .box a fun
              | .fam k' es out => bif Nat.beq k k' then settled D k a fd es out fun us es' qs => .box nid fun
                | .un => .ret ⟨.v (.one (.own nid)), us ++ [(a, .dead), (nid, .fam k (es' ++ [([.i es'.length], ob)]) (some ([.i es'.length], [.ref b off])))], ((es'.length + 1) * bytesOfT P e ≤ 140737488355328) :: (es'.length + 1 ≤ 9223372036854775807) :: qs⟩
                | _ => .fail
                else .fail
              | _ => .fail
            | _ => .fail
            else .fail
          | _, _ => .fail
        | _ => .fail
      | _ => oAppend1 P D nid x y t u
    | _ => oAppend1 P D nid x y t u
def oIndexAddr6 (t : TypeId) (x y : Operand) : Rd D.τ (Res D.τ) :=
  match x with
  | .global g => oIndexAddr1 P D t (.global g) y
  | x => pair x y fun a c => match a, c with
    | .v (.one (.own b)), .v (.one (.int _ _ i)) => .box b fun
      | .fam k es _ => match D.fam k, P.underlying t with
        | some fd, some (.slice e) => match szOf P e with
          | some 1 => bif fd.row then ok1 (.oref b i.toNat) [0 ≤ i, i < es.length] else .fail
          | _ => .fail
        | _, _ => .fail
      | _ => oIndexAddr1 P D t x y
    | _, _ => oIndexAddr1 P D t x y
def aop0 (Γ : Gam D) (nid : Nat) (o : Oper) : Rd D.τ (Res D.τ) :=
  match o.op with
  | .move x => rdA x fun a => .ret ⟨a, [], []⟩
  | .assign x => rdA x fun a => .ret ⟨a, [], []⟩
  | .pick c a b => oPick D c a b
  | .alloc t => oAlloc P D nid t
  | .box t x => oBoxP P D nid t x
  | .build t parts => oBuild P D t parts.toList
  | .load t x => oLoad6 P D Γ nid o.dst t x
  | .store t x y => oStore6 P D t x y
  | .nilCheck x => oNilCheck D x
  | .fieldAddr s x i => oFieldAddrR P D s x i
  | .field s x i => oField P D s x i
  | .indexAddr t x y => oIndexAddr6 P D t x y
  | .index t x y => oIndex P D t x y
  | .extract x i => oExtract D x i
  | .binOp op t x y _ => oBin3 P D op t x y
  | .unOp op _ x => oUn D op x
  | .convert s t x => oConvert2 P D s t x
  | .slice t x lo hi none => oSliceE P D Γ nid o.dst t x lo hi
  | .slice t x none (some y) (some z) => oSlice3 P D nid t x y z
  | .sliceToArrayPointer t x => oArrPtr P D t x
  | .makeSlice t l c => oMakeSlice P D nid t l c
  | .buildSlice t len parts => oBuild6 P D nid t len parts.toList
  | .makeInterface t x => oMakeIface P D t x
  | .typeAssert x _ t ok => oTypeAssert P D x t ok
  | .makeFunc fn first captured => oMakeFunc D fn first.toList captured.toList
  | .makeMap t r => oMakeMap P D nid t r
  | .lookup t x y ok => oLookup P D Γ nid o.dst t x y ok
  | .mapUpdate t m y z => oUpdate P D t m y z
  | .call c =>
    match c.callee with
    | .value (.func f) => oCall P D Γ nid f c.args.toList c.argTypes.toList
    | .builtin .len => match c.args.toList, c.argTypes.toList with
      | [x], [t] => oLen1 P D x t
      | _, _ => .fail
    | .builtin .append => match c.args.toList, c.argTypes.toList with
      | [x, y], [t, u] => oAppend6 P D nid x y t u
      | _, _ => .fail
    | .builtin .copy => match c.args.toList, c.argTypes.toList with
      | [x, y], [t, _] => oCopy2 P D x y t
      | _, _ => .fail
    | .builtin .min => match c.args.toList with
      | [x, y] => oMin D x y
      | [x, y, z] => oMin3 D x y z
      | _ => .fail
    | .builtin .max => match c.args.toList with
      | [x, y] => oMax D x y
      | _ => .fail
    | .builtin .clear => match c.args.toList, c.argTypes.toList with
      | [x], [t] => oClear P D x t
      | _, _ => .fail
    | .builtin .delete => match c.args.toList, c.argTypes.toList with
      | [m, y], [t, _] => oDelete P D m y t
      | _, _ => .fail
    | .value x => oCallV P D Γ nid x c.args.toList c.argTypes.toList
    | .invoke x name => oInvoke P D Γ nid x name c.args.toList c.argTypes.toList
    | _ => .fail
  | _ => .fail
def frzOf {τ : Type} : Part τ → Option (Part τ)
  | .ints k l => some (.pw k l)
  | .lrs sh ll => bif Nat.ble 1 (rsz sh) then some (.prs sh ll) else none
  | _ => none
def frzP {τ α : Type} (p : Part τ) (k : Part τ → List (Nat × BoxSt τ) → Rd τ α) : Rd τ α :=
  match p with
  | .own b => .box b fun
    | .dyn _ p => match frzOf p with
      | some q => k q [(b, .dead)]
      | none => .fail
    | _ => .fail
  | p => k p []
def frzPs {τ α : Type} : List (Part τ) → (List (Part τ) → List (Nat × BoxSt τ) → Rd τ α) → Rd τ α
  | [], k => k [] []
  | p :: ps, k => frzP p fun q us => frzPs ps fun qs vs => k (q :: qs) (us ++ vs)
def frzA {τ : Type} (fr : Bool) (r : Res τ) : Rd τ (Res τ) :=
  bif fr then match r with
  | ⟨.v (.one p), [], cs⟩ => frzPs [p] fun qs us => match qs with
    | [q] => bif nodupB (us.map (·.1)) then .ret ⟨.v (.one q), us, cs⟩ else .fail
    | _ => .fail
  | ⟨.v (.agg ps), [], cs⟩ => frzPs ps fun qs us => bif nodupB (us.map (·.1)) then .ret ⟨.v (.agg qs), us, cs⟩ else .fail
  | r => .ret r
  else .ret r
def swapId : FuncId := 1000000018
def swapAt (Γ : Gam D) (d : Option Tmp) : Bool :=
  match Gam.get D Γ swapId, d with
  | some (.fn F), some t => (F [.one (.int .i64 true t)]).isSome
  | _, _ => false
def swapOwn {τ : Type} (b : Nat) (q : Part τ) : List (Part τ) → Option (List (Part τ))
  | [] => none
  | .own c :: ps => bif Nat.beq b c then some (q :: ps) else match swapOwn b q ps with
    | some qs => some (.own c :: qs)
    | none => none
  | p :: ps => match swapOwn b q ps with
    | some qs => some (p :: qs)
    | none => none
def swapR {τ : Type} (x : Operand) (r : Res τ) : Rd τ (Res τ) :=
  match r with
  | ⟨.v (.one (.own b)), [], cs⟩ => .box b fun
    | .dyn _ p => match frzOf p with
      | some q => rdA x fun
        | .v (.one (.ref c _)) => bif Nat.beq b c then .fail else .box c fun
          | .fixed ty ps => match swapOwn b q ps with
            | some qs => .ret ⟨.v (.one q), [(b, .dead), (c, .fixed ty qs)], cs⟩
            | none => .fail
          | _ => .fail
        | _ => .fail
      | none => .fail
    | _ => .fail
  | _ => .fail
def frz1 {τ : Type} (r : Res τ) : Rd τ (Res τ) :=
  match r with
  | ⟨.v (.one (.own b)), [], cs⟩ => .box b fun
    | .dyn _ (.rec1 [.s x, .o c, .i k n]) => bif Nat.beq b c then .fail else .box c fun
      | .dyn _ (.ints kd il) => .ret ⟨.v (.one (.prs [.str, .words kd, .int k] [[.s x, .w il, .i n]])), [(c, .dead), (b, .dead)], cs⟩
      | _ => .fail
    | _ => .fail
  | _ => .fail
def frzS {τ : Type} (sw : Bool) (o : Op) (fr : Bool) (r : Res τ) : Rd τ (Res τ) :=
  bif sw then match o with
  | .load _ x => swapR x r
  | .move _ => frz1 r
  | _ => .fail
  else frzA fr r
def bornId : FuncId := 1000000021
def bornAt (Γ : Gam D) (d : Option Tmp) : Option (Nat × Nat × TypeId) :=
  match Gam.get D Γ bornId, d with
  | some (.fn F), some t => match F [.one (.int .i64 true t)] with
    | some (.v (.agg [.int _ _ s, .int _ _ off, .int _ _ e]), _) => some (s.toNat, off.toNat, e.toNat)
    | _ => none
  | _, _ => none
def bornR (w : Option (Nat × Nat × TypeId)) (nid : Nat) (r : Res D.τ) : Rd D.τ (Res D.τ) :=
  match w with
  | none => .ret r
  | some (s, off, e) => match r with
    | ⟨.v (.one (.bool lt x)), [], cs⟩ => .slot s fun
      | some (.v (.one (.ref b 0))) => .box b fun
        | .fixed ty ps => match splitP D ps off 1 with
          | some (p1, [.own c], p3) => bif Nat.beq b c then .fail else .box c fun
            | .dyn e' p => .box nid fun
              | .un => .ret ⟨.v (.one (.bool lt x)), [(c, .dead), (nid, .dyn e' p), (b, .fixed ty (p1 ++ (.own nid :: p3)))], cs⟩
              | _ => .fail
            | _ => .fail
          | some (p1, [.nil], p3) => match recShape P e with
            | some sh => .box nid fun
              | .un => .ret ⟨.v (.one (.bool lt x)), [(nid, .dyn e (.lrs sh [])), (b, .fixed ty (p1 ++ (.own nid :: p3)))], cs⟩
              | _ => .fail
            | none => .fail
          | _ => .fail
        | _ => .fail
      | _ => .fail
    | _ => .fail
def aop (Γ : Gam D) (nid : Nat) (o : Oper) : Rd D.τ (Res D.τ) := (((aop0 P D Γ nid o).map (frz (frozenAt D Γ o.dst))).bind (frzS (swapAt D Γ o.dst) o.op (frozenAt D Γ o.dst))).bind (bornR P D (bornAt D Γ o.dst) nid)
inductive Ex where
  | normal
  | exit (id : Nat)
  | ret
inductive Dec (τ : Type) where
  | is (v : Bool)
  | keep
  | roll
  | loop (L : St τ → Option (Ex × St τ × List Prop))
def settle {τ : Type} (d : Dec τ) (r : Res τ) : Res τ :=
  match d, r with
  | .is v, ⟨.v (.one (.bool false b)), us, ps⟩ => ⟨.v (.one (.bool true v)), us, (b = v) :: ps⟩
  | _, r => r
def asks {τ : Type} (r : Res τ) : Bool :=
  match r.val with
  | .v (.one (.bool false _)) => true
  | _ => false
def skipped {τ : Type} : Res τ := ⟨.tup [], [], []⟩
def gop (Γ : Gam D) (ops : Array Oper) (nid : Nat) (o : Oper) : Rd D.τ (Res D.τ) :=
  match o.guard with
  | none => aop P D Γ nid o
  | some (j, want) => match (ops[j]?).bind (·.dst) with
    | none => .ret skipped
    | some t => .slot t fun
      | some (.v (.one (.bool true v))) => bif v == want then aop P D Γ nid o else .ret skipped
      | some (.tup []) => .ret skipped
      | _ => .fail
def Res.upds {τ : Type} (o : Oper) (r : Res τ) : List (Upd τ) :=
  (r.us.map fun x => Upd.box x.1 x.2) ++ (match o.dst with | some d => [Upd.slot d (some r.val)] | none => [])
structure Row (τ : Type) where
  reads : List Ref
  us : List (Upd τ)
  ps : List Prop
def dstOk (n : Nat) (o : Oper) : Bool :=
  match o.dst with
  | some d => Nat.blt d n
  | none => true
def rows (Γ : Gam D) (ops : Array Oper) : Nat → List Oper → St D.τ → List (Dec D.τ) → Option (List (Row D.τ) × List (Dec D.τ))
  | _, [], _, ds => some ([], ds)
  | nid, o :: os, S, ds => bif dstOk S.nt o then
    match (gop P D Γ ops nid o).run S with
    | some (r, l) =>
      match asks r, ds with
      | true, [] => none
      | true, d :: ds =>
        let r' := settle d r
        match rows Γ ops (nid + 16) os (S.app (r'.upds o)) ds with
        | some (rs, ds') => some (⟨l, r'.upds o, r'.ps⟩ :: rs, ds')
        | none => none
      | false, ds => match rows Γ ops (nid + 16) os (S.app (r.upds o)) ds with
        | some (rs, ds') => some (⟨l, r.upds o, r.ps⟩ :: rs, ds')
        | none => none
    | none => none
    else none
def St.appRows {τ : Type} (S : St τ) : List (Row τ) → St τ
  | [] => S
  | r :: rs => (S.app r.us).appRows rs
def ahead (ms : List Nat) (o : Oper) : Nat :=
  o.after.toList.foldl (fun s e => bif Region.binds .any e then s ||| 2 ^ e.on ||| ms.getD e.on 0 else s) 0
def aheads : List Oper → List Nat → List Nat
  | [], ms => ms
  | o :: os, ms => aheads os (ms ++ [ahead ms o])
def backB (i : Nat) (o : Oper) : Bool := o.after.toList.all fun e => bif Region.binds .any e then Nat.blt e.on i else true
def backs : Nat → List Oper → Bool
  | _, [] => true
  | i, o :: os => backB i o && backs (i + 1) os
def meets (a b : List Ref) : Bool := a.any fun x => b.any (Ref.beq x)
def Row.writes {τ : Type} (r : Row τ) : List Ref := r.us.map Upd.ref
def meddle {τ : Type} (r s : Row τ) : Bool := meets r.writes s.reads || (meets r.writes s.writes || meets r.reads s.writes)
def clear1 {τ : Type} (i : Nat) (r : Row τ) : Nat → List (Row τ) → List Nat → Bool
  | _, [], _ => true
  | j, s :: ss, ms => (bif meddle r s then (ms.getD j 0).testBit i else true) && clear1 i r (j + 1) ss ms
def clearB {τ : Type} (ms : List Nat) : Nat → List (Row τ) → Bool
  | _, [] => true
  | i, r :: rs => clear1 i r (i + 1) rs ms && clearB ms (i + 1) rs
def drawOk {τ : Type} (ops : List Oper) (rs : List (Row τ)) : Bool :=
  backs 0 ops && clearB (aheads ops []) 0 rs
def BoxSt.al {τ : Type} : BoxSt τ → Prop
  | .un => False
  | _ => True
def blk (E : Env) (b : Nat) : BoxSt D.τ → Option Nat
  | .fixed _ _ => some (E.σ b)
  | .dyn _ _ => (E.ν b).ownBlock
  | _ => none
def Fp (E : Env) (b : Nat) : BoxSt D.τ → Nat → Prop
  | .fam _ _ _, g => E.σ.φ b g
  | s, g => blk D E b s = some g
def ValRel (E : Env) (agg : Bool) (ps : List (Part D.τ)) (v : Value) : Prop := match agg with
  | true => ∃ cs : List Value, v = .agg cs.toArray ∧ PartsRel D E ps cs
  | false => v.oneCell' = true ∧ PartsRel D E ps [v]
def ienv (σ : Loc) (ν : Nat → Value) (n : Nat) : Env := ⟨fun i => i < n, σ, ν, default, fun _ => True, none⟩
def ObjRel (X : Env → World → Nat → BoxSt D.τ → Prop) (fd : FamD D.τ) (σ : Loc) (w : World) (ob : Ob) (v : Value) (F : Nat → Prop) : Prop :=
  ∃ (σ' : Loc) (ν' : Nat → Value), σ'.zw = σ.zw ∧ σ'.zm = σ.zm ∧ ValRel D (ienv σ' ν' fd.n) fd.vagg (fd.root ob) v ∧ (fd.boxes ob).length = fd.n ∧
    (∀ (i : Nat) s, (fd.boxes ob)[i]? = some s → s.al ∧ X (ienv σ' ν' fd.n) w i s ∧ ∀ g, Fp D (ienv σ' ν' fd.n) i s g → F g) ∧
    ∀ (i j : Nat) s t g, i ≠ j → (fd.boxes ob)[i]? = some s → (fd.boxes ob)[j]? = some t → Fp D (ienv σ' ν' fd.n) i s g → Fp D (ienv σ' ν' fd.n) j t g → False
def EntRel (X : Env → World → Nat → BoxSt D.τ → Prop) (fd : FamD D.τ) (E : Env) (w : World) (out : Option (Rec × List (Part D.τ))) (key : Rec) (ob : Ob) (v : Value) (F : Nat → Prop) : Prop :=
  (∃ ps, out = some (key, ps) ∧ ValRel D E fd.vagg ps v) ∨ ((∀ ps, out ≠ some (key, ps)) ∧ ObjRel D X fd E.σ w ob v F)
def IsCont (fd : FamD D.τ) (E : Env) (b g : Nat) : Prop := match fd.row with
  | true => (E.ν b).ownBlock = some g
  | false => E.σ b = g
def Born (ens : Array MapEntry) (clock : Nat) : Prop := (ens.toList.map (·.born)).Pairwise (· < ·) ∧ ∀ e ∈ ens.toList, e.born < clock
def ContRel (fd : FamD D.τ) (E : Env) (w : World) (b : Nat) (ks : List Rec) (vs : List Value) : Prop := match fd.row with
  | true => w.ownsL 0 fd.vt 1 (E.ν b) vs.length vs ∧ (E.ν b).oneCell' = true ∧ ks = (List.range vs.length).map fun (i : Nat) => [Fd.i (i : Int)]
  | false => ∃ ens clock, w.heap[E.σ b]? = some (.map ens clock) ∧ ens.toList.map (·.key) = ks.map (keyV fd.kagg fd.ksh) ∧ ens.toList.map (·.val) = vs ∧ Born ens clock ∧ ∀ k ∈ ks, keyOK fd.ksh k = true
def FamRel (X : Env → World → Nat → BoxSt D.τ → Prop) (E : Env) (w : World) (b k : Nat) (es : List (Rec × Ob)) (out : Option (Rec × List (Part D.τ))) : Prop :=
  ∃ fd, D.fam k = some fd ∧ ∃ (vs : List Value) (Fs : Nat → Nat → Prop), ContRel D fd E w b (es.map (·.1)) vs ∧ (es.map (·.1)).Nodup ∧ es.length = vs.length ∧
    (∀ g, E.σ.φ b g → g < w.heap.size) ∧ (∀ g, IsCont D fd E b g → E.σ.φ b g) ∧ (∀ x ps, out = some (x, ps) → hasE es x = true) ∧
    (∀ (i : Nat) key ob v, es[i]? = some (key, ob) → vs[i]? = some v → EntRel D X fd E w out key ob v (Fs i)) ∧
    (∀ i g, Fs i g → E.σ.φ b g ∧ ¬ IsCont D fd E b g) ∧ ∀ i j g, Fs i g → Fs j g → i = j
def BoxRel0 (E : Env) (w : World) (b : Nat) : BoxSt D.τ → Prop
  | .fixed ty ps => ∃ cs : Array Value, w.heap[E.σ b]? = some (.cells cs ty (0, 0)) ∧ PartsRel D E ps cs.toList
  | .dyn e p => ∃ (n : Nat) (xs : List Value), w.ownsL 0 e (esz D p) (E.ν b) n xs ∧ PartRel D E p xs ∧ (E.ν b).oneCell' = true
  | _ => True
def XK : Nat → Env → World → Nat → BoxSt D.τ → Prop
  | 0, E, w, b, s => match s with
    | .fam _ _ _ => False
    | s => BoxRel0 D E w b s
  | n + 1, E, w, b, s => match s with
    | .fam k es out => (k = n ∧ FamRel D (XK n) E w b k es out) ∨ XK n E w b s
    | s => BoxRel0 D E w b s
def BoxRel (E : Env) (w : World) (b : Nat) : BoxSt D.τ → Prop
  | .fixed ty ps => ∃ cs : Array Value, w.heap[E.σ b]? = some (.cells cs ty (0, 0)) ∧ PartsRel D E ps cs.toList
  | .dyn e p => ∃ (n : Nat) (xs : List Value), w.ownsL 0 e (esz D p) (E.ν b) n xs ∧ PartRel D E p xs ∧ (E.ν b).oneCell' = true
  | .fam k es out => FamRel D (XK D k) E w b k es out
  | _ => True
structure Kept (M : Mem) (w w' : World) : Prop where
  os : w'.os = w.os
  tape : w'.tape = w.tape
  output : w'.output = w.output
  size : w.heap.size ≤ w'.heap.size
  block : ∀ k, k < w.heap.size → ¬ M k → w'.heap[k]? = w.heap[k]?
def St.env (S : St D.τ) (M : Mem) (w0 : World) (σ : Loc) (ν : Nat → Value) : Env := ⟨fun b => (S.box b).al, σ, ν, w0, M.f, none⟩
def GlobAt (w : World) : Prop := ∀ g k l, D.glob g = some (k, l) → g < w.heap.size ∧ ∀ i, i < l.length → w.cell? ⟨g, i, none⟩ = some (.int k (l.getD i 0))
def GlobOK (M : Mem) (w : World) : Prop := GlobAt D w ∧ ∀ g k l, D.glob g = some (k, l) → ¬ M g
structure RR (M : Mem) (w0 : World) (σ : Loc) (ν : Nat → Value) (S : St D.τ) (w : World) : Prop where
  boxes : ∀ b, BoxRel D (S.env D M w0 σ ν) w b (S.box b)
  disj : ∀ b b' g, b ≠ b' → Fp D (S.env D M w0 σ ν) b (S.box b) g → Fp D (S.env D M w0 σ ν) b' (S.box b') g → False
  lo : ∀ b g, Fp D (S.env D M w0 σ ν) b (S.box b) g → w0.heap.size ≤ g ∨ M g
  kept : Kept M w0 w
  zk : ∀ g, σ.zm g → g < w.heap.size ∧ w.heap[g]? = σ.zw.heap[g]?
  zd : ∀ b g, Fp D (S.env D M w0 σ ν) b (S.box b) g → ¬ σ.zm g
  pins : ∀ b, b < S.np → σ.f b = (M.pin b).1 ∧ ν b = (M.pin b).2 ∧ (S.box b).al
  glob : GlobOK D M w0
  z0 : ∀ g, M.zm g → σ.zm g ∧ σ.zw.heap[g]? = M.zw.heap[g]?
  zn : ∀ g, σ.zm g → M.zm g ∨ w0.heap.size ≤ g ∨ M g
structure RA (M : Mem) (w0 : World) (σ : Loc) (ν : Nat → Value) (S : St D.τ) (a : Act) : Prop where
  size : a.tmps.size = S.nt
  defers : a.defers = []
  slots : ∀ t av, S.slot t = some av → AVRel D (S.env D M w0 σ ν) av (a.tmps.getD t undef)
def R (M : Mem) (w0 : World) (S : St D.τ) (a : Act) (w : World) : Prop :=
  ∃ σ ν, RR D M w0 σ ν S w ∧ RA D M w0 σ ν S a
end
section
variable {P : Program} {D : Dom}
structure Env.le (E F : Env) : Prop where
  al : ∀ b, E.al b → F.al b
  σ : ∀ b, E.al b → F.σ b = E.σ b
  ν : ∀ b, E.al b → F.ν b = E.ν b
  w0 : F.w0 = E.w0
  M : F.M = E.M
  wr : E.wr = none ∧ F.wr = none
  z : E.σ.le F.σ
def Sub (M : Nat → Prop) (W : World) (M' : Nat → Prop) (W' : World) : Prop := ∀ b, ¬ M b → b < W.heap.size → ¬ M' b ∧ W'.heap[b]? = W.heap[b]?
theorem SlRel.sub {M M' : Nat → Prop} {W W' : World} {k : IntKind} {l : List Int} {v : Value} (h : SlRel M W k l v) (hs : Sub M W M' W') : SlRel M' W' k l v := by
  obtain ⟨ao, cap, e, h1, h2, h3, h4⟩ := h
  refine ⟨ao, cap, e, h1, h2, h3, fun i hi => ?_⟩
  obtain ⟨b, off, e1, e2, e3⟩ := h4 i hi
  obtain ⟨q1, q2⟩ := hs b e2 (World.block_lt_of_cell? _ _ e3)
  exact ⟨b, off, e1, q1, by rw [← e3]; exact World.cell?_of_block q2⟩
theorem Sub.refl (M : Nat → Prop) (W : World) : Sub M W M W := fun _ h _ => ⟨h, rfl⟩
theorem Base.mono {E F : Env} (hw : F.w0 = E.w0) (hM : F.M = E.M) (hz : E.σ.le F.σ) {M : Nat → Prop} {W : World} (h : Base E M W) : ∃ M' W', Base F M' W' ∧ Sub M W M' W' := by
  rcases h with ⟨rfl, rfl⟩ | ⟨rfl, rfl⟩
  · exact ⟨_, _, .inl ⟨rfl, rfl⟩, by rw [hw, hM]; exact Sub.refl _ _⟩
  · refine ⟨_, _, .inr ⟨rfl, rfl⟩, fun b hb _ => ?_⟩
    have := hz b (Classical.not_not.1 hb)
    exact ⟨fun h => h this.1, this.2⟩
theorem Loc.le_refl (σ : Loc) : σ.le σ := fun _ h => ⟨h, rfl⟩
theorem pw_mono {σ σ' : Loc} (hz : σ.le σ') {k : IntKind} {l : List Int} {v : Value} (h : SlRel (fun b => ¬ σ.zm b) σ.zw k l v) : SlRel (fun b => ¬ σ'.zm b) σ'.zw k l v :=
  h.sub fun b hb _ => by
    have := hz b (Classical.not_not.1 hb)
    exact ⟨fun h => h this.1, this.2⟩
theorem FdRel.mono {σ σ' : Loc} (hz : σ.le σ') {f : FK} {r : Rec} {j : Nat} {cs : List Value} (h : FdRel σ f r j cs) : FdRel σ' f r j cs := by
  cases f with
  | words k => obtain ⟨v, e, hs⟩ := h; exact ⟨v, e, pw_mono hz hs⟩
  | int k => exact h
  | bool => exact h
  | str => exact h
  | arr k n => exact h
theorem RecRel.mono {σ σ' : Loc} (hz : σ.le σ') : ∀ {sh : List FK} {j : Nat} {r : Rec} {cs : List Value}, RecRel σ sh j r cs → RecRel σ' sh j r cs
  | [], _, _, _, h => h
  | _ :: _, _, _, _, ⟨c1, c2, e, h1, h2⟩ => ⟨c1, c2, e, h1.mono hz, RecRel.mono hz h2⟩
theorem zm_cell {σ σ' : Loc} (hz : σ.le σ') {g : Nat} (hg : σ.zm g) {a : Addr} (ha : a.block = g) {v : Value} (h : σ.zw.cell? a = some v) : σ'.zw.cell? a = some v := by
  rw [← h]
  exact World.cell?_of_block (by rw [ha]; exact (hz g hg).2)
theorem RsRel.mono {σ σ' : Loc} (hz : σ.le σ') {sh : List FK} {ll : List Rec} {v : Value} (h : RsRel σ sh ll v) : RsRel σ' sh ll v := by
  obtain ⟨ao, cap, e, h1, h2, h3, h4⟩ := h
  refine ⟨ao, cap, e, h1, h2, h3, fun i r hr => ?_⟩
  obtain ⟨g, o, vs, q1, q2, q3, q4⟩ := h4 i r hr
  exact ⟨g, o, vs, q1, (hz g q2).1, q3.mono hz, fun j v hv => zm_cell hz q2 rfl (q4 j v hv)⟩
theorem PsRel.mono {σ σ' : Loc} (hz : σ.le σ') {sh : List FK} {ll : List Rec} {v : Value} (h : PsRel σ sh ll v) : PsRel σ' sh ll v := ⟨h.1.mono hz, h.2⟩
theorem RecRel.len {σ : Loc} : ∀ {sh : List FK} {j : Nat} {r : Rec} {cs : List Value}, RecRel σ sh j r cs → cs.length = rsz sh
  | [], _, _, _, h => by cases h; rfl
  | f :: fs, _, _, _, ⟨c1, c2, e, h1, h2⟩ => by
    subst e
    rw [List.length_append, h2.len]
    show _ = f.size + rsz fs
    congr 1
    cases f with
    | int k => rw [show c1 = _ from h1]; rfl
    | bool => rw [show c1 = _ from h1]; rfl
    | str => rw [show c1 = _ from h1]; rfl
    | words k => obtain ⟨v, rfl, _⟩ := h1; rfl
    | arr k n => obtain ⟨q1, rfl⟩ := h1; rw [List.length_map]; exact q1
theorem FdRel.oneCell {σ : Loc} {f : FK} {r : Rec} {j : Nat} {cs : List Value} (h : FdRel σ f r j cs) : ∀ c ∈ cs, c.oneCell' = true := by
  cases f with
  | int k => rw [show cs = _ from h]; intro c hc; simp only [List.mem_singleton] at hc; subst hc; rfl
  | bool => rw [show cs = _ from h]; intro c hc; simp only [List.mem_singleton] at hc; subst hc; rfl
  | str => rw [show cs = _ from h]; intro c hc; simp only [List.mem_singleton] at hc; subst hc; rfl
  | words k => obtain ⟨v, rfl, ao, cap, rfl, _⟩ := h; intro c hc; simp only [List.mem_singleton] at hc; subst hc; rfl
  | arr k n => obtain ⟨_, rfl⟩ := h; intro c hc; obtain ⟨_, _, rfl⟩ := List.mem_map.1 hc; rfl
theorem RecRel.oneCell {σ : Loc} : ∀ {sh : List FK} {j : Nat} {r : Rec} {cs : List Value}, RecRel σ sh j r cs → ∀ c ∈ cs, c.oneCell' = true
  | [], _, _, _, h => by cases h; intro c hc; cases hc
  | _ :: _, _, _, _, ⟨c1, c2, e, h1, h2⟩ => by
    subst e
    intro c hc
    rcases List.mem_append.1 hc with hc | hc
    · exact h1.oneCell c hc
    · exact h2.oneCell c hc
theorem cloV_same {σ τ : Nat → Nat} {f : FuncId} {bs : List Nat} (h : ∀ b ∈ bs, τ b = σ b) : cloV τ f bs = cloV σ f bs := by
  unfold cloV
  congr 2
  exact List.map_congr_left fun b hb => by rw [h b hb]
theorem C1sRel.mono {E F : Env} (h : E.le F) : ∀ {cs : List C1} {vs : List Value}, C1sRel E cs vs → C1sRel F cs vs
  | [], _, hp => hp
  | .s _ :: _, _, ⟨v, us, e, h1, h2⟩ => ⟨v, us, e, h1, C1sRel.mono h h2⟩
  | .i _ _ :: _, _, ⟨v, us, e, h1, h2⟩ => ⟨v, us, e, h1, C1sRel.mono h h2⟩
  | .o b :: _, _, ⟨v, us, e, h1, h2⟩ => ⟨v, us, e, ⟨h.al _ h1.1, by rw [h.ν _ h1.1]; exact h1.2.1, by rw [h.ν _ h1.1]; exact h1.2.2⟩, C1sRel.mono h h2⟩
theorem C1sRel.len {E : Env} : ∀ {cs : List C1} {vs : List Value}, C1sRel E cs vs → vs.length = cs.length
  | [], _, hp => by cases hp; rfl
  | _ :: _, _, ⟨v, us, e, h1, h2⟩ => by subst e; simp [C1sRel.len h2]
theorem C1sRel.oneCell {E : Env} : ∀ {cs : List C1} {vs : List Value}, C1sRel E cs vs → ∀ v ∈ vs, v.oneCell' = true
  | [], _, hp => by cases hp; simp
  | c :: _, _, ⟨v, us, e, h1, h2⟩ => by
    subst e
    intro x hx
    rcases List.mem_cons.1 hx with rfl | hx
    · cases c with
      | s y => rw [show x = _ from h1]; rfl
      | i k n => rw [show x = _ from h1]; rfl
      | o b => rw [h1.2.2]; exact h1.2.1
    · exact C1sRel.oneCell h2 x hx
theorem PartRel.mono {E F : Env} (h : E.le F) {p : Part D.τ} {cs : List Value} (hp : PartRel D E p cs) : PartRel D F p cs := by
  cases p <;> simp only [PartRel] at hp ⊢
  case ref => exact ⟨h.al _ hp.1, by rw [h.σ _ hp.1]; exact hp.2⟩
  case oref => exact ⟨h.al _ hp.1, by rw [h.ν _ hp.1]; exact hp.2⟩
  case own => exact ⟨h.al _ hp.1, by rw [h.ν _ hp.1]; exact hp.2⟩
  case view => exact ⟨h.al _ hp.1, by rw [h.σ _ hp.1]; exact hp.2⟩
  case ov => exact ⟨h.al _ hp.1, by rw [h.ν _ hp.1]; exact hp.2⟩
  case words =>
    obtain ⟨v, e, M, W, hb, hs⟩ := hp
    obtain ⟨M', W', hb', hs'⟩ := hb.mono h.w0 h.M h.z
    exact ⟨v, e, M', W', hb', hs.sub hs'⟩
  case nnw => rw [h.w0, h.M]; exact hp
  case wref =>
    obtain ⟨a, e, M, W, hb, q1, q2, q3⟩ := hp
    obtain ⟨M', W', hb', hs'⟩ := hb.mono h.w0 h.M h.z
    have := hs' _ q2 (World.block_lt_of_cell? _ _ q3)
    exact ⟨a, e, M', W', hb', q1, this.1, by rw [← q3]; exact World.cell?_of_block this.2⟩
  case pw => obtain ⟨v, e, hs⟩ := hp; exact ⟨v, e, pw_mono h.z hs⟩
  case lws =>
    refine ⟨hp.1, fun i u hu => ?_⟩
    obtain ⟨M, W, hb, hs⟩ := hp.2 i u hu
    obtain ⟨M', W', hb', hs'⟩ := hb.mono h.w0 h.M h.z
    exact ⟨M', W', hb', hs.sub hs'⟩
  case parr =>
    obtain ⟨hn, a, e, M, W, hb, q1, q2⟩ := hp
    obtain ⟨M', W', hb', hs'⟩ := hb.mono h.w0 h.M h.z
    refine ⟨hn, a, e, M', W', hb', q1, fun i hi => ?_⟩
    obtain ⟨q3, q4⟩ := q2 i hi
    have hlt : (a.add i).block < W.heap.size := World.block_lt_of_cell? _ _ q4
    have hab : (a.add i).block = a.block := by
      rcases a with ⟨_, _, sp⟩
      cases sp with
      | none => rw [Addr.add_lit]
      | some _ => cases q1
    have := hs' a.block q3 (by rw [← hab]; exact hlt)
    exact ⟨this.1, by rw [← q4]; exact World.cell?_of_block (by rw [hab]; exact this.2)⟩
  case aref => exact ⟨h.al _ hp.1, hp.2.1, by rw [h.σ _ hp.1]; exact hp.2.2⟩
  case av => exact ⟨h.al _ hp.1, by rw [h.σ _ hp.1]; exact hp.2⟩
  case lrs => exact ⟨hp.1, fun i r hr => (hp.2 i r hr).mono h.z⟩
  case prs => obtain ⟨v, e, hs⟩ := hp; exact ⟨v, e, hs.mono h.z⟩
  case lref => exact ⟨h.al _ hp.1, by rw [h.ν _ hp.1]; exact hp.2⟩
  case pref =>
    obtain ⟨g, o, vs, e, q1, q2, q3⟩ := hp
    exact ⟨g, o, vs, e, (h.z g q1).1, q2.mono h.z, fun j v hv => zm_cell h.z q1 rfl (q3 j v hv)⟩
  case ifr => exact ⟨h.al _ hp.1, by rw [h.σ _ hp.1]; exact hp.2⟩
  case mapr => exact ⟨h.al _ hp.1, by rw [h.σ _ hp.1]; exact hp.2⟩
  case ifa => obtain ⟨vs, e, hr⟩ := hp; exact ⟨vs, e, hr.mono h.z⟩
  case clo => exact ⟨fun b hb => h.al _ (hp.1 b hb), by rw [cloV_same fun b hb => h.σ _ (hp.1 b hb)]; exact hp.2⟩
  case clos =>
    refine ⟨fun x hx b hb => h.al _ (hp.1 x hx b hb), ?_⟩
    rw [hp.2]
    refine List.map_congr_left fun x hx => ?_
    exact (cloV_same fun b hb => h.σ _ (hp.1 x hx b hb)).symm
  case ovr => exact ⟨h.al _ hp.1, by rw [h.ν _ hp.1]; exact hp.2⟩
  case prss => exact ⟨hp.1, hp.2.1, fun i v hv => (hp.2.2 i v hv).mono h.z⟩
  case rec1 => exact C1sRel.mono h hp
  case wordss => rw [h.w0, h.M]; exact hp
  case wsref => rw [h.w0, h.M]; exact hp
  case fresh => obtain ⟨_, w', e, _⟩ := hp; rw [h.wr.1] at e; cases e
  all_goals exact hp
theorem PartsRel.mono {E F : Env} (h : E.le F) : ∀ {ps : List (Part D.τ)} {cs : List Value}, PartsRel D E ps cs → PartsRel D F ps cs
  | [], _, hp => hp
  | _ :: _, _, ⟨c1, c2, e, h1, h2⟩ => ⟨c1, c2, e, h1.mono h, PartsRel.mono h h2⟩
theorem A0Rel.mono {E F : Env} (h : E.le F) {a : A0 D.τ} {v : Value} (ha : A0Rel D E a v) : A0Rel D F a v := by
  cases a with
  | one p => exact ⟨ha.1, ha.2.mono h⟩
  | agg ps => obtain ⟨cs, e, hp⟩ := ha; exact ⟨cs, e, hp.mono h⟩
theorem A0sRel.mono {E F : Env} (h : E.le F) : ∀ {as : List (A0 D.τ)} {vs : List Value}, A0sRel D E as vs → A0sRel D F as vs
  | [], _, hp => hp
  | _ :: _, _, ⟨v, us, e, h1, h2⟩ => ⟨v, us, e, h1.mono h, A0sRel.mono h h2⟩
theorem AVRel.mono {E F : Env} (h : E.le F) {a : AV D.τ} {v : Value} (ha : AVRel D E a v) : AVRel D F a v := by
  cases a with
  | v a => exact A0Rel.mono h ha
  | tup as => obtain ⟨vs, e, hp⟩ := ha; exact ⟨vs, e, hp.mono h⟩
theorem PartRel.len {E : Env} {p : Part D.τ} {cs : List Value} (h : PartRel D E p cs) : cs.length = psize D p := by
  cases p <;> simp only [PartRel, psize] at h ⊢
  case tag => exact D.len _ _ h
  case rec1 => exact h.len
  case ints => simp [h]
  case tags => exact h.1
  case oref => obtain ⟨_, g, _, rfl⟩ := h; rfl
  case ov => obtain ⟨_, _, _, _, _, _, _, _, _, rfl⟩ := h; rfl
  case words => obtain ⟨v, rfl, _⟩ := h; rfl
  case nnw => obtain ⟨_, _, _, rfl, _⟩ := h; rfl
  case wordss => obtain ⟨v, rfl, _⟩ := h; rfl
  case wref => obtain ⟨v, rfl, _⟩ := h; rfl
  case wsref => obtain ⟨v, u, rfl, _⟩ := h; rfl
  case arr => rw [h.2, List.length_map]; exact h.1
  case pw => obtain ⟨v, rfl, _⟩ := h; rfl
  case lws => exact h.1
  case lrs => exact h.1
  case prs => obtain ⟨v, rfl, _⟩ := h; rfl
  case lref => obtain ⟨_, g, _, rfl⟩ := h; rfl
  case pref => obtain ⟨_, _, _, rfl, _⟩ := h; rfl
  case parr => obtain ⟨_, a, rfl, _⟩ := h; rfl
  case aref => rw [h.2.2]; rfl
  case av => rw [h.2.2.2.2]; rfl
  case ref => rw [h.2]; rfl
  case own => rw [h.2.2]; rfl
  case view => rw [h.2.2.2]; rfl
  case fresh => rw [h.1]; rfl
  case ifr => rw [h.2]; rfl
  case mapr => rw [h.2]; rfl
  case ifa => obtain ⟨vs, rfl, _⟩ := h; rfl
  case clo => rw [h.2]; rfl
  case clos => rw [h.2, List.length_map]
  case ovr => obtain ⟨_, _, _, _, _, _, _, _, _, _, _, rfl⟩ := h; rfl
  case prss => exact h.2.1
  all_goals (subst h; rfl)
theorem PartRel.oneCell {E : Env} {p : Part D.τ} {cs : List Value} (h : PartRel D E p cs) : ∀ c ∈ cs, c.oneCell' = true := by
  cases p <;> simp only [PartRel] at h
  case tag => exact D.one _ _ h
  case rec1 => exact h.oneCell
  case ints => rw [h]; intro c hc; obtain ⟨_, _, rfl⟩ := List.mem_map.1 hc; rfl
  case tags => exact h.2.1
  case oref => obtain ⟨_, g, _, rfl⟩ := h; simp [Value.oneCell']
  case ov => obtain ⟨_, _, _, _, _, _, _, _, _, rfl⟩ := h; simp [Value.oneCell']
  case words => obtain ⟨v, rfl, _, _, _, ao, cap, rfl, _⟩ := h; simp [Value.oneCell']
  case arr => rw [h.2]; intro c hc; obtain ⟨_, _, rfl⟩ := List.mem_map.1 hc; rfl
  case pw => obtain ⟨v, rfl, ao, cap, rfl, _⟩ := h; simp [Value.oneCell']
  case lws =>
    intro c hc
    obtain ⟨i, hi⟩ := List.mem_iff_getElem?.1 hc
    obtain ⟨_, _, _, ao, cap, rfl, _⟩ := h.2 i c hi
    rfl
  case parr => obtain ⟨_, a, rfl, _⟩ := h; simp [Value.oneCell']
  case lrs =>
    intro c hc
    obtain ⟨x, hx⟩ := List.mem_iff_getElem?.1 hc
    have hxl := (List.getElem?_eq_some_iff.1 hx).1
    obtain ⟨h1, h2⟩ := h
    rename_i sh ll
    have hpos : 0 < rsz sh := by
      rcases Nat.eq_zero_or_pos (rsz sh) with h0 | h0
      · rw [h0, Nat.mul_zero] at h1; omega
      · exact h0
    have hq : x / rsz sh < ll.length := by
      rw [Nat.div_lt_iff_lt_mul hpos, ← h1]
      exact hxl
    have hm := Nat.mod_lt x hpos
    have hdm := Nat.div_add_mod x (rsz sh)
    refine (h2 _ _ (List.getElem?_eq_getElem hq)).oneCell c ?_
    refine List.mem_iff_getElem?.2 ⟨x % rsz sh, ?_⟩
    rw [List.getElem?_take_of_lt hm, List.getElem?_drop, show x / rsz sh * rsz sh + x % rsz sh = x from by rw [Nat.mul_comm]; exact hdm]
    exact hx
  case prs => obtain ⟨v, rfl, ao, cap, rfl, _⟩ := h; simp [Value.oneCell']
  case lref => obtain ⟨_, g, _, rfl⟩ := h; simp [Value.oneCell']
  case pref => obtain ⟨_, _, _, rfl, _⟩ := h; simp [Value.oneCell']
  case aref => rw [h.2.2]; simp [Value.oneCell']
  case av => rw [h.2.2.2.2]; simp [Value.oneCell']
  case nnw => obtain ⟨_, _, _, rfl, _⟩ := h; simp [Value.oneCell']
  case wordss => obtain ⟨v, rfl, ao, cap, rfl, _⟩ := h; simp [Value.oneCell']
  case wref => obtain ⟨v, rfl, _⟩ := h; simp [Value.oneCell']
  case wsref => obtain ⟨v, u, rfl, _⟩ := h; simp [Value.oneCell']
  case ifr => rw [h.2]; simp [Value.oneCell']
  case mapr => rw [h.2]; simp [Value.oneCell']
  case ifa => obtain ⟨vs, rfl, _⟩ := h; simp [Value.oneCell']
  case clo => rw [h.2]; simp [Value.oneCell', cloV]
  case clos => rw [h.2]; intro c hc; obtain ⟨_, _, rfl⟩ := List.mem_map.1 hc; rfl
  case ovr => obtain ⟨_, _, _, _, _, _, _, _, _, _, _, rfl⟩ := h; simp [Value.oneCell']
  case prss =>
    intro c hc
    obtain ⟨i, hi⟩ := List.mem_iff_getElem?.1 hc
    obtain ⟨⟨ao, cap, rfl, _⟩, _⟩ := h.2.2 i c hi
    rfl
  case ref => rw [h.2]; simp [Value.oneCell']
  case own => rw [h.2.2]; simpa using h.2.1
  case view => rw [h.2.2.2]; simp [Value.oneCell']
  case fresh =>
    obtain ⟨rfl, w', _, ho⟩ := h
    rcases ho.2 with ⟨e, _⟩ | ⟨g, cap, cur, e, _⟩ <;> rw [e] <;> simp [Value.oneCell']
  all_goals (subst h; simp [Value.oneCell'])
theorem PartsRel.oneCell {E : Env} : ∀ {ps : List (Part D.τ)} {cs : List Value}, PartsRel D E ps cs → ∀ c ∈ cs, c.oneCell' = true
  | [], _, h => by cases h; simp
  | _ :: _, _, ⟨c1, c2, e, h1, h2⟩ => by
    subst e
    intro c hc
    rcases List.mem_append.1 hc with hc | hc
    · exact h1.oneCell c hc
    · exact PartsRel.oneCell h2 c hc
theorem PartsRel.len {E : Env} : ∀ {ps : List (Part D.τ)} {cs : List Value}, PartsRel D E ps cs → cs.length = (ps.map (psize D)).sum
  | [], _, h => by cases h; rfl
  | _ :: _, _, ⟨c1, c2, e, h1, h2⟩ => by subst e; simp [h1.len, PartsRel.len h2]
theorem PartsRel.append {E : Env} : ∀ {ps qs : List (Part D.τ)} {cs ds : List Value}, PartsRel D E ps cs → PartsRel D E qs ds → PartsRel D E (ps ++ qs) (cs ++ ds)
  | [], _, _, _, h, k => by cases h; exact k
  | _ :: _, _, _, _, ⟨c1, c2, e, h1, h2⟩, k => ⟨c1, c2 ++ _, by rw [e, List.append_assoc], h1, PartsRel.append h2 k⟩
theorem tagsP_append (x y : List D.τ) : tagsP D (x ++ y) = tagsP D x ++ tagsP D y := List.map_append ..
theorem tag_one {E : Env} {t : D.τ} {cs : List Value} (h : D.rel t cs) : PartsRel D E (tagsP D [t]) cs := ⟨cs, [], by simp, h, rfl⟩
theorem cutT_sound {E : Env} : ∀ {f : Nat} {t : D.τ} {off : Nat} {x y : List D.τ} {cs : List Value}, cutT D f t off = some (x, y) → D.rel t cs →
    ∃ c1 c2, cs = c1 ++ c2 ∧ c1.length = off ∧ PartsRel D E (tagsP D x) c1 ∧ PartsRel D E (tagsP D y) c2
  | 0, t, off, x, y, cs, h, hp => by simp [cutT] at h
  | f + 1, t, off, x, y, cs, h, hp => by
    simp only [cutT] at h
    split at h
    · cases h
    · rename_i a b hs
      obtain ⟨c1, c2, rfl, h1, h2⟩ := D.splits t a b cs hs hp
      have l1 := D.len a c1 h1
      cases hb : Nat.beq (D.size a) off <;> simp only [hb, cond_true, cond_false] at h
      · cases hl : Nat.ble off (D.size a) <;> simp only [hl, cond_true, cond_false] at h
        · split at h
          · rename_i x' y' hc
            simp only [Option.some.injEq, Prod.mk.injEq] at h
            obtain ⟨rfl, rfl⟩ := h
            obtain ⟨d1, d2, rfl, hl1, r1, r2⟩ := cutT_sound (E := E) hc h2
            have hnl : ¬ off ≤ D.size a := fun hle => by rw [Nat.ble_eq_true_of_le hle] at hl; cases hl
            exact ⟨c1 ++ d1, d2, by rw [List.append_assoc], by rw [List.length_append, l1, hl1]; omega, ⟨c1, d1, rfl, h1, r1⟩, r2⟩
          · cases h
        · split at h
          · rename_i x' y' hc
            simp only [Option.some.injEq, Prod.mk.injEq] at h
            obtain ⟨rfl, rfl⟩ := h
            obtain ⟨d1, d2, rfl, hl1, r1, r2⟩ := cutT_sound (E := E) hc h1
            refine ⟨d1, d2 ++ c2, by rw [List.append_assoc], hl1, r1, ?_⟩
            rw [tagsP_append]
            exact r2.append (tag_one h2)
          · cases h
      · simp only [Option.some.injEq, Prod.mk.injEq] at h
        obtain ⟨rfl, rfl⟩ := h
        exact ⟨c1, c2, rfl, by rw [l1]; exact Nat.eq_of_beq_eq_true hb, tag_one h1, tag_one h2⟩
theorem dropP_sound {E : Env} : ∀ {ps : List (Part D.τ)} {off : Nat} {a b : List (Part D.τ)} {cs : List Value}, dropP D ps off = some (a, b) → PartsRel D E ps cs →
    ∃ c1 c2, cs = c1 ++ c2 ∧ c1.length = off ∧ PartsRel D E a c1 ∧ PartsRel D E b c2
  | [], off, a, b, cs, h, hp => by
    simp only [dropP] at h
    cases hb : Nat.beq off 0 <;> simp [hb] at h
    obtain ⟨rfl, rfl⟩ := h
    cases hp
    exact ⟨[], [], rfl, (Nat.eq_of_beq_eq_true hb).symm, rfl, rfl⟩
  | p :: ps, off, a, b, cs, h, hp => by
    simp only [dropP] at h
    cases hb : Nat.beq off 0 <;> simp only [hb, cond_true, cond_false] at h
    · cases hl : Nat.ble (psize D p) off <;> simp only [hl, cond_true, cond_false] at h
      · split at h
        · rename_i t
          split at h
          · rename_i x y hc
            simp only [Option.some.injEq, Prod.mk.injEq] at h
            obtain ⟨rfl, rfl⟩ := h
            obtain ⟨c1, c2, rfl, h1, h2⟩ := hp
            obtain ⟨d1, d2, rfl, hl1, r1, r2⟩ := cutT_sound (E := E) hc h1
            exact ⟨d1, d2 ++ c2, by rw [List.append_assoc], hl1, r1, r2.append h2⟩
          · cases h
        · rename_i k n l
          simp only [Option.some.injEq, Prod.mk.injEq] at h
          obtain ⟨rfl, rfl⟩ := h
          obtain ⟨c1, c2, rfl, h1, h2⟩ := hp
          obtain ⟨hn, rfl⟩ := h1
          have hlt : off < n := by
            rcases Nat.lt_or_ge off n with h | h
            · exact h
            · have : Nat.ble n off = true := Nat.ble_eq_true_of_le h
              simp only [psize] at hl
              rw [this] at hl; cases hl
          refine ⟨(l.take off).map (.int k), (l.drop off).map (.int k) ++ c2, ?_, by rw [List.length_map, List.length_take]; omega, ⟨_, [], by simp, ⟨by rw [List.length_take]; omega, rfl⟩, rfl⟩, ⟨_, c2, rfl, ⟨by rw [List.length_drop]; omega, rfl⟩, h2⟩⟩
          rw [← List.append_assoc, ← List.map_append, List.take_append_drop]
        · rename_i sh n l
          simp only [Option.some.injEq, Prod.mk.injEq] at h
          obtain ⟨rfl, rfl⟩ := h
          obtain ⟨c1, c2, rfl, h1, h2⟩ := hp
          obtain ⟨hn, hc, hv⟩ := h1
          have hlt : off < n := by
            rcases Nat.lt_or_ge off n with h | h
            · exact h
            · have : Nat.ble n off = true := Nat.ble_eq_true_of_le h
              simp only [psize] at hl
              rw [this] at hl; cases hl
          refine ⟨c1.take off, c1.drop off ++ c2, by rw [← List.append_assoc, List.take_append_drop], by rw [List.length_take]; omega, ⟨c1.take off, [], by simp, ⟨by rw [List.length_take]; omega, by rw [List.length_take]; omega, fun i v h => ?_⟩, rfl⟩, ⟨c1.drop off, c2, rfl, ⟨by rw [List.length_drop]; omega, by rw [List.length_drop]; omega, fun i v h => ?_⟩, h2⟩⟩
          · rw [List.getElem?_take] at h
            split at h
            · rename_i hio
              have := hv i v h
              rwa [show (l.take off).getD i [] = l.getD i [] from by simp only [List.getD_eq_getElem?_getD, List.getElem?_take, if_pos hio]]
            · cases h
          · rw [List.getElem?_drop] at h
            have := hv _ v h
            rwa [show (l.drop off).getD i [] = l.getD (off + i) [] from by simp only [List.getD_eq_getElem?_getD, List.getElem?_drop]]
        · cases h
      · cases hd : dropP D ps (off - psize D p) with
        | none => simp [hd] at h
        | some x =>
          obtain ⟨a', b'⟩ := x
          simp only [hd, Option.some.injEq, Prod.mk.injEq] at h
          obtain ⟨rfl, rfl⟩ := h
          obtain ⟨c1, c2, rfl, h1, h2⟩ := hp
          obtain ⟨d1, d2, rfl, hl1, hr1, hr2⟩ := dropP_sound hd h2
          have hle := Nat.le_of_ble_eq_true hl
          exact ⟨c1 ++ d1, d2, by rw [List.append_assoc], by rw [List.length_append, h1.len, hl1]; omega, ⟨c1, d1, rfl, h1, hr1⟩, hr2⟩
    · simp only [Option.some.injEq, Prod.mk.injEq] at h
      obtain ⟨rfl, rfl⟩ := h
      exact ⟨[], cs, rfl, (Nat.eq_of_beq_eq_true hb).symm, rfl, hp⟩
theorem splitP_sound {E : Env} {ps a m b : List (Part D.τ)} {off n : Nat} {cs : List Value} (h : splitP D ps off n = some (a, m, b)) (hp : PartsRel D E ps cs) :
    ∃ c1 c2 c3, cs = c1 ++ (c2 ++ c3) ∧ c1.length = off ∧ c2.length = n ∧ PartsRel D E a c1 ∧ PartsRel D E m c2 ∧ PartsRel D E b c3 := by
  unfold splitP at h
  cases h1 : dropP D ps off with
  | none => simp [h1] at h
  | some x =>
    obtain ⟨x1, x2⟩ := x
    simp only [h1] at h
    cases h2 : dropP D x2 n with
    | none => simp [h2] at h
    | some y =>
      obtain ⟨y1, y2⟩ := y
      simp only [h2, Option.some.injEq, Prod.mk.injEq] at h
      obtain ⟨rfl, rfl, rfl⟩ := h
      obtain ⟨c1, c2, rfl, l1, r1, r2⟩ := dropP_sound h1 hp
      obtain ⟨d1, d2, rfl, l2, r3, r4⟩ := dropP_sound h2 r2
      exact ⟨c1, d1, d2, rfl, l1, l2, r1, r3, r4⟩
theorem constPart_rel {E : Env} {v : Value} {p : Part D.τ} (h : constPart v = some p) : PartRel D E p [v] ∧ v.oneCell' = true := by
  unfold constPart at h
  split at h <;> simp at h <;> subst h <;> simp [PartRel, Value.oneCell']
theorem constParts_rel {E : Env} : ∀ {vs : List Value} {ps : List (Part D.τ)}, constParts vs = some ps → PartsRel D E ps vs
  | [], ps, h => by simp [constParts] at h; subst h; rfl
  | v :: vs, ps, h => by
    simp only [constParts] at h
    cases h1 : (constPart v : Option (Part D.τ)) with
    | none => simp [h1] at h
    | some p =>
      simp only [h1] at h
      cases h2 : (constParts vs : Option (List (Part D.τ))) with
      | none => simp [h2] at h
      | some qs =>
        simp only [h2, Option.some.injEq] at h
        subst h
        exact ⟨[v], vs, rfl, (constPart_rel h1).1, constParts_rel h2⟩
theorem constAV_rel {E : Env} {v : Value} {a : AV D.τ} (h : constAV v = some a) : AVRel D E a v := by
  unfold constAV at h
  split at h
  · rename_i cs
    split at h
    · rename_i ps hps
      simp only [Option.some.injEq] at h
      subst h
      exact ⟨cs.toList, by simp, constParts_rel hps⟩
    · cases h
  · cases h
  · split at h
    · rename_i p hp
      simp only [Option.some.injEq] at h
      subst h
      exact ⟨(constPart_rel (E := E) hp).2, (constPart_rel hp).1⟩
    · cases h
theorem partsOf_rel {E : Env} {a : AV D.τ} {ps : List (Part D.τ)} {v : Value} (h : partsOf a = some ps) (ha : AVRel D E a v) : PartsRel D E ps v.cells.toList := by
  unfold partsOf at h
  split at h
  · simp only [Option.some.injEq] at h
    subst h
    obtain ⟨h1, h2⟩ := ha
    have hc : v.cells = #[v] := by cases v <;> simp_all [Value.cells, Value.oneCell']
    rw [hc]
    exact ⟨[v], [], rfl, h2, rfl⟩
  · simp only [Option.some.injEq] at h
    subst h
    obtain ⟨cs, rfl, hp⟩ := ha
    simpa [Value.cells] using hp
  · cases h
def evalA (S : St D.τ) : Operand → Option (AV D.τ)
  | .tmp t => S.slot t
  | .const v => constAV v
  | _ => none
theorem rdA_run {α : Type} {x : Operand} {k : AV D.τ → Rd D.τ α} {S : St D.τ} {r : α} {l : List Ref} (h : (rdA x k).run S = some (r, l)) :
    ∃ a l', evalA S x = some a ∧ (k a).run S = some (r, l') := by
  unfold rdA at h
  split at h
  · rename_i t
    simp only [Rd.run] at h
    split at h
    · rename_i a' l' hk
      split at hk
      · rename_i av hav
        simp only [Option.some.injEq, Prod.mk.injEq] at h
        obtain ⟨rfl, rfl⟩ := h
        exact ⟨av, l', hav, hk⟩
      · simp [Rd.run] at hk
    · cases h
  · rename_i v
    split at h
    · rename_i av hav
      exact ⟨av, l, hav, h⟩
    · simp [Rd.run] at h
  · simp [Rd.run] at h
theorem box_run {α : Type} {b : Nat} {k : BoxSt D.τ → Rd D.τ α} {S : St D.τ} {r : α} {l : List Ref} (h : (Rd.box b k).run S = some (r, l)) :
    ∃ l', (k (S.box b)).run S = some (r, l') := by
  simp only [Rd.run] at h
  split at h
  · rename_i a' l' hk
    simp only [Option.some.injEq, Prod.mk.injEq] at h
    obtain ⟨rfl, rfl⟩ := h
    exact ⟨l', hk⟩
  · cases h
theorem slot_run {α : Type} {t : Nat} {k : Option (AV D.τ) → Rd D.τ α} {S : St D.τ} {r : α} {l : List Ref} (h : (Rd.slot t k).run S = some (r, l)) :
    ∃ l', (k (S.slot t)).run S = some (r, l') := by
  simp only [Rd.run] at h
  split at h
  · rename_i a' l' hk
    simp only [Option.some.injEq, Prod.mk.injEq] at h
    obtain ⟨rfl, rfl⟩ := h
    exact ⟨l', hk⟩
  · cases h
@[simp] theorem run_ret {τ α : Type} {a r : α} {S : St τ} {l : List Ref} : ((Rd.ret a : Rd τ α).run S = some (r, l)) ↔ a = r ∧ [] = l := by simp [Rd.run]
@[simp] theorem run_fail {τ α : Type} {r : α} {S : St τ} {l : List Ref} : ((Rd.fail : Rd τ α).run S = some (r, l)) ↔ False := by simp [Rd.run]
theorem ok1_run {p : Part D.τ} {ps : List Prop} {r : Res D.τ} {S : St D.τ} {l : List Ref} (h : (ok1 p ps : Rd D.τ (Res D.τ)).run S = some (r, l)) : r = ⟨.v (.one p), [], ps⟩ := by
  unfold ok1 at h; simp at h; exact h.1.symm
theorem evalA_rel {M : Mem} {w0 : World} {σ : Loc} {ν : Nat → Value} {S : St D.τ} {a : Act} (hA : RA D M w0 σ ν S a) {x : Operand} {av : AV D.τ} (h : evalA S x = some av) :
    AVRel D (S.env D M w0 σ ν) av (a.eval x) := by
  unfold evalA at h
  split at h
  · exact hA.slots _ _ h
  · exact constAV_rel h
  · cases h
theorem rdAs_run {α : Type} : ∀ {xs : List Operand} {k : List (AV D.τ) → Rd D.τ α} {S : St D.τ} {r : α} {l : List Ref}, (rdAs xs k).run S = some (r, l) →
    ∃ as l', xs.mapM (evalA S) = some as ∧ (k as).run S = some (r, l')
  | [], k, S, r, l, h => ⟨[], l, by simp, h⟩
  | x :: xs, k, S, r, l, h => by
    simp only [rdAs] at h
    obtain ⟨a, l1, h1, h⟩ := rdA_run h
    obtain ⟨as, l2, h2, h⟩ := rdAs_run h
    exact ⟨a :: as, l2, by simp [h1, h2], h⟩
def AVsRel (E : Env) : List (AV D.τ) → List Value → Prop
  | [], vs => vs = []
  | a :: as, vs => ∃ v us, vs = v :: us ∧ AVRel D E a v ∧ AVsRel E as us
theorem evalAs_rel {M : Mem} {w0 : World} {σ : Loc} {ν : Nat → Value} {S : St D.τ} {a : Act} (hA : RA D M w0 σ ν S a) : ∀ {xs : List Operand} {as : List (AV D.τ)}, xs.mapM (evalA S) = some as →
    AVsRel (S.env D M w0 σ ν) as (xs.map a.eval)
  | [], as, h => by simp at h; subst h; rfl
  | x :: xs, as, h => by
    simp only [List.mapM_cons, Option.bind_eq_bind, Option.pure_def] at h
    cases h1 : evalA S x with
    | none => simp [h1] at h
    | some v =>
      cases h2 : xs.mapM (evalA S) with
      | none => simp [h1, h2] at h
      | some vs =>
        simp only [h1, h2, Option.bind_some, Option.some.injEq] at h
        subst h
        exact ⟨_, _, rfl, evalA_rel hA h1, evalAs_rel hA h2⟩
def UpTo (P : Program) (K : Value → World → Prop) : Result Next → Prop
  | .ok (.value v) w' => K v w'
  | .ok .skip w' => K undef w'
  | .ok (.enter f args) w' => Calls P f args w' fun e w'' => ∃ v, e = .returned v ∧ K v w''
  | _ => False
theorem wp_of_upTo {o : Oper} {a : Act} {w : World} {K : Value → World → Prop} {next : Act → World → Prop} {Q : Exit → Act → World → Prop}
    (h : UpTo P K ((execOp a.eval o).run P w)) (hn : ∀ v w', K v w' → next (a.put o.dst v) w') : o.wp P a w next Q := by
  unfold Oper.wp
  generalize (execOp a.eval o).run P w = r at *
  cases r with
  | ok n w' =>
    cases n <;> simp only [UpTo] at h <;> simp only [Oper.upon]
    case value v => exact hn _ _ h
    case skip => exact hn _ _ h
    case enter f args => exact h.mono fun e w'' ⟨v, he, hk⟩ => by subst he; exact hn _ _ hk
  | halt x w' => simp only [UpTo] at h
theorem UpTo.mono {K K' : Value → World → Prop} {r : Result Next} (h : UpTo P K r) (hk : ∀ v w, K v w → K' v w) : UpTo P K' r := by
  cases r with
  | ok n w' =>
    cases n <;> simp only [UpTo] at h ⊢
    case value v => exact hk _ _ h
    case skip => exact hk _ _ h
    case enter f args => exact h.mono fun e w'' ⟨v, he, h⟩ => ⟨v, he, hk _ _ h⟩
  | halt x w' => simp only [UpTo] at h
def St.bx (S : St D.τ) (us : List (Nat × BoxSt D.τ)) : St D.τ := S.app (us.map fun x => Upd.box x.1 x.2)
def Lands (M : Mem) (w0 : World) (S : St D.τ) (a : Act) (r : Res D.τ) (v : Value) (w : World) : Prop :=
  ∃ σ ν, RR D M w0 σ ν (S.bx r.us) w ∧ RA D M w0 σ ν (S.bx r.us) a ∧ AVRel D ((S.bx r.us).env D M w0 σ ν) r.val v
def Sound (P : Program) (D : Dom) (m : Rd D.τ (Res D.τ)) (run : (Operand → Value) → Sem Next) : Prop :=
  ∀ S r l, m.run S = some (r, l) → (∀ p ∈ r.ps, p) → ∀ M w0 a w, R D M w0 S a w → UpTo P (Lands M w0 S a r) ((run a.eval).run P w)
theorem lands_pure {M : Mem} {w0 : World} {σ : Loc} {ν : Nat → Value} {S : St D.τ} {a : Act} {w : World} (hR : RR D M w0 σ ν S w) (hA : RA D M w0 σ ν S a) {x : AV D.τ} {v : Value} {ps : List Prop}
    (h : AVRel D (S.env D M w0 σ ν) x v) : Lands M w0 S a ⟨x, [], ps⟩ v w := ⟨σ, ν, hR, hA, h⟩
theorem Kept.refl (M : Mem) (w : World) : Kept M w w := ⟨rfl, rfl, rfl, Nat.le_refl _, fun _ _ _ => rfl⟩
theorem Kept.trans {M : Mem} {a b c : World} (h : Kept M a b) (k : Kept M b c) : Kept M a c :=
  ⟨k.os.trans h.os, k.tape.trans h.tape, k.output.trans h.output, Nat.le_trans h.size k.size, fun i hi hm => (k.block i (Nat.lt_of_lt_of_le hi h.size) hm).trans (h.block i hi hm)⟩
theorem sound_move (x : Operand) : Sound P D (rdA x fun a => .ret ⟨a, [], []⟩) (fun ρ => pure (.value (ρ x))) := by
  intro S r l h _ M w0 a w ⟨σ, ν, hR, hA⟩
  obtain ⟨av, l', hav, h⟩ := rdA_run h
  simp at h
  obtain ⟨rfl, _⟩ := h
  simp only [Sem.run_pure, UpTo]
  exact lands_pure hR hA (evalA_rel hA hav)
theorem sound_pick (c x y : Operand) : Sound P D (oPick D c x y) (fun ρ => do pure (.value (if ← asBool (ρ c) then ρ x else ρ y))) := by
  intro S r l h _ M w0 a w ⟨σ, ν, hR, hA⟩
  unfold oPick at h
  obtain ⟨av, l', hav, h⟩ := rdA_run h
  split at h
  · rename_i v
    obtain ⟨z, l2, hz, h⟩ := rdA_run h
    simp at h
    obtain ⟨rfl, _⟩ := h
    have hc := (evalA_rel hA hav).2
    simp only [PartRel, List.cons.injEq, and_true] at hc
    simp only [hc, asBool, Sem.run_bind, Sem.run_pure, Result.andThen_ok, UpTo]
    refine lands_pure hR hA ?_
    have := evalA_rel hA hz
    cases v <;> simpa using this
  · simp at h
theorem upd_box_same {τ : Type} (S : St τ) (b : Nat) (s : BoxSt τ) : (S.upd (.box b s)).box b = s := by simp [St.upd]
theorem beq_ne {a b : Nat} (h : a ≠ b) : Nat.beq a b = false := by
  cases e : Nat.beq a b with
  | false => rfl
  | true => exact absurd (Nat.eq_of_beq_eq_true e) h
theorem upd_box_other {τ : Type} (S : St τ) {b c : Nat} (s : BoxSt τ) (h : c ≠ b) : (S.upd (.box b s)).box c = S.box c := by simp [St.upd, beq_ne h]
theorem bx_one (S : St D.τ) (b : Nat) (s : BoxSt D.τ) : S.bx [(b, s)] = S.upd (.box b s) := rfl
theorem bx_nil (S : St D.τ) : S.bx [] = S := rfl
@[simp] theorem upd_box_slot {τ : Type} (S : St τ) (b : Nat) (s : BoxSt τ) : (S.upd (.box b s)).slot = S.slot := rfl
@[simp] theorem upd_box_nt {τ : Type} (S : St τ) (b : Nat) (s : BoxSt τ) : (S.upd (.box b s)).nt = S.nt := rfl
theorem ownsL_heap {w w' : World} {base : Nat} {e : TypeId} {size : Nat} {v : Value} {n : Nat} {xs : List Value} (h : w.ownsL base e size v n xs)
    (hh : ∀ g, v.ownBlock = some g → w'.heap[g]? = w.heap[g]?) : w'.ownsL base e size v n xs := by
  refine ⟨h.1, ?_⟩
  rcases h.2 with hn | ⟨g, cap, cur, rfl, hb, hgg, rest⟩
  · exact .inl hn
  · exact .inr ⟨g, cap, cur, rfl, hb, by rw [hh g rfl]; exact hgg, rest⟩
def BoxSt.famB {τ : Type} : BoxSt τ → Bool
  | .fam _ _ _ => true
  | _ => false
theorem fp_blk {E : Env} {b : Nat} {s : BoxSt D.τ} {g : Nat} (h : s.famB = false) : Fp D E b s g ↔ blk D E b s = some g := by
  cases s <;> first | exact Iff.rfl | cases h
theorem fp_same {E F : Env} {b : Nat} (hσ : F.σ b = E.σ b) (hν : F.ν b = E.ν b) (hφ : F.σ.φ b = E.σ.φ b) {s : BoxSt D.τ} {g : Nat} : Fp D F b s g ↔ Fp D E b s g := by
  cases s <;> simp only [Fp, blk, hσ, hν, hφ]
def Stays (X : Env → World → Nat → BoxSt D.τ → Prop) : Prop :=
  ∀ (E F : Env) (w w' : World) (b : Nat) (s : BoxSt D.τ), E.le F → F.σ b = E.σ b → F.ν b = E.ν b → F.σ.φ b = E.σ.φ b → (∀ g, Fp D E b s g → w'.heap[g]? = w.heap[g]?) → X E w b s → X F w' b s
theorem ienv_le {σ σ2 : Loc} (ν : Nat → Value) (n : Nat) (hf : σ2.f = σ.f) (hz : σ.le σ2) : (ienv σ ν n).le (ienv σ2 ν n) :=
  ⟨fun _ h => h, fun b _ => congrFun hf b, fun _ _ => rfl, rfl, rfl, ⟨rfl, rfl⟩, hz⟩
theorem ValRel.mono {E F : Env} (h : E.le F) {agg : Bool} {ps : List (Part D.τ)} {v : Value} (hv : ValRel D E agg ps v) : ValRel D F agg ps v := by
  cases agg with
  | true => obtain ⟨cs, e, hp⟩ := hv; exact ⟨cs, e, hp.mono h⟩
  | false => exact ⟨hv.1, hv.2.mono h⟩
theorem ObjRel.mono {X : Env → World → Nat → BoxSt D.τ → Prop} (hX : Stays X) {fd : FamD D.τ} {σ σ2 : Loc} (hz : σ.le σ2) {w w' : World} {ob : Ob} {v : Value} {F : Nat → Prop}
    (h : ObjRel D X fd σ w ob v F) (hh : ∀ g, F g → w'.heap[g]? = w.heap[g]?) : ObjRel D X fd σ2 w' ob v F := by
  obtain ⟨σ', ν', e1, e2, hv, hl, hb, hd⟩ := h
  have hle : σ'.le ⟨σ'.f, σ2.zw, σ2.zm, σ'.φ⟩ := fun g hg => by
    rw [e2] at hg
    have := hz g hg
    rw [← e1] at this
    exact this
  have hE := ienv_le ν' fd.n (σ := σ') (σ2 := ⟨σ'.f, σ2.zw, σ2.zm, σ'.φ⟩) rfl hle
  have hsame : ∀ i s g, Fp D (ienv ⟨σ'.f, σ2.zw, σ2.zm, σ'.φ⟩ ν' fd.n) i s g ↔ Fp D (ienv σ' ν' fd.n) i s g := fun i s g => fp_same rfl rfl rfl
  refine ⟨⟨σ'.f, σ2.zw, σ2.zm, σ'.φ⟩, ν', rfl, rfl, hv.mono hE, hl, fun i s hi => ?_, fun i j s t g hij hi hj h1 h2 => hd i j s t g hij hi hj ((hsame i s g).1 h1) ((hsame j t g).1 h2)⟩
  obtain ⟨q1, q2, q3⟩ := hb i s hi
  exact ⟨q1, hX _ _ _ _ _ _ hE rfl rfl rfl (fun g hg => hh g (q3 g hg)) q2, fun g hg => q3 g ((hsame i s g).1 hg)⟩
theorem FamRel.mono {X : Env → World → Nat → BoxSt D.τ → Prop} (hX : Stays X) {E F : Env} (hle : E.le F) {w w' : World} {b k : Nat} (hσ : F.σ b = E.σ b) (hν : F.ν b = E.ν b) (hφ : F.σ.φ b = E.σ.φ b)
    {es : List (Rec × Ob)} {out : Option (Rec × List (Part D.τ))} (hh : ∀ g, E.σ.φ b g → w'.heap[g]? = w.heap[g]?) (h : FamRel D X E w b k es out) : FamRel D X F w' b k es out := by
  obtain ⟨fd, hfd, vs, Fs, hc, hn, hl, hlt, hic, hou, hen, hfs, hdj⟩ := h
  have hicont : ∀ g, IsCont D fd F b g ↔ IsCont D fd E b g := by
    intro g
    unfold IsCont
    cases fd.row <;> simp only [hσ, hν]
  refine ⟨fd, hfd, vs, Fs, ?_, hn, hl, fun g hg => ?_, fun g hg => by rw [hφ]; exact hic g ((hicont g).1 hg), hou, fun i key ob v hi hv => ?_, fun i g hg => ?_, hdj⟩
  · unfold ContRel at hc ⊢
    unfold IsCont at hic
    cases hr : fd.row with
    | true =>
      simp only [hr] at hc hic ⊢
      rw [hν]
      exact ⟨ownsL_heap hc.1 fun g hg => hh g (hic g hg), hc.2⟩
    | false =>
      simp only [hr] at hc hic ⊢
      obtain ⟨ens, clock, h1, h2⟩ := hc
      exact ⟨ens, clock, by rw [hσ, hh _ (hic _ rfl)]; exact h1, h2⟩
  · rw [hφ] at hg
    have h1 := hlt g hg
    have h2 := hh g hg
    rw [Array.getElem?_eq_getElem h1] at h2
    exact (Array.getElem?_eq_some_iff.1 h2).1
  · rcases hen i key ob v hi hv with ⟨ps, h1, h2⟩ | ⟨h1, h2⟩
    · exact .inl ⟨ps, h1, h2.mono hle⟩
    · exact .inr ⟨h1, h2.mono hX hle.z fun g hg => hh g (hfs i g hg).1⟩
  · rw [hφ]
    exact ⟨(hfs i g hg).1, fun h => (hfs i g hg).2 ((hicont g).1 h)⟩
theorem boxRel0_stays {E F : Env} (hle : E.le F) {w w' : World} {b : Nat} (hσ : F.σ b = E.σ b) (hν : F.ν b = E.ν b) {s : BoxSt D.τ} (hh : ∀ g, blk D E b s = some g → w'.heap[g]? = w.heap[g]?) (h : BoxRel0 D E w b s) : BoxRel0 D F w' b s := by
  cases s with
  | un => trivial
  | dead => trivial
  | fam _ _ _ => trivial
  | fixed ty ps =>
    obtain ⟨cs, h1, h2⟩ := h
    exact ⟨cs, by rw [hσ, hh _ rfl]; exact h1, h2.mono hle⟩
  | dyn e p =>
    obtain ⟨n, xs, h1, h2, h3⟩ := h
    exact ⟨n, xs, by rw [hν]; exact ownsL_heap h1 fun g hg => hh g hg, h2.mono hle, by rw [hν]; exact h3⟩
theorem XK_stays : ∀ n, Stays (XK D n)
  | 0 => by
    intro E F w w' b s hle hσ hν hφ hh h
    cases s with
    | fam _ _ _ => exact h.elim
    | un => trivial
    | dead => trivial
    | fixed ty ps => exact boxRel0_stays hle hσ hν (s := .fixed ty ps) hh h
    | dyn e p => exact boxRel0_stays hle hσ hν (s := .dyn e p) hh h
  | n + 1 => by
    intro E F w w' b s hle hσ hν hφ hh h
    cases s with
    | fam k es out =>
      rcases h with ⟨e, h⟩ | h
      · exact .inl ⟨e, h.mono (XK_stays n) hle hσ hν hφ hh⟩
      · exact .inr (XK_stays n _ _ _ _ _ _ hle hσ hν hφ hh h)
    | un => trivial
    | dead => trivial
    | fixed ty ps => exact boxRel0_stays hle hσ hν (s := .fixed ty ps) hh h
    | dyn e p => exact boxRel0_stays hle hσ hν (s := .dyn e p) hh h
theorem BoxRel.stays : Stays (BoxRel D) := by
  intro E F w w' b s hle hσ hν hφ hh h
  cases s with
  | fam k es out => exact FamRel.mono (XK_stays k) hle hσ hν hφ hh h
  | un => trivial
  | dead => trivial
  | fixed ty ps => exact boxRel0_stays hle hσ hν (s := .fixed ty ps) hh h
  | dyn e p => exact boxRel0_stays hle hσ hν (s := .dyn e p) hh h
theorem XK_fam {E : Env} {w : World} {b : Nat} : ∀ {n k : Nat} {es : List (Rec × Ob)} {out : Option (Rec × List (Part D.τ))}, XK D n E w b (.fam k es out) ↔ k < n ∧ FamRel D (XK D k) E w b k es out
  | 0, _, _, _ => ⟨fun h => h.elim, fun h => absurd h.1 (Nat.not_lt_zero _)⟩
  | n + 1, k, es, out => by
    constructor
    · rintro (⟨rfl, h⟩ | h)
      · exact ⟨Nat.lt_succ_self _, h⟩
      · have := XK_fam.1 h
        exact ⟨Nat.lt_succ_of_lt this.1, this.2⟩
    · rintro ⟨h1, h2⟩
      rcases Nat.lt_succ_iff_lt_or_eq.1 h1 with h | h
      · exact .inr (XK_fam.2 ⟨h, h2⟩)
      · subst h; exact .inl ⟨rfl, h2⟩
theorem XK_box {E : Env} {w : World} {b n : Nat} {s : BoxSt D.τ} : XK D n E w b s ↔ (lowB n s = true ∧ BoxRel D E w b s) := by
  cases s with
  | fam k es out =>
    rw [XK_fam]
    exact ⟨fun h => ⟨by rw [lowB, Nat.blt_eq]; exact h.1, h.2⟩, fun h => ⟨by have := h.1; rwa [lowB, Nat.blt_eq] at this, h.2⟩⟩
  | un => cases n <;> exact ⟨fun h => ⟨rfl, h⟩, fun h => h.2⟩
  | dead => cases n <;> exact ⟨fun h => ⟨rfl, h⟩, fun h => h.2⟩
  | fixed ty ps => cases n <;> exact ⟨fun h => ⟨rfl, h⟩, fun h => h.2⟩
  | dyn e p => cases n <;> exact ⟨fun h => ⟨rfl, h⟩, fun h => h.2⟩
theorem BoxRel.lt {E : Env} {w : World} {b g : Nat} {s : BoxSt D.τ} (hb : BoxRel D E w b s) (h : Fp D E b s g) : g < w.heap.size := by
  cases s with
  | un => cases h
  | dead => cases h
  | fam k es out => obtain ⟨_, _, _, _, _, _, _, hlt, _⟩ := hb; exact hlt g h
  | fixed ty ps =>
    obtain ⟨cs, h1, _⟩ := hb
    simp only [Fp, blk, Option.some.injEq] at h
    subst h
    exact (Array.getElem?_eq_some_iff.1 h1).1
  | dyn e p =>
    obtain ⟨n, xs, h1, _⟩ := hb
    exact (h1.lt g h).2
theorem al_dyn {τ : Type} {s : BoxSt τ} {e : TypeId} {p : Part τ} (h : s = .dyn e p) : s.al := by subst h; trivial
theorem al_fixed {τ : Type} {s : BoxSt τ} {e : TypeId} {p : List (Part τ)} (h : s = .fixed e p) : s.al := by subst h; trivial
theorem RR.step {M : Mem} {w0 : World} {σ σ' : Loc} {ν ν' : Nat → Value} {S S' : St D.τ} {w w' : World} (hR : RR D M w0 σ ν S w)
    (hle : (S.env D M w0 σ ν).le (S'.env D M w0 σ' ν')) (C : Nat → Prop)
    (hC : ∀ b, C b → BoxRel D (S'.env D M w0 σ' ν') w' b (S'.box b))
    (hO : ∀ b, ¬ C b → (S'.box b = S.box b ∧ ∀ g, Fp D (S.env D M w0 σ ν) b (S.box b) g → w'.heap[g]? = w.heap[g]?) ∨ S'.box b = .dead)
    (hd : ∀ b b' g, C b → b ≠ b' → Fp D (S'.env D M w0 σ' ν') b (S'.box b) g → Fp D (S'.env D M w0 σ' ν') b' (S'.box b') g → False)
    (hl : ∀ b g, C b → Fp D (S'.env D M w0 σ' ν') b (S'.box b) g → w0.heap.size ≤ g ∨ M g)
    (hk : Kept M w0 w') (hnp : S'.np = S.np) (hzk : ∀ g, σ'.zm g → g < w'.heap.size ∧ w'.heap[g]? = σ'.zw.heap[g]?)
    (hzC : ∀ b g, C b → Fp D (S'.env D M w0 σ' ν') b (S'.box b) g → ¬ σ'.zm g)
    (hzO : ∀ b g, ¬ C b → Fp D (S.env D M w0 σ ν) b (S.box b) g → S'.box b = S.box b → ¬ σ'.zm g) (hzn : ∀ g, σ'.zm g → σ.zm g ∨ w0.heap.size ≤ g ∨ M g)
    (hφ : ∀ b, ¬ C b → σ'.φ b = σ.φ b := by intros; rfl) : RR D M w0 σ' ν' S' w' := by
  have hal : ∀ b, ¬ C b → (S.box b).al → σ' b = σ b ∧ ν' b = ν b := fun b _ h => ⟨hle.σ b h, hle.ν b h⟩
  have same : ∀ b g, ¬ C b → S'.box b = S.box b → (Fp D (S'.env D M w0 σ' ν') b (S'.box b) g ↔ Fp D (S.env D M w0 σ ν) b (S.box b) g) := by
    intro b g hc hb
    rw [hb]
    cases hs : S.box b <;> simp only [Fp, blk]
    · rw [show (S'.env D M w0 σ' ν').σ b = (S.env D M w0 σ ν).σ b from hle.σ b (al_fixed hs)]
    · rw [show (S'.env D M w0 σ' ν').ν b = (S.env D M w0 σ ν).ν b from hle.ν b (al_dyn hs)]
    · rw [show (S'.env D M w0 σ' ν').σ.φ b = (S.env D M w0 σ ν).σ.φ b from hφ b hc]
  refine ⟨fun b => ?_, fun b b' g hne h1 h2 => ?_, fun b g h => ?_, hk, hzk, fun b g h => ?_, fun b hb => ?_, hR.glob, fun g hg => ⟨(hle.z g (hR.z0 g hg).1).1, (hle.z g (hR.z0 g hg).1).2.trans (hR.z0 g hg).2⟩, fun g hg => ?_⟩
  · by_cases hc : C b
    · exact hC b hc
    · rcases hO b hc with ⟨hb, hg⟩ | hb
      · rw [hb]
        cases hs : S.box b with
        | un => trivial
        | dead => trivial
        | _ =>
          have hal : (S.box b).al := by rw [hs]; trivial
          rw [← hs]
          exact BoxRel.stays _ _ _ _ _ _ hle (hle.σ b hal) (hle.ν b hal) (hφ b hc) hg (hR.boxes b)
      · rw [hb]; trivial
  · by_cases hc : C b
    · exact hd b b' g hc hne h1 h2
    · by_cases hc' : C b'
      · exact hd b' b g hc' (Ne.symm hne) h2 h1
      · rcases hO b hc with ⟨hb, _⟩ | hb
        · rcases hO b' hc' with ⟨hb', _⟩ | hb'
          · exact hR.disj b b' g hne ((same b g hc hb).1 h1) ((same b' g hc' hb').1 h2)
          · rw [hb'] at h2; cases h2
        · rw [hb] at h1; cases h1
  · by_cases hc : C b
    · exact hl b g hc h
    · rcases hO b hc with ⟨hb, _⟩ | hb
      · exact hR.lo b g ((same b g hc hb).1 h)
      · rw [hb] at h; cases h
  · by_cases hc : C b
    · exact hzC b g hc h
    · rcases hO b hc with ⟨hb, _⟩ | hb
      · exact hzO b g hc ((same b g hc hb).1 h) hb
      · rw [hb] at h; cases h
  · rw [hnp] at hb
    obtain ⟨h1, h2, h3⟩ := hR.pins b hb
    refine ⟨?_, ?_, hle.al b h3⟩
    · rw [← h1]; exact hle.σ b h3
    · rw [← h2]; exact hle.ν b h3
  · rcases hzn g hg with h | h
    · exact hR.zn g h
    · exact .inr h
theorem RR.zk_grown {M : Mem} {w0 : World} {σ : Loc} {ν : Nat → Value} {S : St D.τ} {w w' : World} (hR : RR D M w0 σ ν S w) {row : Option Nat} (hg : w.grownBy w' row) (hr : ∀ g, row = some g → ¬ σ.zm g) :
    ∀ g, σ.zm g → g < w'.heap.size ∧ w'.heap[g]? = σ.zw.heap[g]? := by
  intro g hz
  obtain ⟨h1, h2⟩ := hR.zk g hz
  refine ⟨Nat.lt_of_lt_of_le h1 hg.size, ?_⟩
  rw [← h2]
  exact hg.block g h1 (fun e => hr g e.symm hz)
theorem RA.mono {M : Mem} {w0 : World} {σ σ' : Loc} {ν ν' : Nat → Value} {S S' : St D.τ} {a : Act} (hA : RA D M w0 σ ν S a)
    (hle : (S.env D M w0 σ ν).le (S'.env D M w0 σ' ν')) (hs : S'.slot = S.slot) (hn : S'.nt = S.nt) : RA D M w0 σ' ν' S' a :=
  ⟨hA.size.trans hn.symm, hA.defers, fun t av h => (hA.slots t av (by rw [← hs]; exact h)).mono hle⟩
theorem Kept.alloc {M : Mem} {w0 w : World} (h : Kept M w0 w) (o : Obj) : Kept M w0 (w.alloc o) :=
  h.trans ⟨rfl, rfl, rfl, by simp, fun k hk _ => Go.heap_alloc_old w o hk⟩
theorem blk_lt {M : Mem} {w0 : World} {σ : Loc} {ν : Nat → Value} {S : St D.τ} {w : World} (hR : RR D M w0 σ ν S w) {b g : Nat} (h : Fp D (S.env D M w0 σ ν) b (S.box b) g) : g < w.heap.size := (hR.boxes b).lt h
theorem env_le_box {M : Mem} {w0 : World} {σ σ' : Loc} {ν ν' : Nat → Value} {S : St D.τ} {nid : Nat} {s : BoxSt D.τ} (hun : S.box nid = .un)
    (hσ : ∀ b, b ≠ nid → σ' b = σ b) (hν : ∀ b, b ≠ nid → ν' b = ν b) (hz : σ.le σ') : (S.env D M w0 σ ν).le ((S.upd (.box nid s)).env D M w0 σ' ν') := by
  have hne : ∀ b, (S.box b).al → b ≠ nid := fun b h e => by subst e; rw [hun] at h; exact h
  exact ⟨fun b h => by show ((S.upd (.box nid s)).box b).al; rw [upd_box_other S s (hne b h)]; exact h, fun b h => hσ b (hne b h), fun b h => hν b (hne b h), rfl, rfl, ⟨rfl, rfl⟩, hz⟩
def setN {α : Type} (f : Nat → α) (n : Nat) (x : α) : Nat → α := fun i => if i = n then x else f i
theorem Loc.set_same (σ : Loc) (n x : Nat) : σ.set n x n = x := by simp [Loc.set]
theorem Loc.set_other (σ : Loc) {n : Nat} (x : Nat) {i : Nat} (h : i ≠ n) : σ.set n x i = σ i := by simp [Loc.set, h]
theorem setN_same {α : Type} (f : Nat → α) (n : Nat) (x : α) : setN f n x n = x := by simp [setN]
theorem setN_other {α : Type} (f : Nat → α) {n : Nat} (x : α) {i : Nat} (h : i ≠ n) : setN f n x i = f i := by simp [setN, h]
theorem lands_fixed {M : Mem} {w0 : World} {σ : Loc} {ν : Nat → Value} {S : St D.τ} {a : Act} {w : World} (hR : RR D M w0 σ ν S w) (hA : RA D M w0 σ ν S a) {nid : Nat} (hun : S.box nid = .un)
    {ty : TypeId} {ps : List (Part D.τ)} {cs : Array Value} (hp : PartsRel D (S.env D M w0 σ ν) ps cs.toList) {qs : List Prop} :
    Lands M w0 S a ⟨.v (.one (.ref nid 0)), [(nid, .fixed ty ps)], qs⟩ (.pointer (some ⟨w.heap.size, 0, none⟩)) (w.alloc (.cells cs ty)) := by
  have hle : (S.env D M w0 σ ν).le ((S.upd (.box nid (.fixed ty ps))).env D M w0 (σ.set nid w.heap.size) ν) :=
    env_le_box hun (fun b h => Loc.set_other _ _ h) (fun _ _ => rfl) (Loc.le_refl σ)
  unfold Lands
  simp only [bx_one]
  refine ⟨σ.set nid w.heap.size, ν, hR.step hle (· = nid) ?_ ?_ ?_ ?_ (hR.kept.alloc _) rfl (hR.zk_grown (World.grownBy_alloc _ _ none) (by simp)) ?_ (fun b g _ h _ => hR.zd b g h) (fun g h => .inl h), hA.mono hle rfl rfl, ?_⟩
  · rintro b rfl
    rw [upd_box_same]
    refine ⟨cs, ?_, hp.mono hle⟩
    show (w.alloc _).heap[σ.set b w.heap.size b]? = _
    rw [Loc.set_same]
    exact Go.heap_alloc_new w _
  · intro b hb
    refine .inl ⟨upd_box_other S _ hb, fun g hg => Go.heap_alloc_old w _ (blk_lt hR hg)⟩
  · rintro b b' g rfl hne h1 h2
    have h1' : Fp D ((S.upd (.box b (.fixed ty ps))).env D M w0 (σ.set b w.heap.size) ν) b ((S.upd (.box b (.fixed ty ps))).box b) g := h1
    rw [upd_box_same] at h1'
    have hg : g = w.heap.size := by
      have : some (σ.set b w.heap.size b) = some g := h1'
      rw [Loc.set_same] at this
      exact (Option.some.inj this).symm
    have h2' : Fp D ((S.upd (.box b (.fixed ty ps))).env D M w0 (σ.set b w.heap.size) ν) b' ((S.upd (.box b (.fixed ty ps))).box b') g := h2
    rw [upd_box_other S _ (Ne.symm hne)] at h2'
    have : Fp D (S.env D M w0 σ ν) b' (S.box b') g := by
      cases hs : S.box b' <;> rw [hs] at h2' <;> simp only [Fp, blk] at h2' ⊢ <;> try exact h2'
      have e : σ.set b w.heap.size b' = σ b' := Loc.set_other _ _ (Ne.symm hne)
      have h3 : some (σ.set b w.heap.size b') = some g := h2'
      rw [e] at h3
      exact h3
    have := blk_lt hR this
    omega
  · rintro b g rfl h
    have h' : Fp D ((S.upd (.box b (.fixed ty ps))).env D M w0 (σ.set b w.heap.size) ν) b ((S.upd (.box b (.fixed ty ps))).box b) g := h
    rw [upd_box_same] at h'
    have : some (σ.set b w.heap.size b) = some g := h'
    rw [Loc.set_same] at this
    have hg := Option.some.inj this
    exact .inl (by have := hR.kept.size; omega)
  · rintro b g rfl h
    have h' : Fp D ((S.upd (.box b (.fixed ty ps))).env D M w0 (σ.set b w.heap.size) ν) b ((S.upd (.box b (.fixed ty ps))).box b) g := h
    rw [upd_box_same] at h'
    have : some (σ.set b w.heap.size b) = some g := h'
    rw [Loc.set_same] at this
    have hg := Option.some.inj this
    exact fun hz => by have := (hR.zk g hz).1; omega
  · refine ⟨rfl, ?_, ?_⟩
    · show ((S.upd (.box nid (.fixed ty ps))).box nid).al
      rw [upd_box_same]; trivial
    · show [Value.pointer (some ⟨w.heap.size, 0, none⟩)] = [Value.pointer (some ⟨σ.set nid w.heap.size nid, 0, none⟩)]
      rw [Loc.set_same]
theorem zeroParts_spec {t : TypeId} {ps : List (Part D.τ)} (h : zeroParts P t = some ps) : ∃ i z, P.info? t = some i ∧ i.zero = some z ∧ ∀ E, PartsRel D E ps z.cells.toList := by
  unfold zeroParts at h
  split at h
  · rename_i z hz
    obtain ⟨i, hi, hzz⟩ := Option.bind_eq_some_iff.1 hz
    exact ⟨i, z, hi, hzz, fun E => constParts_rel h⟩
  · cases h
theorem sound_alloc (nid : Nat) (t : TypeId) : Sound P D (oAlloc P D nid t) (fun _ => do pure (.value (← Instr.alloc t true (.tuple #[])))) := by
  intro S r l h _ M w0 a w ⟨σ, ν, hR, hA⟩
  unfold oAlloc at h
  obtain ⟨l1, h⟩ := box_run h
  split at h
  · rename_i hun
    split at h
    · rename_i ps hps
      simp at h
      obtain ⟨rfl, _⟩ := h
      obtain ⟨i, z, hi, hz, hp⟩ := zeroParts_spec (P := P) hps
      simp [Instr.alloc, zeroValue, typeInfo, hi, hz, newVar, newRow, UpTo]
      exact lands_fixed hR hA hun (hp _)
    · simp at h
  · simp at h
theorem szOf_spec {t : TypeId} {n : Nat} (h : szOf P t = some n) : ∃ i d, P.info? t = some i ∧ i.size = n ∧ P.underlying t = some d := by
  unfold szOf at h
  split at h
  · rename_i d hd
    obtain ⟨i, hi, hn⟩ := Option.map_eq_some_iff.1 h
    exact ⟨i, d, hi, hn, hd⟩
  · cases h
theorem run_isAggB {t : TypeId} {d : TypeDesc} {w : World} (hd : P.underlying t = some d) : (isAgg t).run P w = .ok (aggB P t) w := by
  unfold isAgg aggB
  simp only [Sem.run_bind, run_underlying hd, Result.andThen_ok, hd]
  cases d <;> rfl
theorem run_sizeOfB {t : TypeId} {n : Nat} {w : World} (h : szOf P t = some n) : (sizeOf t).run P w = .ok n w := by
  obtain ⟨i, d, hi, hn, _⟩ := szOf_spec h
  simp [sizeOf, typeInfo, hi, hn]
theorem run_loadVarB {t : TypeId} {a : Addr} {cs : List Value} {w : World} (hs : szOf P t = some cs.length) (hc : ∀ j v, cs[j]? = some v → w.cell? (a.add j) = some v) :
    (aggB P t = true → (loadVar t a).run P w = .ok (.agg cs.toArray) w) ∧ (aggB P t = false → ∀ v, cs = [v] → (loadVar t a).run P w = .ok v w) := by
  obtain ⟨i, d, hi, hn, hd⟩ := szOf_spec hs
  refine ⟨fun hg => ?_, fun hg v hv => ?_⟩
  · unfold loadVar
    simp [run_isAggB hd, hg, run_sizeOfB hs, run_loadCells_list w a cs hc]
  · subst hv
    have h0 := hc 0 v rfl
    simp only [Addr.add, if_true] at h0
    unfold loadVar
    simp [run_isAggB hd, hg, h0]
theorem mkAV_rel {E : Env} {g : Bool} {m : List (Part D.τ)} {x : AV D.τ} {cs : List Value} (h : mkAV g m = some x) (hp : PartsRel D E m cs) :
    (g = true ∧ AVRel D E x (.agg cs.toArray)) ∨ (g = false ∧ ∃ v, cs = [v] ∧ AVRel D E x v) := by
  unfold mkAV at h
  split at h
  · simp only [Option.some.injEq] at h
    subst h
    exact .inl ⟨rfl, cs, rfl, hp⟩
  · cases h
  · cases h
  · cases h
  · cases h
  · rename_i k n l
    cases hn : Nat.beq n 1 <;> simp only [hn, cond_true, cond_false] at h
    · cases h
    · simp only [Option.some.injEq] at h
      subst h
      have := Nat.eq_of_beq_eq_true hn
      subst this
      obtain ⟨c1, c2, rfl, ⟨hl, rfl⟩, hp2⟩ := hp
      cases hp2
      match l, hl with
      | [x], _ => exact .inr ⟨rfl, .int k x, rfl, rfl, rfl⟩
  · cases h
  · cases h
  · cases h
  · cases h
  · rename_i sh n l
    cases hn : Nat.beq n 1 <;> simp only [hn, cond_true, cond_false] at h
    · cases h
    · simp only [Option.some.injEq] at h
      subst h
      have := Nat.eq_of_beq_eq_true hn
      subst this
      obtain ⟨c1, c2, rfl, ⟨hl, hc, hv⟩, hp2⟩ := hp
      cases hp2
      match c1, hc, hv with
      | [x], _, hv =>
        have hx := (hv 0 x rfl).1
        have hx' := hx
        obtain ⟨ao, cap, e, _⟩ := hx'
        exact .inr ⟨rfl, x, rfl, by rw [e]; rfl, x, rfl, hx⟩
  · rename_i p h1 h2 h3 h4 h5 h6 h7 h8 h9 h10
    simp only [Option.some.injEq] at h
    subst h
    obtain ⟨c1, c2, rfl, hp1, hp2⟩ := hp
    cases hp2
    have hl := hp1.len
    have h1' : psize D p = 1 := by cases p <;> simp_all [psize]
    rw [h1'] at hl
    match c1, hl with
    | [v], _ => exact .inr ⟨rfl, v, rfl, hp1.oneCell v (by simp), by simpa using hp1⟩
  · cases h
theorem cells_at {w : World} {g : Nat} {cs : Array Value} {ty : TypeId} {fr : Nat × Nat} (hg : w.heap[g]? = some (.cells cs ty fr)) {c1 c2 c3 : List Value} (he : cs.toList = c1 ++ (c2 ++ c3)) :
    ∀ j v, c2[j]? = some v → w.cell? ((⟨g, c1.length, none⟩ : Addr).add j) = some v := by
  intro j v hv
  rw [Addr.add_lit, cell_of_row w g _ cs ty fr hg, ← Array.getElem?_toList, he]
  rw [List.getElem?_append_right (by omega), Nat.add_sub_cancel_left, List.getElem?_append_left (by have := (List.getElem?_eq_some_iff.1 hv).1; exact this)]
  exact hv
theorem getD_ints {k : IntKind} {l : List Int} {i : Nat} (h : i < l.length) : (l.map (Value.int k))[i]? = some (.int k (l.getD i 0)) := by
  simp [h]
theorem run_loadVar_one {t : TypeId} {n : Nat} {b : Addr} {w : World} {u : Value} (hs : szOf P t = some n) (hg : aggB P t = false) (hc : w.cell? b = some u) : (loadVar t b).run P w = .ok u w := by
  obtain ⟨i, d, hi, hn, hd⟩ := szOf_spec hs
  unfold loadVar
  simp [run_isAggB hd, hg, hc]
theorem upTo_load {t : TypeId} {a : Act} {x : Operand} {b : Addr} {w : World} {u : Value} {K : Value → World → Prop} (hx : a.eval x = .pointer (some b)) (hr : (loadVar t b).run P w = .ok u w) (hk : K u w) :
    UpTo P K ((do pure (Next.value (← Instr.loadAt t (a.eval x))) : Sem Next).run P w) := by
  have : (Instr.loadAt t (a.eval x)).run P w = .ok u w := by
    unfold Instr.loadAt
    rw [hx]
    simp [Instr.sureAddr, hr]
  simp only [Sem.run_bind, this, Result.andThen_ok, Sem.run_pure, UpTo]
  exact hk
theorem RR.base_now {M : Mem} {w0 : World} {σ : Loc} {ν : Nat → Value} {S : St D.τ} {w : World} (hR : RR D M w0 σ ν S w) {M1 : Nat → Prop} {W1 : World} (hB : Base (S.env D M w0 σ ν) M1 W1) :
    ∀ b, ¬ M1 b → b < W1.heap.size → (∀ c, ¬ Fp D (S.env D M w0 σ ν) c (S.box c) b) ∧ w.heap[b]? = W1.heap[b]? := by
  intro b hb hlt
  rcases hB with ⟨e1, e2⟩ | ⟨e1, e2⟩
  · have e2' : W1 = w0 := e2
    subst e2'
    rw [e1] at hb
    refine ⟨fun c hc => ?_, hR.kept.block b hlt hb⟩
    rcases hR.lo c b hc with h | h
    · omega
    · exact hb h
  · rw [e1] at hb
    have hz : σ.zm b := Classical.not_not.1 hb
    refine ⟨fun c hc => hR.zd c b hc hz, ?_⟩
    rw [e2]
    exact (hR.zk b hz).2
theorem sound_load (t : TypeId) (x : Operand) : Sound P D (oLoad P D t x) (fun ρ => do pure (.value (← Instr.loadAt t (ρ x)))) := by
  intro S r l h hps M w0 a w ⟨σ, ν, hR, hA⟩
  unfold oLoad at h
  split at h
  · simp at h
  rename_i n hsz
  obtain ⟨av, l0, hav, h⟩ := rdA_run h
  have hx := evalA_rel hA hav
  split at h
  · rename_i b off
    obtain ⟨hone, hal, hv⟩ := hx
    simp only [List.cons.injEq, and_true] at hv
    have hv' : a.eval x = .pointer (some ⟨σ b, off, none⟩) := hv
    obtain ⟨l1, h⟩ := box_run h
    have hb := hR.boxes b
    split at h
    · rename_i ty k il hbx
      rw [hbx] at hb
      obtain ⟨cs, hg, hp⟩ := hb
      have hg' : w.heap[σ b]? = some (.cells cs ty (0, 0)) := hg
      obtain ⟨c1, c2, e, hp1, hp2⟩ := hp
      cases hp2
      simp only [List.append_nil, PartRel] at e hp1
      subst hp1
      unfold loadI at h
      cases hagg : aggB P t
      · simp only [hagg, cond_false] at h
        have hr := ok1_run h
        subst hr
        have hlt : off < il.length := hps _ (by simp)
        have hc : w.cell? ⟨σ b, off, none⟩ = some (.int k (il.getD off 0)) := by
          rw [cell_of_row w _ _ cs ty _ hg', ← Array.getElem?_toList, e]
          exact getD_ints hlt
        exact upTo_load hv' (run_loadVar_one hsz hagg hc) (lands_pure hR hA ⟨rfl, rfl⟩)
      · simp only [hagg, cond_true] at h
        cases ho : Nat.beq off 0 <;> simp [ho] at h
        obtain ⟨rfl, _⟩ := h
        have ho' : off = 0 := Nat.eq_of_beq_eq_true ho
        subst ho'
        have hl : il.length = n := hps _ (by simp)
        have hcell := cells_at (w := w) hg' (c1 := []) (c2 := il.map (Value.int k)) (c3 := []) (by simpa using e)
        have hrun := (run_loadVarB (P := P) (a := ⟨σ b, 0, none⟩) (cs := il.map (Value.int k)) (by rw [List.length_map, hl]; exact hsz) hcell).1 hagg
        exact upTo_load hv' hrun (lands_pure hR hA ⟨_, rfl, _, [], by simp, rfl, rfl⟩)
    · rename_i ty ps hne hbx
      rw [hbx] at hb
      obtain ⟨cs, hg, hp⟩ := hb
      have hg' : w.heap[σ b]? = some (.cells cs ty (0, 0)) := hg
      unfold loadF at h
      split at h
      · rename_i m1 m m2 hsp
        split at h
        · rename_i y hy
          simp at h
          obtain ⟨rfl, _⟩ := h
          obtain ⟨c1, c2, c3, he, hl1, hl2, hr1, hr2, hr3⟩ := splitP_sound hsp hp
          have hcell := cells_at (w := w) hg' he
          rw [hl1] at hcell
          have hrun := run_loadVarB (P := P) (a := ⟨σ b, off, none⟩) (cs := c2) (by rw [hl2]; exact hsz) hcell
          rcases mkAV_rel hy hr2 with ⟨hg1, hy1⟩ | ⟨hg1, v, hv1, hy1⟩
          · exact upTo_load hv' (hrun.1 hg1) (lands_pure hR hA hy1)
          · exact upTo_load hv' (hrun.2 hg1 v hv1) (lands_pure hR hA hy1)
        · simp at h
      · simp at h
    · simp at h
  · rename_i b i
    obtain ⟨hone, hal, g, hg, hv⟩ := hx
    simp only [List.cons.injEq, and_true] at hv
    cases hagg : aggB P t <;> simp only [hagg, cond_false, cond_true] at h
    · obtain ⟨l1, h⟩ := box_run h
      have hb := hR.boxes b
      split at h
      · rename_i e k il hbx
        rw [hbx] at hb
        obtain ⟨n', xs, hown, hp, _⟩ := hb
        have hr := ok1_run h
        subst hr
        have hlt : i < il.length := hps _ (by simp)
        simp only [PartRel] at hp
        subst hp
        have hc := hown.cells hg i _ (getD_ints hlt)
        rw [Addr.add_lit, Nat.zero_add] at hc
        exact upTo_load hv (run_loadVar_one hsz hagg hc) (lands_pure hR hA ⟨rfl, rfl⟩)
      · simp at h
    · simp at h
  · rename_i k il i
    obtain ⟨hone, ad, hv, M1, W1, hB, hsp, hm, hc⟩ := hx
    simp only [List.cons.injEq, and_true] at hv
    cases hagg : aggB P t <;> simp only [hagg, cond_false, cond_true] at h
    · have hr := ok1_run h
      subst hr
      have hc' : w.cell? ad = some (.int k (il.getD i 0)) := by
        rw [← hc]
        exact World.cell?_of_block (hR.base_now hB _ hm (World.block_lt_of_cell? _ _ hc)).2
      exact upTo_load hv (run_loadVar_one hsz hagg hc') (lands_pure hR hA ⟨rfl, rfl⟩)
    · simp at h
  · rename_i k ll i
    obtain ⟨hone, ad, u, hv, hsp, hm, hc, hu⟩ := hx
    simp only [List.cons.injEq, and_true] at hv
    cases hagg : aggB P t <;> simp only [hagg, cond_false, cond_true] at h
    · have hr := ok1_run h
      subst hr
      have hc' : w.cell? ad = some u := by
        rw [← hc]
        exact World.cell?_of_block (hR.kept.block _ (World.block_lt_of_cell? _ _ hc) hm)
      refine upTo_load hv (run_loadVar_one hsz hagg hc') (lands_pure hR hA ⟨?_, u, rfl, _, _, .inl ⟨rfl, rfl⟩, hu⟩)
      obtain ⟨ao, cap, rfl, _⟩ := hu
      rfl
    · simp at h
  · simp at h
theorem env_upd_box {M : Mem} {w0 : World} {σ : Loc} {ν : Nat → Value} {S : St D.τ} {b : Nat} {s : BoxSt D.τ} (hal : s.al) :
    (S.env D M w0 σ ν).le ((S.upd (.box b s)).env D M w0 σ ν) :=
  ⟨fun c h => by
    show ((S.upd (.box b s)).box c).al
    by_cases hc : c = b
    · subst hc; rw [upd_box_same]; exact hal
    · rw [upd_box_other S s hc]; exact h, fun _ _ => rfl, fun _ _ => rfl, rfl, rfl, ⟨rfl, rfl⟩, Loc.le_refl σ⟩
theorem Kept.grown {M : Mem} {w0 w w' : World} {row : Option Nat} (h : Kept M w0 w) (hg : w.grownBy w' row) (hr : ∀ g, row = some g → w0.heap.size ≤ g ∨ M g) : Kept M w0 w' :=
  ⟨hg.os.trans h.os, hg.tape.trans h.tape, hg.output.trans h.output, Nat.le_trans h.size hg.size, fun k hk hm => by
    rw [← h.block k hk hm]
    refine hg.block k (Nat.lt_of_lt_of_le hk h.size) (fun e => ?_)
    rcases hr k e.symm with h1 | h1
    · omega
    · exact hm h1⟩
theorem RR.updBox {M : Mem} {w0 : World} {σ : Loc} {ν : Nat → Value} {S : St D.τ} {w w' : World} (hR : RR D M w0 σ ν S w) {b : Nat} {s : BoxSt D.τ} (hal : s.al)
    (hblk : blk D (S.env D M w0 σ ν) b s = blk D (S.env D M w0 σ ν) b (S.box b))
    (hbox : BoxRel D ((S.upd (.box b s)).env D M w0 σ ν) w' b s) (hg : w.grownBy w' (blk D (S.env D M w0 σ ν) b (S.box b)))
    (hs : s.famB = false := by rfl) (hs' : (S.box b).famB = false := by (first | rfl | (simp only [*]; rfl))) : RR D M w0 σ ν (S.upd (.box b s)) w' := by
  have hb' : ∀ g, Fp D ((S.upd (.box b s)).env D M w0 σ ν) b s g → Fp D (S.env D M w0 σ ν) b (S.box b) g := fun g h => by
    rw [fp_blk hs] at h
    rw [fp_blk hs', ← hblk]
    exact h
  refine hR.step (env_upd_box hal) (· = b) ?_ ?_ ?_ ?_ (hR.kept.grown hg fun g e => hR.lo b g ((fp_blk hs').2 e)) rfl (hR.zk_grown hg fun g e => hR.zd b g ((fp_blk hs').2 e)) ?_ (fun b g _ h _ => hR.zd b g h) (fun g h => .inl h)
  · rintro c rfl
    rw [upd_box_same]; exact hbox
  · intro c hc
    refine .inl ⟨upd_box_other S _ hc, fun g hgc => hg.block g (blk_lt hR hgc) (fun e => ?_)⟩
    exact hR.disj c b g hc hgc ((fp_blk hs').2 e.symm)
  · rintro c c' g rfl hne h1 h2
    rw [upd_box_same] at h1
    rw [upd_box_other S _ (Ne.symm hne)] at h2
    exact hR.disj c c' g hne (hb' g h1) h2
  · rintro c g rfl h
    rw [upd_box_same] at h
    exact hR.lo c g (hb' g h)
  · rintro c g rfl h
    rw [upd_box_same] at h
    exact hR.zd c g (hb' g h)
theorem grownBy_setRow (w : World) (g : Nat) (cs : Array Value) : w.grownBy (w.setRow g cs) (some g) :=
  ⟨rfl, rfl, rfl, by simp, fun k _ hk => setRow_other w g k cs (fun e => hk (by rw [e]))⟩
theorem run_storeVarB {t : TypeId} {b : Addr} {v : Value} {n : Nat} {w : World} {g off : Nat} {cs : Array Value} {ty : TypeId} (hb : b = ⟨g, off, none⟩) (hs : szOf P t = some n) (hv : v.cells.toList.length = n) (h1 : ∀ c ∈ v.cells.toList, c.oneCell' = true)
    (hg : w.heap[g]? = some (.cells cs ty (0, 0))) (hl : off + n ≤ cs.size) :
    (storeVar t b v).run P w = .ok () (w.setRow g (cs.toList.take off ++ v.cells.toList ++ cs.toList.drop (off + n)).toArray) := by
  subst hb
  have hst := run_storeCells_at P g off ty v.cells.toList 0 cs w hg (by rw [hv]; omega) h1
  simp only [Nat.add_zero] at hst
  have hsz : v.cells.size = n := by rw [← hv]; simp
  unfold storeVar
  simp [run_sizeOfB hs, hsz, hst]
theorem upTo_store {t : TypeId} {a : Act} {x y : Operand} {b : Addr} {w w' : World} {K : Value → World → Prop} (hx : a.eval x = .pointer (some b)) (hr : (storeVar t b (a.eval y)).run P w = .ok () w') (hk : K undef w') :
    UpTo P K ((do Instr.storeAt t (a.eval x) (a.eval y); pure Next.skip : Sem Next).run P w) := by
  have : (Instr.storeAt t (a.eval x) (a.eval y)).run P w = .ok () w' := by
    unfold Instr.storeAt
    rw [hx]
    simp [Instr.sureAddr, hr]
  simp only [Sem.run_bind, this, Result.andThen_ok, Sem.run_pure, UpTo]
  exact hk
theorem undef_rel {E : Env} : AVRel D E (.tup []) undef := ⟨[], rfl, rfl⟩
theorem take_map_set {k : IntKind} {l : List Int} {off : Nat} {n : Int} (h : off < l.length) :
    (l.map (Value.int k)).take off ++ [Value.int k n] ++ (l.map (Value.int k)).drop (off + 1) = (l.set off n).map (Value.int k) := by
  rw [List.map_set, List.set_eq_take_append_cons_drop, if_pos (by simpa using h)]
  simp
theorem storeI_run {t : TypeId} {b off : Nat} {st : IntKind → List Int → BoxSt D.τ} {k : IntKind} {il : List Int} {av : AV D.τ} {S : St D.τ} {r : Res D.τ} {l : List Ref}
    (h : (storeI P D t b off st k il av).run S = some (r, l)) : ∃ lt n, av = .v (.one (.int k lt n)) ∧ r = ⟨.tup [], [(b, st k (il.set off n))], [off < il.length, szOf P t = some 1]⟩ := by
  unfold storeI at h
  split at h
  · rename_i k' lt n
    split at h
    · rename_i hk
      subst hk
      simp at h
      exact ⟨lt, n, rfl, h.1.symm⟩
    · simp at h
  · simp at h
theorem sound_store (t : TypeId) (x y : Operand) : Sound P D (oStore P D t x y) (fun ρ => do Instr.storeAt t (ρ x) (ρ y); pure .skip) := by
  intro S r l h hps M w0 a w ⟨σ, ν, hR, hA⟩
  unfold oStore at h
  obtain ⟨av, l0, hav, h⟩ := rdA_run h
  have hx := evalA_rel hA hav
  split at h
  · rename_i b off
    obtain ⟨hone, hal, hv⟩ := hx
    simp only [List.cons.injEq, and_true] at hv
    have hv' : a.eval x = .pointer (some ⟨σ b, off, none⟩) := hv
    obtain ⟨ay, l1, hay, h⟩ := rdA_run h
    have hy := evalA_rel hA hay
    obtain ⟨l2, h⟩ := box_run h
    have hb := hR.boxes b
    have hfin : ∀ (ty : TypeId) (ps : List (Part D.τ)) (cs : Array Value) (qs : List (Part D.τ)) (cs' : List Value) (pp : List Prop), S.box b = .fixed ty ps → w.heap[σ b]? = some (.cells cs ty (0, 0)) →
        PartsRel D (S.env D M w0 σ ν) qs cs' → (storeVar t ⟨σ b, off, none⟩ (a.eval y)).run P w = .ok () (w.setRow (σ b) cs'.toArray) →
        UpTo P (Lands M w0 S a ⟨.tup [], [(b, .fixed ty qs)], pp⟩) ((do Instr.storeAt t (a.eval x) (a.eval y); pure Next.skip : Sem Next).run P w) := by
      intro ty ps cs qs cs' pp hbx hg' hq hrun
      refine upTo_store hv' hrun ?_
      unfold Lands
      simp only [bx_one]
      have hle : (S.env D M w0 σ ν).le ((S.upd (.box b (.fixed ty qs))).env D M w0 σ ν) := env_upd_box (by trivial)
      refine ⟨σ, ν, hR.updBox (by trivial) (by rw [hbx]; rfl) ⟨cs'.toArray, setRow_heap w _ cs _ ty _ hg', by simpa using hq.mono hle⟩ ?_, hA.mono hle rfl rfl, undef_rel⟩
      rw [hbx]
      exact grownBy_setRow w _ _
    split at h
    · rename_i ty k il hbx
      rw [hbx] at hb
      obtain ⟨cs, hg, hp⟩ := hb
      have hg' : w.heap[σ b]? = some (.cells cs ty (0, 0)) := hg
      obtain ⟨lt, n, rfl, rfl⟩ := storeI_run h
      obtain ⟨c1, c2, e, hp1, hp2⟩ := hp
      cases hp2
      simp only [List.append_nil, PartRel] at e hp1
      subst hp1
      have hlt : off < il.length := hps _ (by simp)
      have hsz : szOf P t = some 1 := hps _ (by simp)
      obtain ⟨hy1, hy2⟩ := hy
      simp only [PartRel, List.cons.injEq, and_true] at hy2
      refine hfin ty _ cs _ ((il.set off n).map (Value.int k)) _ hbx hg' ⟨_, [], by simp, rfl, rfl⟩ ?_
      have hcs : cs.size = il.length := by rw [← Array.length_toList, e]; simp
      have hc1 : (a.eval y).cells.toList = [Value.int k n] := by rw [hy2]; rfl
      have hst := run_storeVarB (P := P) (w := w) (v := a.eval y) (n := 1) rfl hsz (by rw [hc1]; rfl) (by rw [hc1]; simp [Value.oneCell']) hg' (off := off) (by omega)
      rw [hst, hc1, e, take_map_set hlt]
    · rename_i ty ps hne hbx
      rw [hbx] at hb
      obtain ⟨cs, hg, hp⟩ := hb
      have hg' : w.heap[σ b]? = some (.cells cs ty (0, 0)) := hg
      unfold storeF at h
      split at h
      · simp at h
      rename_i n hsz
      split at h
      · simp at h
      rename_i qs hqs
      split at h
      · rename_i p1 p2 p3 hsp
        cases hbq : Nat.beq ((qs.map (psize D)).sum) n <;> simp only [hbq, cond_true, cond_false, run_fail] at h
        simp at h
        obtain ⟨rfl, _⟩ := h
        have hsum : (qs.map (psize D)).sum = n := Nat.eq_of_beq_eq_true hbq
        obtain ⟨c1, c2, c3, he, hl1, hl2, hr1, hr2, hr3⟩ := splitP_sound hsp hp
        have hq := partsOf_rel hqs hy
        refine hfin ty _ cs _ (c1 ++ (a.eval y).cells.toList ++ c3) _ hbx hg' (by simp only [List.append_assoc]; exact hr1.append (hq.append hr3)) ?_
        have hlen : (a.eval y).cells.toList.length = n := by rw [hq.len]; exact hsum
        have hcs : cs.size = c1.length + (c2.length + c3.length) := by rw [← Array.length_toList, he]; simp
        have hst := run_storeVarB (P := P) (w := w) (v := a.eval y) rfl hsz hlen hq.oneCell hg' (off := off) (by omega)
        have e1 : (c1 ++ (c2 ++ c3)).take off = c1 := by rw [← hl1]; exact List.take_left
        have e2 : (c1 ++ (c2 ++ c3)).drop (off + n) = c3 := by rw [← List.append_assoc, ← hl1, ← hl2, ← List.length_append]; exact List.drop_left
        rw [hst, he, e1, e2]
      · simp at h
    · simp at h
  · rename_i b i
    obtain ⟨hone, hal, g, hgo, hv⟩ := hx
    simp only [List.cons.injEq, and_true] at hv
    obtain ⟨ay, l1, hay, h⟩ := rdA_run h
    have hy := evalA_rel hA hay
    obtain ⟨l2, h⟩ := box_run h
    have hb := hR.boxes b
    split at h
    · rename_i e k il hbx
      obtain ⟨lt, n, rfl, rfl⟩ := storeI_run h
      obtain ⟨hy1, hy2⟩ := hy
      simp only [PartRel, List.cons.injEq, and_true] at hy2
      rw [hbx] at hb
      obtain ⟨n', xs, hown, hp, h1c⟩ := hb
      simp only [PartRel] at hp
      subst hp
      have hlt : i < il.length := hps _ (by simp)
      have hsz : szOf P t = some 1 := hps _ (by simp)
      have hgo' : (ν b).ownBlock = some g := hgo
      have hown' : w.ownsL 0 e 1 (ν b) n' (il.map (Value.int k)) := hown
      rcases hown'.2 with ⟨hn, _⟩ | ⟨g', cap, cur, hνe, _, hcur, hnc, hcm, hcs, htk⟩
      · rw [hn] at hgo'; simp [Value.ownBlock] at hgo'
      · have hgg : g' = g := by rw [hνe] at hgo'; simpa [Value.ownBlock] using hgo'
        subst hgg
        have hn' : il.length = n' := by have := hown'.1; simpa using this
        have hc1 : (a.eval y).cells.toList = [Value.int k n] := by rw [hy2]; rfl
        have hst := run_storeVarB (P := P) (w := w) (v := a.eval y) (n := 1) rfl hsz (by rw [hc1]; rfl) (by rw [hc1]; simp [Value.oneCell']) hcur (off := i) (by omega)
        refine upTo_store hv hst ?_
        unfold Lands
        simp only [bx_one]
        have hle : (S.env D M w0 σ ν).le ((S.upd (.box b (.dyn e (.ints k (il.set i n))))).env D M w0 σ ν) := env_upd_box (by trivial)
        refine ⟨σ, ν, hR.updBox (by trivial) (by rw [hbx]; rfl) ?_ ?_, hA.mono hle rfl rfl, undef_rel⟩
        · refine ⟨n', (il.set i n).map (Value.int k), show World.ownsL _ 0 e 1 _ _ _ from ⟨by simpa using hn', .inr ⟨g', cap, _, hνe, Nat.zero_le _, setRow_heap w _ cur _ e _ hcur, hnc, hcm, ?_, ?_⟩⟩, rfl, h1c⟩
          · rw [hc1]; simp; omega
          · rw [hc1, List.toList_toArray, ← take_map_set hlt, ← htk]
            simp only [Nat.mul_one]
            apply List.ext_getElem?
            intro j
            have hmin1 : min i cur.size = i := by omega
            have hmin2 : min i (min n' cur.size) = i := by omega
            simp only [List.getElem?_take, List.getElem?_append, List.length_take, List.getElem?_drop, List.length_cons, List.length_nil, Array.length_toList, List.length_append, hmin1, hmin2]
            by_cases h1 : j < i
            · simp [h1, show j < n' by omega, show j < i + 1 by omega]
            · by_cases h2 : j < i + 1
              · simp [h2, show j < n' by omega, show ¬ j < i from h1]
              · simp [h2]
                by_cases h3 : j < n'
                · simp [h3, show i + 1 + (j - (i + 1)) = j by omega]
                · simp [h3, show ¬ (i + 1 + (j - (i + 1)) < n') by omega]
        · rw [hbx]
          show w.grownBy _ ((ν b).ownBlock)
          rw [hgo']
          exact grownBy_setRow w _ _
    · simp at h
  · simp at h
theorem sound_nilCheck (o : Oper) (x : Operand) (e : o.op = .nilCheck x) : Sound P D (oNilCheck D x) (fun ρ => execOp ρ o) := by
  intro S r l h hps M w0 a w ⟨σ, ν, hR, hA⟩
  unfold oNilCheck at h
  obtain ⟨av, l0, hav, h⟩ := rdA_run h
  have hx := evalA_rel hA hav
  split at h
  · rename_i b off
    have hr := ok1_run h
    subst hr
    obtain ⟨hone, hal, hv⟩ := hx
    simp only [List.cons.injEq, and_true] at hv
    simp only [execOp, e, hv, Sem.run_pure, UpTo]
    exact lands_pure hR hA ⟨rfl, hal, rfl⟩
  · simp at h
theorem sound_fieldAddr (s : TypeId) (x : Operand) (i : Nat) : Sound P D (oFieldAddr P D s x i) (fun ρ => do pure (.value (← Instr.fieldAt s (ρ x) i))) := by
  intro S r l h hps M w0 a w ⟨σ, ν, hR, hA⟩
  unfold oFieldAddr at h
  obtain ⟨av, l0, hav, h⟩ := rdA_run h
  have hx := evalA_rel hA hav
  split at h
  · rename_i b off
    obtain ⟨hone, hal, hv⟩ := hx
    simp only [List.cons.injEq, and_true] at hv
    split at h
    · rename_i fs hfs
      split at h
      · rename_i f hf
        split at h
        · rename_i n hn
          have hr := ok1_run h
          subst hr
          have hrun : (Instr.fieldAt s (a.eval x) i).run P w = .ok (.pointer (some ⟨(S.env D M w0 σ ν).σ b, off + f.offset, none⟩)) w := by
            unfold Instr.fieldAt
            rw [hv]
            simp [run_underlying hfs, hf, Instr.sureAddr, fieldPlace, run_sizeOfB hn, Addr.add_lit]
          simp only [Sem.run_bind, hrun, Result.andThen_ok, Sem.run_pure, UpTo]
          exact lands_pure hR hA ⟨rfl, hal, rfl⟩
        · simp at h
      · simp at h
    · simp at h
  · simp at h
theorem run_partB {t : TypeId} {cs : Array Value} {c1 c2 c3 : List Value} {off n : Nat} {w : World} (hs : szOf P t = some n) (he : cs.toList = c1 ++ (c2 ++ c3)) (h1 : c1.length = off) (h2 : c2.length = n) :
    (aggB P t = true → (part t cs off).run P w = .ok (.agg c2.toArray) w) ∧ (aggB P t = false → ∀ v, c2 = [v] → (part t cs off).run P w = .ok v w) := by
  obtain ⟨i, d, hi, hn, hd⟩ := szOf_spec hs
  have hcs : cs = (c1 ++ (c2 ++ c3)).toArray := by rw [← he]
  refine ⟨fun hg => ?_, fun hg v hv => ?_⟩
  · unfold part
    simp only [Sem.run_bind, run_isAggB hd, Result.andThen_ok, hg, if_true, run_sizeOfB hs, Sem.run_pure]
    congr 2
    rw [hcs, List.extract_toArray]
    congr 1
    rw [List.extract_eq_take_drop, ← h1, List.drop_left, Nat.add_sub_cancel_left, ← h2, List.take_left]
  · subst hv
    unfold part
    have : cs[off]? = some v := by rw [hcs, ← h1]; simp
    simp [run_isAggB hd, hg, this]
theorem upTo_val {s : Sem Value} {w w' : World} {v : Value} {K : Value → World → Prop} (h : s.run P w = .ok v w') (hk : K v w') :
    UpTo P K ((do pure (Next.value (← s)) : Sem Next).run P w) := by
  simp only [Sem.run_bind, h, Result.andThen_ok, Sem.run_pure, UpTo]
  exact hk
theorem sound_field (s : TypeId) (x : Operand) (i : Nat) : Sound P D (oField P D s x i) (fun ρ => do pure (.value (← Instr.field s (ρ x) i))) := fun _ _ _ h => (run_fail.1 h).elim
theorem A0sRel.get {E : Env} : ∀ {as : List (A0 D.τ)} {vs : List Value} {i : Nat} {x : A0 D.τ}, A0sRel D E as vs → as[i]? = some x → ∃ v, vs[i]? = some v ∧ A0Rel D E x v
  | [], _, _, _, _, h => by simp at h
  | a :: as, _, 0, x, ⟨v, us, e, h1, h2⟩, h => by simp at h; subst h; subst e; exact ⟨v, rfl, h1⟩
  | a :: as, _, i + 1, x, ⟨v, us, e, h1, h2⟩, h => by subst e; simpa using A0sRel.get h2 (by simpa using h)
theorem sound_extract (x : Operand) (i : Nat) : Sound P D (oExtract D x i) (fun ρ => do pure (.value (← Instr.extract (ρ x) i))) := by
  intro S r l h hps M w0 a w ⟨σ, ν, hR, hA⟩
  unfold oExtract at h
  obtain ⟨av, l0, hav, h⟩ := rdA_run h
  have hx := evalA_rel hA hav
  split at h
  · rename_i as
    obtain ⟨vs, hv, hp⟩ := hx
    split at h
    · rename_i y hy
      simp at h
      obtain ⟨rfl, _⟩ := h
      obtain ⟨u, hu, hrel⟩ := hp.get hy
      refine upTo_val (v := u) (w' := w) ?_ (lands_pure hR hA hrel)
      rw [hv]
      simp [Instr.extract, hu]
    · simp at h
  · simp at h
theorem int_rel {E : Env} {k : IntKind} {lt : Bool} {n : Int} {v : Value} (h : AVRel D E (.v (.one (.int k lt n))) v) : v = .int k n := by
  have := h.2
  simpa [PartRel] using this
theorem bool_rel {E : Env} {lt b : Bool} {v : Value} (h : AVRel D E (.v (.one (.bool lt b))) v) : v = .bool b := by
  have := h.2
  simpa [PartRel] using this
theorem rel_int {E : Env} {k : IntKind} {lt : Bool} {n : Int} : AVRel D E (.v (.one (.int k lt n))) (.int k n) := ⟨rfl, rfl⟩
theorem rel_bool {E : Env} {lt b : Bool} : AVRel D E (.v (.one (.bool lt b))) (.bool b) := ⟨rfl, rfl⟩
theorem pair_run {x y : Operand} {k : AV D.τ → AV D.τ → Rd D.τ (Res D.τ)} {S : St D.τ} {r : Res D.τ} {l : List Ref} (h : (pair x y k).run S = some (r, l)) :
    ∃ a b l', evalA S x = some a ∧ evalA S y = some b ∧ (k a b).run S = some (r, l') := by
  unfold pair at h
  obtain ⟨a, l1, h1, h⟩ := rdA_run h
  obtain ⟨b, l2, h2, h⟩ := rdA_run h
  exact ⟨a, b, l2, h1, h2, h⟩
theorem sound_convert (s t : TypeId) (x : Operand) : Sound P D (oConvert P D s t x) (fun ρ => do pure (.value (← convert s t (ρ x)))) := by
  intro S r l h hps M w0 a w ⟨σ, ν, hR, hA⟩
  unfold oConvert at h
  obtain ⟨av, l0, hav, h⟩ := rdA_run h
  have hx := evalA_rel hA hav
  split at h
  · rename_i k0 lt n
    split at h
    · rename_i k1 k hs ht
      have hr := ok1_run h
      subst hr
      refine upTo_val (w' := w) ?_ (lands_pure hR hA rel_int)
      rw [int_rel hx]
      simp [convert, run_underlying hs, run_underlying ht, Conv.intToInt]
    · simp at h
  · simp at h
theorem arith_run {k : IntKind} {la lb : Bool} {n : Int} {S : St D.τ} {r : Res D.τ} {l : List Ref} (h : (arith k la lb n : Rd D.τ (Res D.τ)).run S = some (r, l)) (hp : ∀ p ∈ r.ps, p) :
    ∃ lt ps, r = ⟨.v (.one (.int k lt (k.wrap n))), [], ps⟩ := by
  unfold arith at h
  cases hl : (la && lb) <;> simp only [hl, cond_true, cond_false] at h
  · split at h
    · have hr := ok1_run h
      subst hr
      have hi : InI64 n := hp _ (by simp)
      refine ⟨false, [InI64 n], ?_⟩
      have : IntKind.i64.wrap n = n := by
        unfold InI64 at hi
        exact IntWalk.i64_in n hi
      rw [this]
    · have hr := ok1_run h
      exact ⟨false, _, hr⟩
  · have hr := ok1_run h
    exact ⟨true, _, hr⟩
theorem intOp_run {op : BinOp} {k : IntKind} {la lb : Bool} {m n : Int} {S : St D.τ} {r : Res D.τ} {l : List Ref} {w : World} {t : TypeId} (hs : op ≠ .shl ∧ op ≠ .shr)
    (h : (intOp op k la m lb n : Rd D.τ (Res D.τ)).run S = some (r, l)) (hp : ∀ p ∈ r.ps, p) :
    ∃ x v ps, r = ⟨.v (.one x), [], ps⟩ ∧ (binOp op t (.int k m) (.int k n)).run P w = .ok v w ∧ ∀ E, AVRel D E (.v (.one x)) v := by
  obtain ⟨hs1, hs2⟩ := hs
  cases op
  case shl => exact absurd rfl hs1
  case shr => exact absurd rfl hs2
  case add =>
    obtain ⟨lt, ps, rfl⟩ := arith_run (n := m + n) h hp
    exact ⟨_, .int k (k.wrap (m + n)), ps, rfl, by simp [binOp, Op.intArith], fun E => rel_int⟩
  case sub =>
    obtain ⟨lt, ps, rfl⟩ := arith_run (n := m - n) h hp
    exact ⟨_, .int k (k.wrap (m - n)), ps, rfl, by simp [binOp, Op.intArith], fun E => rel_int⟩
  case mul =>
    obtain ⟨lt, ps, rfl⟩ := arith_run (n := m * n) h hp
    exact ⟨_, .int k (k.wrap (m * n)), ps, rfl, by simp [binOp, Op.intArith], fun E => rel_int⟩
  case quo =>
    have hr := ok1_run (p := .int k (la && lb) (k.wrap (m.tdiv n))) h
    subst hr
    have hn : n ≠ 0 := by
      by_cases hc : (la && lb && !(n == 0)) = true
      · intro e; subst e; simp at hc
      · have hc' : (la && lb && !(n == 0)) = false := by simpa using hc
        exact hp (n ≠ 0) (by simp [hc'])
    exact ⟨_, .int k (k.wrap (m.tdiv n)), _, rfl, by simp [binOp, Op.intDiv, hn], fun E => rel_int⟩
  case rem =>
    have hr := ok1_run (p := .int k (la && lb) (m.tmod n)) h
    subst hr
    have hn : n ≠ 0 := by
      by_cases hc : (lb && !(n == 0)) = true
      · intro e; subst e; simp at hc
      · have hc' : (lb && !(n == 0)) = false := by simpa using hc
        exact hp (n ≠ 0) (by simp [hc'])
    exact ⟨_, .int k (m.tmod n), _, rfl, by simp [binOp, Op.intDiv, hn], fun E => rel_int⟩
  case and =>
    have hr := ok1_run (p := .int k (la && lb) (bitsOf .and k m n)) h
    exact ⟨_, .int k (bitsOf .and k m n), _, hr, by simp [binOp, Op.intBits, bitsOf], fun E => rel_int⟩
  case or =>
    have hr := ok1_run (p := .int k (la && lb) (bitsOf .or k m n)) h
    exact ⟨_, .int k (bitsOf .or k m n), _, hr, by simp [binOp, Op.intBits, bitsOf], fun E => rel_int⟩
  case xor =>
    have hr := ok1_run (p := .int k (la && lb) (bitsOf .xor k m n)) h
    exact ⟨_, .int k (bitsOf .xor k m n), _, hr, by simp [binOp, Op.intBits, bitsOf], fun E => rel_int⟩
  case andNot =>
    have hr := ok1_run (p := .int k (la && lb) (bitsOf .andNot k m n)) h
    exact ⟨_, .int k (bitsOf .andNot k m n), _, hr, by simp [binOp, Op.intBits, bitsOf], fun E => rel_int⟩
  case eql =>
    have hr := ok1_run (p := .bool (la && lb) (m == n)) h
    exact ⟨_, .bool (m == n), _, hr, by simp [binOp, Op.intCmp], fun E => rel_bool⟩
  case neq =>
    have hr := ok1_run (p := .bool (la && lb) (m != n)) h
    exact ⟨_, .bool (m != n), _, hr, by simp [binOp, Op.intCmp], fun E => rel_bool⟩
  case lss =>
    have hr := ok1_run (p := .bool (la && lb) (decide (m < n))) h
    exact ⟨_, .bool (decide (m < n)), _, hr, by simp [binOp, Op.intCmp], fun E => rel_bool⟩
  case leq =>
    have hr := ok1_run (p := .bool (la && lb) (decide (m ≤ n))) h
    exact ⟨_, .bool (decide (m ≤ n)), _, hr, by simp [binOp, Op.intCmp], fun E => rel_bool⟩
  case gtr =>
    have hr := ok1_run (p := .bool (la && lb) (decide (m > n))) h
    exact ⟨_, .bool (decide (m > n)), _, hr, by simp [binOp, Op.intCmp], fun E => rel_bool⟩
  case geq =>
    have hr := ok1_run (p := .bool (la && lb) (decide (m ≥ n))) h
    exact ⟨_, .bool (decide (m ≥ n)), _, hr, by simp [binOp, Op.intCmp], fun E => rel_bool⟩
theorem shiftOp_run {op : BinOp} {k k' : IntKind} {la lb : Bool} {m n : Int} {S : St D.τ} {r : Res D.τ} {l : List Ref} {w : World} {t : TypeId} (hs : op = .shl ∨ op = .shr)
    (h : (shiftOp op k la m lb n : Rd D.τ (Res D.τ)).run S = some (r, l)) (hp : ∀ p ∈ r.ps, p) :
    ∃ x v ps, r = ⟨.v (.one x), [], ps⟩ ∧ (binOp op t (.int k m) (.int k' n)).run P w = .ok v w ∧ ∀ E, AVRel D E (.v (.one x)) v := by
  have hn : (∀ p ∈ (bif lb && decide (0 ≤ n) then [] else [0 ≤ n] : List Prop), p) → ¬ n < 0 := by
    intro hq
    by_cases hc : (lb && decide (0 ≤ n)) = true
    · simp at hc; omega
    · have hc' : (lb && decide (0 ≤ n)) = false := by simpa using hc
      have : 0 ≤ n := hq _ (by simp [hc'])
      omega
  rcases hs with rfl | rfl
  · have hr := ok1_run (p := .int k (la && lb) (k.wrap (m * 2 ^ min n.toNat k.bits))) h
    subst hr
    have h0 := hn hp
    exact ⟨_, .int k (k.wrap (m * 2 ^ min n.toNat k.bits)), _, rfl, by simp [binOp, Op.shift, h0], fun E => rel_int⟩
  · have hr := ok1_run (p := .int k (la && lb) (m.fdiv (2 ^ min n.toNat k.bits))) h
    subst hr
    have h0 := hn hp
    exact ⟨_, .int k (m.fdiv (2 ^ min n.toNat k.bits)), _, rfl, by simp [binOp, Op.shift, h0], fun E => rel_int⟩
theorem run_eqGuard_int (op : BinOp) (t : TypeId) (x y : Operand) (k k' : IntKind) (m n : Int) (w : World) : (eqGuard op t x y (.int k m) (.int k' n)).run P w = .ok () w := by
  unfold eqGuard
  cases op <;> simp
theorem run_eqGuard_bool (op : BinOp) (t : TypeId) (x y : Operand) (m n : Bool) (w : World) : (eqGuard op t x y (.bool m) (.bool n)).run P w = .ok () w := by
  unfold eqGuard
  cases op <;> simp
theorem run_eqGuard_agg' (op : BinOp) (t : TypeId) (x y : Operand) (xs ys : Array Value) (w : World) (hm : P.eqGuardType P.depth t = false) : (eqGuard op t x y (.agg xs) (.agg ys)).run P w = .ok () w := by
  unfold eqGuard
  cases op <;> simp [hm]
theorem ints_all {k : IntKind} : ∀ {l l' : List Int}, l.length = l'.length → (((l.map (Value.int k)).zip (l'.map (Value.int k))).all fun c => intOf c.1 == intOf c.2) = decide (l = l')
  | [], [], _ => by simp
  | a :: l, b :: l', h => by
    have ih := ints_all (k := k) (l := l) (l' := l') (by simpa using h)
    rw [List.map_cons, List.map_cons, List.zip_cons_cons, List.all_cons, ih]
    show ((a == b) && decide (l = l')) = _
    by_cases h1 : a = b <;> by_cases h2 : l = l' <;> simp [h1, h2]
theorem eqF_rel {E : Env} : ∀ {f : Nat} {ps qs : List (Part D.τ)} {c : Bool} {xs ys : List Value},
    eqF D f ps qs = some c → PartsRel D E ps xs → PartsRel D E qs ys →
    xs.length = ys.length ∧ ((xs.zip ys).all fun c => intOf c.1 == intOf c.2) = c ∧ ∀ (i : Nat) u v, xs[i]? = some u → ys[i]? = some v → ∃ k a b, u = .int k a ∧ v = .int k b := by
  intro f
  induction f with
  | zero => intro ps qs c xs ys h; simp [eqF] at h
  | succ f ih =>
    intro ps qs c xs ys h hx hy
    have fin : ∀ {ps qs : List (Part D.τ)} {c1 c2 d1 d2 : List Value} (b c' : Bool), eqF D f ps qs = some c' → PartsRel D E ps c2 → PartsRel D E qs d2 → (b && c') = c → c1.length = d1.length → ((c1.zip d1).all fun c => intOf c.1 == intOf c.2) = b →
        (∀ (i : Nat) u v, c1[i]? = some u → d1[i]? = some v → ∃ k a b, u = .int k a ∧ v = .int k b) →
        (c1 ++ c2).length = (d1 ++ d2).length ∧ (((c1 ++ c2).zip (d1 ++ d2)).all fun c => intOf c.1 == intOf c.2) = c ∧
          ∀ (i : Nat) u v, (c1 ++ c2)[i]? = some u → (d1 ++ d2)[i]? = some v → ∃ k a b, u = .int k a ∧ v = .int k b := by
      intro ps qs c1 c2 d1 d2 b c' hc' h2 g2 hb hl hz hi
      obtain ⟨i1, i2, i3⟩ := ih hc' h2 g2
      refine ⟨by simp [hl, i1], ?_, ?_⟩
      · rw [List.zip_append hl, List.all_append, hz, i2, hb]
      · intro i u v hu hv
        by_cases hlt : i < c1.length
        · rw [List.getElem?_append_left hlt] at hu
          rw [List.getElem?_append_left (by omega)] at hv
          exact hi i u v hu hv
        · rw [List.getElem?_append_right (by omega)] at hu
          rw [List.getElem?_append_right (by omega), ← hl] at hv
          exact i3 _ u v hu hv
    unfold eqF at h
    split at h
    · rename_i hf; cases hf
    · simp only [Option.some.injEq] at h
      cases hx
      cases hy
      subst h
      simp
    · rename_i f' k lt a ps' k' lt' b qs' hf
      cases hf
      obtain ⟨c1, c2, rfl, h1, h2⟩ := hx
      obtain ⟨d1, d2, rfl, g1, g2⟩ := hy
      split at h
      · rename_i hk
        subst hk
        obtain ⟨c', hc', hb⟩ := Option.map_eq_some_iff.1 h
        simp only [PartRel] at h1 g1
        subst h1
        subst g1
        exact fin (a == b) c' hc' h2 g2 hb rfl (by simp [intOf]) (by
          intro i u v hu hv
          match i, hu, hv with
          | 0, hu, hv => simp at hu hv; exact ⟨k, a, b, hu.symm, hv.symm⟩)
      · cases h
    · rename_i f' s ps' t qs' hf
      cases hf
      obtain ⟨c1, c2, rfl, h1, h2⟩ := hx
      obtain ⟨d1, d2, rfl, g1, g2⟩ := hy
      split at h
      · rename_i b hb
        obtain ⟨l1, l2, l3⟩ := D.eqs s t b c1 d1 hb h1 g1
        split at h
        · simp only [Option.some.injEq] at h
          subst h
          cases h2
          cases g2
          simp only [List.append_nil]
          exact ⟨l1, l2, l3⟩
        · obtain ⟨c', hc', hbc⟩ := Option.map_eq_some_iff.1 h
          exact fin b c' hc' h2 g2 hbc l1 l2 l3
      · cases hb : Nat.blt (D.size t) (D.size s) <;> simp only [hb, cond_true, cond_false] at h
        · split at h
          · rename_i a b hs
            obtain ⟨e1, e2, rfl, r1, r2⟩ := D.splits t a b d1 hs g1
            exact ih h ⟨c1, c2, rfl, h1, h2⟩ ⟨e1, e2 ++ d2, by rw [List.append_assoc], r1, e2, d2, rfl, r2, g2⟩
          · cases h
        · split at h
          · rename_i a b hs
            obtain ⟨e1, e2, rfl, r1, r2⟩ := D.splits s a b c1 hs h1
            exact ih h ⟨e1, e2 ++ c2, by rw [List.append_assoc], r1, e2, c2, rfl, r2, h2⟩ ⟨d1, d2, rfl, g1, g2⟩
          · cases h
    · rename_i f' k n l ps' k' n' l' qs' hf
      cases hf
      obtain ⟨c1, c2, rfl, ⟨h0, h1⟩, h2⟩ := hx
      obtain ⟨d1, d2, rfl, ⟨g0, g1⟩, g2⟩ := hy
      split at h
      · rename_i hk
        subst hk
        cases hn : Nat.beq n n' <;> simp only [hn, cond_true, cond_false] at h
        · cases h
        have hnn := Nat.eq_of_beq_eq_true hn
        obtain ⟨c', hc', hb⟩ := Option.map_eq_some_iff.1 h
        subst h1
        subst g1
        have hll : l.length = l'.length := by omega
        exact fin (decide (l = l')) c' hc' h2 g2 hb (by simp [hll]) (ints_all hll) (by
          intro i u v hu hv
          rw [List.getElem?_map] at hu hv
          obtain ⟨a, _, rfl⟩ := Option.map_eq_some_iff.1 hu
          obtain ⟨b, _, rfl⟩ := Option.map_eq_some_iff.1 hv
          exact ⟨k, a, b, rfl, rfl⟩)
      · cases h
    · cases h
theorem eqParts_rel {E : Env} {ps qs : List (Part D.τ)} {c : Bool} {xs ys : List Value} (h : eqParts D ps qs = some c) (hx : PartsRel D E ps xs) (hy : PartsRel D E qs ys) :
    xs.length = ys.length ∧ ((xs.zip ys).all fun c => intOf c.1 == intOf c.2) = c ∧ ∀ (i : Nat) u v, xs[i]? = some u → ys[i]? = some v → ∃ k a b, u = .int k a ∧ v = .int k b := eqF_rel h hx hy
theorem takeZ_rel {E : Env} {k : IntKind} : ∀ {n : Nat} {ps r : List (Part D.τ)} {cs : List Value}, takeZ k n ps = some r → PartsRel D E ps cs → ∃ c2, cs = List.replicate n (.int k 0) ++ c2 ∧ PartsRel D E r c2
  | 0, ps, r, cs, h, hp => by
    simp only [takeZ, Option.some.injEq] at h
    subst h
    exact ⟨cs, by simp, hp⟩
  | n + 1, [], r, cs, h, hp => by simp [takeZ] at h
  | n + 1, p :: ps, r, cs, h, hp => by
    obtain ⟨c1, c2, rfl, h1, h2⟩ := hp
    unfold takeZ at h
    split at h
    · rename_i he; cases he
    · rename_i n' k' lt a ps' he1 he2
      cases he1
      cases he2
      split at h
      · rename_i hk
        subst hk
        split at h
        · rename_i a
          obtain ⟨c3, e, hr⟩ := takeZ_rel h h2
          have h1' : c1 = [.int k 0] := h1
          exact ⟨c3, by rw [h1', e, List.replicate_succ]; rfl, hr⟩
        · cases h
      · cases h
    · cases h
theorem tagify_rel {E : Env} : ∀ {f : Nat} {ps : List (Part D.τ)} {cs : List Value}, PartsRel D E ps cs → PartsRel D E (tagify D f ps) cs
  | 0, _, _, hp => hp
  | f + 1, ps, cs, hp => by
    unfold tagify
    split
    · rename_i k t hz
      split
      · rename_i r hr
        obtain ⟨c2, rfl, h2⟩ := takeZ_rel hr hp
        exact ⟨_, c2, rfl, D.zeros k t hz, tagify_rel h2⟩
      · split
        · exact hp
        · obtain ⟨c1, c2, e, h1, h2⟩ := hp
          exact ⟨c1, c2, e, h1, tagify_rel h2⟩
    · exact hp
theorem allInts_rel {E : Env} {k : IntKind} : ∀ {ps : List (Part D.τ)} {l : List Int} {cs : List Value}, allInts k ps = some l → PartsRel D E ps cs → cs = l.map (Value.int k)
  | [], l, cs, h, hp => by
    simp [allInts] at h
    subst h
    cases hp
    rfl
  | p :: ps, l, cs, h, hp => by
    obtain ⟨c1, c2, rfl, h1, h2⟩ := hp
    unfold allInts at h
    split at h
    · rename_i he; cases he
    · rename_i k' lt n ps' he
      simp only [List.cons.injEq] at he
      obtain ⟨rfl, rfl⟩ := he
      split at h
      · rename_i hk
        subst hk
        obtain ⟨l', hl', rfl⟩ := Option.map_eq_some_iff.1 h
        simp only [PartRel] at h1
        rw [allInts_rel hl' h2, h1]
        rfl
      · cases h
    · rename_i k' l' he
      simp only [List.cons.injEq] at he
      obtain ⟨rfl, rfl⟩ := he
      split at h
      · rename_i hk
        subst hk
        simp only [Option.some.injEq] at h
        subst h
        cases h2
        simpa [PartRel] using h1
      · cases h
    · rename_i k' l' ps' _ he
      simp only [List.cons.injEq] at he
      obtain ⟨rfl, rfl⟩ := he
      split at h
      · rename_i hk
        subst hk
        obtain ⟨l2, hl2, rfl⟩ := Option.map_eq_some_iff.1 h
        simp only [PartRel] at h1
        rw [allInts_rel hl2 h2, h1, List.map_append]
      · cases h
    · rename_i k' n' l' _ he
      simp only [List.cons.injEq] at he
      obtain ⟨rfl, rfl⟩ := he
      split at h
      · rename_i hk
        subst hk
        simp only [Option.some.injEq] at h
        subst h
        cases h2
        simpa [PartRel] using h1.2
      · cases h
    · rename_i k' n' l' ps' _ _ he
      simp only [List.cons.injEq] at he
      obtain ⟨rfl, rfl⟩ := he
      split at h
      · rename_i hk
        subst hk
        obtain ⟨l2, hl2, rfl⟩ := Option.map_eq_some_iff.1 h
        rw [allInts_rel hl2 h2, h1.2, List.map_append]
      · cases h
    · cases h
theorem eqParts2_rel {E : Env} {n : Nat} {ps qs : List (Part D.τ)} {c : Bool} {cs : List Prop} {xs ys : List Value} (h : eqParts2 D n ps qs = some (c, cs)) (hcs : ∀ p ∈ cs, p) (hx : PartsRel D E ps xs) (hy : PartsRel D E qs ys) :
    xs.length = ys.length ∧ ((xs.zip ys).all fun c => intOf c.1 == intOf c.2) = c ∧ (∀ (i : Nat) u v, xs[i]? = some u → ys[i]? = some v → ∃ k a b, u = .int k a ∧ v = .int k b) ∧ xs.length = n := by
  unfold eqParts2 at h
  split at h
  · rename_i k l k' l'
    split at h
    · rename_i hk
      subst hk
      simp only [Option.some.injEq, Prod.mk.injEq] at h
      obtain ⟨rfl, rfl⟩ := h
      have h1 : l.length = l'.length := hcs _ (by simp)
      have h2 : l.length = n := hcs _ (by simp)
      obtain ⟨a1, a2, rfl, ha, ha2⟩ := hx
      obtain ⟨b1, b2, rfl, hb, hb2⟩ := hy
      cases ha2
      cases hb2
      have ha' : a1 = l.map (Value.int k) := ha
      have hb' : b1 = l'.map (Value.int k) := hb
      subst ha'
      subst hb'
      simp only [List.append_nil]
      refine ⟨by simp [h1], ints_all h1, fun i u v hu hv => ?_, by simp [h2]⟩
      rw [List.getElem?_map] at hu hv
      obtain ⟨a, _, rfl⟩ := Option.map_eq_some_iff.1 hu
      obtain ⟨b, _, rfl⟩ := Option.map_eq_some_iff.1 hv
      exact ⟨k, a, b, rfl, rfl⟩
    · cases h
  · cases hb : Nat.beq (ps.map (psize D)).sum n <;> simp only [hb, cond_true, cond_false] at h
    · cases h
    · have hn := Nat.eq_of_beq_eq_true hb
      rw [← hx.len] at hn
      split at h
      · rename_i c' hc
        simp only [Option.some.injEq, Prod.mk.injEq] at h
        obtain ⟨rfl, rfl⟩ := h
        obtain ⟨e1, e2, e3⟩ := eqParts_rel hc hx hy
        exact ⟨e1, e2, e3, hn⟩
      · split at h
        · rename_i c' hc
          simp only [Option.some.injEq, Prod.mk.injEq] at h
          obtain ⟨rfl, rfl⟩ := h
          obtain ⟨e1, e2, e3⟩ := eqParts_rel hc (tagify_rel hx) (tagify_rel hy)
          exact ⟨e1, e2, e3, hn⟩
        · cases hb2 : Nat.beq (qs.map (psize D)).sum n <;> simp only [hb2, cond_true, cond_false] at h
          · cases h
          · have hn2 := Nat.eq_of_beq_eq_true hb2
            rw [← hy.len] at hn2
            split at h
            · rename_i k _
              split at h
              · rename_i l hl
                split at h
                · rename_i l' hl'
                  simp only [Option.some.injEq, Prod.mk.injEq] at h
                  obtain ⟨rfl, rfl⟩ := h
                  have hx' := allInts_rel hl hx
                  have hy' := allInts_rel hl' hy
                  subst hx'
                  subst hy'
                  have h1 : l.length = l'.length := by
                    rw [List.length_map] at hn hn2
                    omega
                  refine ⟨by simp [h1], ints_all h1, fun i u v hu hv => ?_, hn⟩
                  rw [List.getElem?_map] at hu hv
                  obtain ⟨a, _, rfl⟩ := Option.map_eq_some_iff.1 hu
                  obtain ⟨b, _, rfl⟩ := Option.map_eq_some_iff.1 hv
                  exact ⟨k, a, b, rfl, rfl⟩
                · cases h
              · cases h
            · cases h
theorem run_eq_agg {op : BinOp} {t : TypeId} {x y : Operand} {xs ys : List Value} {c : Bool} {w : World} (hE : EqT P t) (hop : op = .eql ∨ op = .neq)
    (hl : xs.length = ys.length) (hz : ((xs.zip ys).all fun c => intOf c.1 == intOf c.2) = c)
    (hi : ∀ (i : Nat) u v, xs[i]? = some u → ys[i]? = some v → ∃ k a b, u = .int k a ∧ v = .int k b) (hs : xs.length = (szOf P t).getD 0) :
    (do eqGuard op t x y (.agg xs.toArray) (.agg ys.toArray); binOp op t (.agg xs.toArray) (.agg ys.toArray) : Sem Value).run P w = .ok (.bool (match op with | .eql => c | _ => !c)) w := by
  obtain ⟨h1, h2⟩ := hE w xs ys hl hs hi
  rw [hz] at h1
  rcases hop with rfl | rfl
  · simp [run_eqGuard_agg' _ _ _ _ _ _ _ h2, binOp, h1]
  · simp [run_eqGuard_agg' _ _ _ _ _ _ _ h2, binOp, h1]
theorem run_bin_bool_eql {t : TypeId} {m n : Bool} {w : World} (ht : P.underlying t = some .bool) : (binOp .eql t (.bool m) (.bool n)).run P w = .ok (.bool (m == n)) w := by
  simp only [binOp]
  simp [Op.equal, Op.maxDepth, run_equalIn_bool' w 9999 t m n ht]
theorem run_bin_bool_neq {t : TypeId} {m n : Bool} {w : World} (ht : P.underlying t = some .bool) : (binOp .neq t (.bool m) (.bool n)).run P w = .ok (.bool (!(m == n))) w := by
  simp only [binOp]
  simp [Op.equal, Op.maxDepth, run_equalIn_bool' w 9999 t m n ht]
def valOf (s : Sem Value) : Sem Next := do pure (Next.value (← s))
theorem run_slice_nil {t e : TypeId} {ao : Option Addr} {n c : Nat} {w : World} (ht : P.underlying t = some (.slice e)) : (Op.equal t (.slice ao n c) (.slice none 0 0)).run P w = .ok ao.isNone w := by
  unfold Op.equal Op.maxDepth Op.equalIn
  cases ao <;> simp [run_underlying ht]
theorem run_eq_slice {op : BinOp} {t e : TypeId} {x y : Operand} {ao : Option Addr} {n c : Nat} {w : World} (ht : P.underlying t = some (.slice e)) (hop : op = .eql ∨ op = .neq) :
    (do eqGuard op t x y (.slice ao n c) (.slice none 0 0); binOp op t (.slice ao n c) (.slice none 0 0) : Sem Value).run P w = .ok (.bool (bif op == .eql then ao.isNone else !ao.isNone)) w := by
  rcases hop with rfl | rfl
  · simp [eqGuard, binOp, run_slice_nil ht]
  · simp [eqGuard, binOp, run_slice_nil ht]
    rfl
theorem sound_bin (op : BinOp) (t : TypeId) (x y : Operand) : Sound P D (oBin P D op t x y) (fun ρ => valOf (do eqGuard op t x y (ρ x) (ρ y); binOp op t (ρ x) (ρ y))) := by
  intro S r l h hps M w0 a w ⟨σ, ν, hR, hA⟩
  unfold oBin at h
  obtain ⟨av, bv, l0, hav, hbv, h⟩ := pair_run h
  have hx := evalA_rel hA hav
  have hy := evalA_rel hA hbv
  split at h
  · rename_i k la m k' lb n
    have hx' := int_rel hx
    have hy' := int_rel hy
    have fin : ∀ {z v ps}, r = ⟨.v (.one z), [], ps⟩ → (binOp op t (.int k m) (.int k' n)).run P w = .ok v w → (∀ E, AVRel D E (.v (.one z)) v) →
        UpTo P (Lands M w0 S a r) ((valOf (do eqGuard op t x y (a.eval x) (a.eval y); binOp op t (a.eval x) (a.eval y))).run P w) := by
      rintro z v ps rfl hr hv
      refine upTo_val (v := v) (w' := w) ?_ (lands_pure hR hA (hv _))
      rw [hx', hy']
      simp only [Sem.run_bind, run_eqGuard_int, Result.andThen_ok, hr]
    split at h
    · obtain ⟨z, v, ps, e1, e2, e3⟩ := shiftOp_run (P := P) (k' := k') (w := w) (t := t) (.inl rfl) h hps
      exact fin e1 e2 e3
    · obtain ⟨z, v, ps, e1, e2, e3⟩ := shiftOp_run (P := P) (k' := k') (w := w) (t := t) (.inr rfl) h hps
      exact fin e1 e2 e3
    · rename_i op' h1 h2
      split at h
      · rename_i hk
        subst hk
        obtain ⟨z, v, ps, e1, e2, e3⟩ := intOp_run (P := P) (w := w) (t := t) ⟨h1, h2⟩ h hps
        exact fin e1 e2 e3
      · simp at h
  · rename_i la m lb n
    have hx' := bool_rel hx
    have hy' := bool_rel hy
    split at h
    · rename_i ht _
      have hr := ok1_run h
      subst hr
      refine upTo_val (v := .bool (m == n)) (w' := w) ?_ (lands_pure hR hA rel_bool)
      rw [hx', hy']
      simp only [Sem.run_bind, run_eqGuard_bool, Result.andThen_ok, run_bin_bool_eql ht]
    · rename_i ht _
      have hr := ok1_run h
      subst hr
      refine upTo_val (v := .bool (!(m == n))) (w' := w) ?_ (lands_pure hR hA rel_bool)
      rw [hx', hy']
      simp only [Sem.run_bind, run_eqGuard_bool, Result.andThen_ok, run_bin_bool_neq ht]
    · simp at h
  · rename_i ps qs
    obtain ⟨xs, hxe, hxp⟩ := hx
    obtain ⟨ys, hye, hyp⟩ := hy
    split at h
    · rename_i c cs hc _
      have hr := ok1_run h
      subst hr
      have hE : EqT P t := hps _ (by simp)
      obtain ⟨e1, e2, e3, hs⟩ := eqParts2_rel hc (fun p hp => hps p (List.mem_cons_of_mem _ hp)) hxp hyp
      refine upTo_val (v := .bool c) (w' := w) ?_ (lands_pure hR hA rel_bool)
      rw [hxe, hye]
      exact run_eq_agg hE (.inl rfl) e1 e2 e3 hs
    · rename_i c cs hc _
      have hr := ok1_run h
      subst hr
      have hE : EqT P t := hps _ (by simp)
      obtain ⟨e1, e2, e3, hs⟩ := eqParts2_rel hc (fun p hp => hps p (List.mem_cons_of_mem _ hp)) hxp hyp
      refine upTo_val (v := .bool (!c)) (w' := w) ?_ (lands_pure hR hA rel_bool)
      rw [hxe, hye]
      exact run_eq_agg hE (.inr rfl) e1 e2 e3 hs
    · simp at h
  · obtain ⟨_, hx2⟩ := hx
    obtain ⟨_, hy2⟩ := hy
    have hx' : a.eval x = .slice none 0 0 := by simpa [PartRel] using hx2
    have hy' : a.eval y = .slice none 0 0 := by simpa [PartRel] using hy2
    split at h
    · rename_i ht _
      have hr := ok1_run h
      subst hr
      refine upTo_val (v := .bool true) (w' := w) ?_ (lands_pure hR hA rel_bool)
      rw [hx', hy']
      exact run_eq_slice ht (.inl rfl)
    · rename_i ht _
      have hr := ok1_run h
      subst hr
      refine upTo_val (v := .bool false) (w' := w) ?_ (lands_pure hR hA rel_bool)
      rw [hx', hy']
      exact run_eq_slice ht (.inr rfl)
    · simp at h
  · obtain ⟨_, ad, n, c, hx2, _⟩ := hx
    obtain ⟨_, hy2⟩ := hy
    have hx' : a.eval x = .slice (some ad) n c := by simpa using hx2
    have hy' : a.eval y = .slice none 0 0 := by simpa [PartRel] using hy2
    split at h
    · rename_i ht _
      have hr := ok1_run h
      subst hr
      refine upTo_val (v := .bool false) (w' := w) ?_ (lands_pure hR hA rel_bool)
      rw [hx', hy']
      exact run_eq_slice ht (.inl rfl)
    · rename_i ht _
      have hr := ok1_run h
      subst hr
      refine upTo_val (v := .bool true) (w' := w) ?_ (lands_pure hR hA rel_bool)
      rw [hx', hy']
      exact run_eq_slice ht (.inr rfl)
    · simp at h
  · simp at h
theorem sound_un (op : UnOp) (x : Operand) : Sound P D (oUn D op x) (fun ρ => do pure (.value (← Op.unary op (ρ x)))) := by
  intro S r l h hps M w0 a w ⟨σ, ν, hR, hA⟩
  unfold oUn at h
  obtain ⟨av, l0, hav, h⟩ := rdA_run h
  have hx := evalA_rel hA hav
  split at h
  · rename_i lt b
    split at h
    · have hr := ok1_run h
      subst hr
      refine upTo_val (v := .bool (!b)) (w' := w) ?_ (lands_pure hR hA rel_bool)
      rw [bool_rel hx]
      simp [Op.unary]
    · simp at h
  · rename_i k lt n
    split at h
    · obtain ⟨lt', ps, rfl⟩ := arith_run h hps
      refine upTo_val (v := .int k (k.wrap (0 - n))) (w' := w) ?_ (lands_pure hR hA rel_int)
      rw [int_rel hx]
      simp [Op.unary, Op.intArith]
    · have hr := ok1_run h
      subst hr
      refine upTo_val (v := .int k (bitsOf .xor k (if k.signed then -1 else k.max) n)) (w' := w) ?_ (lands_pure hR hA rel_int)
      rw [int_rel hx]
      simp [Op.unary, Op.intBits, bitsOf]
    · simp at h
  · simp at h
theorem words_wref {M : Nat → Prop} {w0 : World} {k : IntKind} {l : List Int} {i : Nat} {ao : Option Addr} {cap n : Nat} (h : SlRel M w0 k l (.slice ao n cap)) (hi : i < l.length) :
    ∃ b off, ao = some ⟨b, off, none⟩ ∧ n = l.length ∧ ¬ M b ∧ w0.cell? ⟨b, off + i, none⟩ = some (.int k (l.getD i 0)) := by
  obtain ⟨ao', cap', e, h1, h2, _, h3⟩ := h
  simp only [Value.slice.injEq] at e
  obtain ⟨rfl, rfl, rfl⟩ := e
  obtain ⟨b, off, e1, e2, e3⟩ := h3 i hi
  exact ⟨b, off, e1, rfl, e2, e3⟩
theorem run_indexAt_slice {t e : TypeId} {b off n cap s : Nat} {k : IntKind} {i : Int} {w : World} (ht : P.underlying t = some (.slice e)) (hs : szOf P e = some s) (h0 : 0 ≤ i) (h1 : i < n) :
    (Instr.indexAt t (.slice (some ⟨b, off, none⟩) n cap) (.int k i)).run P w = .ok (.pointer (some ⟨b, off + i.toNat * s, none⟩)) w := by
  unfold Instr.indexAt
  simp [asIntOf, run_underlying ht, h0, h1, run_sizeOfB hs, Addr.add_lit]
theorem run_indexAt_array {t e : TypeId} {b off n s : Nat} {k : IntKind} {i : Int} {w : World} (ht : P.underlying t = some (.array n e)) (hs : szOf P e = some s) (h0 : 0 ≤ i) (h1 : i < n) :
    (Instr.indexAt t (.pointer (some ⟨b, off, none⟩)) (.int k i)).run P w = .ok (.pointer (some ⟨b, off + i.toNat * s, none⟩)) w := by
  unfold Instr.indexAt
  simp [asIntOf, run_underlying ht, Instr.sureAddr, h0, h1, run_sizeOfB hs, Addr.add_lit]
theorem sound_indexAddr (t : TypeId) (x y : Operand) : Sound P D (oIndexAddr P D t x y) (fun ρ => do pure (.value (← Instr.indexAt t (ρ x) (ρ y)))) := by
  intro S r l h hps M w0 a w ⟨σ, ν, hR, hA⟩
  unfold oIndexAddr at h
  obtain ⟨av, bv, l0, hav, hbv, h⟩ := pair_run h
  have hx := evalA_rel hA hav
  have hy := evalA_rel hA hbv
  split at h
  · rename_i k lit i
    have hy' := int_rel hy
    split at h
    · rename_i n e b off ht
      obtain ⟨hone, hal, hv⟩ := hx
      simp only [List.cons.injEq, and_true] at hv
      split at h
      · rename_i s hs
        have fin : ∀ {ps}, 0 ≤ i → i < n → r = ⟨.v (.one (.ref b (off + i.toNat * s))), [], ps⟩ → UpTo P (Lands M w0 S a r) ((do pure (Next.value (← Instr.indexAt t (a.eval x) (a.eval y))) : Sem Next).run P w) := by
          rintro ps h0 h1 rfl
          refine upTo_val (w' := w) ?_ (lands_pure hR hA ⟨rfl, hal, rfl⟩)
          rw [hy', hv]
          exact run_indexAt_array ht hs h0 h1
        cases lit <;> simp only [cond_true, cond_false] at h
        · have hr := ok1_run h
          subst hr
          exact fin (hps _ (by simp)) (hps _ (by simp)) rfl
        · by_cases hc : (decide (0 ≤ i) && decide (i < n)) = true
          · rw [hc] at h
            simp only [cond_true] at h
            have hr := ok1_run h
            simp at hc
            exact fin hc.1 hc.2 hr
          · have hc' : (decide (0 ≤ i) && decide (i < n)) = false := by simpa using hc
            rw [hc'] at h
            simp at h
      · simp at h
    · rename_i e k2 il ht
      obtain ⟨hone, u, hu, M1, W1, hB, hsl⟩ := hx
      simp only [List.cons.injEq, and_true] at hu
      split at h
      · rename_i hs
        have hr := ok1_run h
        subst hr
        have h0 : 0 ≤ i := hps _ (by simp)
        have h1 : i < il.length := hps _ (by simp)
        rw [← hu] at hsl
        obtain ⟨ao, cap, e1, _⟩ := id hsl
        rw [e1] at hsl
        obtain ⟨b, off, rfl, _, hm, hc⟩ := words_wref (i := i.toNat) hsl (by omega)
        refine upTo_val (w' := w) ?_ (lands_pure hR hA ⟨rfl, _, rfl, M1, W1, hB, rfl, hm, hc⟩)
        rw [hy', e1]
        have := run_indexAt_slice (P := P) (b := b) (off := off) (cap := cap) (k := k) (w := w) ht hs h0 h1
        simpa using this
      · simp at h
    · rename_i e k2 il ht
      obtain ⟨hone, u, hu, hsl⟩ := hx
      simp only [List.cons.injEq, and_true] at hu
      split at h
      · rename_i hs
        have hr := ok1_run h
        subst hr
        have h0 : 0 ≤ i := hps _ (by simp)
        have h1 : i < il.length := hps _ (by simp)
        rw [← hu] at hsl
        obtain ⟨ao, cap, e1, _, _, _, h3⟩ := hsl
        obtain ⟨b, off, uu, rfl, hm, hc, hr2⟩ := h3 i.toNat (by omega)
        refine upTo_val (w' := w) ?_ (lands_pure hR hA ⟨rfl, _, uu, rfl, rfl, hm, hc, hr2⟩)
        rw [hy', e1]
        have := run_indexAt_slice (P := P) (b := b) (off := off) (cap := cap) (k := k) (w := w) ht hs h0 h1
        simpa using this
      · simp at h
    · rename_i e b ht
      obtain ⟨hone, hal, h1c, hv⟩ := hx
      simp only [List.cons.injEq, and_true] at hv
      split at h
      · rename_i hs
        obtain ⟨l2, h⟩ := box_run h
        have hb := hR.boxes b
        split at h
        · rename_i e2 k2 il hbx
          have hr := ok1_run h
          subst hr
          have h0 : 0 ≤ i := hps _ (by simp)
          have h1 : i < il.length := hps _ (by simp)
          rw [hbx] at hb
          obtain ⟨n', xs, hown, hp, _⟩ := hb
          simp only [PartRel] at hp
          subst hp
          have hown' : w.ownsL 0 e2 1 (ν b) n' (il.map (Value.int k2)) := hown
          have hn' : il.length = n' := by have := hown'.1; simpa using this
          rcases hown'.2 with ⟨hn, hz⟩ | ⟨g, cap, cur, hνe, _⟩
          · omega
          · have hv' : a.eval x = .slice (some ⟨g, 0, none⟩) n' cap := by rw [hv]; exact hνe
            refine upTo_val (w' := w) ?_ (lands_pure hR hA ⟨rfl, hal, g, by show (ν b).ownBlock = _; rw [hνe]; rfl, rfl⟩)
            rw [hy', hv']
            have := run_indexAt_slice (P := P) (b := g) (off := 0) (cap := cap) (n := n') (k := k) (w := w) ht hs h0 (by omega)
            simpa using this
        · simp at h
      · simp at h
    · rename_i e b off n cap ht
      obtain ⟨hone, hal, _, _, hv⟩ := hx
      simp only [List.cons.injEq, and_true] at hv
      split at h
      · rename_i hs
        have fin : ∀ {ps}, 0 ≤ i → i < n → r = ⟨.v (.one (.ref b (off + i.toNat))), [], ps⟩ → UpTo P (Lands M w0 S a r) ((do pure (Next.value (← Instr.indexAt t (a.eval x) (a.eval y))) : Sem Next).run P w) := by
          rintro ps h0 h1 rfl
          refine upTo_val (w' := w) ?_ (lands_pure hR hA ⟨rfl, hal, rfl⟩)
          rw [hy', hv]
          have := run_indexAt_slice (P := P) (b := σ b) (off := off) (cap := cap) (k := k) (w := w) ht hs h0 h1
          rw [Nat.mul_one] at this
          exact this
        cases lit <;> simp only [cond_true, cond_false] at h
        · have hr := ok1_run h
          subst hr
          exact fin (hps _ (by simp)) (hps _ (by simp)) rfl
        · by_cases hc : (decide (0 ≤ i) && decide (i < n)) = true
          · rw [hc] at h
            simp only [cond_true] at h
            have hr := ok1_run h
            simp at hc
            exact fin hc.1 hc.2 hr
          · have hc' : (decide (0 ≤ i) && decide (i < n)) = false := by simpa using hc
            rw [hc'] at h
            simp at h
      · simp at h
    · simp at h
  · simp at h
theorem sound_index (t : TypeId) (x y : Operand) : Sound P D (oIndex P D t x y) (fun ρ => do pure (.value (← Instr.index t (ρ x) (ρ y)))) := fun _ _ _ h => (run_fail.1 h).elim
theorem bnd_run {α : Type} {hh : Option Operand} {d : Int} {k : Int → Rd D.τ α} {S : St D.τ} {r : α} {l : List Ref} (h : (bnd hh d k).run S = some (r, l)) :
    (∃ l', hh = none ∧ (k d).run S = some (r, l')) ∨ ∃ y kd lt i l', hh = some y ∧ evalA S y = some (.v (.one (.int kd lt i))) ∧ (k i).run S = some (r, l') := by
  unfold bnd at h
  split at h
  · exact .inl ⟨l, rfl, h⟩
  · rename_i y
    obtain ⟨av, l0, hav, h⟩ := rdA_run h
    split at h
    · rename_i kd lt i
      exact .inr ⟨y, kd, lt, i, l0, rfl, hav, h⟩
    · simp at h
inductive Bnd (d : Int) : Option Value → Int → Prop where
  | none : Bnd d none d
  | some (k : IntKind) (i : Int) : Bnd d (some (.int k i)) i
theorem run_slice_bnd {t e : TypeId} {ao : Option Addr} {len cap s : Nat} {lo hi : Option Value} {l h : Int} {w : World} (ht : P.underlying t = some (.slice e)) (hs : szOf P e = some s)
    (hlo : Bnd 0 lo l) (hhi : Bnd len hi h) (h0 : 0 ≤ l) (h1 : l ≤ h) (h2 : h ≤ cap) :
    (Instr.sliceAt t (.slice ao len cap) lo hi none).run P w = .ok (sliced ao l.toNat h.toNat cap s) w := by
  have eh : (h.toNat : Int) = h := Int.toNat_of_nonneg (by omega)
  have h0' : 0 ≤ h := by omega
  cases hlo <;> cases hhi <;>
    simp [Instr.sliceAt, Instr.slice, run_underlying ht, Instr.sliceBounds, run_sliceBound, sliced, run_sizeOfB hs, h0, h0', h1, h2, eh]
end
end Go.Abs
