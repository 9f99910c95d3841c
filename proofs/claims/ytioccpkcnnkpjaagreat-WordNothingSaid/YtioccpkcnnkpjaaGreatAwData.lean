/-
  The abstract data of this claim's own layer: what a Go value says, without addresses; and when a value of the model, in a world, says it.
-/
import Derived.RangeFuncRecord
import Derived.WalkKit
namespace Go.Aw
set_option maxRecDepth 100000
set_option linter.unusedSimpArgs false
set_option linter.unusedVariables false
open Go

/-- A leaf of plain data: integers, truth values, texts, slices that nobody writes any more (rows of k leaves), the nil pointer. -/
inductive D where
  | int (k : IntKind) (n : Int)
  | bool (b : Bool)
  | str (l : List UInt8)
  | sl (k : Nat) (xs : List (List D))
  | nilp
  | nilif
  deriving Inhabited

def D.scal : D → Bool
  | .sl _ _ => false
  | _ => true

/-- The one value that says a leaf that leans on no memory. -/
def valD : D → Value
  | .int k n => .int k n
  | .bool b => .bool b
  | .str l => .string ⟨l.toArray⟩
  | .sl _ _ => .nilFunc
  | .nilp => .pointer none
  | .nilif => .nilIface

/-- What a map holds: leaves, in the order in which they came. -/
def esOk (es : List (D × D)) (mes : Array MapEntry) : Prop :=
  (es.all fun p => p.1.scal && p.2.scal) = true ∧ mes.toList.map (fun e => (e.key, e.val)) = es.map fun p => (valD p.1, valD p.2)

/-- An abstract value: data, or a reference into the private heap (by a name, a number). -/
inductive AV where
  | d (x : D)
  | agg (cs : List AV)
  | tup (vs : List AV)
  | nils (k : Nat)
  | dp (cs : List AV)
  | vp (i off : Nat)
  | ap (i n k r off : Nat)
  | osl (i k n off len : Nat)
  | vsl (i k off len : Nat)
  | asl (k : Nat) (xs : List (List AV))
  | fn (f : Fn) (first cap : List AV)
  | nilfn
  | any
  | map (i : Nat)
  | nilmap
  | raw (v : Value)
  | tp (i off : Nat)
  | bsl (i n : Nat)
  | itr (i : Nat)
  | iface (t : Nat) (v : AV)
  deriving Inhabited

/-- An object of the private heap. -/
inductive AObj where
  | var (cs : List AV)
  | arr (k : Nat) (xs : List (List D))
  | strit (l : List UInt8) (pos : Nat)
  | omap (es : List (D × D))
  | tvar (t : TypeId) (cs : List AV)
  | buf (t : TypeId) (xs : List UInt8)
  deriving Inhabited

abbrev AHeap := List (Nat × AObj)

def hget : AHeap → Nat → Option AObj
  | [], _ => none
  | (k, o) :: r, n => if k = n then some o else hget r n

def hset : AHeap → Nat → AObj → AHeap
  | [], _, _ => []
  | (k, o) :: r, n, o' => if k = n then (k, o') :: r else (k, o) :: hset r n o'

def hdel : AHeap → Nat → AHeap
  | [], _ => []
  | (k, o) :: r, n => if k = n then hdel r n else (k, o) :: hdel r n

/-- A name that is not taken, from fl on: behind all others. -/
def top (fl : Nat) : AHeap → Nat
  | [] => fl
  | (k, _) :: r => if top fl r ≤ k then k + 1 else top fl r
/-- A name that is not taken, from fl on: fl, if it is not taken. -/
def fresh (fl : Nat) (h : AHeap) : Nat := if (hget h fl).isSome = true then top fl h else fl

/-- How the names stand to blocks: O: an array's or variable's block (none: a nil slice); C: an array's capacity; M: blocks that others may write while one yields; N: blocks that nothing of mine may share. -/
structure Env where
  O : Nat → Option Nat
  C : Nat → Nat
  M : Nat → Prop
  N : Nat → Prop

def Own (E : Env) (h : AHeap) (b : Nat) : Prop := ∃ i, (hget h i).isSome ∧ E.O i = some b
def Xs (E : Env) (h : AHeap) (b : Nat) : Prop := Own E h b ∨ E.M b ∨ E.N b

/-! ### Data in a world -/
mutual
def RepD (W : World) (X : Nat → Prop) : D → Value → Prop
  | .int k n, v => v = .int k n
  | .bool b, v => v = .bool b
  | .str l, v => v = .string ⟨l.toArray⟩
  | .sl k xs, v => (xs = [] ∧ ∃ a cap, v = .slice a 0 cap) ∨
      (∃ a cap c T fz, v = .slice (some a) xs.length cap ∧ a.spot = none ∧ xs.length ≤ cap ∧ ¬ X a.block ∧ W.heap[a.block]? = some (.cells c T fz) ∧ RepRows W X k xs (c.toList.drop a.off))
  | .nilp, v => v = .pointer none
  | .nilif, v => v = .nilIface
def RepDs (W : World) (X : Nat → Prop) : List D → List Value → Prop
  | [], vs => vs = []
  | x :: xs, vs => ∃ v r, vs = v :: r ∧ RepD W X x v ∧ RepDs W X xs r
def RepRows (W : World) (X : Nat → Prop) (k : Nat) : List (List D) → List Value → Prop
  | [], _ => True
  | r :: rs, vs => r.length = k ∧ RepDs W X r (vs.take k) ∧ RepRows W X k rs (vs.drop k)
end

mutual
def Rep (W : World) (E : Env) (h : AHeap) : AV → Value → Prop
  | .d x, v => RepD W (Xs E h) x v
  | .agg cs, v => ∃ vs, v = .agg vs ∧ Reps W E h cs vs.toList
  | .tup cs, v => ∃ vs, v = .tuple vs ∧ Reps W E h cs vs.toList
  | .nils _, v => v = .slice none 0 0
  | .dp cs, v => ∃ a c T fz, v = .pointer (some a) ∧ a.spot = none ∧ ¬ Xs E h a.block ∧ W.heap[a.block]? = some (.cells c T fz) ∧ Reps W E h cs ((c.toList.drop a.off).take cs.length)
  | .vp i off, v => ∃ b cs, hget h i = some (.var cs) ∧ E.O i = some b ∧ v = .pointer (some ⟨b, off, none⟩)
  | .ap i n k r off, v => (∃ p, v = .pointer p) ∧ ∃ xs, hget h i = some (.arr k xs) ∧ n ≤ xs.length ∧ (xs.length = n → ∃ b, E.O i = some b ∧ v = .pointer (some ⟨b, r * k + off, none⟩))
  | .osl i k n off len, v => (∃ p l c, v = .slice p l c) ∧ ∃ xs, hget h i = some (.arr k xs) ∧ n ≤ xs.length ∧ off + len ≤ n ∧ (xs.length = n →
      ((E.O i = none ∧ n = 0) ∧ v = .slice none 0 0) ∨ (∃ b, E.O i = some b ∧ v = .slice (some ⟨b, off * k, none⟩) len (E.C i - off)) ∨ (off ≠ 0 ∧ len = 0 ∧ ∃ a cap, v = .slice a 0 cap))
  | .vsl i k off len, v => ∃ b cs, hget h i = some (.var cs) ∧ E.O i = some b ∧ off + len * k ≤ cs.length ∧ v = .slice (some ⟨b, off, none⟩) len len
  | .asl k xs, v => ∃ a cap c T fz, v = .slice (some a) xs.length cap ∧ a.spot = none ∧ xs.length ≤ cap ∧ ¬ Xs E h a.block ∧ W.heap[a.block]? = some (.cells c T fz) ∧ RepARows W E h k xs (c.toList.drop a.off)
  | .fn f fs cs, v => ∃ a b, v = .func f a b ∧ Reps W E h fs a.toList ∧ Reps W E h cs b.toList
  | .nilfn, v => v = .nilFunc
  | .any, _ => True
  | .map i, v => ∃ b es, hget h i = some (.omap es) ∧ E.O i = some b ∧ v = .map (some b)
  | .nilmap, v => v = .map none
  | .raw u, v => v = u
  | .tp i off, v => ∃ b t cs, hget h i = some (.tvar t cs) ∧ E.O i = some b ∧ v = .pointer (some ⟨b, off, none⟩)
  | .bsl i n, v => (∃ p l c, v = .slice p l c) ∧ ∃ t xs, hget h i = some (.buf t xs) ∧ n ≤ xs.length ∧ (xs.length = n → ((E.O i = none ∧ n = 0) ∧ v = .slice none 0 0) ∨ (∃ b, E.O i = some b ∧ v = .slice (some ⟨b, 0, none⟩) n (E.C i)))
  | .itr i, v => ∃ b l p, hget h i = some (.strit l p) ∧ E.O i = some b ∧ v = .pointer (some ⟨b, 0, none⟩)
  | .iface t a, v => ∃ x, v = .iface t x ∧ Rep W E h a x
def Reps (W : World) (E : Env) (h : AHeap) : List AV → List Value → Prop
  | [], vs => vs = []
  | x :: xs, vs => ∃ v r, vs = v :: r ∧ Rep W E h x v ∧ Reps W E h xs r
def RepARows (W : World) (E : Env) (h : AHeap) (k : Nat) : List (List AV) → List Value → Prop
  | [], _ => True
  | r :: rs, vs => r.length = k ∧ Reps W E h r (vs.take k) ∧ RepARows W E h k rs (vs.drop k)
end

def unfrozen (fz : Nat × Nat) (n : Nat) : Prop := ∀ o, o < n → ¬ (fz.1 ≤ o ∧ o < fz.2)

/-- An array of that length is one that is told of no more. -/
def deadLen : Nat := 9223372036854775808

def RepObj (W : World) (E : Env) (h : AHeap) (i : Nat) : AObj → Prop
  | .var cs => ∃ b c T fz, E.O i = some b ∧ W.heap[b]? = some (.cells c T fz) ∧ Reps W E h cs c.toList ∧ unfrozen fz c.size
  | .arr k xs => (E.O i = none ∧ (xs = [] ∨ xs.length = deadLen)) ∨ (∃ b c T fz, E.O i = some b ∧ W.heap[b]? = some (.cells c T fz) ∧ c.size = E.C i * k ∧ xs.length ≤ E.C i ∧ RepRows W (Xs E h) k xs c.toList ∧ unfrozen fz c.size)
  | .strit l p => ∃ b, E.O i = some b ∧ W.heap[b]? = some (.stringIter ⟨l.toArray⟩ p)
  | .omap es => ∃ b mes clock, E.O i = some b ∧ W.heap[b]? = some (.map mes clock) ∧ esOk es mes
  | .tvar t cs => ∃ b c T fz, E.O i = some b ∧ W.heap[b]? = some (.cells c T fz) ∧ Reps W E h cs c.toList ∧ (unfrozen fz c.size ∧ T = t)
  | .buf t xs => (E.O i = none ∧ (xs = [] ∨ xs.length = deadLen)) ∨ (∃ b c T fz, E.O i = some b ∧ W.heap[b]? = some (.cells c T fz) ∧ c.size = E.C i * 1 ∧ xs.length ≤ E.C i ∧ c.toList.take xs.length = xs.map (fun x => Value.int .u8 x.toNat) ∧ (fz = (0, 0) ∧ T = t ∧ E.C i ≤ 9223372036854775807))

end Go.Aw
