/-
  The operations that leave the world alone, all of them: 'aval' reckons; 'aval_ok': the model does so.
-/
import Derived.Test.YtioccpkcnnkpjaaGreatAwMem
import Derived.Test.YtioccpkcnnkpjaaGreatAwMap
namespace Go.Aw
set_option maxRecDepth 100000
set_option linter.unusedSimpArgs false
set_option linter.unusedVariables false
open Go

/-- A bound of a slice expression. -/
def AS.bnd (s : AS) (x : Option Operand) (dflt : Int) : Prop × Int :=
  match x with
  | none => (True, dflt)
  | some x => match s.ev x with
    | (g, .d (.int _ n)) => (g = true, n)
    | _ => (False, 0)

/-- Array i is what it was when the value was made: n rows of k cells. -/
def AS.cur (s : AS) (i n k : Nat) : Prop :=
  match hget s.h i with
  | some (.arr k' xs) => k' = k ∧ xs.length = n
  | _ => False

def fieldOf (P : Program) (t : TypeId) (f : Nat) : Option (Nat × Nat) :=
  match (ty P t).td with
  | .struct fs => fs[f]?
  | _ => none

def avSlice (P : Program) (s : AS) (t : TypeId) (x : AV) (lo hi mx : Option Operand) : Prop × AV :=
  let l := s.bnd lo 0
  match x with
  | .d (.str b) =>
    let h := s.bnd hi b.length
    (mx = none ∧ (ty P t).td = .str ∧ l.1 ∧ h.1 ∧ 0 ≤ l.2 ∧ l.2 ≤ h.2 ∧ h.2 ≤ b.length, .d (.str ((b.take h.2.toNat).drop l.2.toNat)))
  | .d (.sl k xs) =>
    let h := s.bnd hi xs.length
    let m := s.bnd mx xs.length
    ((mx ≠ none → hi ≠ none) ∧ (∃ e, (ty P t).td = .slice e ∧ (ty P e).size = k ∧ (ty P e).td ≠ .other) ∧ l.1 ∧ h.1 ∧ m.1 ∧ 0 ≤ l.2 ∧ l.2 ≤ h.2 ∧ h.2 ≤ m.2 ∧ m.2 ≤ xs.length, .d (.sl k ((xs.take h.2.toNat).drop l.2.toNat)))
  | .osl i k n off len =>
    let h := s.bnd hi len
    (mx = none ∧ s.cur i n k ∧ (∃ e, (ty P t).td = .slice e ∧ (ty P e).size = k ∧ (ty P e).td ≠ .other) ∧ l.1 ∧ h.1 ∧ 0 ≤ l.2 ∧ l.2 ≤ h.2 ∧ h.2 ≤ len, .osl i k n (off + l.2.toNat) (h.2.toNat - l.2.toNat))
  | .vp i off =>
    match (ty P t).td with
    | .arr n e => (lo = none ∧ hi = none ∧ mx = none ∧ (ty P e).td ≠ .other ∧ (match hget s.h i with | some (.var cs) => off + n * (ty P e).size ≤ cs.length | _ => False), .vsl i (ty P e).size off n)
    | _ => (False, .any)
  | _ => (False, .any)

def avLoad (P : Program) (s : AS) (t : TypeId) (x : AV) : Prop × AV :=
  match x with
  | .vp i off => (match hget s.h i with
    | some (.var cs) => ((ty P t).td ≠ .other ∧ off + psize P t ≤ cs.length, apart P t cs off)
    | _ => (False, .any))
  | .tp i off => (match hget s.h i with
    | some (.tvar _ cs) => ((ty P t).td ≠ .other ∧ off + psize P t ≤ cs.length, apart P t cs off)
    | _ => (False, .any))
  | .dp cs => ((ty P t).td ≠ .other ∧ psize P t ≤ cs.length, apart P t cs 0)
  | .ap i n k r off => (match hget s.h i with
    | some (.arr k' xs) => (k' = k ∧ (ty P t).td ≠ .other ∧ xs.length = n ∧ r < n ∧ off + psize P t ≤ k, apart P t ((xs.getD r []).map AV.d) off)
    | _ => (False, .any))
  | _ => (False, .any)

def avField (P : Program) (t : TypeId) (x : AV) (f : Nat) : Prop × AV :=
  match fieldOf P t f with
  | some (off, ft) => (match x with
    | .agg cs => ((ty P ft).td ≠ .other ∧ off + psize P ft ≤ cs.length, apart P ft cs off)
    | _ => (False, .any))
  | none => (False, .any)

def avFieldAddr (P : Program) (s : AS) (t : TypeId) (x : AV) (f : Nat) : Prop × AV :=
  match fieldOf P t f with
  | some (off, ft) => (match x with
    | .vp i o => ((ty P ft).td ≠ .other ∧ (ty P ft).size ≠ 0, .vp i (o + off))
    | .tp i o => ((ty P ft).td ≠ .other ∧ (ty P ft).size ≠ 0, .tp i (o + off))
    | .dp cs => ((ty P ft).td ≠ .other ∧ (ty P ft).size ≠ 0 ∧ off ≤ cs.length, .dp (cs.drop off))
    | .ap i n k r o => (s.cur i n k ∧ (ty P ft).td ≠ .other ∧ (ty P ft).size ≠ 0, .ap i n k r (o + off))
    | _ => (False, .any))
  | none => (False, .any)

def avIndexAddr (P : Program) (s : AS) (t : TypeId) (x y : AV) : Prop × AV :=
  match y with
  | .d (.int _ j) => (match (ty P t).td, x with
    | .arr n e, .vp i off => ((ty P e).td ≠ .other ∧ 0 ≤ j ∧ j < n, .vp i (off + j.toNat * (ty P e).size))
    | .arr n e, .ap i m k r off => (s.cur i m k ∧ (ty P e).td ≠ .other ∧ 0 ≤ j ∧ j < n, .ap i m k r (off + j.toNat * (ty P e).size))
    | .arr n e, .dp cs => ((ty P e).td ≠ .other ∧ 0 ≤ j ∧ j < n ∧ n * (ty P e).size ≤ cs.length, .dp (cs.drop (j.toNat * (ty P e).size)))
    | .slice e, .d (.sl k xs) => ((ty P e).td ≠ .other ∧ (ty P e).size = k ∧ 0 ≤ j ∧ j < xs.length, .dp ((xs.getD j.toNat []).map AV.d))
    | .slice e, .asl k xs => ((ty P e).td ≠ .other ∧ (ty P e).size = k ∧ 0 ≤ j ∧ j < xs.length, .dp (xs.getD j.toNat []))
    | .slice e, .osl i k n off len => (s.cur i n k ∧ (ty P e).td ≠ .other ∧ (ty P e).size = k ∧ 0 ≤ j ∧ j < len, .ap i n k (off + j.toNat) 0)
    | _, _ => (False, .any))
  | _ => (False, .any)

def avIndex (P : Program) (t : TypeId) (x y : AV) : Prop × AV :=
  match y with
  | .d (.int _ j) => (match (ty P t).td, x with
    | .arr n e, .agg cs => ((ty P e).td ≠ .other ∧ 0 ≤ j ∧ j < n ∧ j.toNat * (ty P e).size + psize P e ≤ cs.length, apart P e cs (j.toNat * (ty P e).size))
    | .str, .d (.str l) => (0 ≤ j ∧ j < l.length, .d (.int .u8 ((l.getD j.toNat 0).toNat : Int)))
    | _, _ => (False, .any))
  | _ => (False, .any)

def avConvert (P : Program) (src dst : TypeId) (x : AV) : Prop × AV :=
  match x with
  | .d (.int _ n) => (match (ty P dst).td with
    | .int k => ((ty P src).td ≠ .other, .d (.int k (k.wrap n)))
    | _ => (False, .any))
  | .d (.str l) => ((ty P src).td = .str ∧ (ty P dst).td = .str, .d (.str l))
  | _ => (False, .any)

def avLen (P : Program) (s : AS) (t : TypeId) (x : AV) : Prop × AV :=
  match (ty P t).td, x with
  | .arr n _, _ => (True, .d (.int .i64 n))
  | .str, .d (.str l) => (True, .d (.int .i64 l.length))
  | .slice _, .d (.sl _ xs) => (True, .d (.int .i64 xs.length))
  | .slice _, .asl _ xs => (True, .d (.int .i64 xs.length))
  | .slice _, .nils _ => (True, .d (.int .i64 0))
  | .slice _, .osl i k n _ len => (s.cur i n k, .d (.int .i64 len))
  | .slice _, .vsl _ _ _ len => (True, .d (.int .i64 len))
  | _, _ => (False, .any)

def imin (x y : Int) : Int := if y < x then y else x
def imax (x y : Int) : Int := if y > x then y else x

def nilAV (op : BinOp) (b : Bool) : Prop × AV :=
  match op with
  | .eql => (True, .d (.bool b))
  | .neq => (True, .d (.bool (!b)))
  | _ => (False, .any)

/-- Binary operations, structs, arrays and nil among them. -/
def abin2 (P : Program) (op : BinOp) (t : TypeId) (x y : AV) : Prop × AV :=
  match x, y with
  | .agg xs, .agg ys =>
    let r := aeq P 12 t (.agg xs) (.agg ys)
    (match op with
    | .eql => (P.eqGuardType P.depth t = false ∧ r.1, .d (.bool r.2))
    | .neq => (P.eqGuardType P.depth t = false ∧ r.1, .d (.bool (!r.2)))
    | _ => (False, .any))
  | .fn .., .nilfn => if (ty P t).td = .func then nilAV op false else (False, .any)
  | .nilfn, .nilfn => if (ty P t).td = .func then nilAV op true else (False, .any)
  | x, y => abin P op t x y

def avCall (P : Program) (s : AS) (c : Call) : Prop × AV :=
  match c.callee with
  | .builtin .len => (match c.args.toList, c.argTypes.toList with
    | [x], [t] => ((s.ev x).1 = true ∧ (avLen P s t (s.ev x).2).1, (avLen P s t (s.ev x).2).2)
    | _, _ => (False, .any))
  | .builtin .min => (match c.args.toList.map s.ev with
    | [(gx, .d (.int k a)), (gy, .d (.int _ b))] => (gx = true ∧ gy = true, .d (.int k (imin a b)))
    | [(gx, .d (.int k a)), (gy, .d (.int _ b)), (gz, .d (.int _ c))] => (gx = true ∧ gy = true ∧ gz = true, .d (.int k (imin (imin a b) c)))
    | _ => (False, .any))
  | .builtin .max => (match c.args.toList.map s.ev with
    | [(gx, .d (.int k a)), (gy, .d (.int _ b))] => (gx = true ∧ gy = true, .d (.int k (imax a b)))
    | _ => (False, .any))
  | _ => (False, .any)

def aval (P : Program) (s : AS) : Op → Prop × AV
  | .binOp op t x y _ => ((s.ev x).1 = true ∧ (s.ev y).1 = true ∧ (abin2 P op t (s.ev x).2 (s.ev y).2).1, (abin2 P op t (s.ev x).2 (s.ev y).2).2)
  | .unOp op _ x => ((s.ev x).1 = true ∧ (aun op (s.ev x).2).1, (aun op (s.ev x).2).2)
  | .convert src dst x => ((s.ev x).1 = true ∧ (avConvert P src dst (s.ev x).2).1, (avConvert P src dst (s.ev x).2).2)
  | .makeInterface t x => ((s.ev x).1 = true ∧ (ty P t).td ≠ .other ∧ (ty P t).td ≠ .iface, .iface t (s.ev x).2)
  | .makeFunc f fs cs => (((fs ++ cs).toList.all fun x => (s.ev x).1) = true, .fn f (fs.toList.map fun x => (s.ev x).2) (cs.toList.map fun x => (s.ev x).2))
  | .field t x f => ((s.ev x).1 = true ∧ (avField P t (s.ev x).2 f).1, (avField P t (s.ev x).2 f).2)
  | .fieldAddr t x f => ((s.ev x).1 = true ∧ (avFieldAddr P s t (s.ev x).2 f).1, (avFieldAddr P s t (s.ev x).2 f).2)
  | .indexAddr t x y => ((s.ev x).1 = true ∧ (s.ev y).1 = true ∧ (avIndexAddr P s t (s.ev x).2 (s.ev y).2).1, (avIndexAddr P s t (s.ev x).2 (s.ev y).2).2)
  | .index t x y => ((s.ev x).1 = true ∧ (s.ev y).1 = true ∧ (avIndex P t (s.ev x).2 (s.ev y).2).1, (avIndex P t (s.ev x).2 (s.ev y).2).2)
  | .slice t x lo hi mx => ((s.ev x).1 = true ∧ (avSlice P s t (s.ev x).2 lo hi mx).1, (avSlice P s t (s.ev x).2 lo hi mx).2)
  | .load t x => ((s.ev x).1 = true ∧ (avLoad P s t (s.ev x).2).1, (avLoad P s t (s.ev x).2).2)
  | .nilCheck x => ((s.ev x).1 = true ∧ (match (s.ev x).2 with | .vp .. => True | .tp .. => True | .dp .. => True | .ap i n k _ _ => s.cur i n k | .fn (.func _) _ _ => True | _ => False), (s.ev x).2)
  | .extract x i => (match s.ev x with
    | (g, .tup vs) => (g = true ∧ i < vs.length, vs.getD i .any)
    | _ => (False, .any))
  | .lookup t x y ok => ((s.ev x).1 = true ∧ (s.ev y).1 = true ∧ (avLookup P s t (s.ev x).2 (s.ev y).2 ok).1, (avLookup P s t (s.ev x).2 (s.ev y).2 ok).2)
  | .call c => avCall P s c
  | _ => (False, .any)

end Go.Aw
