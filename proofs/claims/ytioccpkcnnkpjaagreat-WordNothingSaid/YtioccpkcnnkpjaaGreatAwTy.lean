/-
  Types, as the walk asks for them; operands; small facts on runs.
-/
import Derived.Test.YtioccpkcnnkpjaaGreatAwLe
namespace Go.Aw
set_option maxRecDepth 100000
set_option linter.unusedSimpArgs false
set_option linter.unusedVariables false
open Go

inductive TD where
  | int (k : IntKind) | bool | str | slice (e : Nat) | arr (n e : Nat) | struct (fs : List (Nat × Nat)) | ptr (e : Nat) | func | iface | map (k e : Nat) | bst (fs : List (Nat × Nat)) | other
  deriving DecidableEq

structure TI where
  td : TD
  size : Nat
  bytes : Nat
  deriving DecidableEq

def tdOf : TypeDesc → TD
  | .int k => .int k
  | .bool => .bool
  | .string => .str
  | .slice e => .slice e
  | .array n e => .arr n e
  | .struct fs => if fs.any (fun f => f.name == "_") then .bst (fs.toList.map fun f => (f.offset, f.type)) else .struct (fs.toList.map fun f => (f.offset, f.type))
  | .pointer e => .ptr e
  | .func .. => .func
  | .interface _ => .iface
  | .map k e => .map k e
  | _ => .other

def ty (P : Program) (t : TypeId) : TI :=
  { td := match P.underlying t with | some d => tdOf d | none => .other, size := P.cellsOf t, bytes := P.bytesOf t }

def TD.agg : TD → Bool
  | .struct _ => true
  | .arr .. => true
  | .bst _ => true
  | _ => false

/-- The cells of a type's zero value. -/
def zcells (P : Program) : Nat → TypeId → List AV
  | 0, _ => [.any]
  | d + 1, t =>
    match (ty P t).td with
    | .int k => [.d (.int k 0)]
    | .bool => [.d (.bool false)]
    | .str => [.d (.str [])]
    | .slice e => [.nils (ty P e).size]
    | .ptr _ => [.d .nilp]
    | .func => [.nilfn]
    | .iface => [.d .nilif]
    | .map .. => [.nilmap]
    | .struct fs => fs.flatMap fun f => zcells P d f.2
    | .bst fs => fs.flatMap fun f => zcells P d f.2
    | .arr n e => (List.replicate n (zcells P d e)).flatten
    | .other => [.any]

/-- A struct that has a pointer to its own kind, or a part that has: the type of its variables is kept in mind. -/
def typedT (P : Program) : Nat → TypeId → Bool
  | 0, _ => false
  | d + 1, t =>
    match (ty P t).td with
    | .struct fs => fs.any fun f => decide ((ty P f.2).td = .ptr t) || typedT P d f.2
    | .arr _ e => typedT P d e
    | _ => false

def AV.pt (b : Bool) (i o : Nat) : AV := if b then .tp i o else .vp i o
def AObj.vr (b : Bool) (t : TypeId) (cs : List AV) : AObj := if b then .tvar t cs else .var cs
@[go_sem] theorem pt_true (i o : Nat) : AV.pt true i o = .tp i o := rfl
@[go_sem] theorem pt_false (i o : Nat) : AV.pt false i o = .vp i o := rfl
@[go_sem] theorem vr_true (t : TypeId) (cs : List AV) : AObj.vr true t cs = .tvar t cs := rfl
@[go_sem] theorem vr_false (t : TypeId) (cs : List AV) : AObj.vr false t cs = .var cs := rfl

/-- A plain constant says a value, whatever the world. -/
def gnd : AV → Value → Bool
  | .d (.int k n), .int k' n' => k == k' && n == n'
  | .d (.bool b), .bool b' => b == b'
  | .d (.str l), .string s => l == s.data.toList
  | .nils _, .slice none 0 0 => true
  | .d .nilp, .pointer none => true
  | .nilfn, .nilFunc => true
  | .d .nilif, .nilIface => true
  | .nilmap, .map none => true
  | _, _ => false

def gndL : List AV → List Value → Bool
  | [], [] => true
  | a :: as, v :: vs => gnd a v && gndL as vs
  | _, _ => false

def zeroOk (P : Program) (t : TypeId) : Bool :=
  match P.info? t with
  | some i => match i.zero with
    | some z => gndL (zcells P 12 t) z.cells.toList && ((ty P t).td.agg == (match z with | .agg _ => true | _ => false)) && z.cells.size == i.size
    | none => false
  | none => false

section
variable {W : World} {E : Env} {h : AHeap}

theorem gnd_rep {a : AV} {v : Value} (hg : gnd a v = true) : Rep W E h a v := by
  unfold gnd at hg
  split at hg <;> simp_all [Rep, RepD]
  all_goals (obtain ⟨rfl, rfl⟩ := hg; rfl)

theorem gndL_reps : ∀ {as : List AV} {vs : List Value}, gndL as vs = true → Reps W E h as vs
  | [], [], _ => by simp [Reps]
  | [], _ :: _, hg => by simp [gndL] at hg
  | _ :: _, [], hg => by simp [gndL] at hg
  | a :: as, v :: vs, hg => by
    simp only [gndL, Bool.and_eq_true] at hg
    simp only [Reps]
    exact ⟨v, vs, rfl, gnd_rep hg.1, gndL_reps hg.2⟩
end

section
variable {P : Program} {t : TypeId}

theorem ty_desc {x : TD} (h : (ty P t).td = x) (hx : x ≠ .other) : ∃ d, P.underlying t = some d ∧ tdOf d = x := by
  unfold ty at h
  cases hd : P.underlying t with
  | none => simp [hd] at h; exact absurd h.symm hx
  | some d => simp [hd] at h; exact ⟨d, rfl, h⟩

theorem und_int {k : IntKind} (h : (ty P t).td = .int k) : P.underlying t = some (.int k) := by
  obtain ⟨d, hd, he⟩ := ty_desc h (by simp)
  cases d <;> simp only [tdOf] at he
  all_goals first | (simp_all; done) | (split at he <;> cases he) | cases he
theorem und_bool (h : (ty P t).td = .bool) : P.underlying t = some .bool := by
  obtain ⟨d, hd, he⟩ := ty_desc h (by simp)
  cases d <;> simp only [tdOf] at he
  all_goals first | (simp_all; done) | (split at he <;> cases he) | cases he
theorem und_str (h : (ty P t).td = .str) : P.underlying t = some .string := by
  obtain ⟨d, hd, he⟩ := ty_desc h (by simp)
  cases d <;> simp only [tdOf] at he
  all_goals first | (simp_all; done) | (split at he <;> cases he) | cases he
theorem und_slice {e : Nat} (h : (ty P t).td = .slice e) : P.underlying t = some (.slice e) := by
  obtain ⟨d, hd, he⟩ := ty_desc h (by simp)
  cases d <;> simp only [tdOf] at he
  all_goals first | (simp_all; done) | (split at he <;> cases he) | cases he
theorem und_arr {n e : Nat} (h : (ty P t).td = .arr n e) : P.underlying t = some (.array n e) := by
  obtain ⟨d, hd, he⟩ := ty_desc h (by simp)
  cases d <;> simp only [tdOf] at he
  all_goals first | (simp_all; done) | (split at he <;> cases he) | cases he
theorem und_ptr {e : Nat} (h : (ty P t).td = .ptr e) : P.underlying t = some (.pointer e) := by
  obtain ⟨d, hd, he⟩ := ty_desc h (by simp)
  cases d <;> simp only [tdOf] at he
  all_goals first | (simp_all; done) | (split at he <;> cases he) | cases he
theorem und_map {k e : Nat} (h : (ty P t).td = .map k e) : P.underlying t = some (.map k e) := by
  obtain ⟨d, hd, he⟩ := ty_desc h (by simp)
  cases d <;> simp only [tdOf] at he
  all_goals first | (simp_all; done) | (split at he <;> cases he) | cases he
theorem und_struct {fs : List (Nat × Nat)} (h : (ty P t).td = .struct fs) : ∃ gs, P.underlying t = some (.struct gs) ∧ gs.toList.map (fun f => (f.offset, f.type)) = fs ∧ ∀ f ∈ gs.toList, f.name ≠ "_" := by
  obtain ⟨d, hd, he⟩ := ty_desc h (by simp)
  cases d <;> simp only [tdOf] at he
  case struct gs =>
    split at he
    · cases he
    · rename_i hn
      injection he with he
      refine ⟨gs, hd, he, fun f hf e => hn ?_⟩
      simp only [Array.any_eq_true', beq_iff_eq]
      exact ⟨f, by simpa using hf, e⟩
  all_goals cases he

theorem info_of_und {d : TypeDesc} (h : P.underlying t = some d) : ∃ i, P.info? t = some i ∧ i.size = (ty P t).size ∧ i.bytes = (ty P t).bytes := by
  unfold Program.underlying at h
  cases hi : P.info? t with
  | none => simp [hi] at h
  | some i => exact ⟨i, rfl, by simp [ty, Program.cellsOf, hi], by simp [ty, Program.bytesOf, hi]⟩

theorem run_underlying {d : TypeDesc} (h : P.underlying t = some d) (w : World) : (underlying t).run P w = .ok d w := by
  simp [underlying, h]
theorem run_sizeOf {d : TypeDesc} (h : P.underlying t = some d) (w : World) : (sizeOf t).run P w = .ok (ty P t).size w := by
  obtain ⟨i, h1, h2, _⟩ := info_of_und h
  simp [sizeOf, typeInfo, h1, h2]
theorem run_typeInfo_bytes {d : TypeDesc} (h : P.underlying t = some d) (w : World) : ∃ i, (typeInfo t).run P w = .ok i w ∧ i.bytes = (ty P t).bytes ∧ i.size = (ty P t).size := by
  obtain ⟨i, h1, h2, h3⟩ := info_of_und h
  exact ⟨i, by simp [typeInfo, h1], h3, h2⟩
theorem td_of {d : TypeDesc} (h : P.underlying t = some d) : (ty P t).td = tdOf d := by simp [ty, h]
theorem run_isAgg {d : TypeDesc} (h : P.underlying t = some d) (hne : (ty P t).td ≠ .other) (w : World) : (isAgg t).run P w = .ok (ty P t).td.agg w := by
  simp only [isAgg, Sem.run_bind, run_underlying h, Result.andThen_ok]
  rw [td_of h] at hne ⊢
  cases d <;> simp only [tdOf] at hne ⊢
  case struct gs =>
    split
    · simp [TD.agg]
    · simp [TD.agg]
  all_goals simp [TD.agg]
theorem und_ne (h : (ty P t).td ≠ .other) : ∃ d, P.underlying t = some d := let ⟨d, hd, _⟩ := ty_desc rfl h; ⟨d, hd⟩
theorem run_zeroValue {z : Value} {i : TypeInfo} (h : P.info? t = some i) (hz : i.zero = some z) (w : World) : (zeroValue t).run P w = .ok z w := by
  simp [zeroValue, typeInfo, h, hz]

theorem zero_ok (h : zeroOk P t = true) : ∃ i z, P.info? t = some i ∧ i.zero = some z ∧ gndL (zcells P 12 t) z.cells.toList = true ∧ ((ty P t).td.agg = (match z with | .agg _ => true | _ => false)) ∧ z.cells.size = i.size ∧ i.size = (ty P t).size := by
  unfold zeroOk at h
  split at h
  · rename_i i hi
    split at h
    · rename_i z hz
      simp only [Bool.and_eq_true, beq_iff_eq] at h
      exact ⟨i, z, hi, hz, h.1.1, h.1.2, h.2, by simp [ty, Program.cellsOf, hi]⟩
    · cases h
  · cases h
end

/-! ### Operands -/
def cv : Value → AV
  | .int k n => .d (.int k n)
  | .bool b => .d (.bool b)
  | .string s => .d (.str s.data.toList)
  | .slice none 0 0 => .nils 0
  | .pointer none => .d .nilp
  | .nilFunc => .nilfn
  | .map none => .nilmap
  | .nilIface => .d .nilif
  | _ => .any

def AS.ev (s : AS) : Operand → Bool × AV
  | .tmp t => (lk s.t t).getD (false, .any)
  | .const v => (true, cv v)
  | .func f => (true, .fn (.func f) [] [])
  | .global _ => (true, .any)

theorem cv_rep {W : World} {E : Env} {h : AHeap} (v : Value) : Rep W E h (cv v) v := by
  unfold cv
  split <;> simp [Rep, RepD]

theorem ev_ok {E : Env} {s : AS} {a : Act} {w : World} (hs : Slots w E s a) (x : Operand) (hg : (s.ev x).1 = true) : Rep w E s.h (s.ev x).2 (a.eval x) := by
  cases x with
  | tmp t =>
    simp only [AS.ev] at hg ⊢
    cases hl : lk s.t t with
    | none => simp [hl] at hg
    | some p =>
      obtain ⟨g, v⟩ := p
      simp only [hl, Option.getD_some] at hg ⊢
      obtain ⟨y, hy, hr, _⟩ := hs t g v hl
      simp only [Act.eval]
      rw [show a.tmps.getD t undef = y by simp [hy]]
      exact hr hg
  | const v => exact cv_rep v
  | func f => simp [AS.ev, Rep, Act.eval, Reps]
  | global g => simp [AS.ev, Rep]

end Go.Aw
