/-
  Operations that make or write memory of one's own: variables.
-/
import Derived.Test.YtioccpkcnnkpjaaGreatAwChange
namespace Go.Aw
set_option maxRecDepth 100000
set_option linter.unusedSimpArgs false
set_option linter.unusedVariables false
open Go

def AV.leaf : AV → Bool
  | .agg _ | .tup _ | .any | .raw _ => false
  | _ => true

/-- The cells of a value. -/
def AV.cells : AV → List AV
  | .agg cs => cs
  | v => [v]

def AV.cellsOk : AV → Bool
  | .agg cs => cs.all AV.leaf
  | v => v.leaf

/-- Cells written from a place on. -/
def putL {α : Type} : List α → Nat → List α → List α
  | cs, _, [] => cs
  | cs, o, v :: vs => putL (cs.set o v) (o + 1) vs

theorem putL_length {α : Type} : ∀ (cs : List α) (o : Nat) (vs : List α), (putL cs o vs).length = cs.length
  | cs, o, [] => rfl
  | cs, o, v :: vs => by simp [putL, putL_length]

def putA : Array Value → Nat → List Value → Array Value
  | c, _, [] => c
  | c, o, v :: vs => putA (c.setIfInBounds o v) (o + 1) vs

theorem putA_size : ∀ (c : Array Value) (o : Nat) (vs : List Value), (putA c o vs).size = c.size
  | c, o, [] => rfl
  | c, o, v :: vs => by simp [putA, putA_size]

theorem putA_toList : ∀ (c : Array Value) (o : Nat) (vs : List Value), (putA c o vs).toList = putL c.toList o vs
  | c, o, [] => rfl
  | c, o, v :: vs => by simp [putA, putL, putA_toList]

section
variable {P : Program} {W : World} {E : Env} {h : AHeap}

theorem RepD.one {X : Nat → Prop} {x : D} {v : Value} (hr : RepD W X x v) : v.oneCell' = true := by
  cases x <;> simp only [RepD] at hr
  case sl =>
    rcases hr with ⟨_, a, cap, rfl⟩ | ⟨a, cap, c, T, fz, rfl, _⟩ <;> rfl
  all_goals (subst hr; rfl)

theorem Rep.one {a : AV} {v : Value} (hl : a.leaf = true) (hr : Rep W E h a v) : v.oneCell' = true := by
  cases a <;> simp only [Rep] at hr
  case d => exact RepD.one hr
  case osl => obtain ⟨⟨_, _, _, rfl⟩, _⟩ := hr; rfl
  case ap => obtain ⟨⟨_, rfl⟩, _⟩ := hr; rfl
  case agg => cases hl
  case tup => cases hl
  case any => cases hl
  case raw => cases hl
  case nils => subst hr; rfl
  case nilfn => subst hr; rfl
  case nilmap => subst hr; rfl
  case dp => obtain ⟨_, _, _, _, rfl, _⟩ := hr; rfl
  case vp => obtain ⟨_, _, _, _, rfl⟩ := hr; rfl
  case bsl => obtain ⟨⟨_, _, _, rfl⟩, _⟩ := hr; rfl
  case tp => obtain ⟨_, _, _, _, _, rfl⟩ := hr; rfl
  case vsl => obtain ⟨_, _, _, _, _, rfl⟩ := hr; rfl
  case asl => obtain ⟨_, _, _, _, _, rfl, _⟩ := hr; rfl
  case fn => obtain ⟨_, _, rfl, _⟩ := hr; rfl
  case map => obtain ⟨_, _, _, _, rfl⟩ := hr; rfl
  case itr => obtain ⟨_, _, _, _, _, rfl⟩ := hr; rfl
  case iface => obtain ⟨_, rfl, _⟩ := hr; rfl

theorem Reps.putL : ∀ {cs : List AV} {c : List Value}, Reps W E h cs c → ∀ (o : Nat) {vs : List AV} {us : List Value}, Reps W E h vs us → Reps W E h (putL cs o vs) (putL c o us)
  | cs, c, hr, o, [], us, hu => by simp only [Reps] at hu; subst hu; exact hr
  | cs, c, hr, o, v :: vs, us, hu => by
    simp only [Reps] at hu
    obtain ⟨u, r, rfl, h1, h2⟩ := hu
    exact Reps.putL (hr.set h1) (o + 1) h2

def World.row (w : World) (b : Nat) (o : Obj) : World := { w with heap := w.heap.setIfInBounds b o }

theorem setCell_row {w : World} {b : Nat} {c : Array Value} {T : TypeId} {fz : Nat × Nat} (hb : w.heap[b]? = some (.cells c T fz)) (o : Nat) (v : Value) : w.setCell ⟨b, o, none⟩ v = World.row w b (.cells (c.setIfInBounds o v) T fz) := by
  obtain ⟨hlt, hb'⟩ := Array.getElem?_eq_some_iff.1 hb
  unfold World.setCell World.row
  congr 1
  apply Array.ext_getElem?
  intro j
  rw [Array.getElem?_modify]
  by_cases e : b = j
  · subst e
    simp [hb, hlt, hb']
  · simp only [e, if_false]
    rw [Array.getElem?_setIfInBounds_ne e]

theorem row_get {w : World} {b : Nat} {o : Obj} (h : b < w.heap.size) : (World.row w b o).heap[b]? = some o := by simp [World.row, h]
theorem row_other {w : World} {b k : Nat} {o : Obj} (h : k ≠ b) : (World.row w b o).heap[k]? = w.heap[k]? := by
  simp [World.row, Array.getElem?_setIfInBounds_ne (Ne.symm h)]
theorem row_row {w : World} {b : Nat} {o o' : Obj} : World.row (World.row w b o) b o' = World.row w b o' := by
  simp only [World.row]
  congr 1
  apply Array.ext_getElem?
  intro j
  by_cases e : b = j
  · subst e
    by_cases hb : b < w.heap.size
    · simp [hb]
    · simp [hb]
  · rw [Array.getElem?_setIfInBounds_ne e, Array.getElem?_setIfInBounds_ne e, Array.getElem?_setIfInBounds_ne e]
@[simp] theorem row_size {w : World} {b : Nat} {o : Obj} : (World.row w b o).heap.size = w.heap.size := by simp [World.row]

theorem run_storeCells {b : Nat} {T : TypeId} {fz : Nat × Nat} (o : Nat) : ∀ (vs : List Value) (i : Nat) (c : Array Value) (w : World), w.heap[b]? = some (.cells c T fz) → unfrozen fz c.size → o + i + vs.length ≤ c.size → (∀ v ∈ vs, v.oneCell' = true) →
    (storeCells ⟨b, o, none⟩ vs i).run P w = .ok () (World.row w b (.cells (putA c (o + i) vs) T fz))
  | [], i, c, w, hb, _, _, _ => by
    simp only [storeCells, Sem.run_pure, putA]
    congr 1
    unfold World.row
    obtain ⟨hlt, hb'⟩ := Array.getElem?_eq_some_iff.1 hb
    rw [← hb']
    rw [Array.setIfInBounds_def, dif_pos hlt, Array.set_getElem_self]
  | v :: vs, i, c, w, hb, hf, hl, h1 => by
    simp only [List.length_cons] at hl
    have hlt := (Array.getElem?_eq_some_iff.1 hb).1
    have hc : w.cell? ⟨b, o + i, none⟩ = some c[o + i] := by rw [cell_of_block hb]; exact Array.getElem?_eq_getElem (by omega)
    have hfz : w.frozen? ⟨b, o + i, none⟩ = false := by
      rw [frozen_of_block hb]
      have := hf (o + i) (by omega)
      simpa using this
    have ih := run_storeCells o vs (i + 1) (c.setIfInBounds (o + i) v) (World.row w b (.cells (c.setIfInBounds (o + i) v) T fz)) (row_get hlt) (by simpa using hf) (by simp; omega) (fun x hx => h1 x (by simp [hx]))
    simp only [storeCells, Sem.run_bind, Addr.add_none]
    rw [run_store P w _ v .plain (h1 v (by simp))]
    simp only [hc, hfz, Bool.false_eq_true, if_false, Result.andThen_ok, setCell_row hb, ih, row_row, putA]
    rfl

theorem run_storeVar {b o : Nat} {t : TypeId} {c : Array Value} {T : TypeId} {fz : Nat × Nat} {v : Value} {w : World} (ht : (ty P t).td ≠ .other) (hb : w.heap[b]? = some (.cells c T fz)) (hf : unfrozen fz c.size) (hs : v.cells.size = (ty P t).size) (hl : o + (ty P t).size ≤ c.size) (h1 : ∀ x ∈ v.cells.toList, x.oneCell' = true) :
    (storeVar t ⟨b, o, none⟩ v).run P w = .ok () (World.row w b (.cells (putA c o v.cells.toList) T fz)) := by
  obtain ⟨d, hd⟩ := und_ne ht
  simp only [storeVar, Sem.run_bind, run_sizeOf hd, Result.andThen_ok, hs, ne_eq, not_true_eq_false, if_false]
  rw [show ((do (pure PUnit.unit : Sem PUnit); storeCells ⟨b, o, none⟩ v.cells.toList) : Sem Unit) = storeCells ⟨b, o, none⟩ v.cells.toList from rfl]
  have := run_storeCells (P := P) (fz := fz) (T := T) o v.cells.toList 0 c w hb hf (by simp [hs]; omega) h1
  simpa using this

/-- The cells of a value are said by the cells of what says it. -/
theorem Rep.cells {a : AV} {v : Value} (hr : Rep W E h a v) (hl : a.cellsOk = true) : Reps W E h a.cells v.cells.toList ∧ ∀ x ∈ v.cells.toList, x.oneCell' = true := by
  have key : ∀ {as : List AV} {vs : List Value}, Reps W E h as vs → as.all AV.leaf = true → ∀ x ∈ vs, x.oneCell' = true := by
    intro as
    induction as with
    | nil => intro vs hr _ x hx; simp only [Reps] at hr; subst hr; simp at hx
    | cons a as ih =>
      intro vs hr hl x hx
      simp only [Reps] at hr
      obtain ⟨v, r, rfl, h1, h2⟩ := hr
      simp only [List.all_cons, Bool.and_eq_true] at hl
      rcases List.mem_cons.1 hx with rfl | hx
      · exact Rep.one hl.1 h1
      · exact ih h2 hl.2 x hx
  by_cases hagg : ∃ cs, a = .agg cs
  · obtain ⟨cs, rfl⟩ := hagg
    simp only [Rep] at hr
    obtain ⟨vs, rfl, h1⟩ := hr
    exact ⟨h1, key h1 hl⟩
  · have hlf : a.leaf = true := by cases a <;> first | (exact absurd ⟨_, rfl⟩ hagg) | exact hl
    have h1 := Rep.one hlf hr
    have e1 : a.cells = [a] := by cases a <;> first | (exact absurd ⟨_, rfl⟩ hagg) | rfl
    have e2 : v.cells = #[v] := by cases v <;> first | rfl | (simp [Value.oneCell'] at h1)
    rw [e1, e2]
    simp only [Reps]
    exact ⟨⟨v, [], rfl, hr, rfl⟩, by simpa using h1⟩

/-- A new object. -/
theorem chg_new {w : World} (fl : Nat) (hs : SatH E h w) (ob : Obj) (o : AObj) (cap : Nat) : Chg E h w (E.set (fresh fl h) (some w.heap.size) cap) ((fresh fl h, o) :: h) (w.alloc ob) (fresh fl h) where
  os := rfl
  tape := rfl
  output := rfl
  size := by simp
  envO := fun j e => by simp [Env.set, e]
  envC := fun j e => by simp [Env.set, e]
  M := rfl
  N := rfl
  hh := fun j e => by simp [hget, Ne.symm e]
  gi := by simp [GoesOn, hget_fresh]
  blk := fun b hb _ => by
    show (w.heap.push ob)[b]? = _
    rw [Array.getElem?_push, if_neg (by omega)]
  new := fun b _ hb => by
    simp only [Env.set, if_true, Option.some.injEq] at hb
    subst hb
    exact .inr ⟨Nat.le_refl _, by simp⟩

theorem alloc_get (w : World) (ob : Obj) : (w.alloc ob).heap[w.heap.size]? = some ob := by
  show (w.heap.push ob)[w.heap.size]? = _
  simp

theorem sat_new_var {cx : Cx} {s : AS} {a : Act} {w : World} (hs : Sat cx E s a w) {cs : List AV} {vs : Array Value} (hr : Reps w E s.h cs vs.toList) (T : TypeId) :
    Sat cx (E.set (fresh cx.fl s.h) (some w.heap.size) 0) { s with h := (fresh cx.fl s.h, .var cs) :: s.h } a (w.alloc (.cells vs T)) ∧ Evo cx.fl E s.h w (E.set (fresh cx.fl s.h) (some w.heap.size) 0) ((fresh cx.fl s.h, .var cs) :: s.h) (w.alloc (.cells vs T)) ∧
    Rep (w.alloc (.cells vs T)) (E.set (fresh cx.fl s.h) (some w.heap.size) 0) ((fresh cx.fl s.h, .var cs) :: s.h) (.vp (fresh cx.fl s.h) 0) (.pointer (some ⟨w.heap.size, 0, none⟩)) := by
  have c := chg_new cx.fl hs.hp (.cells vs T) (.var cs) 0
  refine ⟨c.sat hs (fun o ho => ?_), c.evo (.inr (fl_le_fresh _ _)), ?_⟩
  · simp [hget] at ho
    subst ho
    simp only [RepObj]
    exact ⟨w.heap.size, vs, T, (0, 0), by simp [Env.set], alloc_get w _, c.reps hr, by simp [unfrozen]⟩
  · simp only [Rep]
    exact ⟨w.heap.size, cs, by simp [hget], by simp [Env.set], rfl⟩

theorem sat_new_pt {cx : Cx} {s : AS} {a : Act} {w : World} (hs : Sat cx E s a w) {cs : List AV} {vs : Array Value} (hr : Reps w E s.h cs vs.toList) (ty : Bool) (T : TypeId) :
    Sat cx (E.set (fresh cx.fl s.h) (some w.heap.size) 0) { s with h := (fresh cx.fl s.h, .vr ty T cs) :: s.h } a (w.alloc (.cells vs T)) ∧ Evo cx.fl E s.h w (E.set (fresh cx.fl s.h) (some w.heap.size) 0) ((fresh cx.fl s.h, .vr ty T cs) :: s.h) (w.alloc (.cells vs T)) ∧
    Rep (w.alloc (.cells vs T)) (E.set (fresh cx.fl s.h) (some w.heap.size) 0) ((fresh cx.fl s.h, .vr ty T cs) :: s.h) (.pt ty (fresh cx.fl s.h) 0) (.pointer (some ⟨w.heap.size, 0, none⟩)) := by
  cases ty with
  | false => exact sat_new_var hs hr T
  | true =>
    have c := chg_new cx.fl hs.hp (.cells vs T) (.tvar T cs) 0
    refine ⟨c.sat hs (fun o ho => ?_), c.evo (.inr (fl_le_fresh _ _)), ?_⟩
    · simp [hget, AObj.vr] at ho
      subst ho
      simp only [RepObj]
      exact ⟨w.heap.size, vs, T, (0, 0), by simp [Env.set], alloc_get w _, c.reps hr, by simp [unfrozen], rfl⟩
    · simp only [AV.pt, AObj.vr, if_true, Rep]
      exact ⟨w.heap.size, T, cs, by simp [hget], by simp [Env.set], rfl⟩

theorem unfrozen_zero (n : Nat) : unfrozen (0, 0) n := by simp [unfrozen]

/-- A variable's cells change. -/
theorem chg_var {w : World} (hs : SatH E h w) {i : Nat} {cs cs' : List AV} (hi : hget h i = some (.var cs)) (hl : cs'.length = cs.length) {b : Nat} (hb : E.O i = some b) (ob : Obj) : Chg E h w E (hset h i (.var cs')) (World.row w b ob) i where
  os := rfl
  tape := rfl
  output := rfl
  size := by simp
  envO := fun j e => rfl
  envC := fun j e => rfl
  M := rfl
  N := rfl
  hh := fun j e => hget_hset_other e
  gi := by
    unfold GoesOn
    rw [hi]
    exact ⟨rfl, cs', hget_hset_same hi, hl⟩
  blk := fun k hk hn => row_other (fun e => hn ⟨by simp [hi], by rw [hb, e]⟩)
  new := fun k _ hk => .inl ⟨by simp [hi], hk⟩

/-- A typed variable's cells change. -/
theorem chg_tvar {w : World} (hs : SatH E h w) {i : Nat} {t : TypeId} {cs cs' : List AV} (hi : hget h i = some (.tvar t cs)) (hl : cs'.length = cs.length) {b : Nat} (hb : E.O i = some b) (ob : Obj) : Chg E h w E (hset h i (.tvar t cs')) (World.row w b ob) i where
  os := rfl
  tape := rfl
  output := rfl
  size := by simp
  envO := fun j e => rfl
  envC := fun j e => rfl
  M := rfl
  N := rfl
  hh := fun j e => hget_hset_other e
  gi := by
    unfold GoesOn
    rw [hi]
    exact ⟨rfl, cs', hget_hset_same hi, hl⟩
  blk := fun k hk hn => row_other (fun e => hn ⟨by simp [hi], by rw [hb, e]⟩)
  new := fun k _ hk => .inl ⟨by simp [hi], hk⟩

theorem sat_tvar {cx : Cx} {s : AS} {a : Act} {w : World} (hs : Sat cx E s a w) {i : Nat} {t : TypeId} {cs vs : List AV} (hi : hget s.h i = some (.tvar t cs)) {o : Nat} {us : List Value} (hr : Reps w E s.h vs us)
    {b : Nat} {c : Array Value} {T : TypeId} {fz : Nat × Nat} (hb : E.O i = some b) (hc : w.heap[b]? = some (.cells c T fz)) :
    Sat cx E { s with h := hset s.h i (.tvar t (Aw.putL cs o vs)) } a (World.row w b (.cells (putA c o us) T fz)) ∧ Evo cx.fl E s.h w E (hset s.h i (.tvar t (Aw.putL cs o vs))) (World.row w b (.cells (putA c o us) T fz)) := by
  have ch := chg_tvar hs.hp hi (cs' := Aw.putL cs o vs) (putL_length _ _ _) hb (.cells (putA c o us) T fz)
  refine ⟨ch.sat hs (fun ob ho => ?_), ch.evo (.inl (by simp [hi]))⟩
  rw [hget_hset_same hi] at ho
  cases ho
  obtain ⟨b', c', T', fz', h1, h2, h3, h4, h5⟩ := hs.hp.tvar hi
  rw [hb] at h1; cases h1
  rw [hc] at h2; cases h2
  simp only [RepObj]
  refine ⟨b, putA c o us, T, fz, hb, row_get (Array.getElem?_eq_some_iff.1 hc).1, ?_, by rw [putA_size]; exact h4, h5⟩
  rw [putA_toList]
  exact Reps.putL (ch.reps h3) o (ch.reps hr)

theorem sat_var {cx : Cx} {s : AS} {a : Act} {w : World} (hs : Sat cx E s a w) {i : Nat} {cs vs : List AV} (hi : hget s.h i = some (.var cs)) {o : Nat} {us : List Value} (hr : Reps w E s.h vs us)
    {b : Nat} {c : Array Value} {T : TypeId} {fz : Nat × Nat} (hb : E.O i = some b) (hc : w.heap[b]? = some (.cells c T fz)) :
    Sat cx E { s with h := hset s.h i (.var (Aw.putL cs o vs)) } a (World.row w b (.cells (putA c o us) T fz)) ∧ Evo cx.fl E s.h w E (hset s.h i (.var (Aw.putL cs o vs))) (World.row w b (.cells (putA c o us) T fz)) := by
  have ch := chg_var hs.hp hi (cs' := Aw.putL cs o vs) (putL_length _ _ _) hb (.cells (putA c o us) T fz)
  refine ⟨ch.sat hs (fun ob ho => ?_), ch.evo (.inl (by simp [hi]))⟩
  rw [hget_hset_same hi] at ho
  cases ho
  obtain ⟨b', c', T', fz', h1, h2, h3, h4⟩ := hs.hp.var hi
  rw [hb] at h1; cases h1
  rw [hc] at h2; cases h2
  simp only [RepObj]
  refine ⟨b, putA c o us, T, fz, hb, row_get (Array.getElem?_eq_some_iff.1 hc).1, ?_, by rw [putA_size]; exact h4⟩
  rw [putA_toList]
  exact Reps.putL (ch.reps h3) o (ch.reps hr)

end
end Go.Aw
