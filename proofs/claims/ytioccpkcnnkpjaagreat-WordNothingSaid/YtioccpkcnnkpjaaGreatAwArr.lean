/-
  Arrays of one's own: made, written; values built out of parts.
-/
import Derived.Test.YtioccpkcnnkpjaaGreatAwEff
namespace Go.Aw
set_option maxRecDepth 100000
set_option linter.unusedSimpArgs false
set_option linter.unusedVariables false
open Go

def AV.toD : AV → Option D
  | .d x => some x
  | .nils k => some (.sl k [])
  | _ => none

def toDs : List AV → Option (List D)
  | [] => some []
  | a :: as => match a.toD, toDs as with
    | some x, some xs => some (x :: xs)
    | _, _ => none

def toRows : List (List AV) → Option (List (List D))
  | [] => some []
  | a :: as => match toDs a, toRows as with
    | some x, some xs => some (x :: xs)
    | _, _ => none

/-- A nil slice knows the size of its rows, once its type is known. -/
def AV.tag (P : Program) (t : TypeId) (v : AV) : AV :=
  match v with
  | .nils k => (match (ty P t).td with
    | .slice e => .nils (ty P e).size
    | _ => .nils k)
  | v => v

section
variable {P : Program} {W : World} {E : Env} {h : AHeap} {X : Nat → Prop}

theorem Rep.tag {a : AV} {v : Value} {t : TypeId} (hr : Rep W E h a v) : Rep W E h (a.tag P t) v := by
  unfold AV.tag
  split
  · split <;> simpa only [Rep] using hr
  · exact hr

theorem Rep.toD {a : AV} {x : D} {v : Value} (hr : Rep W E h a v) (hd : a.toD = some x) : RepD W (Xs E h) x v := by
  cases a <;> simp only [AV.toD, Option.some.injEq, reduceCtorEq] at hd
  · subst hd; simpa only [Rep] using hr
  · subst hd
    simp only [Rep] at hr
    simp only [RepD]
    exact .inl ⟨by simp, none, 0, hr⟩

theorem Reps.toDs : ∀ {as : List AV} {xs : List D} {vs : List Value}, Reps W E h as vs → toDs as = some xs → RepDs W (Xs E h) xs vs
  | [], xs, vs, hr, hd => by simp only [Aw.toDs, Option.some.injEq] at hd; subst hd; simpa only [Reps, RepDs] using hr
  | a :: as, xs, vs, hr, hd => by
    simp only [Aw.toDs] at hd
    split at hd
    · rename_i x ys h1 h2
      cases hd
      simp only [Reps] at hr
      obtain ⟨v, r, rfl, h3, h4⟩ := hr
      simp only [RepDs]
      exact ⟨v, r, rfl, h3.toD h1, Reps.toDs h4 h2⟩
    · cases hd

theorem RepDs.set : ∀ {as : List D} {vs : List Value}, RepDs W X as vs → ∀ {i : Nat} {a : D} {v : Value}, RepD W X a v → RepDs W X (as.set i a) (vs.set i v)
  | [], _, hr, i, a, v, _ => by simp only [RepDs] at hr; subst hr; simp [RepDs]
  | b :: as, _, hr, i, a, x, hx => by
    simp only [RepDs] at hr
    obtain ⟨v, r, rfl, h2, h3⟩ := hr
    cases i with
    | zero => simp only [List.set_cons_zero, RepDs]; exact ⟨_, _, rfl, hx, h3⟩
    | succ i => simp only [List.set_cons_succ, RepDs]; exact ⟨_, _, rfl, h2, RepDs.set h3 hx⟩

theorem RepDs.putL : ∀ {cs : List D} {c : List Value}, RepDs W X cs c → ∀ (o : Nat) {vs : List D} {us : List Value}, RepDs W X vs us → RepDs W X (putL cs o vs) (putL c o us)
  | cs, c, hr, o, [], us, hu => by simp only [RepDs] at hu; subst hu; exact hr
  | cs, c, hr, o, v :: vs, us, hu => by
    simp only [RepDs] at hu
    obtain ⟨u, r, rfl, h1, h2⟩ := hu
    exact RepDs.putL (hr.set h1) (o + 1) h2

theorem putL_take {α : Type} : ∀ (us cs : List α) (o k : Nat), o + us.length ≤ k → (putL cs o us).take k = putL (cs.take k) o us
  | [], cs, o, k, _ => rfl
  | u :: us, cs, o, k, hl => by
    simp only [putL, List.length_cons] at hl ⊢
    rw [putL_take us _ _ _ (by omega), List.take_set]
theorem putL_drop {α : Type} : ∀ (us cs : List α) (o k : Nat), k ≤ o → (putL cs o us).drop k = putL (cs.drop k) (o - k) us
  | [], cs, o, k, _ => rfl
  | u :: us, cs, o, k, hl => by
    simp only [putL]
    rw [putL_drop us _ _ _ (by omega), List.drop_set, if_neg (by omega), show o + 1 - k = o - k + 1 by omega]
theorem putL_take_lt {α : Type} : ∀ (us cs : List α) (o k : Nat), k ≤ o → (putL cs o us).take k = cs.take k
  | [], cs, o, k, _ => rfl
  | u :: us, cs, o, k, hl => by
    simp only [putL]
    rw [putL_take_lt us _ _ _ (by omega), List.take_set_of_le (by omega)]
theorem putL_drop_ge {α : Type} : ∀ (us cs : List α) (o k : Nat), o + us.length ≤ k → (putL cs o us).drop k = cs.drop k
  | [], cs, o, k, _ => rfl
  | u :: us, cs, o, k, hl => by
    simp only [putL, List.length_cons] at hl ⊢
    rw [putL_drop_ge us _ _ _ (by omega), List.drop_set, if_pos (by omega)]

/-- A part of row r is written. -/
theorem RepRows.put {k : Nat} : ∀ {xs : List (List D)} {vs : List Value}, RepRows W X k xs vs → ∀ {r o : Nat} {ds : List D} {us : List Value}, r < xs.length → o + us.length ≤ k → RepDs W X ds us →
    RepRows W X k (xs.set r (Aw.putL (xs.getD r []) o ds)) (Aw.putL vs (r * k + o) us)
  | [], vs, _, r, o, ds, us, hr, _, _ => by simp at hr
  | x :: xs, vs, hx, 0, o, ds, us, _, ho, hd => by
    simp only [RepRows, List.set_cons_zero, List.getD_cons_zero, Nat.zero_mul, Nat.zero_add] at hx ⊢
    refine ⟨by rw [putL_length]; exact hx.1, ?_, ?_⟩
    · rw [putL_take _ _ _ _ ho]; exact hx.2.1.putL o hd
    · rw [putL_drop_ge _ _ _ _ ho]; exact hx.2.2
  | x :: xs, vs, hx, r + 1, o, ds, us, hr, ho, hd => by
    simp only [RepRows, List.set_cons_succ, List.getD_cons_succ, List.length_cons] at hx hr ⊢
    refine ⟨hx.1, ?_, ?_⟩
    · rw [putL_take_lt _ _ _ _ (by rw [Nat.succ_mul]; omega)]; exact hx.2.1
    · rw [putL_drop _ _ _ _ (by rw [Nat.succ_mul]; omega), show (r + 1) * k + o - k = r * k + o by rw [Nat.succ_mul]; omega]
      exact RepRows.put hx.2.2 (by omega) ho hd

/-- An array's rows change in place. -/
theorem chg_arr {w : World} {k : Nat} {i : Nat} {xs xs' : List (List D)} (hi : hget h i = some (.arr k xs)) (hl : xs'.length = xs.length) {b : Nat} (hb : E.O i = some b) (ob : Obj) : Chg E h w E (hset h i (.arr k xs')) (World.row w b ob) i where
  os := rfl
  tape := rfl
  output := rfl
  size := by simp
  envO := fun j e => rfl
  envC := fun j e => rfl
  M := rfl
  N := rfl
  hh := fun j e => hget_hset_other e
  gi := by
    unfold GoesOn
    rw [hi]
    exact ⟨xs', hget_hset_same hi, by omega, fun _ => ⟨rfl, rfl⟩⟩
  blk := fun k hk hn => row_other (fun e => hn ⟨by simp [hi], by rw [hb, e]⟩)
  new := fun k _ hk => .inl ⟨by simp [hi], hk⟩

theorem sat_arr_put {cx : Cx} {s : AS} {a : Act} {w : World} (hs : Sat cx E s a w) {i k : Nat} {xs : List (List D)} (hi : hget s.h i = some (.arr k xs)) {r o : Nat} {ds : List D} {us : List Value} (hd : RepDs w (Xs E s.h) ds us)
    (hr : r < xs.length) (ho : o + us.length ≤ k) {b : Nat} {c : Array Value} {T : TypeId} {fz : Nat × Nat} (hb : E.O i = some b) (hc : w.heap[b]? = some (.cells c T fz)) :
    Sat cx E { s with h := hset s.h i (.arr k (xs.set r (Aw.putL (xs.getD r []) o ds))) } a (World.row w b (.cells (putA c (r * k + o) us) T fz)) ∧ Evo cx.fl E s.h w E (hset s.h i (.arr k (xs.set r (Aw.putL (xs.getD r []) o ds)))) (World.row w b (.cells (putA c (r * k + o) us) T fz)) := by
  have ch := chg_arr (E := E) (w := w) hi (xs' := xs.set r (Aw.putL (xs.getD r []) o ds)) (by simp) hb (.cells (putA c (r * k + o) us) T fz)
  refine ⟨ch.sat hs (fun ob ho => ?_), ch.evo (.inl (by simp [hi]))⟩
  rw [hget_hset_same hi] at ho
  cases ho
  have := hs.hp.heap i _ hi
  simp only [RepObj] at this ⊢
  rcases this with ⟨h0, _⟩ | ⟨b', c', T', fz', h1, h2, h3, h4, h5, h6⟩
  · rw [hb] at h0; cases h0
  rw [hb] at h1; cases h1
  rw [hc] at h2; cases h2
  refine .inr ⟨b, putA c (r * k + o) us, T, fz, hb, row_get (Array.getElem?_eq_some_iff.1 hc).1, by rw [putA_size]; exact h3, by simpa using h4, ?_, by rw [putA_size]; exact h6⟩
  rw [putA_toList]
  have hd' : RepDs (World.row w b (.cells (putA c (r * k + o) us) T fz)) (Xs E (hset s.h i (.arr k (xs.set r (Aw.putL (xs.getD r []) o ds))))) ds us := RepDs.step ch.hX ch.hK _ _ hd
  exact RepRows.put (ch.rows h5) hr ho hd'

/-- A new array. -/
theorem sat_new_arr {cx : Cx} {s : AS} {a : Act} {w : World} (hs : Sat cx E s a w) {k cap : Nat} {xs : List (List D)} {vs : Array Value} (hr : RepRows w (Xs E s.h) k xs vs.toList) (hl : xs.length ≤ cap) (hz : vs.size = cap * k) (T : TypeId) (w' : World) (hw : w' = w.alloc (.cells vs T)) :
    Sat cx (E.set (fresh cx.fl s.h) (some w.heap.size) cap) { s with h := (fresh cx.fl s.h, .arr k xs) :: s.h } a w' ∧ Evo cx.fl E s.h w (E.set (fresh cx.fl s.h) (some w.heap.size) cap) ((fresh cx.fl s.h, .arr k xs) :: s.h) w' ∧
    Rep w' (E.set (fresh cx.fl s.h) (some w.heap.size) cap) ((fresh cx.fl s.h, .arr k xs) :: s.h) (.osl (fresh cx.fl s.h) k xs.length 0 xs.length) (.slice (some ⟨w.heap.size, 0, none⟩) xs.length cap) := by
  subst hw
  have c := chg_new cx.fl hs.hp (.cells vs T) (.arr k xs) cap
  refine ⟨c.sat hs (fun o ho => ?_), c.evo (.inr (fl_le_fresh _ _)), ?_⟩
  · simp [hget] at ho
    subst ho
    simp only [RepObj]
    exact .inr ⟨w.heap.size, vs, T, (0, 0), by simp [Env.set], alloc_get w _, by simpa [Env.set] using hz, by simpa [Env.set] using hl, c.rows hr, by simp [unfrozen]⟩
  · simp only [Rep]
    exact ⟨⟨_, _, _, rfl⟩, xs, by simp [hget], Nat.le_refl _, by omega, fun _ => .inr (.inl ⟨w.heap.size, by simp [Env.set], by simp [Env.set]⟩)⟩

/-- A new block that nobody writes. -/
theorem sat_new_free {cx : Cx} {s : AS} {a : Act} {w : World} (hs : Sat cx E s a w) (ob : Obj) : Sat cx E s a (w.alloc ob) ∧ Evo cx.fl E s.h w E s.h (w.alloc ob) ∧ (∀ x v, Rep w E s.h x v → Rep (w.alloc ob) E s.h x v) := by
  have hk : ∀ b, b < w.heap.size → (w.alloc ob).heap[b]? = w.heap[b]? := fun b hb => by
    show (w.heap.push ob)[b]? = _
    rw [Array.getElem?_push, if_neg (by omega)]
  have hev : Evo cx.fl E s.h w E s.h (w.alloc ob) := ⟨rfl, rfl, rfl, by simp, fun b hb _ _ => hk b hb, fun _ hb => .inl hb, fun _ hm => hm, fun _ hm => .inl hm, rfl, fun i _ hi => ⟨hi, GoesOn.refl E _ i⟩⟩
  have hrep : ∀ x v, Rep w E s.h x v → Rep (w.alloc ob) E s.h x v := fun x v hr => Rep.step (fun _ _ hx => hx) (fun b hb _ => hk b hb) x v (fun j _ => GoesOn.refl E s.h j) hr
  refine ⟨⟨fun j g v hj => ?_, hs.nt, ⟨fun i o ho => ?_, hs.hp.inj, fun b hb => ?_, fun b hb => ?_, fun b hb => ?_⟩, by have := hs.base; simp; omega, ?_, ?_⟩, hev, hrep⟩
  · obtain ⟨x, h1, h2, h3⟩ := hs.slots j g v hj
    exact ⟨x, h1, fun e => hrep _ _ (h2 e), h3⟩
  · have := hs.hp.heap i o ho
    have hlt : ∀ b, E.O i = some b → b < w.heap.size := fun b hb => (hs.hp.own b ⟨i, by simp [ho], hb⟩).1
    cases o with
    | var cs =>
      simp only [RepObj] at this ⊢
      obtain ⟨b, d, T, fz, h1, h2, h3, h4⟩ := this
      exact ⟨b, d, T, fz, h1, (hk b (hlt b h1)).trans h2, Reps.step (fun _ _ hx => hx) (fun b hb _ => hk b hb) _ _ (fun j _ => GoesOn.refl E s.h j) h3, h4⟩
    | tvar tt cs =>
      simp only [RepObj] at this ⊢
      obtain ⟨b, d, T, fz, h1, h2, h3, h4⟩ := this
      exact ⟨b, d, T, fz, h1, (hk b (hlt b h1)).trans h2, Reps.step (fun _ _ hx => hx) (fun b hb _ => hk b hb) _ _ (fun j _ => GoesOn.refl E s.h j) h3, h4⟩
    | arr k xs =>
      simp only [RepObj] at this ⊢
      rcases this with h0 | ⟨b, d, T, fz, h1, h2, h3, h4, h5, h6⟩
      · exact .inl h0
      · exact .inr ⟨b, d, T, fz, h1, (hk b (hlt b h1)).trans h2, h3, h4, RepRows.step (fun _ _ hx => hx) (fun b hb _ => hk b hb) _ _ _ h5, h6⟩
    | buf tt xs =>
      simp only [RepObj] at this ⊢
      rcases this with h0 | ⟨b, d, T, fz, h1, h2, h3, h4, h5, h6⟩
      · exact .inl h0
      · exact .inr ⟨b, d, T, fz, h1, (hk b (hlt b h1)).trans h2, h3, h4, h5, h6⟩
    | strit l p =>
      simp only [RepObj] at this ⊢
      obtain ⟨b, h1, h2⟩ := this
      exact ⟨b, h1, (hk b (hlt b h1)).trans h2⟩
    | omap es =>
      simp only [RepObj] at this ⊢
      obtain ⟨b, m, cl, h1, h2, h3⟩ := this
      exact ⟨b, m, cl, h1, (hk b (hlt b h1)).trans h2, h3⟩
  · have := hs.hp.own b hb
    exact ⟨by simp; omega, this.2⟩
  · have := hs.hp.mlt b hb; simp; omega
  · have := hs.hp.nlt b hb; simp; omega
  · exact hs.marks.step (fun _ _ h => h) (fun r hr _ => hk r (Array.getElem?_eq_some_iff.1 hr).1)
  · exact cx.stab _ _ _ _ _ _ _ (fun b hb _ => hk b hb) (fun _ hb => .inl hb) (fun b hb => by have := hb.elim (fun h => (hs.hp.own b h).1) hs.marks.lt; simp; omega) (by simp) rfl rfl rfl hs.ghost

/-! ### Values built out of parts -/
def fillL (pl : Nat → Option (Nat × Nat)) : List AV → List (Nat × AV) → Prop × List AV
  | cs, [] => (True, cs)
  | cs, (i, v) :: r => match pl i with
    | some (off, sz) => let q := fillL pl (Aw.putL cs off v.cells) r
      (v.cells.length = sz ∧ v.cellsOk = true ∧ off + sz ≤ cs.length ∧ q.1, q.2)
    | none => (False, cs)

theorem foldl_putA (off : Nat) : ∀ (l : List Value) (j : Nat) (c : Array Value), (l.zipIdx j).foldl (fun (cs : Array Value) (p : Value × Nat) => cs.setIfInBounds (off + p.2) p.1) c = putA c (off + j) l
  | [], j, c => rfl
  | v :: l, j, c => by
    simp only [List.zipIdx_cons, List.foldl_cons, putA]
    exact foldl_putA off l (j + 1) _

theorem fill_ok {pl : Nat → Option (Nat × Nat)} : ∀ (parts : List (Nat × AV)) (vals : List (Nat × Value)) (cs : List AV) (c : Array Value), (fillL pl cs parts).1 → Reps W E h cs c.toList →
    (parts.length = vals.length ∧ ∀ (j i : Nat) (x : AV), parts[j]? = some (i, x) → ∃ v, vals[j]? = some (i, v) ∧ Rep W E h x v) → ∃ c', Instr.fill pl c vals = some c' ∧ Reps W E h (fillL pl cs parts).2 c'.toList
  | [], vals, cs, c, _, hr, hl => by
    have : vals = [] := by
      have := hl.1; simp at this; exact List.eq_nil_of_length_eq_zero this.symm
    subst this
    exact ⟨c, rfl, hr⟩
  | (i, x) :: parts, [], cs, c, _, _, hl => by simp at hl
  | (i, x) :: parts, (i', v) :: vals, cs, c, hv, hr, hl => by
    obtain ⟨v', h1, h2⟩ := hl.2 0 i x rfl
    simp only [List.getElem?_cons_zero, Option.some.injEq, Prod.mk.injEq] at h1
    obtain ⟨rfl, rfl⟩ := h1
    simp only [fillL] at hv ⊢
    cases hp : pl i' with
    | none => simp [hp] at hv
    | some p =>
      obtain ⟨off, sz⟩ := p
      simp only [hp] at hv ⊢
      obtain ⟨g1, g2, g3, g4⟩ := hv
      obtain ⟨g5, g6⟩ := h2.cells g2
      have e1 := Reps.length g5
      have e2 := Reps.length hr
      have hsz : v.cells.size = sz := by rw [← g1, ← e1]; simp
      obtain ⟨c', q1, q2⟩ := fill_ok parts vals (Aw.putL cs off x.cells) (putA c off v.cells.toList) g4 (by rw [putA_toList]; exact hr.putL off g5)
        ⟨by have := hl.1; simpa using this, fun j a y hj => hl.2 (j + 1) a y (by simpa using hj)⟩
      refine ⟨c', ?_, q2⟩
      have hcs : c.size = cs.length := by rw [← e2]; simp
      simp only [Instr.fill, hp, hsz, ne_eq, not_true_eq_false, decide_false, Bool.false_or]
      rw [if_neg (by simp; omega)]
      rw [← q1]
      congr 1
      have := foldl_putA off v.cells.toList 0 c
      rw [Nat.add_zero] at this
      rw [← this, ← Array.toList_zipIdx, Array.foldl_toList]
end
end Go.Aw
