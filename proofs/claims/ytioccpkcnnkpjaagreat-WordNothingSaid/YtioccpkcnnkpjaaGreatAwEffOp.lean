/-
  Operations that make or write memory of one's own, reckoned; and that the model does so.
-/
import Derived.Test.YtioccpkcnnkpjaaGreatAwExt
import Derived.CallsIn
namespace Go.Aw
set_option maxRecDepth 100000
set_option linter.unusedSimpArgs false
set_option linter.unusedVariables false
open Go

/-- What an operation comes to, on abstract states: its result and the heap behind it. -/
def aeff (fl : Nat) (P : Program) (s : AS) (op : Op) (K : AV → AHeap → Prop) : Prop :=
  match op with
  | .alloc t => zeroOk P t = true ∧ K (.pt (typedT P 12 t) (fresh fl s.h) 0) ((fresh fl s.h, .vr (typedT P 12 t) t (zcells P 12 t)) :: s.h)
  | .box t x => (s.ev x).1 = true ∧ ((s.ev x).2.tag P t).cellsOk = true ∧ K (.pt (typedT P 12 t) (fresh fl s.h) 0) ((fresh fl s.h, .vr (typedT P 12 t) t ((s.ev x).2.tag P t).cells) :: s.h)
  | .build t parts =>
    zeroOk P t = true ∧ (parts.toList.all fun p => (s.ev p.2).1) = true ∧
    (match (ty P t).td with
    | .struct fs =>
      (fs.all fun f => (ty P f.2).td ≠ .other) = true ∧
      let q := fillL (fun i => (fs[i]?).map fun f => (f.1, (ty P f.2).size)) (zcells P 12 t) (parts.toList.map fun p => (p.1, ((s.ev p.2).2.tag P ((fs.getD p.1 (0, 0)).2))))
      q.1 ∧ K (.agg q.2) s.h
    | .arr _ e =>
      (ty P e).td ≠ .other ∧
      let q := fillL (fun i => some (i * (ty P e).size, (ty P e).size)) (zcells P 12 t) (parts.toList.map fun p => (p.1, ((s.ev p.2).2.tag P e)))
      q.1 ∧ K (.agg q.2) s.h
    | _ => False)
  | .buildSlice t len parts =>
    (match (ty P t).td with
    | .slice e =>
      zeroOk P e = true ∧ (parts.toList.all fun p => (s.ev p.2).1) = true ∧ (ty P e).td ≠ .other ∧ (ty P e).size ≠ 0 ∧ len * (ty P e).size ≤ 16777216 ∧
      let q := fillL (fun i => some (i * (ty P e).size, (ty P e).size)) ((List.replicate len (zcells P 12 e)).flatten) (parts.toList.map fun p => (p.1, ((s.ev p.2).2.tag P e)))
      let rows := (List.range len).map fun i => (q.2.drop (i * (ty P e).size)).take (ty P e).size
      q.1 ∧ (match toRows rows with
        | some ds => K (.osl (fresh fl s.h) (ty P e).size len 0 len) ((fresh fl s.h, .arr (ty P e).size ds) :: s.h)
        | none => 0 < len ∧ K (.asl (ty P e).size rows) s.h)
    | _ => False)
  | .store t x y =>
    (s.ev x).1 = true ∧ (s.ev y).1 = true ∧ (ty P t).td ≠ .other ∧
    let v := (s.ev y).2.tag P t
    v.cellsOk = true ∧ v.cells.length = (ty P t).size ∧
    (match (s.ev x).2 with
    | .vp i o => (match hget s.h i with
      | some (.var cs) => o + (ty P t).size ≤ cs.length ∧ K .any (hset s.h i (.var (putL cs o v.cells)))
      | _ => False)
    | .tp i o => (match hget s.h i with
      | some (.tvar tt cs) => o + (ty P t).size ≤ cs.length ∧ K .any (hset s.h i (.tvar tt (putL cs o v.cells)))
      | _ => False)
    | .ap i n k r o => (match hget s.h i with
      | some (.arr k' xs) => k' = k ∧ xs.length = n ∧ r < n ∧ o + (ty P t).size ≤ k ∧
        (match toDs v.cells with
        | some ds => K .any (hset s.h i (.arr k' (xs.set r (putL (xs.getD r []) o ds))))
        | none => False)
      | _ => False)
    | _ => False)
  | op => aextra fl P s op K

section
variable {P : Program} {W : World} {E : Env} {s : AS} {a : Act} {cx : Cx} {K : AV → AHeap → Prop}

theorem zero_cells {t : TypeId} (hz : zeroOk P t = true) : ∃ z, (∀ w, (zeroValue t).run P w = .ok z w) ∧ Reps W E s.h (zcells P 12 t) z.cells.toList ∧ z.cells.size = (ty P t).size := by
  obtain ⟨i, z, h1, h2, h3, h4, h5, h6⟩ := zero_ok hz
  exact ⟨z, fun w => run_zeroValue h1 h2 w, gndL_reps h3, by rw [h5, h6]⟩

theorem toRows_ok {k : Nat} : ∀ {rows : List (List AV)} {ds : List (List D)} {vs : List Value}, RepARows W E s.h k rows vs → toRows rows = some ds → RepRows W (Xs E s.h) k ds vs ∧ ds.length = rows.length
  | [], ds, vs, _, hd => by simp only [toRows, Option.some.injEq] at hd; subst hd; simp [RepRows]
  | r :: rows, ds, vs, hr, hd => by
    simp only [toRows] at hd
    split at hd
    · rename_i x xs h1 h2
      cases hd
      simp only [RepARows] at hr
      obtain ⟨h3, h4, h5⟩ := hr
      obtain ⟨h6, h7⟩ := toRows_ok h5 h2
      have h8 := Reps.toDs h4 h1
      simp only [RepRows]
      refine ⟨⟨?_, h8, h6⟩, by simp [h7]⟩
      rw [← RepDs.length h8, Reps.length h4, h3]
    · cases hd

theorem getElem?_flatten_replicate {α : Type} {l : List α} {k : Nat} (hk : l.length = k) : ∀ (n i : Nat), i < n * k → ((List.replicate n l).flatten)[i]? = l[i % k]?
  | 0, i, hi => by simp at hi
  | n + 1, i, hi => by
    rw [Nat.succ_mul] at hi
    simp only [List.replicate_succ, List.flatten_cons]
    by_cases h1 : i < k
    · rw [List.getElem?_append_left (by omega), Nat.mod_eq_of_lt h1]
    · rw [List.getElem?_append_right (by omega), hk, getElem?_flatten_replicate hk n (i - k) (by omega)]
      rw [← Nat.mod_eq_sub_mod (by omega)]

theorem zero_rows {t : TypeId} {z : Value} {k n : Nat} (h2 : Reps W E s.h (zcells P 12 t) z.cells.toList) (h3 : z.cells.size = k) :
    Reps W E s.h ((List.replicate n (zcells P 12 t)).flatten) ((Array.range (n * k)).map (z.cells[· % z.cells.size]!)).toList := by
  have hl := Reps.length h2
  have hz : (zcells P 12 t).length = k := by rw [← hl, ← h3]; simp
  refine Reps.of_get (by simp [hz]) (fun j hj => ?_)
  have hj' : j < n * k := by simpa [hz] using hj
  have hk : 0 < k := by
    rcases Nat.eq_zero_or_pos k with h0 | h0
    · subst h0; simp at hj'
    · exact h0
  have hlt : j % k < k := Nat.mod_lt _ hk
  obtain ⟨v, hv, hr⟩ := Reps.get h2 (getD_some (d := AV.any) (show j % k < (zcells P 12 t).length by omega))
  refine ⟨v, ?_, ?_⟩
  · have hv' : z.cells[j % k]? = some v := by rw [← Array.getElem?_toList]; exact hv
    simp only [Array.toList_map, Array.toList_range, List.getElem?_map, List.getElem?_range hj', Option.map_some, Option.some.injEq, h3]
    rw [getElem!_def, hv']
  · rw [List.getD_eq_getElem?_getD, getElem?_flatten_replicate hz n j hj', ← List.getD_eq_getElem?_getD]
    exact hr

theorem rows_of {k : Nat} (hk : k ≠ 0) : ∀ (n o : Nat) {cs : List AV} {vs : List Value}, Reps W E s.h cs vs → cs.length = (o + n) * k →
    RepARows W E s.h k ((List.range' o n).map fun i => (cs.drop (i * k)).take k) (vs.drop (o * k))
  | 0, o, cs, vs, _, _ => by simp [RepARows]
  | n + 1, o, cs, vs, hr, hl => by
    simp only [List.range'_succ, List.map_cons, RepARows]
    have hlen : cs.length = o * k + n * k + k := by rw [hl, Nat.add_mul, Nat.succ_mul]; omega
    refine ⟨by simp; omega, (hr.drop _).take _, ?_⟩
    rw [List.drop_drop, show o * k + k = (o + 1) * k by rw [Nat.succ_mul]]
    exact rows_of hk n (o + 1) hr (by rw [hl]; congr 1; omega)

theorem parts_ok (hs : Slots W E s a) (tagf : Nat → TypeId) {parts : Array (Nat × Operand)} (hg : (parts.toList.all fun p => (s.ev p.2).1) = true) :
    (parts.toList.map fun p => (p.1, (s.ev p.2).2.tag P (tagf p.1))).length = ((parts.map fun (i, x) => (i, a.eval x)).toList).length ∧
    ∀ (j i : Nat) (x : AV), (parts.toList.map fun p => (p.1, (s.ev p.2).2.tag P (tagf p.1)))[j]? = some (i, x) → ∃ v, ((parts.map fun (i, x) => (i, a.eval x)).toList)[j]? = some (i, v) ∧ Rep W E s.h x v := by
  refine ⟨by simp, fun j i x hj => ?_⟩
  simp only [List.getElem?_map, Option.map_eq_some_iff, Prod.mk.injEq] at hj
  obtain ⟨p, hp, rfl, rfl⟩ := hj
  have hm : p ∈ parts.toList := List.mem_of_getElem? hp
  have := List.all_eq_true.1 hg p hm
  exact ⟨a.eval p.2, by simp [hp], Rep.tag (ev_ok hs p.2 this)⟩

theorem aeff_ok (hs : Sat cx E s a W) (o : Oper) (h : aeff cx.fl P s o.op K) : Does P (execOp a.eval o) W (EffPost cx E s a W K) := by
  obtain ⟨dst, op, ot, pos, after, guard⟩ := o
  dsimp only at h
  unfold aeff at h
  split at h
  · -- alloc
    rename_i t
    obtain ⟨hz, hk⟩ := h
    obtain ⟨z, h1, h2, h3⟩ := zero_cells (W := W) (E := E) (s := s) hz
    obtain ⟨q1, q2, q3⟩ := sat_new_pt hs h2 (typedT P 12 t) t
    refine .inl ⟨.pointer (some ⟨W.heap.size, 0, none⟩), W.alloc (.cells z.cells t), ?_, _, _, _, hk, q1, q2, q3⟩
    simp [execOp, Instr.alloc, h1, newVar, newRow]
  · -- box
    rename_i t x
    obtain ⟨hg, hc, hk⟩ := h
    have hx : Rep W E s.h ((s.ev x).2.tag P t) (a.eval x) := Rep.tag (ev_ok hs.slots x hg)
    obtain ⟨h2, _⟩ := hx.cells hc
    obtain ⟨q1, q2, q3⟩ := sat_new_pt hs h2 (typedT P 12 t) t
    refine .inl ⟨.pointer (some ⟨W.heap.size, 0, none⟩), W.alloc (.cells (a.eval x).cells t), ?_, _, _, _, hk, q1, q2, q3⟩
    simp [execOp, Instr.box, newVar, newRow]
  · -- build
    rename_i t parts
    obtain ⟨hz, hg, h⟩ := h
    obtain ⟨z, h1, h2, h3⟩ := zero_cells (W := W) (E := E) (s := s) hz
    split at h
    · rename_i fs ht
      obtain ⟨hfs, hq, hk⟩ := h
      obtain ⟨gs, hu, hgs, _⟩ := und_struct ht
      have hmap : ∀ w, (gs.mapM fun (f : Field) => do pure (f.offset, ← sizeOf f.type)).run P w = .ok (gs.map fun (f : Field) => (f.offset, (ty P f.type).size)) w := by
        intro w
        have : ∀ (l : List Field), (∀ f ∈ l, (ty P f.type).td ≠ .other) → ∀ w, (l.mapM fun (f : Field) => do pure (f.offset, ← sizeOf f.type) : Sem (List (Nat × Nat))).run P w = .ok (l.map fun (f : Field) => (f.offset, (ty P f.type).size)) w := by
          intro l
          induction l with
          | nil => intro _ w; simp
          | cons f l ih =>
            intro hl w
            obtain ⟨d, hd⟩ := und_ne (hl f (by simp))
            simp only [List.mapM_cons, Sem.run_bind, run_sizeOf hd, Result.andThen_ok, Sem.run_pure, ih (fun g hg => hl g (by simp [hg])), List.map_cons]
        rw [Array.mapM_eq_mapM_toList]
        simp only [Sem.run_map]
        rw [this gs.toList (fun f hf => by
          have := List.all_eq_true.1 hfs (f.offset, f.type) (by rw [← hgs]; exact List.mem_map_of_mem hf)
          simpa using this)]
        simp only [Result.andThen_ok]
        rw [← Array.toList_map]
      obtain ⟨c', g1, g2⟩ := fill_ok (pl := fun i => (fs[i]?).map fun f => (f.1, (ty P f.2).size)) _ _ _ z.cells hq h2 (parts_ok (P := P) hs.slots (fun i => (fs.getD i (0, 0)).2) hg)
      have hpl : (fun (i : Nat) => (fs[i]?).map fun (f : Nat × Nat) => (f.1, (ty P f.2).size)) = (fun i => (gs.map fun (f : Field) => (f.offset, (ty P f.type).size))[i]?) := by
        funext i
        rw [← hgs]
        simp only [List.getElem?_map, Array.getElem?_map, Option.map_map, Array.getElem?_toList]
        rfl
      rw [hpl] at g1
      refine .inl ⟨.agg c', W, ?_, E, s.h, _, hk, hs, Evo.refl _ _ _ _, ?_⟩
      · simp only [execOp, Instr.build, Sem.run_bind, h1, Result.andThen_ok, run_underlying hu, hmap, g1, Sem.run_pure]
      · simp only [Rep]; exact ⟨c', rfl, g2⟩
    · rename_i n e ht
      obtain ⟨he, hq, hk⟩ := h
      obtain ⟨de, hde⟩ := und_ne he
      obtain ⟨c', g1, g2⟩ := fill_ok (pl := fun i => some (i * (ty P e).size, (ty P e).size)) _ _ _ z.cells hq h2 (parts_ok (P := P) hs.slots (fun _ => e) hg)
      refine .inl ⟨.agg c', W, ?_, E, s.h, _, hk, hs, Evo.refl _ _ _ _, ?_⟩
      · simp only [execOp, Instr.build, Sem.run_bind, h1, Result.andThen_ok, run_underlying (und_arr ht), run_sizeOf hde, g1, Sem.run_pure]
      · simp only [Rep]; exact ⟨c', rfl, g2⟩
    · exact h.elim
  · -- buildSlice
    rename_i t len parts
    split at h
    · rename_i e ht
      obtain ⟨hz, hg, he, hk0, hsm, hq, hk⟩ := h
      obtain ⟨z, h1, h2, h3⟩ := zero_cells (W := W) (E := E) (s := s) hz
      obtain ⟨de, hde⟩ := und_ne he
      have hk1 : z.cells.size = (ty P e).size := h3
      have hz0 := zero_rows (n := len) h2 hk1
      obtain ⟨c', g1, g2⟩ := fill_ok (pl := fun i => some (i * (ty P e).size, (ty P e).size)) _ _ _ _ hq hz0 (parts_ok (P := P) hs.slots (fun _ => e) hg)
      have hzl : (zcells P 12 e).length = (ty P e).size := by have := Reps.length h2; simp at this; omega
      have hfl : ∀ (pl : Nat → Option (Nat × Nat)) (ps : List (Nat × AV)) (cs : List AV), (fillL pl cs ps).2.length = cs.length := by
        intro pl ps
        induction ps with
        | nil => intro cs; rfl
        | cons p ps ih =>
          intro cs
          obtain ⟨i, v⟩ := p
          simp only [fillL]
          cases pl i with
          | none => rfl
          | some q => simp only; rw [ih, putL_length]
      have hrows := rows_of (W := W) (E := E) (s := s) hk0 len 0 g2 (by rw [hfl]; simp [hzl])
      rw [← List.range_eq_range', Nat.zero_mul, List.drop_zero] at hrows
      have hcl : c'.size = len * (ty P e).size := by have := Reps.length g2; rw [hfl] at this; simp [hzl] at this; exact this
      have hrun : (execOp a.eval ⟨dst, .buildSlice t len parts, ot, pos, after, guard⟩).run P W = .ok (.value (.slice (some ⟨W.heap.size, 0, none⟩) len len)) (W.alloc (.cells c' e)) := by
        have hn : ¬ len * (ty P e).size > 2 ^ 24 := by omega
        have g1' : Instr.fill (fun i => some (i * (ty P e).size, (ty P e).size)) ((Array.range (len * (ty P e).size)).map ((if len * (ty P e).size = 0 then #[] else z.cells)[· % (if len * (ty P e).size = 0 then #[] else z.cells).size]!)) (parts.map fun (i, x) => (i, a.eval x)).toList = some c' := by
          rw [← g1]
          congr 1
          by_cases h0 : len * (ty P e).size = 0
          · simp [h0]
          · simp [h0]
        simp only [execOp, Instr.buildSlice, Sem.run_bind, run_underlying (und_slice ht), run_sizeOf hde, Result.andThen_ok, Sem.run_ite, hn, if_false, Sem.run_pure]
        by_cases h0 : len * (ty P e).size = 0
        · simp only [h0, if_true] at g1' ⊢
          simp only [Sem.run_pure, Result.andThen_ok, g1', newRow, Sem.run_bind, run_newObj, World.alloc_eq]
        · simp only [h0, if_false] at g1' ⊢
          simp only [Sem.run_bind, h1, Sem.run_pure, Result.andThen_ok, g1', newRow, run_newObj, World.alloc_eq]
      split at hk
      · rename_i ds hds
        obtain ⟨r1, r2⟩ := toRows_ok hrows hds
        have r2' : ds.length = len := by simpa using r2
        obtain ⟨q1, q2, q3⟩ := sat_new_arr hs r1 (cap := len) (by omega) hcl e _ rfl
        rw [r2'] at q3
        exact .inl ⟨_, _, hrun, _, _, _, hk, q1, q2, q3⟩
      · obtain ⟨h0, hk⟩ := hk
        obtain ⟨q1, q2, q3⟩ := sat_new_free hs (.cells c' e)
        refine .inl ⟨_, _, hrun, E, s.h, _, hk, q1, q2, ?_⟩
        simp only [Rep]
        refine ⟨⟨W.heap.size, 0, none⟩, len, c', e, (0, 0), by simp, rfl, by simp, ?_, alloc_get _ _, ?_⟩
        · rintro (hx | hx | hx)
          · have := (hs.hp.own _ hx).1; simp at this
          · have := hs.hp.mlt _ hx; simp at this
          · have := hs.hp.nlt _ hx; simp at this
        · rw [List.drop_zero]
          refine RepARows.step (fun _ _ hx => hx) (fun b hb _ => ?_) _ _ _ (fun j _ => GoesOn.refl E s.h j) hrows
          show (W.heap.push _)[b]? = _
          rw [Array.getElem?_push, if_neg (by omega)]
    · exact h.elim
  · -- store
    rename_i t x y
    obtain ⟨hgx, hgy, ht, hc, hsz, h⟩ := h
    have hx := ev_ok hs.slots x hgx
    have hy : Rep W E s.h ((s.ev y).2.tag P t) (a.eval y) := Rep.tag (ev_ok hs.slots y hgy)
    obtain ⟨hcs, h1c⟩ := hy.cells hc
    have hvs : (a.eval y).cells.size = (ty P t).size := by
      have := Reps.length hcs
      simp at this; omega
    split at h
    · rename_i i o hxe
      rw [hxe] at hx
      split at h
      · rename_i cs hi
        obtain ⟨hl, hk⟩ := h
        simp only [Rep] at hx
        obtain ⟨b, cs', hi', hb, hv⟩ := hx
        rw [hi] at hi'; cases hi'
        obtain ⟨b', c, T, fz, g1, g2, g3, g4⟩ := hs.hp.var hi
        rw [hb] at g1; cases g1
        obtain ⟨q1, q2⟩ := sat_var hs hi hcs hb g2 (o := o)
        have hcl := Reps.length g3
        refine .inr ⟨_, ?_, E, _, .any, hk, q1, q2, by simp [Rep]⟩
        simp only [execOp, hv, Instr.storeAt, Instr.sureAddr, Sem.run_bind, Sem.run_pure, Result.andThen_ok]
        rw [run_storeVar ht g2 g4 hvs (by simp at hcl; omega) h1c]
        rfl
      · exact h.elim
    · rename_i i o hxe
      rw [hxe] at hx
      split at h
      · rename_i tt cs hi
        obtain ⟨hl, hk⟩ := h
        simp only [Rep] at hx
        obtain ⟨b, t', cs', hi', hb, hv⟩ := hx
        rw [hi] at hi'; cases hi'
        obtain ⟨b', c, T, fz, g1, g2, g3, g4, g5⟩ := hs.hp.tvar hi
        rw [hb] at g1; cases g1
        obtain ⟨q1, q2⟩ := sat_tvar hs hi hcs hb g2 (o := o)
        have hcl := Reps.length g3
        refine .inr ⟨_, ?_, E, _, .any, hk, q1, q2, by simp [Rep]⟩
        simp only [execOp, hv, Instr.storeAt, Instr.sureAddr, Sem.run_bind, Sem.run_pure, Result.andThen_ok]
        rw [run_storeVar ht g2 g4 hvs (by simp at hcl; omega) h1c]
        rfl
      · exact h.elim
    · rename_i i n k r o hxe
      rw [hxe] at hx
      split at h
      · rename_i k' xs hi
        obtain ⟨rfl, hn, hr, hl, h⟩ := h
        split at h
        · rename_i ds hds
          simp only [Rep] at hx
          obtain ⟨-, xs', hi', _, hv⟩ := hx
          rw [hi] at hi'; cases hi'
          obtain ⟨b, hb, hv⟩ := hv hn
          have hob := hs.hp.heap i _ hi
          simp only [RepObj] at hob
          rcases hob with ⟨h0, _⟩ | ⟨b', c, T, fz, g1, g2, g3, g4, g5, g6⟩
          · rw [h0] at hb; cases hb
          rw [hb] at g1; cases g1
          have hul : (a.eval y).cells.toList.length = (ty P t).size := by simpa using hvs
          obtain ⟨q1, q2⟩ := sat_arr_put hs hi (Reps.toDs hcs hds) (r := r) (o := o) (by omega) (by omega) hb g2
          have hrow := RepRows.length_le g5
          refine .inr ⟨_, ?_, E, _, .any, h, q1, q2, by simp [Rep]⟩
          simp only [execOp, hv, Instr.storeAt, Instr.sureAddr, Sem.run_bind, Sem.run_pure, Result.andThen_ok]
          have hrk : r * k' + k' ≤ xs.length * k' := by
            rw [← Nat.succ_mul]; exact Nat.mul_le_mul_right _ (by omega)
          rw [run_storeVar ht g2 g6 hvs (by simp at hrow; omega) h1c]
          rfl
        · exact h.elim
      · exact h.elim
    · exact h.elim
  · exact aextra_ok hs _ h
end
end Go.Aw
