/-
  Texts to bytes and back.
-/
import Derived.Test.YtoofpcploeanpaaAwDraw4
import Derived.Laws.IdiomStrings
import Derived.Laws.BytesArg
namespace Go.Aw
set_option maxRecDepth 100000
set_option linter.unusedSimpArgs false
set_option linter.unusedVariables false
open Go

def byteRow (b : UInt8) : List D := [.int .u8 b.toNat]
def byteRows (l : List UInt8) : List (List D) := l.map byteRow
def numOf : List D → Int
  | [.int _ n] => n
  | _ => 0
def isByte : List D → Bool
  | [.int .u8 _] => true
  | _ => false
def bytesOf (rows : List (List D)) : List UInt8 := rows.map fun r => UInt8.ofNat (numOf r).toNat

/-- The rows of one cell that a slice shows. -/
def rowsOf (s : AS) : AV → Option (List (List D))
  | .nils _ => some []
  | .d (.sl 1 rows) => some rows
  | .osl i 1 m off len => (match hget s.h i with
    | some (.arr 1 xs) => if m = xs.length ∧ off + len ≤ m then some ((xs.drop off).take len) else none
    | _ => none)
  | .vsl i 1 off len => (match hget s.h i with
    | some (.var cs) => if off + len ≤ cs.length then (toDs ((cs.drop off).take len)).map fun ds => ds.map fun d => [d] else none
    | _ => none)
  | _ => none

def isX (P : Program) : Op → Bool
  | .convert src dst _ => (match (ty P src).td with | .slice _ => true | _ => false) || (match (ty P dst).td with | .slice _ => true | _ => false)
  | _ => false

def aextra (fl : Nat) (P : Program) (s : AS) (op : Op) (K : AV → AHeap → Prop) : Prop :=
  match op with
  | .convert src dst x => (match (ty P src).td, (ty P dst).td with
    | .str, .slice e => (match s.ev x with
      | (g, .d (.str l)) => g = true ∧ (ty P e).td = .int .u8 ∧ K (.osl (fresh fl s.h) 1 l.length 0 l.length) ((fresh fl s.h, .arr 1 (byteRows l)) :: s.h)
      | _ => False)
    | .slice e, .str => (match rowsOf s (s.ev x).2 with
      | some rows => (s.ev x).1 = true ∧ (ty P e).td = .int .u8 ∧ rows.all isByte = true ∧ K (.d (.str (bytesOf rows))) s.h
      | none => False)
    | _, _ => False)
  | _ => False

section
variable {P : Program} {W : World} {E : Env} {s : AS} {a : Act} {cx : Cx} {K : AV → AHeap → Prop}

/-- A new array, its block marked as a text's bytes. -/
theorem sat_new_arr_fz {w : World} (hs : Sat cx E s a w) {k cap : Nat} {xs : List (List D)} {vs : Array Value} (hr : RepRows w (Xs E s.h) k xs vs.toList) (hl : xs.length ≤ cap) (hz : vs.size = cap * k) (T : TypeId) (fz : Nat × Nat) (hf : unfrozen fz vs.size) (w' : World) (hw : w' = w.alloc (.cells vs T fz)) :
    Sat cx (E.set (fresh cx.fl s.h) (some w.heap.size) cap) { s with h := (fresh cx.fl s.h, .arr k xs) :: s.h } a w' ∧ Evo cx.fl E s.h w (E.set (fresh cx.fl s.h) (some w.heap.size) cap) ((fresh cx.fl s.h, .arr k xs) :: s.h) w' ∧
    Rep w' (E.set (fresh cx.fl s.h) (some w.heap.size) cap) ((fresh cx.fl s.h, .arr k xs) :: s.h) (.osl (fresh cx.fl s.h) k xs.length 0 xs.length) (.slice (some ⟨w.heap.size, 0, none⟩) xs.length cap) := by
  subst hw
  have c := chg_new cx.fl hs.hp (.cells vs T fz) (.arr k xs) cap
  refine ⟨c.sat hs (fun o ho => ?_), c.evo (.inr (fl_le_fresh _ _)), ?_⟩
  · simp [hget] at ho
    subst ho
    simp only [RepObj]
    exact .inr ⟨w.heap.size, vs, T, fz, by simp [Env.set], alloc_get w _, by simpa [Env.set] using hz, by simpa [Env.set] using hl, c.rows hr, hf⟩
  · simp only [Rep]
    exact ⟨⟨_, _, _, rfl⟩, xs, by simp [hget], Nat.le_refl _, by omega, fun _ => .inr (.inl ⟨w.heap.size, by simp [Env.set], by simp [Env.set]⟩)⟩

theorem repRows_bytes {w : World} {X : Nat → Prop} : ∀ (l : List UInt8) (r : List Value), RepRows w X 1 (byteRows l) (l.map (fun b => Value.int .u8 b.toNat) ++ r)
  | [], _ => by simp [byteRows, RepRows]
  | b :: l, r => by
    simp only [byteRows, List.map_cons, RepRows, List.cons_append]
    refine ⟨rfl, by simp [byteRow, RepDs, RepD], ?_⟩
    have := repRows_bytes (w := w) (X := X) l r
    unfold byteRows at this
    simpa using this

theorem rows_cells {w : World} {X : Nat → Prop} : ∀ (rows : List (List D)) (cs : List Value), RepRows w X 1 rows cs → rows.all isByte = true → ∀ i, i < rows.length → cs[i]? = some (.int .u8 ((rows.map numOf).getD i 0))
  | [], _, _, _, i, hi => by simp at hi
  | r :: rows, cs, h, hb, i, hi => by
    simp only [RepRows] at h
    obtain ⟨h1, h2, h3⟩ := h
    simp only [List.all_cons, Bool.and_eq_true] at hb
    cases i with
    | zero =>
      unfold isByte at hb
      split at hb
      · rename_i n
        simp only [RepDs, RepD] at h2
        obtain ⟨v, r', e, rfl, rfl⟩ := h2
        cases cs with
        | nil => simp at e
        | cons c cs =>
          simp at e
          simp [numOf, e]
      · simp at hb
    | succ i =>
      have := rows_cells rows _ h3 hb.2 i (by simpa using hi)
      rw [List.getElem?_drop, Nat.add_comm] at this
      simpa using this

theorem strOfNums_bytes (rows : List (List D)) : strOfNums (rows.map numOf) = ⟨(bytesOf rows).toArray⟩ := by
  unfold strOfNums bytesOf
  rw [List.map_map]
  rfl

/-- What a slice of one-cell rows shows, in a world. -/
theorem rowsOf_ok (hp : SatH E s.h W) {x : AV} {v : Value} {rows : List (List D)} (hr : Rep W E s.h x v) (h : rowsOf s x = some rows) :
    (rows = [] ∧ ∃ a cap, v = .slice a 0 cap) ∨ (∃ b off cap c T fz, v = .slice (some ⟨b, off, none⟩) rows.length cap ∧ W.heap[b]? = some (.cells c T fz) ∧ ∃ X, RepRows W X 1 rows (c.toList.drop off)) := by
  unfold rowsOf at h
  split at h
  · cases h
    simp only [Rep] at hr
    exact .inl ⟨rfl, _, _, hr⟩
  · cases h
    simp only [Rep, RepD] at hr
    rcases hr with ⟨rfl, a, cap, rfl⟩ | ⟨a, cap, c, T, fz, rfl, h2, h3, h4, h5, h6⟩
    · exact .inl ⟨rfl, _, _, rfl⟩
    · obtain ⟨ab, ao, asp⟩ := a
      simp only at h2
      subst h2
      exact .inr ⟨ab, ao, cap, c, T, fz, rfl, h5, _, h6⟩
  · rename_i i m off len
    split at h
    · rename_i xs hi
      split at h
      · rename_i hc
        obtain ⟨rfl, hle⟩ := hc
        cases h
        simp only [Rep] at hr
        obtain ⟨_, xs', h1, _, h3, h4⟩ := hr
        rw [hi] at h1; cases h1
        have hlen : ((xs.drop off).take len).length = len := by simp; omega
        have ho := hp.heap i _ hi
        simp only [RepObj] at ho
        rcases h4 rfl with ⟨g1, rfl⟩ | ⟨b, g1, rfl⟩ | ⟨g1, rfl, a, cap, rfl⟩
        · rcases ho with ⟨_, rfl⟩ | ⟨b, c, T, fz, q1, _⟩
          · exact .inl ⟨by simp, _, _, rfl⟩
          · rw [g1] at q1; cases q1
        · rcases ho with ⟨q1, _⟩ | ⟨b', c, T, fz, q1, q2, q3, q4, q5, _⟩
          · rw [g1] at q1; cases q1
          · rw [g1] at q1; cases q1
            refine .inr ⟨b, off * 1, _, c, T, fz, by rw [hlen], q2, _, (RepRows.drop q5 off).take len⟩
        · exact .inl ⟨by simp, _, _, rfl⟩
      · cases h
    · cases h
  · rename_i i off len
    split at h
    · rename_i cs hi
      split at h
      · rename_i hc
        simp only [Option.map_eq_some_iff] at h
        obtain ⟨ds, hds, rfl⟩ := h
        simp only [Rep] at hr
        obtain ⟨b, cs', h1, h2, h3, rfl⟩ := hr
        rw [hi] at h1; cases h1
        have ho := hp.heap i _ hi
        simp only [RepObj] at ho
        obtain ⟨b', c, T, fz, q1, q2, q3, _⟩ := ho
        rw [h2] at q1; cases q1
        have hq := (Reps.drop q3 off).take len
        have hd := hq.toDs hds
        have hln : ds.length = len := by
          have := RepDs.length hd
          have h9 := Reps.length hq
          have h8 := Reps.length q3
          simp at this h9 h8
          omega
        refine .inr ⟨b, off, len, c, T, fz, by simp [hln], q2, Xs E s.h, ?_⟩
        have key : ∀ (ds : List D) (vs us : List Value), RepDs W (Xs E s.h) ds vs → RepRows W (Xs E s.h) 1 (ds.map fun d => [d]) (vs ++ us) := by
          intro ds
          induction ds with
          | nil => intro vs us _; simp [RepRows]
          | cons d ds ih =>
            intro vs us h1
            simp only [RepDs] at h1
            obtain ⟨v, r, rfl, h3, h4⟩ := h1
            simp only [List.map_cons, RepRows, List.cons_append]
            exact ⟨rfl, by simp [RepDs, h3], by simpa using ih r us h4⟩
        have := key ds _ ((c.toList.drop off).drop len) hd
        rwa [List.take_append_drop] at this
      · cases h
    · cases h
  · cases h

theorem aextra_ok (hs : Sat cx E s a W) (o : Oper) (h : aextra cx.fl cx.P s o.op K) : Does cx.P (execOp a.eval o) W (EffPost cx E s a W K) := by
  obtain ⟨dst, op, ot, pos, after, guard⟩ := o
  dsimp only at h
  unfold aextra at h
  split at h
  · rename_i src dt x
    split at h
    · rename_i e hsrc hdst
      split at h
      · rename_i g l hx
        obtain ⟨rfl, he, hk⟩ := h
        have hv := ev_ok hs.slots x (by rw [hx])
        rw [hx] at hv
        simp only [Rep, RepD] at hv
        have hrun := run_bytes_of_string (P := cx.P) W src dt e ⟨l.toArray⟩ (und_str hsrc) (und_slice hdst) (und_int he)
        have hsz : (⟨l.toArray⟩ : ByteArray).size = l.length := by simp [ByteArray.size]
        rw [hsz] at hrun
        have hcap := grownCap_ge W l.length 0 e
        obtain ⟨q1, q2, q3⟩ := sat_new_arr_fz (k := 1) (cap := grownCap W l.length 0 e) (xs := byteRows l) (vs := bytesRow ⟨l.toArray⟩ (grownCap W l.length 0 e)) hs.drawn (by
            unfold bytesRow
            simp only [Array.toList_append, Array.toList_map]
            exact repRows_bytes l _) (by simpa [byteRows] using hcap) (by simp [bytesRow, hsz]; omega) e ((bytesRow ⟨l.toArray⟩ (grownCap W l.length 0 e)).size, (bytesRow ⟨l.toArray⟩ (grownCap W l.length 0 e)).size + 1) (by intro o ho h; simp at h; omega) _ rfl
        have hln : (byteRows l).length = l.length := by simp [byteRows]
        rw [hln] at q3
        refine .inl ⟨_, _, ?_, _, _, _, hk, q1, Evo.trans (E' := E) (h' := s.h) (w' := W.drew) ⟨rfl, rfl, rfl, Nat.le_refl _, fun _ _ _ _ => rfl, fun _ h => .inl h, fun _ h => h, fun _ h => .inl h, rfl, fun i _ h => ⟨h, GoesOn.refl E _ i⟩⟩ q2, q3⟩
        simp only [execOp, hv, Sem.run_bind, hrun, Result.andThen_ok, Sem.run_pure]
        rfl
      · exact h.elim
    · rename_i e hsrc hdst
      split at h
      · rename_i rows hrows
        obtain ⟨hg, he, hb, hk⟩ := h
        have hv := ev_ok hs.slots x hg
        have hrun : (convert src dt (a.eval x)).run cx.P W = .ok (.string ⟨(bytesOf rows).toArray⟩) W := by
          rcases rowsOf_ok hs.hp hv hrows with ⟨rfl, a', cap, e1⟩ | ⟨b, off, cap, c, T, fz, e1, hc, X, hr⟩
          · rw [e1, run_convert_bytes_string W src dt e _ 0 cap (und_slice hsrc) (und_int he) (und_str hdst)]
            cases a' with
            | none => simp [Conv.bytesToString, bytesOf, ByteArray.empty, ByteArray.emptyWithCapacity]; rfl
            | some a' =>
              have := run_bytesToString (P := cx.P) W a' 0 cap [] (by simp [loadCells, loadCellsFrom])
              rw [this]
              simp [bytesOf, ByteArray.empty, ByteArray.emptyWithCapacity]; rfl
          · rw [e1]
            have := run_convert_bytes_arg (P := cx.P) W src e (und_slice hsrc) (und_int he) b off rows.length cap (rows.map numOf) (by simp) (fun i hi => by
              rw [cell_of_block hc]
              have := rows_cells rows _ hr hb i hi
              rw [List.getElem?_drop] at this
              simpa using this) dt (und_str hdst)
            rw [this, strOfNums_bytes]
        refine .inl ⟨.string ⟨(bytesOf rows).toArray⟩, W, ?_, E, s.h, _, hk, hs, Evo.refl _ _ _ _, by simp [Rep, RepD]⟩
        simp only [execOp, Sem.run_bind, hrun, Result.andThen_ok, Sem.run_pure]
      · exact h.elim
    · exact h.elim
  · exact h.elim
end

/-- One operation, the extra ones among them. -/
def aopX (cx : Cx) (tab : Tab) (G : Bool) (o : Oper) (K : AS → Prop) (s : AS) : Prop :=
  if isX cx.P o.op = true then dstOk cx.nt o.dst ∧ (if G = true then aextra cx.fl cx.P s o.op (fun r h' => K ({ s with h := h' }.put o.dst true r)) else K (s.put o.dst false .any))
  else aopT cx tab G o K s

def aopsX (cx : Cx) (tab : Tab) (all : Array Oper) : List Oper → (AS → Prop) → AS → Prop
  | [], K, s => K s
  | o :: r, K, s => match guardOf s all o.guard with
    | some G => aopX cx tab G o (aopsX cx tab all r K) s
    | none => False

section
variable {cx : Cx} {tab : Tab} {E : Env} {s : AS} {a : Act} {w : World}

theorem isX_defer {op : Op} (h : isX cx.P op = true) : ∀ c, op ≠ .defer c := by
  rintro c rfl
  simp [isX] at h

theorem aopX_ok (ht : TabOk cx.P tab) {all : Array Oper} {o : Oper} {G : Bool} {K : AS → Prop} {Q : Exit → Act → World → Prop} (hs : Sat cx E s a w) (hg : guardOf s all o.guard = some G) (h : aopX cx tab G o K s) :
    if Region.wanted o (yielded all a.tmps) then o.wpIn cx.F 0 cx.P a w (Reach cx E s.h w K) Q else (∀ f, o.about cx.P w a.eval = some f → cx.F.fn f) ∧ Reach cx E s.h w K (a.put o.dst undef) w := by
  unfold aopX at h
  split at h
  · rename_i hx
    obtain ⟨hd, h⟩ := h
    have hdst : ∀ k, o.dst = some k → k < cx.nt := fun k e => by rw [e] at hd; exact hd
    rw [wanted_of hs.slots hg]
    cases G with
    | true =>
      simp only [if_true] at h ⊢
      refine Does.wpIn (isX_defer hx) (aextra_ok hs o h) ?_
      rintro v w' ⟨E', h', x, hk, hs', he, hr⟩
      exact ⟨E', _, hk, hs'.put hdst (fun _ => hr) (fun e => by cases e), by cases o.dst <;> exact he⟩
    | false =>
      simp only [Bool.false_eq_true, if_false] at h ⊢
      exact ⟨fun _ _ => trivial, E, _, h, hs.put hdst (fun e => by cases e) (fun _ => rfl), by cases o.dst <;> exact Evo.refl _ _ _ _⟩
  · exact aopT_ok ht hs hg h

theorem aopsX_ok (ht : TabOk cx.P tab) {all : Array Oper} : ∀ (l : List Nat) (ops : List Oper) {K : AS → Prop} {s : AS} {E : Env} {a : Act} {w : World}, l.map (all[·]?) = ops.map some → Sat cx E s a w → aopsX cx tab all ops K s →
    wpOpsIn cx.F 0 cx.P all (fun e a' w' => e = .normal ∧ Reach cx E s.h w K a' w') l a w
  | [], ops, K, s, E, a, w, hl, hs, h => by
    have : ops = [] := by simpa using hl.symm
    subst this
    exact ⟨rfl, aw_done hs h⟩
  | i :: l, [], K, s, E, a, w, hl, hs, h => by simp at hl
  | i :: l, o :: ops, K, s, E, a, w, hl, hs, h => by
    simp only [List.map_cons, List.cons.injEq] at hl
    obtain ⟨hi, hl⟩ := hl
    simp only [aopsX] at h
    split at h
    · rename_i G hg
      simp only [wpOpsIn, hi]
      have := aopX_ok ht (Q := fun _ _ _ => False) hs hg h
      split at this
      · rename_i hw
        rw [if_pos hw]
        refine wpIn_next_mono this ?_
        rintro a1 w1 ⟨E1, s1, hk, hs1, he1⟩
        have ih := aopsX_ok ht l ops hl hs1 hk
        refine wpOpsIn_mono _ ih ?_
        rintro e a2 w2 ⟨rfl, hr⟩
        exact ⟨rfl, hr.trans he1⟩
      · rename_i hw
        rw [if_neg hw]
        refine ⟨this.1, ?_⟩
        obtain ⟨E1, s1, hk, hs1, he1⟩ := this.2
        have ih := aopsX_ok ht l ops hl hs1 hk
        refine wpOpsIn_mono _ ih ?_
        rintro e a2 w2 ⟨rfl, hr⟩
        exact ⟨rfl, hr.trans he1⟩
    · exact h.elim

theorem aw_regionX {id : Nat} {ops : Array Oper} {Q : Exit → AS → Prop} (tab : Tab) (ht : TabOk cx.P tab) (h : aopsX cx tab ops ops.toList (Q .normal) s) : AW cx (.region id ops false) Q s := fun E a w hs =>
  wpIn_region (wpOpsIn_mono _ (aopsX_ok ht _ _ (range_get ops) hs h) (by rintro e a' w' ⟨rfl, hr⟩; exact hr))

theorem aw_seq_regionX {id : Nat} {ops : Array Oper} {y : Code} {Q : Exit → AS → Prop} (tab : Tab) (ht : TabOk cx.P tab) (h : ∀ K, (∀ s', AW cx y Q s' → K s') → aopsX cx tab ops ops.toList K s) : AW cx (.seq (.region id ops false) y) Q s :=
  aw_seq fun K hK => aw_regionX tab ht (h K hK)
end

attribute [go_sem] aopsX aopX isX aextra rowsOf
end Go.Aw
