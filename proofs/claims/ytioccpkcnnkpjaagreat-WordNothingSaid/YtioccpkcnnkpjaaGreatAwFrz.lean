/-
  What nobody is to write any more becomes data.
-/
import Derived.Test.YtioccpkcnnkpjaaGreatAwFrame
namespace Go.Aw
set_option maxRecDepth 100000
set_option linter.unusedSimpArgs false
set_option linter.unusedVariables false
open Go

mutual
/-- A value, when object i is data. -/
def AV.fz (i : Nat) (o : AObj) : AV → AV
  | .osl j k m off len => if j = i then (match o with
    | .arr k' xs => if k = k' ∧ m = xs.length ∧ off + len ≤ m then .d (.sl k ((xs.drop off).take len)) else .any
    | _ => .any) else .osl j k m off len
  | .ap j n k r off => if j = i then .any else .ap j n k r off
  | .vp j off => if j = i then .any else .vp j off
  | .vsl j k off len => if j = i then .any else .vsl j k off len
  | .map j => if j = i then .any else .map j
  | .itr j => if j = i then .any else .itr j
  | .agg cs => .agg (AV.fzL i o cs)
  | .tup cs => .tup (AV.fzL i o cs)
  | .dp cs => .dp (AV.fzL i o cs)
  | .fn f fs cs => .fn f (AV.fzL i o fs) (AV.fzL i o cs)
  | .asl k rows => .asl k (AV.fzR i o rows)
  | .iface t v => .iface t (v.fz i o)
  | .d x => .d x
  | .nils k => .nils k
  | .nilfn => .nilfn
  | .any => .any
  | .nilmap => .nilmap
  | .raw v => .raw v
  | .tp j off => if j = i then .any else .tp j off
  | .bsl j n => if j = i then .any else .bsl j n
def AV.fzL (i : Nat) (o : AObj) : List AV → List AV
  | [] => []
  | x :: xs => x.fz i o :: AV.fzL i o xs
def AV.fzR (i : Nat) (o : AObj) : List (List AV) → List (List AV)
  | [] => []
  | x :: xs => AV.fzL i o x :: AV.fzR i o xs
end

def AObj.fz (i : Nat) (o : AObj) : AObj → AObj
  | .var cs => .var (AV.fzL i o cs)
  | .tvar t cs => .tvar t (AV.fzL i o cs)
  | x => x

def hfz (i : Nat) (o : AObj) : AHeap → AHeap
  | [] => []
  | (j, x) :: r => if j = i then hfz i o r else (j, AObj.fz i o x) :: hfz i o r

def tfz (i : Nat) (o : AObj) : List (Nat × (Bool × AV)) → List (Nat × (Bool × AV))
  | [] => []
  | (k, (g, v)) :: r => (k, (g, v.fz i o)) :: tfz i o r

theorem fzL_length (i : Nat) (o : AObj) : ∀ cs : List AV, (AV.fzL i o cs).length = cs.length
  | [] => rfl
  | x :: xs => by simp [AV.fzL, fzL_length i o xs]
theorem fzR_length (i : Nat) (o : AObj) : ∀ cs : List (List AV), (AV.fzR i o cs).length = cs.length
  | [] => rfl
  | x :: xs => by simp [AV.fzR, fzR_length i o xs]

theorem hget_hfz (i : Nat) (o : AObj) : ∀ (h : AHeap) (j : Nat), hget (hfz i o h) j = if j = i then none else (hget h j).map (AObj.fz i o)
  | [], j => by simp [hfz, hget]
  | (k, x) :: r, j => by
    simp only [hfz, hget]
    by_cases hk : k = i
    · rw [if_pos hk, hget_hfz i o r j]
      by_cases hj : j = i
      · simp [hj]
      · rw [if_neg hj, if_neg hj, if_neg (by rintro rfl; exact hj hk)]
    · rw [if_neg hk]
      simp only [hget]
      by_cases hkj : k = j
      · subst hkj; simp [hk]
      · rw [if_neg hkj, if_neg hkj]; exact hget_hfz i o r j

theorem lk_tfz (i : Nat) (o : AObj) : ∀ (t : List (Nat × (Bool × AV))) (k : Nat), lk (tfz i o t) k = (lk t k).map fun q => (q.1, q.2.fz i o)
  | [], k => by simp [tfz, lk]
  | (j, (g, v)) :: r, k => by
    simp only [tfz, lk]
    by_cases e : j = k
    · simp [e]
    · simp only [e, if_false]; exact lk_tfz i o r k

section
variable {w : World} {E : Env} {h : AHeap} {i : Nat} {o : AObj}

theorem fz_goes (j : Nat) (hj : j ≠ i) : GoesOn E h E (hfz i o h) j := by
  unfold GoesOn
  rw [hget_hfz, if_neg hj]
  cases e : hget h j with
  | none => trivial
  | some x => cases x <;> simp [AObj.fz, fzL_length]
theorem fz_own {b : Nat} (ho : Own E (hfz i o h) b) : Own E h b := by
  obtain ⟨j, hj, hb⟩ := ho
  rw [hget_hfz] at hj
  split at hj
  · simp at hj
  · exact ⟨j, by simpa using hj, hb⟩
theorem fz_xs {b : Nat} (ho : Xs E (hfz i o h) b) : Xs E h b := ho.imp fz_own id

/-- The block of what is data now is nobody's. -/
theorem fz_free (hs : SatH E h w) (hi : hget h i = some o) {b : Nat} (hb : E.O i = some b) : ¬ Xs E (hfz i o h) b := by
  have ho : Own E h b := ⟨i, by simp [hi], hb⟩
  have := hs.own b ho
  rintro (hx | hx | hx)
  · obtain ⟨j, hj, hb'⟩ := hx
    rw [hget_hfz] at hj
    split at hj
    · simp at hj
    · rename_i hne
      exact hne (hs.inj j i b (by simpa using hj) (by simp [hi]) hb' hb)
  · exact this.2.1 hx
  · exact this.2.2 hx

mutual
theorem fz_rep (hs : SatH E h w) (hi : hget h i = some o) : ∀ (a : AV) (v : Value), Rep w E h a v → Rep w E (hfz i o h) (a.fz i o) v
  | .osl j k m off len, v, hr => by
    simp only [AV.fz]
    split
    · rename_i e; subst e
      split
      · rename_i k' xs
        split
        · rename_i hc
          obtain ⟨rfl, rfl, hle⟩ := hc
          simp only [Rep, RepD] at hr ⊢
          obtain ⟨_, xs', h1, _, h3, h4⟩ := hr
          rw [hi] at h1; cases h1
          have hlen : ((xs.drop off).take len).length = len := by simp; omega
          have hob := hs.heap j _ hi
          simp only [RepObj] at hob
          rcases h4 rfl with ⟨⟨g1, g10⟩, rfl⟩ | ⟨b, g1, rfl⟩ | ⟨g1, rfl, a, cap, rfl⟩
          · obtain rfl : xs = [] := List.length_eq_zero_iff.1 g10
            exact .inl ⟨by simp, none, 0, rfl⟩
          · rcases hob with ⟨q1, _⟩ | ⟨b', c, T, fz, q1, q2, q3, q4, q5, _⟩
            · rw [g1] at q1; cases q1
            · rw [g1] at q1; cases q1
              exact .inr ⟨⟨b, off * k, none⟩, E.C j - off, c, T, fz, by rw [hlen], rfl, by rw [hlen]; omega, fz_free hs hi g1, q2, RepRows.step (fun _ _ => fz_xs) (fun _ _ _ => rfl) _ _ _ ((RepRows.drop q5 off).take len)⟩
          · exact .inl ⟨by simp, a, cap, rfl⟩
        · simp only [Rep]
      · simp only [Rep]
    · rename_i e
      exact Rep.step (fun _ _ => fz_xs) (fun _ _ _ => rfl) (.osl j k m off len) v (fun l hl => by simp only [AV.ids, List.mem_singleton] at hl; subst hl; exact fz_goes _ e) hr
  | .ap j n k r off, v, hr => by
    simp only [AV.fz]
    split
    · simp only [Rep]
    · rename_i e
      exact Rep.step (fun _ _ => fz_xs) (fun _ _ _ => rfl) (.ap j n k r off) v (fun l hl => by simp only [AV.ids, List.mem_singleton] at hl; subst hl; exact fz_goes _ e) hr
  | .vp j off, v, hr => by
    simp only [AV.fz]
    split
    · simp only [Rep]
    · rename_i e
      exact Rep.step (fun _ _ => fz_xs) (fun _ _ _ => rfl) (.vp j off) v (fun l hl => by simp only [AV.ids, List.mem_singleton] at hl; subst hl; exact fz_goes _ e) hr
  | .tp j off, v, hr => by
    simp only [AV.fz]
    split
    · simp only [Rep]
    · rename_i e
      exact Rep.step (fun _ _ => fz_xs) (fun _ _ _ => rfl) (.tp j off) v (fun l hl => by simp only [AV.ids, List.mem_singleton] at hl; subst hl; exact fz_goes _ e) hr
  | .bsl j n, v, hr => by
    simp only [AV.fz]
    split
    · simp only [Rep]
    · rename_i e
      exact Rep.step (fun _ _ => fz_xs) (fun _ _ _ => rfl) (.bsl j n) v (fun l hl => by simp only [AV.ids, List.mem_singleton] at hl; subst hl; exact fz_goes _ e) hr
  | .vsl j k off len, v, hr => by
    simp only [AV.fz]
    split
    · simp only [Rep]
    · rename_i e
      exact Rep.step (fun _ _ => fz_xs) (fun _ _ _ => rfl) (.vsl j k off len) v (fun l hl => by simp only [AV.ids, List.mem_singleton] at hl; subst hl; exact fz_goes _ e) hr
  | .map j, v, hr => by
    simp only [AV.fz]
    split
    · simp only [Rep]
    · rename_i e
      exact Rep.step (fun _ _ => fz_xs) (fun _ _ _ => rfl) (.map j) v (fun l hl => by simp only [AV.ids, List.mem_singleton] at hl; subst hl; exact fz_goes _ e) hr
  | .itr j, v, hr => by
    simp only [AV.fz]
    split
    · simp only [Rep]
    · rename_i e
      exact Rep.step (fun _ _ => fz_xs) (fun _ _ _ => rfl) (.itr j) v (fun l hl => by simp only [AV.ids, List.mem_singleton] at hl; subst hl; exact fz_goes _ e) hr
  | .agg cs, v, hr => by
    simp only [AV.fz, Rep] at hr ⊢
    obtain ⟨vs, h1, h2⟩ := hr
    exact ⟨vs, h1, fz_reps hs hi cs _ h2⟩
  | .tup cs, v, hr => by
    simp only [AV.fz, Rep] at hr ⊢
    obtain ⟨vs, h1, h2⟩ := hr
    exact ⟨vs, h1, fz_reps hs hi cs _ h2⟩
  | .dp cs, v, hr => by
    simp only [AV.fz, Rep] at hr ⊢
    obtain ⟨a, c, T, fz, h1, h2, h3, h4, h5⟩ := hr
    exact ⟨a, c, T, fz, h1, h2, fun hx => h3 (fz_xs hx), h4, by rw [fzL_length]; exact fz_reps hs hi cs _ h5⟩
  | .fn f fs cs, v, hr => by
    simp only [AV.fz, Rep] at hr ⊢
    obtain ⟨a, b, h1, h2, h3⟩ := hr
    exact ⟨a, b, h1, fz_reps hs hi fs _ h2, fz_reps hs hi cs _ h3⟩
  | .asl k rows, v, hr => by
    simp only [AV.fz, Rep] at hr ⊢
    obtain ⟨a, cap, c, T, fz, h1, h2, h3, h4, h5, h6⟩ := hr
    exact ⟨a, cap, c, T, fz, by rw [fzR_length]; exact h1, h2, by rw [fzR_length]; exact h3, fun hx => h4 (fz_xs hx), h5, fz_rows hs hi k rows _ h6⟩
  | .iface t x, v, hr => by
    simp only [AV.fz, Rep] at hr ⊢
    obtain ⟨y, h1, h2⟩ := hr
    exact ⟨y, h1, fz_rep hs hi x y h2⟩
  | .d x, v, hr => by
    simp only [AV.fz, Rep] at hr ⊢
    exact RepD.step (fun _ _ => fz_xs) (fun _ _ _ => rfl) x v hr
  | .nils k, v, hr => by simpa only [AV.fz, Rep] using hr
  | .nilfn, v, hr => by simpa only [AV.fz, Rep] using hr
  | .any, v, hr => by simp only [AV.fz, Rep]
  | .nilmap, v, hr => by simpa only [AV.fz, Rep] using hr
  | .raw _, v, hr => by simpa only [AV.fz, Rep] using hr
theorem fz_reps (hs : SatH E h w) (hi : hget h i = some o) : ∀ (as : List AV) (vs : List Value), Reps w E h as vs → Reps w E (hfz i o h) (AV.fzL i o as) vs
  | [], vs, hr => by simpa only [AV.fzL, Reps] using hr
  | x :: xs, vs, hr => by
    simp only [AV.fzL, Reps] at hr ⊢
    obtain ⟨v, r, h1, h2, h3⟩ := hr
    exact ⟨v, r, h1, fz_rep hs hi x v h2, fz_reps hs hi xs r h3⟩
theorem fz_rows (hs : SatH E h w) (hi : hget h i = some o) (k : Nat) : ∀ (as : List (List AV)) (vs : List Value), RepARows w E h k as vs → RepARows w E (hfz i o h) k (AV.fzR i o as) vs
  | [], vs, hr => by simp only [AV.fzR, RepARows]
  | x :: xs, vs, hr => by
    simp only [AV.fzR, RepARows] at hr ⊢
    exact ⟨by rw [fzL_length]; exact hr.1, fz_reps hs hi x _ hr.2.1, fz_rows hs hi k xs _ hr.2.2⟩
end

theorem fz_sat (hs : SatH E h w) (hi : hget h i = some o) : SatH E (hfz i o h) w where
  heap := fun j x hx => by
    rw [hget_hfz] at hx
    split at hx
    · cases hx
    · obtain ⟨y, hy, rfl⟩ := Option.map_eq_some_iff.1 hx
      have := hs.heap j y hy
      cases y with
      | var cs =>
        simp only [AObj.fz, RepObj] at this ⊢
        obtain ⟨b, c, T, fz, g1, g2, g3, g4⟩ := this
        exact ⟨b, c, T, fz, g1, g2, fz_reps hs hi _ _ g3, g4⟩
      | tvar tt cs =>
        simp only [AObj.fz, RepObj] at this ⊢
        obtain ⟨b, c, T, fz, g1, g2, g3, g4⟩ := this
        exact ⟨b, c, T, fz, g1, g2, fz_reps hs hi _ _ g3, g4⟩
      | arr k xs =>
        simp only [AObj.fz, RepObj] at this ⊢
        rcases this with g | ⟨b, c, T, fz, g1, g2, g3, g4, g5, g6⟩
        · exact .inl g
        · exact .inr ⟨b, c, T, fz, g1, g2, g3, g4, RepRows.step (fun _ _ => fz_xs) (fun _ _ _ => rfl) _ _ _ g5, g6⟩
      | buf tt xs =>
        simp only [AObj.fz, RepObj] at this ⊢
        rcases this with g | ⟨b, c, T, fz, g1, g2, g3, g4, g5, g6⟩
        · exact .inl g
        · exact .inr ⟨b, c, T, fz, g1, g2, g3, g4, g5, g6⟩
      | strit l q => exact this
      | omap es => exact this
  inj := fun a b c ha hb => by
    rw [hget_hfz] at ha hb
    split at ha
    · simp at ha
    · split at hb
      · simp at hb
      · exact hs.inj a b c (by simpa using ha) (by simpa using hb)
  own := fun b hb => hs.own b (fz_own hb)
  mlt := hs.mlt
  nlt := hs.nlt

/-- A state, when object i is data. -/
def AS.fz (s : AS) (i : Nat) (o : AObj) : AS := { t := tfz i o s.t, h := hfz i o s.h, g := s.g }

theorem aw_freeze {cx : Cx} {c : Code} {Q : Exit → AS → Prop} {s : AS} (i : Nat) {o : AObj} (hi : hget s.h i = some o) (h : AW cx c Q (s.fz i o)) : AW cx c Q s := fun E a w hs => by
  have hs' : Sat cx E (s.fz i o) a w :=
    { slots := fun k g v hk => by
        have hk' : lk (tfz i o s.t) k = some (g, v) := hk
        rw [lk_tfz] at hk'
        obtain ⟨q, hq, e⟩ := Option.map_eq_some_iff.1 hk'
        obtain ⟨g', v'⟩ := q
        simp only [Prod.mk.injEq] at e
        obtain ⟨rfl, rfl⟩ := e
        obtain ⟨x, h1, h2, h3⟩ := hs.slots k g' v' hq
        exact ⟨x, h1, fun e => fz_rep hs.hp hi v' x (h2 e), h3⟩
      nt := hs.nt
      hp := fz_sat hs.hp hi
      base := hs.base
      marks := hs.marks
      ghost := cx.stab _ _ _ _ _ w _ (fun _ _ _ => rfl) (fun _ hb => .inl (hb.imp fz_own id)) (fun b hb => hb.elim (fun h => (hs.hp.own b (fz_own h)).1) hs.marks.lt) (Nat.le_refl _) rfl rfl rfl hs.ghost }
  refine wpIn_mono (h E a w hs') (fun _ _ _ hr => hr.trans ?_)
  exact ⟨rfl, rfl, rfl, Nat.le_refl _, fun _ _ _ _ => rfl, fun b hb => .inl (fz_own hb), fun _ h => h, fun _ h => .inl h, rfl, fun j _ hj => by
    have hj' : (hget (hfz i o s.h) j).isSome := hj
    rw [hget_hfz] at hj'
    split at hj'
    · simp at hj'
    · rename_i hne
      exact ⟨by simpa using hj', fz_goes j hne⟩⟩

/-- The nil slice, as an array that has no block yet. -/
theorem aw_adopt {cx : Cx} {c : Code} {Q : Exit → AS → Prop} {s : AS} (t : Nat) (k : Nat) (hk : lk s.t t = some (true, .nils k)) (h : AW cx c Q { s with t := (t, (true, .osl (fresh cx.fl s.h) k 0 0 0)) :: s.t, h := (fresh cx.fl s.h, .arr k []) :: s.h }) : AW cx c Q s := fun E a w hs => by
  have cc : Chg E s.h w (E.set (fresh cx.fl s.h) none 0) ((fresh cx.fl s.h, .arr k []) :: s.h) w (fresh cx.fl s.h) :=
    { os := rfl, tape := rfl, output := rfl, size := Nat.le_refl _, envO := fun j e => by simp [Env.set, e], envC := fun j e => by simp [Env.set, e], M := rfl, N := rfl, hh := fun j e => by simp [hget, Ne.symm e],
      gi := by simp [GoesOn, hget_fresh]
      blk := fun b hb _ => rfl
      new := fun b _ hb => by simp [Env.set] at hb }
  have hs1 := cc.sat (t := s.t) (g := s.g) hs (fun o ho => by
    simp [hget] at ho
    subst ho
    simp only [RepObj]
    exact .inl ⟨by simp [Env.set], .inl trivial⟩)
  obtain ⟨x, h1, h2, h3⟩ := hs.slots t true _ hk
  have hx : x = .slice none 0 0 := by have := h2 rfl; simpa only [Rep] using this
  subst hx
  refine wpIn_mono (h _ a w ⟨fun j g v hj => ?_, hs1.nt, hs1.hp, hs1.base, hs1.marks, hs1.ghost⟩) (fun _ _ _ hr => hr.trans (cc.evo (.inr (fl_le_fresh _ _))))
  simp only [lk] at hj
  split at hj
  · rename_i e; subst e
    simp only [Option.some.injEq, Prod.mk.injEq] at hj
    obtain ⟨rfl, rfl⟩ := hj
    refine ⟨_, h1, fun _ => ?_, fun e => by cases e⟩
    simp only [Rep]
    exact ⟨⟨_, _, _, rfl⟩, [], by simp [hget], by simp, by simp, fun _ => .inl ⟨by simp [Env.set], trivial⟩⟩
  · exact hs1.slots j g v hj

/-- A nil slice in a variable of one's own, as an array that has no block yet. -/
theorem aw_adoptH {cx : Cx} {c : Code} {Q : Exit → AS → Prop} {s : AS} (i o k : Nat) {cs : List AV} (hi : hget s.h i = some (.var cs)) (ho : cs[o]? = some (.nils k))
    (h : AW cx c Q { s with h := (fresh cx.fl s.h, .arr k []) :: hset s.h i (.var (cs.set o (.osl (fresh cx.fl s.h) k 0 0 0))) }) : AW cx c Q s := fun E a w hs => by
  have hne : fresh cx.fl s.h ≠ i := fun e => by
    have := hget_fresh cx.fl s.h
    rw [e, hi] at this; cases this
  have cc : Chg E s.h w (E.set (fresh cx.fl s.h) none 0) ((fresh cx.fl s.h, .arr k []) :: s.h) w (fresh cx.fl s.h) :=
    { os := rfl, tape := rfl, output := rfl, size := Nat.le_refl _, envO := fun j e => by simp [Env.set, e], envC := fun j e => by simp [Env.set, e], M := rfl, N := rfl, hh := fun j e => by simp [hget, Ne.symm e],
      gi := by simp [GoesOn, hget_fresh]
      blk := fun b hb _ => rfl
      new := fun b _ hb => by simp [Env.set] at hb }
  have hs1 := cc.sat (t := s.t) (g := s.g) hs (fun o ho => by
    simp [hget] at ho
    subst ho
    simp only [RepObj]
    exact .inl ⟨by simp [Env.set], .inl trivial⟩)
  have hi1 : hget ((fresh cx.fl s.h, .arr k []) :: s.h) i = some (.var cs) := by simp [hget, hne, hi]
  -- the cell, told otherwise
  have e1 : (fresh cx.fl s.h, AObj.arr k []) :: hset s.h i (.var (cs.set o (.osl (fresh cx.fl s.h) k 0 0 0))) = hset ((fresh cx.fl s.h, .arr k []) :: s.h) i (.var (cs.set o (.osl (fresh cx.fl s.h) k 0 0 0))) := by
    simp [hset, hne]
  obtain ⟨E1, hE1⟩ : ∃ E1, E1 = E.set (fresh cx.fl s.h) none 0 := ⟨_, rfl⟩
  rw [← hE1] at hs1 cc
  obtain ⟨b, c', T, fz, g1, g2, g3, g4⟩ := hs1.hp.var hi1
  have ch := chg_var (w := w) hs1.hp hi1 (cs' := cs.set o (.osl (fresh cx.fl s.h) k 0 0 0)) (by simp) g1 (.cells c' T fz)
  have hrow : World.row w b (.cells c' T fz) = w := by
    obtain ⟨hlt, hb'⟩ := Array.getElem?_eq_some_iff.1 g2
    unfold World.row
    rw [← hb', Array.setIfInBounds_def, dif_pos hlt, Array.set_getElem_self]
  rw [hrow] at ch
  have hs2 := ch.sat (t := s.t) (g := s.g) hs1 (fun ob hob => by
    rw [hget_hset_same hi1] at hob
    cases hob
    simp only [RepObj]
    refine ⟨b, c', T, fz, g1, g2, ?_, g4⟩
    have h3 := ch.reps g3
    obtain ⟨v, hv, hr⟩ := Reps.get g3 ho
    simp only [Rep] at hr
    have hset := h3.set (i := o) (a := .osl (fresh cx.fl s.h) k 0 0 0) (v := .slice none 0 0) (by
      simp only [Rep]
      refine ⟨⟨_, _, _, rfl⟩, [], ?_, by simp, by simp, fun _ => .inl ⟨by rw [hE1]; simp [Env.set], trivial⟩⟩
      rw [hget_hset_other (by simpa using hne)]
      simp [hget])
    subst hr
    have : c'.toList.set o (.slice none 0 0) = c'.toList := by
      apply List.ext_getElem?
      intro j
      rw [List.getElem?_set]
      split
      · rename_i e; subst e
        split
        · exact hv.symm
        · rename_i hlt
          rw [List.getElem?_eq_none (by omega)]
      · rfl
    rw [this] at hset
    exact hset)
  rw [← e1] at hs2 ch
  refine wpIn_mono (h E1 a w hs2) (fun _ _ _ hr => hr.trans ((cc.evo (.inr (fl_le_fresh _ _))).trans (ch.evo (.inl (by rw [hi1]; rfl)))))

theorem fresh_of {fl : Nat} {h : AHeap} (hh : ∀ i, (hget h i).isSome → i < fl) : fresh fl h = fl :=
  fresh_at (by
    cases e : hget h fl with
    | none => rfl
    | some o => exact absurd (hh fl (by rw [e]; rfl)) (Nat.lt_irrefl _))

theorem hsel_all {p : Nat → Bool} : ∀ {h : AHeap}, (∀ q ∈ h, p q.1 = true) → hsel p h = h
  | [], _ => rfl
  | (k, o) :: r, hh => by
    simp only [hsel]
    rw [if_pos (hh (k, o) (by simp)), hsel_all (fun q hq => hh q (by simp [hq]))]
end

attribute [go_sem] AS.fz tfz hfz AObj.fz AV.fz AV.fzL AV.fzR
end Go.Aw
