/-
  The model hands back what 'aval' reckons: slices; all of them.
-/
import Derived.Test.YtioccpkcnnkpjaaGreatAwOpOk2
namespace Go.Aw
set_option maxRecDepth 100000
set_option linter.unusedSimpArgs false
set_option linter.unusedVariables false
open Go

section
variable {P : Program} {W : World} {E : Env} {s : AS} {a : Act}

theorem sliceAt_plain {t : TypeId} {x : Value} {lo hi mx : Option Value} {d : TypeDesc} (h : P.underlying t = some d) (hd : ∀ n e, d ≠ .array n e) : (Instr.sliceAt t x lo hi mx).run P W = (Instr.slice t x lo hi mx).run P W := by
  unfold Instr.sliceAt
  simp only [Sem.run_bind, run_underlying h, Result.andThen_ok]

theorem avSlice_ok (hp : SatH E s.h W) (hs : Slots W E s a) {t : TypeId} {x : AV} {v : Value} {lo hi mx : Option Operand} (hv : (avSlice P s t x lo hi mx).1) (hx : Rep W E s.h x v) :
    ∃ u, (Instr.sliceAt t v (lo.map a.eval) (hi.map a.eval) (mx.map a.eval)).run P W = .ok u W ∧ Rep W E s.h (avSlice P s t x lo hi mx).2 u := by
  unfold avSlice at hv ⊢
  dsimp only at hv ⊢
  split at hv
  · -- a text
    rename_i b
    obtain ⟨rfl, ht, h1, h2, h4, h5, h6⟩ := hv
    simp only [Rep, RepD] at hx ⊢
    subst hx
    have hlen : (⟨b.toArray⟩ : ByteArray).size = b.length := by simp [ByteArray.size]
    have hb := run_sliceBounds (P := P) (W := W) hs (isS := false) (len := b.length) (cap := b.length) (lo := lo) (hi := hi) (mx := none) (dm := 0) (by simp) (fun _ => trivial) h1 h2 (by simp [AS.bnd]) h4 h5 (by simp) (fun _ => h6)
    rw [sliceAt_plain (und_str ht) (by simp)]
    simp only [Instr.slice, Sem.run_bind, run_underlying (und_str ht), Result.andThen_ok, Option.map_none, Option.isSome_none, Bool.false_eq_true, if_false, hlen]
    simp only [Option.map_none] at hb
    simp only [hb, Result.andThen_ok, Sem.run_pure]
    exact ⟨_, rfl, by rw [extract_str]⟩
  · -- data
    rename_i k xs
    obtain ⟨hm, ⟨e, ht, hk, he⟩, h1, h2, h3, h4, h5, h6, h7⟩ := hv
    have hu := und_slice ht
    obtain ⟨de, hde⟩ := und_ne he
    rw [sliceAt_plain hu (by simp)]
    simp only [Rep, RepD] at hx ⊢
    rcases hx with ⟨rfl, p, cap, rfl⟩ | ⟨p, cap, c, T, fz, rfl, hsp, hcap, hX, hb, hr⟩
    · have hb := run_sliceBounds (P := P) (W := W) hs (isS := true) (len := 0) (cap := cap) (lo := lo) (hi := hi) (mx := mx) (dm := (([] : List (List D)).length : Int)) hm (fun _ => trivial) h1 h2 h3 h4 h5 (fun _ => ⟨h6, by simp only [List.length_nil] at h7 ⊢; omega⟩) (fun _ => by simp only [List.length_nil] at h7 h6 ⊢; omega)
      simp only [Instr.slice, Sem.run_bind, run_underlying hu, Result.andThen_ok, hb, run_sizeOf hde, Sem.run_pure]
      refine ⟨_, rfl, .inl ⟨by simp, ?_⟩⟩
      have e1 : (s.bnd hi ((0 : Nat) : Int)).2 ≤ 0 := by
        have := h6; have := h7; simp only [List.length_nil] at *; omega
      have e2 : (s.bnd hi ((0 : Nat) : Int)).2.toNat - (s.bnd lo 0).2.toNat = 0 := by omega
      rw [e2]
      exact ⟨_, _, rfl⟩
    · have hb' := run_sliceBounds (P := P) (W := W) hs (isS := true) (len := xs.length) (cap := cap) (lo := lo) (hi := hi) (mx := mx) (dm := (xs.length : Int)) hm (fun _ => trivial) h1 h2 h3 h4 h5 (fun _ => ⟨h6, by omega⟩) (fun _ => by omega)
      simp only [Instr.slice, Sem.run_bind, run_underlying hu, Result.andThen_ok, hb', run_sizeOf hde, Sem.run_pure]
      refine ⟨_, rfl, ?_⟩
      generalize (s.bnd lo 0).2 = l at *
      generalize (s.bnd hi xs.length).2 = hh at *
      generalize (s.bnd mx xs.length).2 = m at *
      have hlen : ((xs.take hh.toNat).drop l.toNat).length = hh.toNat - l.toNat := by simp; omega
      rcases Nat.eq_zero_or_pos (hh.toNat - l.toNat) with h0 | h0
      · exact .inl ⟨List.eq_nil_of_length_eq_zero (by omega), by rw [h0]; exact ⟨_, _, rfl⟩⟩
      · obtain ⟨pb, po, psp⟩ := p
        simp only at hsp hX hb hr
        subst hsp
        right
        have hne : ¬ (if mx = none then cap else m.toNat) = l.toNat := by split <;> omega
        refine ⟨⟨pb, po + l.toNat * k, none⟩, (if mx = none then cap else m.toNat) - l.toNat, c, T, fz, ?_, rfl, ?_, hX, hb, ?_⟩
        · rw [if_neg hne, hlen, hk]; simp [Addr.add_none]
        · rw [hlen]; split <;> omega
        · have := RepRows.drop (RepRows.take hr hh.toNat) l.toNat
          rw [List.drop_drop] at this
          exact this
  · -- an array of one's own
    rename_i i k n off len
    obtain ⟨rfl, hc, ⟨e, ht, hk, he⟩, h1, h2, h4, h5, h6⟩ := hv
    have hu := und_slice ht
    obtain ⟨de, hde⟩ := und_ne he
    rw [sliceAt_plain hu (by simp)]
    simp only [Rep] at hx ⊢
    obtain ⟨-, xs, g1, g2, g3, g4⟩ := hx
    have hn : xs.length = n := by simpa [AS.cur, g1] using hc
    have hob := hp.heap i _ g1
    simp only [RepObj] at hob
    rcases g4 hn with ⟨⟨g5, g50⟩, rfl⟩ | ⟨b, hO, rfl⟩ | ⟨g5, rfl, p, cap, rfl⟩
    · have hxs : xs = [] := List.length_eq_zero_iff.1 (by omega)
      subst hxs
      simp only [List.length_nil] at hn g2
      have hl0 : len = 0 := by omega
      subst hl0
      have hb := run_sliceBounds (P := P) (W := W) hs (isS := true) (len := 0) (cap := 0) (lo := lo) (hi := hi) (mx := none) (dm := 0) (by simp) (fun _ => trivial) h1 h2 (by simp [AS.bnd]) h4 h5 (by simp) (fun _ => h6)
      simp only [Option.map_none] at hb
      simp only [Instr.slice, Sem.run_bind, run_underlying hu, Result.andThen_ok, Option.map_none, hb, run_sizeOf hde, Sem.run_pure, if_true]
      generalize (s.bnd lo 0).2 = l at *
      generalize (s.bnd hi ((0 : Nat) : Int)).2 = hh at *
      have e1 : l.toNat = 0 := by omega
      have e2 : hh.toNat = 0 := by omega
      refine ⟨_, rfl, ⟨_, _, _, rfl⟩, [], g1, by simp only [List.length_nil]; omega, by omega, fun _ => .inl ⟨⟨g5, g50⟩, ?_⟩⟩
      rw [e1, e2]
      rfl
    · rcases hob with ⟨h0, _⟩ | ⟨b', c, T, fz, hO', hb, hsz, hcap, hrows, _⟩
      · rw [h0] at hO; cases hO
      rw [hO] at hO'; cases hO'
      have hb' := run_sliceBounds (P := P) (W := W) hs (isS := true) (len := len) (cap := E.C i - off) (lo := lo) (hi := hi) (mx := none) (dm := 0) (by simp) (fun _ => trivial) h1 h2 (by simp [AS.bnd]) h4 h5 (by simp) (fun _ => by omega)
      simp only [Option.map_none] at hb'
      simp only [Instr.slice, Sem.run_bind, run_underlying hu, Result.andThen_ok, Option.map_none, hb', run_sizeOf hde, Sem.run_pure, if_true]
      generalize (s.bnd lo 0).2 = l at *
      generalize (s.bnd hi len).2 = hh at *
      refine ⟨_, rfl, ⟨_, _, _, rfl⟩, xs, g1, g2, by omega, fun _ => .inr ?_⟩
      by_cases hcl : E.C i - off = l.toNat
      · rw [if_pos hcl]
        by_cases h0 : off + l.toNat = 0
        · left
          refine ⟨b, hO, ?_⟩
          have e1 : off = 0 := by omega
          have e2 : l.toNat = 0 := by omega
          simp [e1, e2]
        · right
          refine ⟨h0, by omega, ?_⟩
          have : hh.toNat - l.toNat = 0 := by omega
          rw [this]; exact ⟨_, _, rfl⟩
      · left
        rw [if_neg hcl]
        refine ⟨b, hO, ?_⟩
        simp only [Option.map_some, Addr.add_none, hk]
        rw [← Nat.add_mul, Nat.sub_sub]
    · have hb := run_sliceBounds (P := P) (W := W) hs (isS := true) (len := 0) (cap := cap) (lo := lo) (hi := hi) (mx := none) (dm := 0) (by simp) (fun _ => trivial) h1 h2 (by simp [AS.bnd]) h4 h5 (by simp) (fun _ => by omega)
      simp only [Option.map_none] at hb
      simp only [Instr.slice, Sem.run_bind, run_underlying hu, Result.andThen_ok, Option.map_none, hb, run_sizeOf hde, Sem.run_pure, if_true]
      generalize (s.bnd lo 0).2 = l at *
      generalize (s.bnd hi ((0 : Nat) : Int)).2 = hh at *
      refine ⟨_, rfl, ⟨_, _, _, rfl⟩, xs, g1, g2, by omega, fun _ => .inr (.inr ⟨by omega, by omega, ?_⟩)⟩
      have : hh.toNat - l.toNat = 0 := by omega
      rw [this]; exact ⟨_, _, rfl⟩
  · -- a whole array variable
    rename_i i off
    split at hv
    · rename_i n e ht
      obtain ⟨rfl, rfl, rfl, he, hc⟩ := hv
      obtain ⟨de, hde⟩ := und_ne he
      simp only [Rep] at hx ⊢
      obtain ⟨b, cs, g1, g2, rfl⟩ := hx
      simp only [g1] at hc
      simp only [Instr.sliceAt, Sem.run_bind, run_underlying (und_arr ht), Result.andThen_ok, Instr.sureAddr, Sem.run_pure, Option.map_none, Instr.sliceBounds, run_sizeOf hde]
      refine ⟨_, rfl, b, cs, g1, g2, hc, ?_⟩
      simp [Addr.add_none]
    · exact hv.elim
  · exact hv.elim

theorem evs_ok (hs : Slots W E s a) : ∀ (l : List Operand), (l.all fun x => (s.ev x).1) = true → Reps W E s.h (l.map fun x => (s.ev x).2) (l.map a.eval)
  | [], _ => by simp [Reps]
  | x :: l, h => by
    simp only [List.all_cons, Bool.and_eq_true] at h
    simp only [List.map_cons, Reps]
    exact ⟨_, _, rfl, ev_ok hs x h.1, evs_ok hs l h.2⟩

theorem map_two {α β : Type} {f : α → β} {p q : β} {l : Array α} (h : l.toList.map f = [p, q]) : ∃ x y, l = #[x, y] ∧ f x = p ∧ f y = q := by
  obtain ⟨l⟩ := l
  cases l with
  | nil => simp at h
  | cons x l =>
    cases l with
    | nil => simp at h
    | cons y l =>
      cases l with
      | nil => simp at h; exact ⟨x, y, rfl, h.1, h.2⟩
      | cons z l => simp at h
theorem map_three {α β : Type} {f : α → β} {p q r : β} {l : Array α} (h : l.toList.map f = [p, q, r]) : ∃ x y z, l = #[x, y, z] ∧ f x = p ∧ f y = q ∧ f z = r := by
  obtain ⟨l⟩ := l
  cases l with
  | nil => simp at h
  | cons x l =>
    cases l with
    | nil => simp at h
    | cons y l =>
      cases l with
      | nil => simp at h
      | cons z l =>
        cases l with
        | nil => simp at h; exact ⟨x, y, z, rfl, h.1, h.2.1, h.2.2⟩
        | cons u l => simp at h

theorem avCall_ok (hp : SatH E s.h W) (hs : Slots W E s a) {c : Call} {o : TypeId} (hv : (avCall P s c).1) :
    ∃ v, (do let d ← resolve a.eval c o; invoke d.target d.args).run P W = .ok (.value v) W ∧ Rep W E s.h (avCall P s c).2 v := by
  obtain ⟨callee, args, argTypes⟩ := c
  unfold avCall at hv ⊢
  dsimp only at hv ⊢
  split at hv
  · split at hv
    · rename_i x t hx ht
      have hax : args = #[x] := by rw [← Array.toList_inj]; exact hx
      have hat : argTypes = #[t] := by rw [← Array.toList_inj]; exact ht
      subst hax hat
      obtain ⟨v, h1, h2⟩ := avLen_ok (P := P) hp hv.2 (ev_ok hs x hv.1) #[t] rfl o #[a.eval x] rfl
      refine ⟨v, ?_, h2⟩
      simp [resolve, invoke, builtin, h1]
    · exact hv.elim
  · split at hv
    · rename_i gx k m gy k' n he
      obtain ⟨x, y, rfl, e1, e2⟩ := map_two he
      have hx := ev_ok hs x (by rw [e1]; exact hv.1)
      have hy := ev_ok hs y (by rw [e2]; exact hv.2)
      rw [e1] at hx
      rw [e2] at hy
      simp only [Rep, RepD] at hx hy
      simp [resolve, invoke, builtin, Builtin.min_, hx, hy, Builtin.min2, Rep, RepD, imin]
    · rename_i gx k m gy k' n gz k'' q he
      obtain ⟨x, y, z, rfl, e1, e2, e3⟩ := map_three he
      have hx := ev_ok hs x (by rw [e1]; exact hv.1)
      have hy := ev_ok hs y (by rw [e2]; exact hv.2.1)
      have hz := ev_ok hs z (by rw [e3]; exact hv.2.2)
      rw [e1] at hx
      rw [e2] at hy
      rw [e3] at hz
      simp only [Rep, RepD] at hx hy hz
      simp [resolve, invoke, builtin, Builtin.min_, hx, hy, hz, Builtin.min2, Rep, RepD, imin]
      try rfl
    · exact hv.elim
  · split at hv
    · rename_i gx k m gy k' n he
      obtain ⟨x, y, rfl, e1, e2⟩ := map_two he
      have hx := ev_ok hs x (by rw [e1]; exact hv.1)
      have hy := ev_ok hs y (by rw [e2]; exact hv.2)
      rw [e1] at hx
      rw [e2] at hy
      simp only [Rep, RepD] at hx hy
      simp [resolve, invoke, builtin, Builtin.max_, hx, hy, Builtin.max2, Rep, RepD, imax]
    · exact hv.elim
  · exact hv.elim

theorem aval_ok (hp : SatH E s.h W) (hs : Slots W E s a) (o : Oper) (hv : (aval P s o.op).1) :
    ∃ v, (execOp a.eval o).run P W = .ok (.value v) W ∧ Rep W E s.h (aval P s o.op).2 v := by
  obtain ⟨dst, op, ot, pos, after, guard⟩ := o
  dsimp only at hv ⊢
  unfold aval at hv ⊢
  split at hv <;> (try dsimp only at hv ⊢)
  · rename_i op t x y _
    obtain ⟨v, h1, h2⟩ := abin2_ok hv.2.2 (ev_ok hs x hv.1) (ev_ok hs y hv.2.1) x y
    exact ⟨v, by unfold execOp; dsimp only; rw [Sem.run_bind, h1]; simp, h2⟩
  · rename_i op _ x
    obtain ⟨v, h1, h2⟩ := aun_ok (P := P) hv.2 (ev_ok hs x hv.1) W
    exact ⟨v, by simp [execOp, h1], h2⟩
  · rename_i src dst x
    obtain ⟨v, h1, h2⟩ := avConvert_ok (P := P) hv.2 (ev_ok hs x hv.1)
    exact ⟨v, by simp [execOp, h1], h2⟩
  · rename_i t x
    obtain ⟨hg, h1, h2⟩ := hv
    obtain ⟨d, hd⟩ := und_ne h1
    have hx := ev_ok hs x hg
    refine ⟨.iface t (a.eval x), ?_, by simp only [Rep]; exact ⟨_, rfl, hx⟩⟩
    simp only [execOp, Instr.makeInterface, Sem.run_bind, run_underlying hd, Result.andThen_ok]
    rw [td_of hd] at h2
    cases d <;> first | (exact absurd rfl h2) | simp
  · rename_i f fs cs
    refine ⟨.func f (fs.map a.eval) (cs.map a.eval), by simp [execOp, Instr.makeFunc], ?_⟩
    simp only [Rep]
    simp only [Array.toList_append, List.all_append, Bool.and_eq_true] at hv
    exact ⟨_, _, rfl, by simpa using evs_ok hs fs.toList hv.1, by simpa using evs_ok hs cs.toList hv.2⟩
  · rename_i t x f
    obtain ⟨v, h1, h2⟩ := avField_ok (P := P) (s := s) hv.2 (ev_ok hs x hv.1)
    exact ⟨v, by simp [execOp, h1], h2⟩
  · rename_i t x f
    obtain ⟨v, h1, h2⟩ := avFieldAddr_ok (P := P) (s := s) hv.2 (ev_ok hs x hv.1)
    exact ⟨v, by simp [execOp, h1], h2⟩
  · rename_i t x y
    obtain ⟨v, h1, h2⟩ := avIndexAddr_ok (P := P) hp hv.2.2 (ev_ok hs x hv.1) (ev_ok hs y hv.2.1)
    exact ⟨v, by simp [execOp, h1], h2⟩
  · rename_i t x y
    obtain ⟨v, h1, h2⟩ := avIndex_ok (P := P) (s := s) hv.2.2 (ev_ok hs x hv.1) (ev_ok hs y hv.2.1)
    exact ⟨v, by simp [execOp, h1], h2⟩
  · rename_i t x lo hi mx
    obtain ⟨v, h1, h2⟩ := avSlice_ok (P := P) hp hs hv.2 (ev_ok hs x hv.1)
    exact ⟨v, by simp [execOp, h1], h2⟩
  · rename_i t x
    obtain ⟨v, h1, h2⟩ := avLoad_ok (P := P) hp hv.2 (ev_ok hs x hv.1)
    exact ⟨v, by simp [execOp, h1], h2⟩
  · rename_i x
    obtain ⟨hg, hm⟩ := hv
    have hx := ev_ok hs x hg
    refine ⟨a.eval x, ?_, hx⟩
    simp only [execOp]
    generalize a.eval x = y at hx
    split at hm <;> rename_i he
    · rw [he] at hx; simp only [Rep] at hx
      obtain ⟨b, cs, _, _, rfl⟩ := hx
      simp
    · rw [he] at hx; simp only [Rep] at hx
      obtain ⟨b, t', cs, _, _, rfl⟩ := hx
      simp
    · rw [he] at hx; simp only [Rep] at hx
      obtain ⟨a, c, T, fz, rfl, _⟩ := hx
      simp
    · rw [he] at hx; simp only [Rep] at hx
      obtain ⟨-, xs, h1, h2, h3⟩ := hx
      obtain ⟨b, _, rfl⟩ := h3 (by simpa [AS.cur, h1] using hm)
      simp
    · rw [he] at hx; simp only [Rep] at hx
      obtain ⟨p, q, rfl, _⟩ := hx
      simp
    · exact hm.elim
  · rename_i x i
    split at hv
    · rename_i g vs he
      dsimp only at hv
      have hx := ev_ok hs x (by rw [he]; exact hv.1)
      rw [he] at hx
      simp only [Rep] at hx
      obtain ⟨us, hu, hr⟩ := hx
      obtain ⟨v, hv1, hv2⟩ := Reps.get hr (getD_some (d := .any) hv.2)
      have : us[i]? = some v := by simpa using hv1
      exact ⟨v, by simp [execOp, hu, Instr.extract, this], hv2⟩
    · exact hv.elim
  · rename_i t x y ok
    obtain ⟨v, h1, h2⟩ := avLookup_ok (P := P) hp hv.2.2 (ev_ok hs x hv.1) (ev_ok hs y hv.2.1)
    exact ⟨v, by simp [execOp, h1], h2⟩
  · rename_i c
    obtain ⟨v, h1, h2⟩ := avCall_ok (P := P) hp hs (o := ot) hv
    exact ⟨v, by simpa [execOp] using h1, h2⟩
end
end Go.Aw
