/-
  The model hands back what 'aval' reckons.
-/
import Derived.Test.YtioccpkcnnkpjaaGreatAwOp
namespace Go.Aw
set_option maxRecDepth 100000
set_option linter.unusedSimpArgs false
set_option linter.unusedVariables false
open Go

section
variable {P : Program} {W : World} {E : Env} {s : AS}

theorem SatH.var (hp : SatH E s.h W) {i : Nat} {cs : List AV} (h : hget s.h i = some (.var cs)) : ∃ b c T fz, E.O i = some b ∧ W.heap[b]? = some (.cells c T fz) ∧ Reps W E s.h cs c.toList ∧ unfrozen fz c.size := by
  have := hp.heap i _ h
  simpa only [RepObj] using this

theorem SatH.tvar (hp : SatH E s.h W) {i : Nat} {t : TypeId} {cs : List AV} (h : hget s.h i = some (.tvar t cs)) : ∃ b c T fz, E.O i = some b ∧ W.heap[b]? = some (.cells c T fz) ∧ Reps W E s.h cs c.toList ∧ unfrozen fz c.size ∧ T = t := by
  have := hp.heap i _ h
  simpa only [RepObj] using this

theorem avLoad_ok (hp : SatH E s.h W) {t : TypeId} {x : AV} {a : Value} (hv : (avLoad P s t x).1) (hx : Rep W E s.h x a) :
    ∃ v, (Instr.loadAt t a).run P W = .ok v W ∧ Rep W E s.h (avLoad P s t x).2 v := by
  unfold avLoad at hv ⊢
  split at hv
  · rename_i i off
    split at hv
    · rename_i cs hi
      obtain ⟨ht, hl⟩ := hv
      obtain ⟨b, c, T, fz, hO, hb, hr, _⟩ := hp.var hi
      simp only [Rep] at hx
      obtain ⟨b', cs', hi', hO', rfl⟩ := hx
      rw [hO] at hO'; cases hO'
      simp only [Instr.loadAt, Instr.sureAddr, Sem.run_bind, Sem.run_pure, Result.andThen_ok]
      have ha : At W E s.h b (0 + off) cs off (psize P t) := at_of_reps hb (by simpa [Reps.length hr ▸ List.take_length (l := c.toList)] using hr) hl
      rw [Nat.zero_add] at ha
      exact run_loadVar_ok ht ha hl
    · exact hv.elim
  · rename_i i off
    split at hv
    · rename_i tt cs hi
      obtain ⟨ht, hl⟩ := hv
      obtain ⟨b, c, T, fz, hO, hb, hr, _⟩ := hp.tvar hi
      simp only [Rep] at hx
      obtain ⟨b', t', cs', hi', hO', rfl⟩ := hx
      rw [hO] at hO'; cases hO'
      simp only [Instr.loadAt, Instr.sureAddr, Sem.run_bind, Sem.run_pure, Result.andThen_ok]
      have ha : At W E s.h b (0 + off) cs off (psize P t) := at_of_reps hb (by simpa [Reps.length hr ▸ List.take_length (l := c.toList)] using hr) hl
      rw [Nat.zero_add] at ha
      exact run_loadVar_ok ht ha hl
    · exact hv.elim
  · rename_i cs
    obtain ⟨ht, hl⟩ := hv
    simp only [Rep] at hx
    obtain ⟨a, c, T, fz, rfl, hsp, _, hb, hr⟩ := hx
    obtain ⟨ab, ao, asp⟩ := a
    simp only at hsp hb hr
    subst hsp
    simp only [Instr.loadAt, Instr.sureAddr, Sem.run_bind, Sem.run_pure, Result.andThen_ok]
    have ha : At W E s.h ab (ao + 0) cs 0 (psize P t) := at_of_reps hb hr (by omega)
    exact run_loadVar_ok ht ha (by omega)
  · rename_i i n k r off
    split at hv
    · rename_i k' xs hi
      obtain ⟨rfl, ht, hn, hrn, hl⟩ := hv
      simp only [Rep] at hx
      obtain ⟨-, xs', hi', hle, hv⟩ := hx
      rw [hi] at hi'; cases hi'
      obtain ⟨b, hO, rfl⟩ := hv hn
      have hob := hp.heap i _ hi
      simp only [RepObj] at hob
      rcases hob with ⟨h0, _⟩ | ⟨b', c, T, fz, hO', hb, hsz, hcap, hrows, _⟩
      · rw [h0] at hO; cases hO
      · rw [hO] at hO'; cases hO'
        obtain ⟨hk, hrow⟩ := RepRows.get hrows (i := r) (getD_some (d := []) (by omega))
        simp only [Instr.loadAt, Instr.sureAddr, Sem.run_bind, Sem.run_pure, Result.andThen_ok]
        have hlen : ((xs.getD r []).map AV.d).length = k' := by simpa using hk
        have ha : At W E s.h b (r * k' + off) ((xs.getD r []).map AV.d) off (psize P t) := at_of_reps hb (by rw [hlen]; exact Reps.map_d.2 hrow) (by omega)
        exact run_loadVar_ok ht ha (by omega)
    · exact hv.elim
  · exact hv.elim

theorem fieldOf_ok {t : TypeId} {f off ft : Nat} (h : fieldOf P t f = some (off, ft)) : ∃ gs, P.underlying t = some (.struct gs) ∧ ∃ g, gs[f]? = some g ∧ g.offset = off ∧ g.type = ft := by
  unfold fieldOf at h
  split at h
  · rename_i fs ht
    obtain ⟨gs, hg, hfs, _⟩ := und_struct ht
    subst hfs
    simp only [List.getElem?_map, Option.map_eq_some_iff] at h
    obtain ⟨g, hgf, he⟩ := h
    simp only [Prod.mk.injEq] at he
    exact ⟨gs, hg, g, by simpa using hgf, he.1, he.2⟩
  · cases h

theorem avField_ok {t : TypeId} {x : AV} {f : Nat} {a : Value} (hv : (avField P t x f).1) (hx : Rep W E s.h x a) :
    ∃ v, (Instr.field t a f).run P W = .ok v W ∧ Rep W E s.h (avField P t x f).2 v := by
  unfold avField at hv ⊢
  split at hv
  · rename_i off ft hf
    obtain ⟨gs, hg, g, hgf, ho, ht⟩ := fieldOf_ok hf
    split at hv
    · simp only [Rep] at hx
      obtain ⟨vs, rfl, hr⟩ := hx
      subst ho ht
      simp only [Instr.field, Sem.run_bind, run_underlying hg, Result.andThen_ok, hgf, asAgg, Sem.run_pure]
      exact run_part_ok hv.1 hr hv.2 W
    · exact hv.elim
  · exact hv.elim

theorem run_fieldPlace {g : Field} {b o : Nat} (ht : (ty P g.type).td ≠ .other) (hz : (ty P g.type).size ≠ 0) : (fieldPlace ⟨b, o, none⟩ g).run P W = .ok ⟨b, o + g.offset, none⟩ W := by
  obtain ⟨d, hd⟩ := und_ne ht
  simp [fieldPlace, run_sizeOf hd, hz, Addr.add_none]

theorem avFieldAddr_ok {t : TypeId} {x : AV} {f : Nat} {a : Value} (hv : (avFieldAddr P s t x f).1) (hx : Rep W E s.h x a) :
    ∃ v, (Instr.fieldAt t a f).run P W = .ok v W ∧ Rep W E s.h (avFieldAddr P s t x f).2 v := by
  unfold avFieldAddr at hv ⊢
  split at hv
  · rename_i off ft hf
    obtain ⟨gs, hg, g, hgf, ho, ht⟩ := fieldOf_ok hf
    subst ho ht
    split at hv
    · simp only [Rep] at hx ⊢
      obtain ⟨b, cs, h1, h2, rfl⟩ := hx
      simp only [Instr.fieldAt, Sem.run_bind, run_underlying hg, Result.andThen_ok, hgf, Instr.sureAddr, Sem.run_pure, run_fieldPlace hv.1 hv.2]
      exact ⟨_, rfl, b, cs, h1, h2, rfl⟩
    · simp only [Rep] at hx ⊢
      obtain ⟨b, t', cs, h1, h2, rfl⟩ := hx
      simp only [Instr.fieldAt, Sem.run_bind, run_underlying hg, Result.andThen_ok, hgf, Instr.sureAddr, Sem.run_pure, run_fieldPlace hv.1 hv.2]
      exact ⟨_, rfl, b, t', cs, h1, h2, rfl⟩
    · rename_i cs
      simp only [Rep] at hx ⊢
      obtain ⟨a, c, T, fz, rfl, hsp, hX, hb, hr⟩ := hx
      obtain ⟨ab, ao, asp⟩ := a
      simp only at hsp hb hr hX
      subst hsp
      simp only [Instr.fieldAt, Sem.run_bind, run_underlying hg, Result.andThen_ok, hgf, Instr.sureAddr, Sem.run_pure, run_fieldPlace hv.1 hv.2.1]
      refine ⟨_, rfl, _, c, T, fz, rfl, rfl, hX, hb, ?_⟩
      have := Reps.drop hr g.offset
      rw [List.drop_take, List.drop_drop] at this
      simpa using this
    · simp only [Rep] at hx ⊢
      obtain ⟨-, xs, h1, h2, h3⟩ := hx
      rename_i i n k r o
      obtain ⟨hc, hv1, hv2⟩ := hv
      have hn : xs.length = n := by simpa [AS.cur, h1] using hc
      obtain ⟨b, hO, rfl⟩ := h3 hn
      simp only [Instr.fieldAt, Sem.run_bind, run_underlying hg, Result.andThen_ok, hgf, Instr.sureAddr, Sem.run_pure, run_fieldPlace hv1 hv2]
      exact ⟨_, rfl, ⟨_, rfl⟩, xs, h1, h2, fun _ => ⟨b, hO, by rw [Nat.add_assoc]⟩⟩
    · exact hv.elim
  · exact hv.elim

theorem Addr.add_sz (b o : Nat) (j : Int) (k : Nat) : (⟨b, o, none⟩ : Addr).add (j.toNat * k) = ⟨b, o + j.toNat * k, none⟩ := Addr.add_none _ _ _

theorem reps_drop_take {cs : List AV} {c : Array Value} {o n : Nat} (hr : Reps W E s.h cs ((c.toList.drop o).take cs.length)) : Reps W E s.h (cs.drop n) ((c.toList.drop (o + n)).take (cs.drop n).length) := by
  have := Reps.drop hr n
  rw [List.drop_take, List.drop_drop] at this
  simpa using this

theorem avIndexAddr_ok (hp : SatH E s.h W) {t : TypeId} {x y : AV} {a i : Value} (hv : (avIndexAddr P s t x y).1) (hx : Rep W E s.h x a) (hy : Rep W E s.h y i) :
    ∃ v, (Instr.indexAt t a i).run P W = .ok v W ∧ Rep W E s.h (avIndexAddr P s t x y).2 v := by
  unfold avIndexAddr at hv ⊢
  split at hv
  · rename_i k j
    simp only [Rep, RepD] at hy
    subst hy
    split at hv
    · -- an array's variable
      rename_i n e ii off ht
      have hu := und_arr ht
      obtain ⟨he, h0, h1⟩ := hv
      obtain ⟨de, hde⟩ := und_ne he
      simp only [Rep] at hx ⊢
      obtain ⟨b, cs, h2, h3, rfl⟩ := hx
      simp only [Instr.indexAt, asIntOf, Sem.run_bind, Sem.run_pure, Result.andThen_ok, run_underlying hu, Instr.sureAddr, run_sizeOf hde]
      simp only [Sem.run_ite, h0, h1, and_self, if_true, Sem.run_bind, run_sizeOf hde, Result.andThen_ok, Sem.run_pure, Addr.add_none]
      exact ⟨_, rfl, b, cs, h2, h3, rfl⟩
    · rename_i n e ii m k r off ht
      have hu := und_arr ht
      obtain ⟨hc, he, h0, h1⟩ := hv
      obtain ⟨de, hde⟩ := und_ne he
      simp only [Rep] at hx ⊢
      obtain ⟨-, xs, h2, h3, h4⟩ := hx
      obtain ⟨b, hO, rfl⟩ := h4 (by simpa [AS.cur, h2] using hc)
      simp only [Instr.indexAt, asIntOf, Sem.run_bind, Sem.run_pure, Result.andThen_ok, run_underlying hu, Instr.sureAddr, run_sizeOf hde]
      simp only [Sem.run_ite, h0, h1, and_self, if_true, Sem.run_bind, run_sizeOf hde, Result.andThen_ok, Sem.run_pure, Addr.add_none]
      exact ⟨_, rfl, ⟨_, rfl⟩, xs, h2, h3, fun _ => ⟨b, hO, by rw [Nat.add_assoc]⟩⟩
    · rename_i n e cs ht
      have hu := und_arr ht
      obtain ⟨he, h0, h1, _⟩ := hv
      obtain ⟨de, hde⟩ := und_ne he
      simp only [Rep] at hx ⊢
      obtain ⟨a, c, T, fz, rfl, hsp, hX, hb, hr⟩ := hx
      obtain ⟨ab, ao, asp⟩ := a
      simp only at hsp hb hr hX
      subst hsp
      simp only [Instr.indexAt, asIntOf, Sem.run_bind, Sem.run_pure, Result.andThen_ok, run_underlying hu, Instr.sureAddr, run_sizeOf hde]
      simp only [Sem.run_ite, h0, h1, and_self, if_true, Sem.run_bind, run_sizeOf hde, Result.andThen_ok, Sem.run_pure, Addr.add_none]
      exact ⟨_, rfl, _, c, T, fz, rfl, rfl, hX, hb, reps_drop_take hr⟩
    · rename_i e k xs ht
      have hu := und_slice ht
      obtain ⟨he, hk, h0, h1⟩ := hv
      obtain ⟨de, hde⟩ := und_ne he
      simp only [Rep, RepD] at hx ⊢
      rcases hx with ⟨rfl, _⟩ | ⟨a, cap, c, T, fz, rfl, hsp, hcap, hX, hb, hr⟩
      · simp at h1; omega
      obtain ⟨ab, ao, asp⟩ := a
      simp only at hsp hb hr hX
      subst hsp
      obtain ⟨hk2, hrow⟩ := RepRows.get hr (i := j.toNat) (getD_some (d := []) (by omega))
      simp only [Instr.indexAt, asIntOf, Sem.run_bind, Sem.run_pure, Result.andThen_ok, run_underlying hu, Instr.sureAddr, run_sizeOf hde]
      simp only [Sem.run_ite, h0, h1, and_self, if_true, Sem.run_bind, run_sizeOf hde, Result.andThen_ok, Sem.run_pure, Addr.add_none]
      refine ⟨_, rfl, _, c, T, fz, rfl, rfl, hX, hb, ?_⟩
      rw [hk, ← List.drop_drop, List.length_map, hk2]
      exact Reps.map_d.2 hrow
    · rename_i e k xs ht
      have hu := und_slice ht
      obtain ⟨he, hk, h0, h1⟩ := hv
      obtain ⟨de, hde⟩ := und_ne he
      simp only [Rep] at hx ⊢
      obtain ⟨a, cap, c, T, fz, rfl, hsp, hcap, hX, hb, hr⟩ := hx
      obtain ⟨ab, ao, asp⟩ := a
      simp only at hsp hb hr hX
      subst hsp
      obtain ⟨hk2, hrow⟩ := RepARows.get hr (i := j.toNat) (getD_some (d := []) (by omega))
      simp only [Instr.indexAt, asIntOf, Sem.run_bind, Sem.run_pure, Result.andThen_ok, run_underlying hu, Instr.sureAddr, run_sizeOf hde]
      simp only [Sem.run_ite, h0, h1, and_self, if_true, Sem.run_bind, run_sizeOf hde, Result.andThen_ok, Sem.run_pure, Addr.add_none]
      refine ⟨_, rfl, _, c, T, fz, rfl, rfl, hX, hb, ?_⟩
      rw [hk, ← List.drop_drop, hk2]
      exact hrow
    · rename_i e ii k n off len ht
      have hu := und_slice ht
      obtain ⟨hc, he, hk, h0, h1⟩ := hv
      obtain ⟨de, hde⟩ := und_ne he
      simp only [Rep] at hx ⊢
      obtain ⟨-, xs, h2, h3, h4, h5⟩ := hx
      rcases h5 (by simpa [AS.cur, h2] using hc) with ⟨⟨h6, h60⟩, rfl⟩ | ⟨b, hO, rfl⟩ | ⟨_, h7, _⟩
      · -- the nil slice: no index is within
        omega
      · simp only [Instr.indexAt, asIntOf, Sem.run_bind, Sem.run_pure, Result.andThen_ok, run_underlying hu, Instr.sureAddr, run_sizeOf hde]
        simp only [Sem.run_ite, h0, h1, and_self, if_true, Sem.run_bind, run_sizeOf hde, Result.andThen_ok, Sem.run_pure, Addr.add_none]
        exact ⟨_, rfl, ⟨_, rfl⟩, xs, h2, h3, fun _ => ⟨b, hO, by rw [hk, Nat.add_zero, Nat.add_mul]⟩⟩
      · omega
    · exact hv.elim
  · exact hv.elim
end
end Go.Aw
