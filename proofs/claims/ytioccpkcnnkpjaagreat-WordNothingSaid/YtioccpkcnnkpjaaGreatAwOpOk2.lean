/-
  The model hands back what 'aval' reckons: the rest, and all.
-/
import Derived.Test.YtioccpkcnnkpjaaGreatAwOpOk
namespace Go.Aw
set_option maxRecDepth 100000
set_option linter.unusedSimpArgs false
set_option linter.unusedVariables false
open Go

section
variable {P : Program} {W : World} {E : Env} {s : AS}

theorem avIndex_ok {t : TypeId} {x y : AV} {a i : Value} (hv : (avIndex P t x y).1) (hx : Rep W E s.h x a) (hy : Rep W E s.h y i) :
    ∃ v, (Instr.index t a i).run P W = .ok v W ∧ Rep W E s.h (avIndex P t x y).2 v := by
  unfold avIndex at hv ⊢
  split at hv
  · rename_i k j
    simp only [Rep, RepD] at hy
    subst hy
    split at hv
    · rename_i n e cs ht
      obtain ⟨he, h0, h1, hl⟩ := hv
      obtain ⟨de, hde⟩ := und_ne he
      simp only [Rep] at hx
      obtain ⟨vs, rfl, hr⟩ := hx
      simp only [Instr.index, asIntOf, Sem.run_bind, Sem.run_pure, Result.andThen_ok, run_underlying (und_arr ht), h0, h1, and_self, if_true, run_sizeOf hde]
      exact run_part_ok he hr hl W
    · rename_i l ht
      obtain ⟨h0, h1⟩ := hv
      simp only [Rep, RepD] at hx ⊢
      subst hx
      have hlt : j.toNat < l.length := by omega
      have hg : (⟨l.toArray⟩ : ByteArray)[j.toNat]? = some (l.getD j.toNat 0) := by
        have hsz : j.toNat < (⟨l.toArray⟩ : ByteArray).size := by simpa [ByteArray.size] using hlt
        rw [getElem?_pos (⟨l.toArray⟩ : ByteArray) j.toNat hsz]
        congr 1
        show (l.toArray)[j.toNat] = _
        rw [List.getElem_toArray, List.getD_eq_getElem?_getD, List.getElem?_eq_getElem hlt]; rfl
      simp only [Instr.index, asIntOf, Sem.run_bind, Sem.run_pure, Result.andThen_ok, run_underlying (und_str ht), h0, if_true, hg]
      exact ⟨_, rfl, rfl⟩
    · exact hv.elim
  · exact hv.elim

theorem avConvert_ok {src dst : TypeId} {x : AV} {a : Value} (hv : (avConvert P src dst x).1) (hx : Rep W E s.h x a) :
    ∃ v, (convert src dst a).run P W = .ok v W ∧ Rep W E s.h (avConvert P src dst x).2 v := by
  unfold avConvert at hv ⊢
  split at hv
  · rename_i k n
    split at hv
    · rename_i k' ht
      obtain ⟨d, hd⟩ := und_ne hv
      simp only [Rep, RepD] at hx ⊢
      subst hx
      simp [convert, run_underlying hd, run_underlying (und_int ht), Conv.intToInt]
    · exact hv.elim
  · simp only [Rep, RepD] at hx ⊢
    subst hx
    simp [convert, run_underlying (und_str hv.1), run_underlying (und_str hv.2)]
  · exact hv.elim

theorem avLen_ok {t : TypeId} {x : AV} {a : Value} (hp : SatH E s.h W) (hv : (avLen P s t x).1) (hx : Rep W E s.h x a) (ts : Array TypeId) (hts : ts[0]? = some t) (o : TypeId) (args : Array Value) (ha : args[0]? = some a) :
    ∃ v, (Builtin.len_ ts o args).run P W = .ok v W ∧ Rep W E s.h (avLen P s t x).2 v := by
  unfold avLen at hv ⊢
  split at hv
  · rename_i n e ht
    simp [Builtin.len_, hts, ha, run_underlying (und_arr ht), goInt, Rep, RepD]
  · rename_i l ht
    simp only [Rep, RepD] at hx; subst hx
    have : (⟨l.toArray⟩ : ByteArray).size = l.length := by simp [ByteArray.size]
    simp [Builtin.len_, hts, ha, run_underlying (und_str ht), goInt, Rep, RepD, this]
  · rename_i e k xs ht
    simp only [Rep, RepD] at hx
    rcases hx with ⟨rfl, p, cap, rfl⟩ | ⟨p, cap, c, T, fz, rfl, _⟩ <;> simp [Builtin.len_, hts, ha, run_underlying (und_slice ht), goInt, Rep, RepD]
  · rename_i e k xs ht
    simp only [Rep] at hx
    obtain ⟨p, cap, c, T, fz, rfl, _⟩ := hx
    simp [Builtin.len_, hts, ha, run_underlying (und_slice ht), goInt, Rep, RepD]
  · rename_i e ht
    simp only [Rep] at hx; subst hx
    simp [Builtin.len_, hts, ha, run_underlying (und_slice ht), goInt, Rep, RepD]
  · rename_i e i k n off len ht
    simp only [Rep] at hx
    obtain ⟨-, xs, h2, h3, h4, h5⟩ := hx
    rcases h5 (by simpa [AS.cur, h2] using hv) with ⟨⟨h6, h60⟩, rfl⟩ | ⟨b, hO, rfl⟩ | ⟨_, rfl, p, cap, rfl⟩
    · have : len = 0 := by omega
      subst this
      simp [Builtin.len_, hts, ha, run_underlying (und_slice ht), goInt, Rep, RepD]
    · simp [Builtin.len_, hts, ha, run_underlying (und_slice ht), goInt, Rep, RepD]
    · simp [Builtin.len_, hts, ha, run_underlying (und_slice ht), goInt, Rep, RepD]
  · rename_i e i k off len ht
    simp only [Rep] at hx
    obtain ⟨b, cs, h2, h3, h4, rfl⟩ := hx
    simp [Builtin.len_, hts, ha, run_underlying (und_slice ht), goInt, Rep, RepD]
  · exact hv.elim

theorem abin2_ok {op : BinOp} {t : TypeId} {x y : AV} {a b : Value} (hv : (abin2 P op t x y).1) (hx : Rep W E s.h x a) (hy : Rep W E s.h y b) (ox oy : Operand) :
    ∃ v, (do eqGuard op t ox oy a b; binOp op t a b).run P W = .ok v W ∧ Rep W E s.h (abin2 P op t x y).2 v := by
  unfold abin2 at hv ⊢
  split at hv
  · rename_i xs ys
    have hxa := hx
    have hya := hy
    simp only [Rep] at hx hy
    obtain ⟨us, rfl, hx⟩ := hx
    obtain ⟨vs, rfl, hy⟩ := hy
    dsimp only at hv ⊢
    split at hv
    · obtain ⟨hg, he⟩ := hv
      simp only [Sem.run_bind, Go.run_eqGuard_agg _ _ _ _ _ _ _ hg, Result.andThen_ok, Go.run_eql_struct, aeq_ok W 12 10000 t _ _ _ _ (by omega) he hxa hya]
      exact ⟨_, rfl, by simp [Rep, RepD]⟩
    · obtain ⟨hg, he⟩ := hv
      simp only [Sem.run_bind, Go.run_eqGuard_agg _ _ _ _ _ _ _ hg, Result.andThen_ok, Go.run_neq_struct, aeq_ok W 12 10000 t _ _ _ _ (by omega) he hxa hya]
      exact ⟨_, rfl, by simp [Rep, RepD]⟩
    · exact hv.elim
  · rename_i f fs cs
    simp only [Rep] at hx hy
    obtain ⟨p, q, rfl, _⟩ := hx
    subst hy
    split at hv
    · rename_i ht
      obtain ⟨d, hd, hde⟩ := ty_desc ht (by simp)
      have hrun : ∀ w, (Op.equal t (.func f p q) .nilFunc).run P w = .ok false w := fun w => by
        show (Op.equalIn (9999 + 1) t _ _).run P w = _
        rw [Op.equalIn]
        cases d <;> simp only [tdOf] at hde <;> first | cases hde | (split at hde <;> cases hde) | skip
        simp only [Sem.run_bind, run_underlying hd, Result.andThen_ok, Sem.run_pure]
      rw [if_pos ht]
      cases op <;> simp only [nilAV] at hv ⊢ <;> first | exact hv.elim | skip
      all_goals simp [eqGuard, binOp, hrun, Rep, RepD]
    · exact hv.elim
  · simp only [Rep] at hx hy
    subst hx hy
    split at hv
    · rename_i ht
      obtain ⟨d, hd, hde⟩ := ty_desc ht (by simp)
      have hrun : ∀ w, (Op.equal t .nilFunc .nilFunc).run P w = .ok true w := fun w => by
        show (Op.equalIn (9999 + 1) t _ _).run P w = _
        rw [Op.equalIn]
        cases d <;> simp only [tdOf] at hde <;> first | cases hde | (split at hde <;> cases hde) | skip
        simp only [Sem.run_bind, run_underlying hd, Result.andThen_ok, Sem.run_pure]
      rw [if_pos ht]
      cases op <;> simp only [nilAV] at hv ⊢ <;> first | exact hv.elim | skip
      all_goals simp [eqGuard, binOp, hrun, Rep, RepD]
    · exact hv.elim
  · obtain ⟨v, h1, h2⟩ := abin_ok hv hx hy W
    refine ⟨v, ?_, h2⟩
    have : ∀ w, (eqGuard op t ox oy a b).run P w = .ok () w := fun w => by
      unfold abin at hv
      split at hv <;> (try exact hv.elim) <;> simp only [Rep, RepD] at hx hy <;> subst hx hy <;> cases op <;> simp [eqGuard]
    simp only [Sem.run_bind, this, Result.andThen_ok, h1]

theorem bnd_ok {a : Act} (hs : Slots W E s a) {x : Option Operand} {d : Int} (h : (s.bnd x d).1) : (x = none ∧ (s.bnd x d).2 = d) ∨ (∃ y k, x = some y ∧ a.eval y = .int k (s.bnd x d).2) := by
  unfold AS.bnd at h ⊢
  cases x with
  | none => exact .inl ⟨rfl, rfl⟩
  | some y =>
    right
    simp only at h ⊢
    split at h
    · rename_i g k n he
      have := ev_ok hs y (by rw [he]; exact h)
      rw [he] at this
      simp only [Rep, RepD] at this
      exact ⟨y, k, rfl, this⟩
    · exact h.elim

theorem run_sliceBound {k : IntKind} {n : Int} {y : Nat} {code : BoundsCode} (h0 : 0 ≤ n) (h1 : n ≤ y) : (Instr.sliceBound (.int k n) y code).run P W = .ok n.toNat W := by
  simp [Instr.sliceBound, asIntOf, h0, h1]

theorem run_sliceBounds {a : Act} (hs : Slots W E s a) {isS : Bool} {len cap : Nat} {lo hi mx : Option Operand} (hm : mx ≠ none → hi ≠ none) {dm : Int} (hdm : mx = none → True)
    (h1 : (s.bnd lo 0).1) (h2 : (s.bnd hi len).1) (h3 : (s.bnd mx dm).1) (h4 : 0 ≤ (s.bnd lo 0).2) (h5 : (s.bnd lo 0).2 ≤ (s.bnd hi len).2) (h6 : mx ≠ none → (s.bnd hi len).2 ≤ (s.bnd mx dm).2 ∧ (s.bnd mx dm).2 ≤ cap) (h7 : mx = none → (s.bnd hi len).2 ≤ cap) :
    (Instr.sliceBounds isS len cap (lo.map a.eval) (hi.map a.eval) (mx.map a.eval)).run P W = .ok ((s.bnd lo 0).2.toNat, (s.bnd hi len).2.toNat, if mx = none then cap else (s.bnd mx dm).2.toNat) W := by
  have hb1 := bnd_ok hs h1
  have hb2 := bnd_ok hs h2
  have hb3 := bnd_ok hs h3
  generalize (s.bnd lo 0).2 = l at *
  generalize (s.bnd hi len).2 = hh at *
  generalize (s.bnd mx dm).2 = m at *
  unfold Instr.sliceBounds
  rcases hb3 with ⟨rfl, rfl⟩ | ⟨ym, km, rfl, em⟩
  · -- no third bound
    have h7' := h7 rfl
    rcases hb2 with ⟨rfl, rfl⟩ | ⟨yh, kh, rfl, eh⟩
    · rcases hb1 with ⟨rfl, rfl⟩ | ⟨yl, kl, rfl, el⟩
      · simp
      · simp [el, run_sliceBound h4 h5]
    · rcases hb1 with ⟨rfl, rfl⟩ | ⟨yl, kl, rfl, el⟩
      · simp [eh, run_sliceBound (Int.le_trans h4 h5) h7']
      · have h5' : l ≤ (hh.toNat : Int) := by omega
        simp [eh, el, run_sliceBound (Int.le_trans h4 h5) h7', run_sliceBound h4 h5']
  · obtain ⟨h6a, h6b⟩ := h6 (by simp)
    rcases hb2 with ⟨rfl, rfl⟩ | ⟨yh, kh, rfl, eh⟩
    · exact absurd rfl (hm (by simp))
    · have hm0 : 0 ≤ m := by omega
      have h6' : hh ≤ (m.toNat : Int) := by omega
      rcases hb1 with ⟨rfl, rfl⟩ | ⟨yl, kl, rfl, el⟩
      · simp [eh, em, run_sliceBound hm0 h6b, run_sliceBound (Int.le_trans h4 h5) h6']
      · have h5' : l ≤ (hh.toNat : Int) := by omega
        simp [eh, em, el, run_sliceBound hm0 h6b, run_sliceBound (Int.le_trans h4 h5) h6', run_sliceBound h4 h5']

theorem bnd_none (s : AS) (d : Int) : s.bnd none d = (True, d) := rfl

theorem extract_str (l : List UInt8) (i j : Nat) : (⟨l.toArray⟩ : ByteArray).extract i j = ⟨((l.take j).drop i).toArray⟩ := by
  apply ByteArray.ext
  simp [List.extract_eq_take_drop, List.drop_take]

end
end Go.Aw
