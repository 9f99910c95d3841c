/-
  What a value says stays said while the world moves on outside of what it leans on.
-/
import Derived.Test.YtioccpkcnnkpjaaGreatAwData
namespace Go.Aw
set_option maxRecDepth 100000
set_option linter.unusedSimpArgs false
set_option linter.unusedVariables false
open Go

section
variable {W W' : World} {X X' : Nat → Prop}

mutual
theorem RepD.stepc (hX : ∀ b c T fz, W.heap[b]? = some (.cells c T fz) → X' b → X b) (hK : ∀ b c T fz, W.heap[b]? = some (.cells c T fz) → ¬ X b → W'.heap[b]? = some (.cells c T fz)) :
    ∀ (x : D) (v : Value), RepD W X x v → RepD W' X' x v
  | .int _ _, _, h => by simpa only [RepD] using h
  | .bool _, _, h => by simpa only [RepD] using h
  | .str _, _, h => by simpa only [RepD] using h
  | .nilp, _, h => by simpa only [RepD] using h
  | .nilif, _, h => by simpa only [RepD] using h
  | .sl k xs, v, h => by
    simp only [RepD] at h ⊢
    rcases h with h | ⟨a, cap, c, T, fz, h1, h2, h3, h4, h5, h6⟩
    · exact .inl h
    · exact .inr ⟨a, cap, c, T, fz, h1, h2, h3, fun hx => h4 (hX _ _ _ _ h5 hx), hK _ _ _ _ h5 h4, RepRows.stepc hX hK k xs _ h6⟩
theorem RepDs.stepc (hX : ∀ b c T fz, W.heap[b]? = some (.cells c T fz) → X' b → X b) (hK : ∀ b c T fz, W.heap[b]? = some (.cells c T fz) → ¬ X b → W'.heap[b]? = some (.cells c T fz)) :
    ∀ (xs : List D) (vs : List Value), RepDs W X xs vs → RepDs W' X' xs vs
  | [], _, h => by simpa only [RepDs] using h
  | x :: xs, _, h => by
    simp only [RepDs] at h ⊢
    obtain ⟨v, r, h1, h2, h3⟩ := h
    exact ⟨v, r, h1, RepD.stepc hX hK x v h2, RepDs.stepc hX hK xs r h3⟩
theorem RepRows.stepc (hX : ∀ b c T fz, W.heap[b]? = some (.cells c T fz) → X' b → X b) (hK : ∀ b c T fz, W.heap[b]? = some (.cells c T fz) → ¬ X b → W'.heap[b]? = some (.cells c T fz)) (k : Nat) :
    ∀ (xs : List (List D)) (vs : List Value), RepRows W X k xs vs → RepRows W' X' k xs vs
  | [], _, _ => by simp only [RepRows]
  | r :: rs, vs, h => by
    simp only [RepRows] at h ⊢
    exact ⟨h.1, RepDs.stepc hX hK r _ h.2.1, RepRows.stepc hX hK k rs _ h.2.2⟩
end

theorem hK_of (hK : ∀ b, b < W.heap.size → ¬ X b → W'.heap[b]? = W.heap[b]?) : ∀ b c T fz, W.heap[b]? = some (.cells c T fz) → ¬ X b → W'.heap[b]? = some (.cells c T fz) :=
  fun b _ _ _ h hx => (hK b (Array.getElem?_eq_some_iff.1 h).1 hx).trans h
theorem hX_of {Y Y' : Nat → Prop} (hX : ∀ b, b < W.heap.size → Y' b → Y b) : ∀ b c T fz, W.heap[b]? = some (.cells c T fz) → Y' b → Y b :=
  fun b _ _ _ h hx => hX b (Array.getElem?_eq_some_iff.1 h).1 hx
theorem RepD.step (hX : ∀ b, b < W.heap.size → X' b → X b) (hK : ∀ b, b < W.heap.size → ¬ X b → W'.heap[b]? = W.heap[b]?) (x : D) (v : Value) (h : RepD W X x v) : RepD W' X' x v := RepD.stepc (hX_of hX) (hK_of hK) x v h
theorem RepDs.step (hX : ∀ b, b < W.heap.size → X' b → X b) (hK : ∀ b, b < W.heap.size → ¬ X b → W'.heap[b]? = W.heap[b]?) (x : List D) (v : List Value) (h : RepDs W X x v) : RepDs W' X' x v := RepDs.stepc (hX_of hX) (hK_of hK) x v h
theorem RepRows.step (hX : ∀ b, b < W.heap.size → X' b → X b) (hK : ∀ b, b < W.heap.size → ¬ X b → W'.heap[b]? = W.heap[b]?) (k : Nat) (x : List (List D)) (v : List Value) (h : RepRows W X k x v) : RepRows W' X' k x v := RepRows.stepc (hX_of hX) (hK_of hK) k x v h
end

/-! ### The names in a value -/
mutual
def AV.ids : AV → List Nat
  | .d _ | .nils _ | .nilfn | .any | .nilmap | .raw _ => []
  | .agg cs | .tup cs | .dp cs => AV.idsL cs
  | .vp i _ | .tp i _ | .bsl i _ | .ap i _ _ _ _ | .osl i _ _ _ _ | .vsl i _ _ _ | .map i | .itr i => [i]
  | .asl _ xs => AV.idsR xs
  | .fn _ fs cs => AV.idsL fs ++ AV.idsL cs
  | .iface _ a => a.ids
def AV.idsL : List AV → List Nat
  | [] => []
  | x :: xs => x.ids ++ AV.idsL xs
def AV.idsR : List (List AV) → List Nat
  | [] => []
  | x :: xs => AV.idsL x ++ AV.idsR xs
end

def AObj.ids : AObj → List Nat
  | .var cs => AV.idsL cs
  | .tvar _ cs => AV.idsL cs
  | .arr _ _ | .strit _ _ | .omap _ | .buf _ _ => []

/-- The name i goes on: its object is of the same make, an array has not shrunk, and stands where it stood if it has not grown. -/
def GoesOn (E : Env) (h : AHeap) (E' : Env) (h' : AHeap) (i : Nat) : Prop :=
  match hget h i with
  | some (.var cs) => E'.O i = E.O i ∧ ∃ cs', hget h' i = some (.var cs') ∧ cs'.length = cs.length
  | some (.arr k xs) => ∃ xs', hget h' i = some (.arr k xs') ∧ xs.length ≤ xs'.length ∧ (xs'.length = xs.length → E'.O i = E.O i ∧ E'.C i = E.C i)
  | some (.strit l _) => E'.O i = E.O i ∧ ∃ p', hget h' i = some (.strit l p')
  | some (.omap _) => E'.O i = E.O i ∧ ∃ es', hget h' i = some (.omap es')
  | some (.buf t xs) => ∃ xs', hget h' i = some (.buf t xs') ∧ xs.length ≤ xs'.length ∧ (xs'.length = xs.length → E'.O i = E.O i ∧ E'.C i = E.C i)
  | some (.tvar t cs) => E'.O i = E.O i ∧ ∃ cs', hget h' i = some (.tvar t cs') ∧ cs'.length = cs.length
  | none => True

theorem GoesOn.refl (E : Env) (h : AHeap) (i : Nat) : GoesOn E h E h i := by
  unfold GoesOn
  split <;> simp_all

section
variable {W W' : World} {E E' : Env} {h h' : AHeap}

mutual
theorem Rep.stepc (hX : ∀ b c T fz, W.heap[b]? = some (.cells c T fz) → Xs E' h' b → Xs E h b) (hK : ∀ b c T fz, W.heap[b]? = some (.cells c T fz) → ¬ Xs E h b → W'.heap[b]? = some (.cells c T fz)) :
    ∀ (a : AV) (v : Value), (∀ i ∈ a.ids, GoesOn E h E' h' i) → Rep W E h a v → Rep W' E' h' a v
  | .d x, v, _, hr => by simp only [Rep] at hr ⊢; exact RepD.stepc hX hK x v hr
  | .agg cs, v, hi, hr => by
    simp only [Rep] at hr ⊢
    obtain ⟨vs, h1, h2⟩ := hr
    exact ⟨vs, h1, Reps.stepc hX hK cs _ (by simpa only [AV.ids] using hi) h2⟩
  | .tup cs, v, hi, hr => by
    simp only [Rep] at hr ⊢
    obtain ⟨vs, h1, h2⟩ := hr
    exact ⟨vs, h1, Reps.stepc hX hK cs _ (by simpa only [AV.ids] using hi) h2⟩
  | .nils _, _, _, hr => by simpa only [Rep] using hr
  | .nilfn, _, _, hr => by simpa only [Rep] using hr
  | .nilmap, _, _, hr => by simpa only [Rep] using hr
  | .raw _, _, _, hr => by simpa only [Rep] using hr
  | .any, _, _, _ => by simp only [Rep]
  | .dp cs, v, hi, hr => by
    simp only [Rep] at hr ⊢
    obtain ⟨a, c, T, fz, h1, h2, h3, h4, h5⟩ := hr
    exact ⟨a, c, T, fz, h1, h2, fun hx => h3 (hX _ _ _ _ h4 hx), hK _ _ _ _ h4 h3, Reps.stepc hX hK cs _ (by simpa only [AV.ids] using hi) h5⟩
  | .vp i off, v, hi, hr => by
    simp only [Rep] at hr ⊢
    obtain ⟨b, cs, h1, h2, h3⟩ := hr
    have hg := hi i (by simp [AV.ids])
    simp only [GoesOn, h1] at hg
    obtain ⟨cs', hc, _⟩ := hg.2
    exact ⟨b, cs', hc, hg.1.trans h2, h3⟩
  | .tp i off, v, hi, hr => by
    simp only [Rep] at hr ⊢
    obtain ⟨b, t, cs, h1, h2, h3⟩ := hr
    have hg := hi i (by simp [AV.ids])
    simp only [GoesOn, h1] at hg
    obtain ⟨cs', hc, _⟩ := hg.2
    exact ⟨b, t, cs', hc, hg.1.trans h2, h3⟩
  | .bsl i n, v, hi, hr => by
    simp only [Rep] at hr ⊢
    obtain ⟨h0, t, xs, h1, h2, h3⟩ := hr
    have hg := hi i (by simp [AV.ids])
    simp only [GoesOn, h1] at hg
    obtain ⟨xs', hx, hl, he⟩ := hg
    refine ⟨h0, t, xs', hx, by omega, fun hn => ?_⟩
    obtain ⟨e1, e2⟩ := he (by omega)
    rw [e1, e2]
    exact h3 (by omega)
  | .ap i n k r off, v, hi, hr => by
    simp only [Rep] at hr ⊢
    obtain ⟨h0, xs, h1, h2, h3⟩ := hr
    have hg := hi i (by simp [AV.ids])
    simp only [GoesOn, h1] at hg
    obtain ⟨xs', hx, hl, he⟩ := hg
    refine ⟨h0, xs', hx, by omega, fun hn => ?_⟩
    obtain ⟨e1, e2⟩ := he (by omega)
    obtain ⟨b, hb, hv⟩ := h3 (by omega)
    exact ⟨b, e1.trans hb, hv⟩
  | .osl i k n off len, v, hi, hr => by
    simp only [Rep] at hr ⊢
    obtain ⟨h0, xs, h1, h2, h4, h3⟩ := hr
    have hg := hi i (by simp [AV.ids])
    simp only [GoesOn, h1] at hg
    obtain ⟨xs', hx, hl, he⟩ := hg
    refine ⟨h0, xs', hx, by omega, h4, fun hn => ?_⟩
    obtain ⟨e1, e2⟩ := he (by omega)
    rw [e1, e2]
    exact h3 (by omega)
  | .vsl i k off len, v, hi, hr => by
    simp only [Rep] at hr ⊢
    obtain ⟨b, cs, h1, h2, h4, h3⟩ := hr
    have hg := hi i (by simp [AV.ids])
    simp only [GoesOn, h1] at hg
    obtain ⟨cs', hc, hl⟩ := hg.2
    exact ⟨b, cs', hc, hg.1.trans h2, by omega, h3⟩
  | .asl k xs, v, hi, hr => by
    simp only [Rep] at hr ⊢
    obtain ⟨a, cap, c, T, fz, h1, h2, h3, h4, h5, h6⟩ := hr
    exact ⟨a, cap, c, T, fz, h1, h2, h3, fun hx => h4 (hX _ _ _ _ h5 hx), hK _ _ _ _ h5 h4, RepARows.stepc hX hK k xs _ (by simpa only [AV.ids] using hi) h6⟩
  | .fn f fs cs, v, hi, hr => by
    simp only [Rep] at hr ⊢
    obtain ⟨a, b, h1, h2, h3⟩ := hr
    simp only [AV.ids, List.mem_append] at hi
    exact ⟨a, b, h1, Reps.stepc hX hK fs _ (fun i hm => hi i (.inl hm)) h2, Reps.stepc hX hK cs _ (fun i hm => hi i (.inr hm)) h3⟩
  | .map i, v, hi, hr => by
    simp only [Rep] at hr ⊢
    obtain ⟨b, es, h1, h2, h3⟩ := hr
    have hg := hi i (by simp [AV.ids])
    simp only [GoesOn, h1] at hg
    obtain ⟨es', he⟩ := hg.2
    exact ⟨b, es', he, hg.1.trans h2, h3⟩
  | .itr i, v, hi, hr => by
    simp only [Rep] at hr ⊢
    obtain ⟨b, l, p, h1, h2, h3⟩ := hr
    have hg := hi i (by simp [AV.ids])
    simp only [GoesOn, h1] at hg
    obtain ⟨p', he⟩ := hg.2
    exact ⟨b, l, p', he, hg.1.trans h2, h3⟩
  | .iface t a, v, hi, hr => by
    simp only [Rep] at hr ⊢
    obtain ⟨x, h1, h2⟩ := hr
    exact ⟨x, h1, Rep.stepc hX hK a x (by simpa only [AV.ids] using hi) h2⟩
theorem Reps.stepc (hX : ∀ b c T fz, W.heap[b]? = some (.cells c T fz) → Xs E' h' b → Xs E h b) (hK : ∀ b c T fz, W.heap[b]? = some (.cells c T fz) → ¬ Xs E h b → W'.heap[b]? = some (.cells c T fz)) :
    ∀ (as : List AV) (vs : List Value), (∀ i ∈ AV.idsL as, GoesOn E h E' h' i) → Reps W E h as vs → Reps W' E' h' as vs
  | [], _, _, hr => by simpa only [Reps] using hr
  | x :: xs, vs, hi, hr => by
    simp only [Reps] at hr ⊢
    obtain ⟨v, r, h1, h2, h3⟩ := hr
    simp only [AV.idsL, List.mem_append] at hi
    exact ⟨v, r, h1, Rep.stepc hX hK x v (fun i hm => hi i (.inl hm)) h2, Reps.stepc hX hK xs r (fun i hm => hi i (.inr hm)) h3⟩
theorem RepARows.stepc (hX : ∀ b c T fz, W.heap[b]? = some (.cells c T fz) → Xs E' h' b → Xs E h b) (hK : ∀ b c T fz, W.heap[b]? = some (.cells c T fz) → ¬ Xs E h b → W'.heap[b]? = some (.cells c T fz)) (k : Nat) :
    ∀ (as : List (List AV)) (vs : List Value), (∀ i ∈ AV.idsR as, GoesOn E h E' h' i) → RepARows W E h k as vs → RepARows W' E' h' k as vs
  | [], _, _, _ => by simp only [RepARows]
  | x :: xs, vs, hi, hr => by
    simp only [RepARows] at hr ⊢
    simp only [AV.idsR, List.mem_append] at hi
    exact ⟨hr.1, Reps.stepc hX hK x _ (fun i hm => hi i (.inl hm)) hr.2.1, RepARows.stepc hX hK k xs _ (fun i hm => hi i (.inr hm)) hr.2.2⟩
end

theorem Rep.step (hX : ∀ b, b < W.heap.size → Xs E' h' b → Xs E h b) (hK : ∀ b, b < W.heap.size → ¬ Xs E h b → W'.heap[b]? = W.heap[b]?) (a : AV) (v : Value) (hi : ∀ i ∈ a.ids, GoesOn E h E' h' i) (hr : Rep W E h a v) : Rep W' E' h' a v := Rep.stepc (hX_of hX) (hK_of hK) a v hi hr
theorem Reps.step (hX : ∀ b, b < W.heap.size → Xs E' h' b → Xs E h b) (hK : ∀ b, b < W.heap.size → ¬ Xs E h b → W'.heap[b]? = W.heap[b]?) (a : List AV) (v : List Value) (hi : ∀ i ∈ AV.idsL a, GoesOn E h E' h' i) (hr : Reps W E h a v) : Reps W' E' h' a v := Reps.stepc (hX_of hX) (hK_of hK) a v hi hr
theorem RepARows.step (hX : ∀ b, b < W.heap.size → Xs E' h' b → Xs E h b) (hK : ∀ b, b < W.heap.size → ¬ Xs E h b → W'.heap[b]? = W.heap[b]?) (k : Nat) (a : List (List AV)) (v : List Value) (hi : ∀ i ∈ AV.idsR a, GoesOn E h E' h' i) (hr : RepARows W E h k a v) : RepARows W' E' h' k a v := RepARows.stepc (hX_of hX) (hK_of hK) k a v hi hr
end

end Go.Aw
