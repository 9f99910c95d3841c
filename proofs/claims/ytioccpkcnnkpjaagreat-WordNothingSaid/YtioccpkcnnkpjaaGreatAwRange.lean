/-
  A range over an iterator: the statement, by the iterator's contract and a family of heaps, one for each beginning of what is handed out.
-/
import Derived.Test.YtioccpkcnnkpjaaGreatAwIter
namespace Go.Aw
set_option maxRecDepth 100000
set_option linter.unusedSimpArgs false
set_option linter.unusedVariables false
open Go

/-- A walk within a round of loop l. -/
structure Rnd (cx : Cx) where
  G : Option (List (List AV)) → (Nat → Prop) → (Nat → Prop) → (Nat → Prop) → World → Prop
  stab : ∀ g M N A A' w w', (∀ b, b < w.heap.size → ¬ A b → w'.heap[b]? = w.heap[b]?) → (∀ b, A' b → A b ∨ w.heap.size ≤ b) → (∀ b, A' b → b < w'.heap.size) → w.heap.size ≤ w'.heap.size → w'.tape = w.tape → w'.os = w.os → w'.output = w.output → G g M N A w → G g M N A' w'
  yok : ∀ xs x X M N A w (vs : Array Value), G (some xs) M N A w → (∀ b, M b ∨ N b ∨ A b → X b) → Reps w (bare X) [] x vs.toList → (xs ++ [x]) <+: cx.items →
    YieldAt cx.P cx.yl vs w (fun e w' => ∃ b M', e = .returned (.bool b) ∧ w'.os = w.os ∧ w'.tape = w.tape ∧ w'.output = w.output ∧ w.heap.size ≤ w'.heap.size ∧ (∀ k, k < w.heap.size → ¬ M k → w'.heap[k]? = w.heap[k]?) ∧
      (∀ k, M k → M' k) ∧ (∀ k, M' k → M k ∨ (w.heap.size ≤ k ∧ k < w'.heap.size)) ∧ G (if b = true then some (xs ++ [x]) else none) M' N A w')

def Cx.inR (cx : Cx) (l fl : Nat) (r : Rnd cx) : Cx := { P := cx.P, ro := some l, base := cx.base, nt := cx.nt, fl := fl, G := r.G, stab := r.stab, yl := cx.yl, items := cx.items, yok := r.yok }

/-- The slots of a round: yield's arguments. -/
def pslots : List Tmp → List AV → List (Nat × (Bool × AV)) → List (Nat × (Bool × AV))
  | t :: ts, v :: vs, r => pslots ts vs ((t, (true, v)) :: r)
  | _, _, r => r

def RoundK (Kn : AHeap → Option (List (List AV)) → Prop) (J : Code → AHeap → Option (List (List AV)) → Prop) : Exit → AS → Prop
  | .normal, s => Kn s.h s.g
  | .ret, s => J .ret s.h s.g
  | .exit id, s => J (.exit id) s.h s.g
  | .goto t, s => J (.goto t) s.h s.g
  | _, _ => False

def AsgK (K : AS → Prop) : Exit → AS → Prop
  | .normal, s => K s
  | _, _ => False

section
variable {cx : Cx} {E : Env} {s : AS} {a : Act} {w : World} {h : AHeap}

theorem slots_pslots {E : Env} {a : Act} {w : World} {h : AHeap} {g : Option (List (List AV))} : ∀ (ps : List Tmp) (xs : List AV) (vs : List Value) (t : List (Nat × (Bool × AV))) (tmps : Array Value), ps.length = vs.length → (∀ p ∈ ps, p < tmps.size) → Reps w E h xs vs → Slots w E ⟨t, h, g⟩ { tmps := tmps, defers := a.defers } →
    Slots w E ⟨pslots ps xs t, h, g⟩ { tmps := (ps.zip vs).foldl (fun (t : Array Value) (q : Tmp × Value) => t.setIfInBounds q.1 q.2) tmps, defers := a.defers }
  | [], xs, vs, t, tmps, hl, _, hr, hs => by
    have : vs = [] := by simpa using hl.symm
    subst this
    simpa [pslots] using hs
  | p :: ps, [], vs, t, tmps, hl, _, hr, hs => by
    simp only [Reps] at hr; subst hr; simp at hl
  | p :: ps, x :: xs, vs, t, tmps, hl, hb, hr, hs => by
    simp only [Reps] at hr
    obtain ⟨v, r, rfl, h1, h2⟩ := hr
    simp only [List.zip_cons_cons, List.foldl_cons, pslots]
    refine slots_pslots ps xs r _ _ (by simpa using hl) (fun q hq => by simpa using hb q (by simp [hq])) h2 ?_
    intro k g v' hk
    simp only [lk] at hk
    split at hk
    · rename_i e; subst e
      simp only [Option.some.injEq, Prod.mk.injEq] at hk
      obtain ⟨rfl, rfl⟩ := hk
      exact ⟨v, by simp [hb p (by simp)], fun _ => h1, fun e => by cases e⟩
    · rename_i e
      obtain ⟨y, q1, q2⟩ := hs k g v' hk
      exact ⟨y, by simp only; rw [Array.getElem?_setIfInBounds_ne e]; exact q1, q2⟩

/-- What is said, told of a world that others have gone on in. -/
theorem SatH.others {E' : Env} {w' : World} (hs : SatH E h w) (hO : E'.O = E.O) (hC : E'.C = E.C) (hX : ∀ b, b < w.heap.size → Xs E' h b → Xs E h b) (hK : ∀ b c T fz, w.heap[b]? = some (.cells c T fz) → ¬ Xs E h b → w'.heap[b]? = some (.cells c T fz)) (hown : ∀ b, Own E h b → w'.heap[b]? = w.heap[b]?) (hsz : w.heap.size ≤ w'.heap.size)
    (ho : ∀ b, Own E h b → ¬ E'.M b ∧ ¬ E'.N b) (hm : ∀ b, E'.M b → b < w'.heap.size) (hn : ∀ b, E'.N b → b < w'.heap.size) : SatH E' h w' ∧ (∀ x v, Rep w E h x v → Rep w' E' h x v) := by
  have hgo : ∀ j, GoesOn E h E' h j := fun j => by
    unfold GoesOn
    rw [hO, hC]
    split <;> simp_all
  have hXc : ∀ b c T fz, w.heap[b]? = some (.cells c T fz) → Xs E' h b → Xs E h b := hX_of hX
  refine ⟨⟨fun i o hi => ?_, by rw [hO]; exact hs.inj, fun b hb => ?_, hm, hn⟩, fun x v hr => Rep.stepc hXc hK x v (fun j _ => hgo j) hr⟩
  · have := hs.heap i o hi
    have hoi : ∀ b, E.O i = some b → w'.heap[b]? = w.heap[b]? := fun b hb => hown b ⟨i, by simp [hi], hb⟩
    cases o with
    | var cs =>
      simp only [RepObj, hO] at this ⊢
      obtain ⟨b, c, T, fz, g1, g2, g3, g4⟩ := this
      exact ⟨b, c, T, fz, g1, (hoi b g1).trans g2, Reps.stepc hXc hK _ _ (fun j _ => hgo j) g3, g4⟩
    | tvar tt cs =>
      simp only [RepObj, hO] at this ⊢
      obtain ⟨b, c, T, fz, g1, g2, g3, g4⟩ := this
      exact ⟨b, c, T, fz, g1, (hoi b g1).trans g2, Reps.stepc hXc hK _ _ (fun j _ => hgo j) g3, g4⟩
    | arr k xs =>
      simp only [RepObj, hO, hC] at this ⊢
      rcases this with g | ⟨b, c, T, fz, g1, g2, g3, g4, g5, g6⟩
      · exact .inl g
      · exact .inr ⟨b, c, T, fz, g1, (hoi b g1).trans g2, g3, g4, RepRows.stepc hXc hK _ _ _ g5, g6⟩
    | buf tt xs =>
      simp only [RepObj, hO, hC] at this ⊢
      rcases this with g | ⟨b, c, T, fz, g1, g2, g3, g4, g5, g6⟩
      · exact .inl g
      · exact .inr ⟨b, c, T, fz, g1, (hoi b g1).trans g2, g3, g4, g5, g6⟩
    | strit l q =>
      simp only [RepObj, hO] at this ⊢
      obtain ⟨b, g1, g2⟩ := this
      exact ⟨b, g1, (hoi b g1).trans g2⟩
    | omap es =>
      simp only [RepObj, hO] at this ⊢
      obtain ⟨b, m, cl, g1, g2, g3⟩ := this
      exact ⟨b, m, cl, g1, (hoi b g1).trans g2, g3⟩
  · have hb' : Own E h b := by
      obtain ⟨i, hi, he⟩ := hb
      exact ⟨i, hi, by rw [← hO]; exact he⟩
    exact ⟨Nat.lt_of_lt_of_le (hs.own b hb').1 hsz, ho b hb'⟩

/-- How far the one who ranges has come, from where the statement began (world w0, environment E0, heap h0). -/
structure Far (fl : Nat) (E0 : Env) (h0 : AHeap) (w0 : World) (E : Env) (h : AHeap) (w : World) : Prop where
  os : w.os = w0.os
  tape : w.tape = w0.tape
  output : w.output = w0.output
  size : w0.heap.size ≤ w.heap.size
  keep : ∀ b, b < w0.heap.size → ¬ Own E0 h0 b → ¬ E0.M b → w.heap[b]? = w0.heap[b]?
  own : ∀ b, Own E h b → Own E0 h0 b ∨ w0.heap.size ≤ b
  m1 : ∀ b, E0.M b → E.M b
  m2 : ∀ b, E.M b → E0.M b ∨ w0.heap.size ≤ b
  go : ∀ i, i < fl → (hget h i).isSome → (hget h0 i).isSome ∧ GoesOn E0 h0 E h i

/-- What the one keeps who ranges. -/
structure Kept (cx : Cx) (l d fl : Nat) (p : Nat → Bool) (E0 : Env) (h0 : AHeap) (w0 : World) (ds : List Deferred) (M1 N1 A1 : Nat → Prop) (E2 : Env) (hI : AHeap) (gI : Option (List (List AV))) (w : World) : Prop where
  hp : SatH E2 hI w
  names : ∀ i, (hget hI i).isSome → p i = false
  n1 : ∀ b, N1 b ↔ E0.N b
  a1 : ∀ b, A1 b → Own E0 (hsel p h0) b ∨ w0.heap.size + 2 ≤ b
  n2 : ∀ b, E2.N b ↔ E0.N b ∨ A1 b ∨ b = l ∨ b = d
  am : ∀ b, A1 b → ¬ E2.M b
  m1 : ∀ b, Own E2 hI b ∨ E2.M b → M1 b
  ml : M1 l ∧ M1 d
  far : Far fl E0 h0 w0 E2 hI w
  own0 : ∀ b, Own E2 hI b → Own E0 (hsel (fun i => !p i) h0) b ∨ w0.heap.size + 2 ≤ b
  m0 : ∀ b, E2.M b → E0.M b ∨ w0.heap.size + 2 ≤ b
  size : w0.heap.size + 2 ≤ w.heap.size
  dd : w.heap[d]? = some (.deferred (some []))
  ghost : cx.G gI E2.M E0.N (fun b => Own E2 hI b ∨ A1 b ∨ b = l ∨ b = d ∨ marksOf ds b) w


section
variable {cx : Cx} {l d fl : Nat} {p : Nat → Bool} {E0 : Env} {h0 : AHeap} {w0 : World} {ds : List Deferred}

theorem Far.block {E2 : Env} {hI : AHeap} {w : World} (f : Far fl E0 h0 w0 E2 hI w) : ∀ b, b < w0.heap.size → Xs E0 h0 b ∨ w.heap[b]? = w0.heap[b]? := fun b hb => by
  by_cases h1 : Own E0 h0 b
  · exact .inl (.inl h1)
  · by_cases h2 : E0.M b
    · exact .inl (.inr (.inl h2))
    · exact .inr (f.keep b hb h1 h2)

/-- A step of the iterator's. -/
theorem Kept.step (hl : l = w0.heap.size + 1) (hd : d = w0.heap.size) (hs0 : SatH E0 h0 w0) (hmk : ∀ b, marksOf ds b → b < w0.heap.size) {M1 N1 A1 A1' : Nat → Prop} {E2 : Env} {hI : AHeap} {gI : Option (List (List AV))} {w w' : World}
    (k : Kept cx l d fl p E0 h0 w0 ds M1 N1 A1 E2 hI gI w) (hk : ∀ b, b < w.heap.size → ¬ A1 b → w'.heap[b]? = w.heap[b]?) (hA : ∀ b, A1' b → A1 b ∨ w.heap.size ≤ b) (hAb : ∀ b, A1' b → b < w'.heap.size) (hsz : w.heap.size ≤ w'.heap.size) (ht : w'.tape = w.tape) (ho : w'.os = w.os) (hout : w'.output = w.output) :
    ∃ E2', Kept cx l d fl p E0 h0 w0 ds M1 N1 A1' E2' hI gI w' ∧ ¬ A1 l := by
  have hnl : ¬ A1 l := fun h => by
    rcases k.a1 l h with h | h
    · have := (hs0.own l (sub_own h)).1; omega
    · omega
  have hnd : ¬ A1 d := fun h => by
    rcases k.a1 d h with h | h
    · have := (hs0.own d (sub_own h)).1; omega
    · omega
  have hsz0 := k.size
  obtain ⟨E2', hE⟩ : ∃ E2' : Env, E2' = { E2 with N := fun b => E0.N b ∨ A1' b ∨ b = l ∨ b = d } := ⟨_, rfl⟩
  have hO : E2'.O = E2.O := by rw [hE]
  have hC : E2'.C = E2.C := by rw [hE]
  have hM : E2'.M = E2.M := by rw [hE]
  have hN : ∀ b, E2'.N b ↔ E0.N b ∨ A1' b ∨ b = l ∨ b = d := fun b => by rw [hE]
  have hown : ∀ b, Own E2' hI b ↔ Own E2 hI b := fun b => by unfold Own; rw [hO]
  have hX : ∀ b, b < w.heap.size → Xs E2' hI b → Xs E2 hI b := by
    rintro b hb (hx | hx | hx)
    · exact .inl ((hown b).1 hx)
    · exact .inr (.inl (by rwa [hM] at hx))
    · refine .inr (.inr ((k.n2 b).2 ?_))
      rcases (hN b).1 hx with hx | hx | hx
      · exact .inl hx
      · rcases hA b hx with h | h
        · exact .inr (.inl h)
        · omega
      · exact .inr (.inr hx)
  have hnown : ∀ b, Own E2 hI b → ¬ A1 b := fun b hb ha => (k.hp.own b hb).2.2 ((k.n2 b).2 (.inr (.inl ha)))
  obtain ⟨hp', -⟩ := k.hp.others (E' := E2') (w' := w') hO hC hX (fun b c T fz hc hx => (hk b (Array.getElem?_eq_some_iff.1 hc).1 (fun ha => hx (.inr (.inr ((k.n2 b).2 (.inr (.inl ha))))))).trans hc) (fun b hb => hk b (k.hp.own b hb).1 (hnown b hb)) hsz
    (fun b hb => ⟨by rw [hM]; exact (k.hp.own b hb).2.1, fun hn => by
      rcases (hN b).1 hn with hn | hn | hn
      · exact (k.hp.own b hb).2.2 ((k.n2 b).2 (.inl hn))
      · rcases hA b hn with h | h
        · exact hnown b hb h
        · have := (k.hp.own b hb).1; omega
      · exact (k.hp.own b hb).2.2 ((k.n2 b).2 (.inr (.inr hn)))⟩)
    (fun b hb => Nat.lt_of_lt_of_le (k.hp.mlt b (by rwa [hM] at hb)) hsz)
    (fun b hb => by
      rcases (hN b).1 hb with hn | hn | hn | hn
      · exact Nat.lt_of_lt_of_le (hs0.nlt b hn) (by omega)
      · exact hAb b hn
      · omega
      · omega)
  refine ⟨E2', ⟨hp', k.names, k.n1, fun b hb => ?_, hN, fun b hb hm => ?_, fun b hb => ?_, k.ml, ⟨ho.trans k.far.os, ht.trans k.far.tape, hout.trans k.far.output, Nat.le_trans k.far.size hsz, fun b hb h1 h2 => ?_, fun b hb => k.far.own b ((hown b).1 hb), fun b hb => by rw [hM]; exact k.far.m1 b hb, fun b hb => k.far.m2 b (by rwa [hM] at hb), fun i hi hg => ?_⟩,
    fun b hb => k.own0 b ((hown b).1 hb), fun b hb => k.m0 b (by rwa [hM] at hb), by omega, (hk d (by omega) hnd).trans k.dd, ?_⟩, hnl⟩
  · rcases hA b hb with h | h
    · exact k.a1 b h
    · exact .inr (by omega)
  · rw [hM] at hm
    rcases hA b hb with h | h
    · exact k.am b h hm
    · have := k.hp.mlt b hm; omega
  · rw [hM] at hb
    exact k.m1 b (hb.imp (hown b).1 id)
  · refine (hk b (by have := k.far.size; omega) (fun ha => ?_)).trans (k.far.keep b hb h1 h2)
    rcases k.a1 b ha with h | h
    · exact h1 (sub_own h)
    · omega
  · obtain ⟨g1, g2⟩ := k.far.go i hi hg
    refine ⟨g1, ?_⟩
    unfold GoesOn at g2 ⊢
    rw [hO, hC]
    exact g2
  · rw [hM]
    refine cx.stab _ _ _ _ _ w _ (fun b hb hn => hk b hb (fun h => hn (.inr (.inl h)))) (fun b hb => ?_) (fun b hb => ?_) hsz ht ho hout k.ghost
    · rcases hb with h | h | h
      · exact .inl (.inl ((hown b).1 h))
      · rcases hA b h with h | h
        · exact .inl (.inr (.inl h))
        · exact .inr h
      · exact .inl (.inr (.inr h))
    · rcases hb with h | h | h | h | h
      · exact (hp'.own b h).1
      · exact hAb b h
      · omega
      · omega
      · have := hmk b h; omega

end

/-- The round's own walk, the record being r. -/
def rnd (cx : Cx) (l d : Nat) (N0 Z : Nat → Prop) (rc : Loop) (ds : List Deferred) (hd : Z d) (hl : Z l) (hz : ∀ b, marksOf ds b → Z b) : Rnd cx where
  G := fun g M N A w => cx.G g M N0 (fun b => A b ∨ Z b) w ∧ (∀ b, Z b → ¬ A b ∧ ¬ M b ∧ b < w.heap.size) ∧ w.heap[l]? = some (.loop rc) ∧ w.heap[d]? = some (.deferred (some [])) ∧ (∀ b, N0 b ∨ (Z b ∧ ¬ marksOf ds b) → N b) ∧ (∀ b, marksOf ds b → w.heap[b]? = some (.deferred (some [])))
  stab := fun g M N A A' w w' hk hA hAb hsz ht ho hout ⟨q1, q2, q3, q4, q5, q6⟩ => by
    have hZ : ∀ b, Z b → w'.heap[b]? = w.heap[b]? := fun b hb => hk b (q2 b hb).2.2 (q2 b hb).1
    refine ⟨cx.stab _ _ _ _ _ w _ (fun b hb hn => hk b hb (fun h => hn (.inl h))) (fun b hb => ?_) (fun b hb => ?_) hsz ht ho hout q1, fun b hb => ⟨fun ha => ?_, (q2 b hb).2.1, Nat.lt_of_lt_of_le (q2 b hb).2.2 hsz⟩, (hZ l hl).trans q3, (hZ d hd).trans q4, q5, fun b hb => (hZ b (hz b hb)).trans (q6 b hb)⟩
    · rcases hb with h | h
      · exact (hA b h).imp .inl id
      · exact .inl (.inr h)
    · rcases hb with h | h
      · exact hAb b h
      · exact Nat.lt_of_lt_of_le (q2 b h).2.2 hsz
    · rcases hA b ha with h | h
      · exact (q2 b hb).1 h
      · have := (q2 b hb).2.2; omega
  yok := fun xs x X M N A w vs ⟨q1, q2, q3, q4, q5, q6⟩ hX hr hpre => by
    obtain ⟨fn, tmps, assign, body, hrun, hround⟩ := cx.yok xs x (fun b => X b ∨ marksOf ds b) M N0 (fun b => A b ∨ Z b) w vs q1 (fun b hb => by
      rcases hb with hb | hb | hb | hb
      · exact .inl (hX b (.inl hb))
      · exact .inl (hX b (.inr (.inl (q5 b (.inl hb)))))
      · exact .inl (hX b (.inr (.inr hb)))
      · by_cases hm : marksOf ds b
        · exact .inr hm
        · exact .inl (hX b (.inr (.inl (q5 b (.inr ⟨hb, hm⟩)))))) (Reps.stepc (E := bare X) (E' := bare fun b => X b ∨ marksOf ds b) (h := []) (h' := []) (fun b c T fz hc hx => by
        rcases hx with ⟨i, hi, _⟩ | hx | hx
        · simp [hget] at hi
        · exact hx.elim
        · rcases hx with hx | hx
          · exact .inr (.inr hx)
          · rw [q6 b hx] at hc; cases hc) (fun _ _ _ _ h _ => h) _ _ (fun j _ => by simp [GoesOn, hget]) hr) hpre
    refine ⟨fn, tmps, assign, body, hrun, hround.mono ?_⟩
    rintro e w' ⟨b, M', h1, h2, h3, h4, h5, h6, h7, h8, h9⟩
    have hZ : ∀ b, Z b → w'.heap[b]? = w.heap[b]? := fun b hb => h6 b (q2 b hb).2.2 (q2 b hb).2.1
    exact ⟨b, M', h1, h2, h3, h4, h5, h6, h7, h8, h9, fun k hk => ⟨(q2 k hk).1, fun hm => by
      rcases h8 k hm with h | h
      · exact (q2 k hk).2.1 h
      · have := (q2 k hk).2.2; omega, Nat.lt_of_lt_of_le (q2 k hk).2.2 h5⟩, (hZ l hl).trans q3, (hZ d hd).trans q4, q5, fun k hk => (hZ k (hz k hk)).trans (q6 k hk)⟩

section
variable {cx : Cx} {s : AS}

/-- What the one who ranges keeps, as the iterator's contract asks it. -/
def rangeG (cx : Cx) (l d fl : Nat) (p : Nat → Bool) (E0 : Env) (h0 : AHeap) (w0 : World) (ds : List Deferred) (I : List (List AV) → AHeap × Option (List (List AV))) (J : Code → AHeap → Option (List (List AV)) → Prop) (rec : LoopState → Option Code → Loop)
    (g : Option (List (List AV))) (M1 N1 A1 : Nat → Prop) (w : World) : Prop :=
  match g with
  | some xs => ∃ E2, Kept cx l d fl p E0 h0 w0 ds M1 N1 A1 E2 (I xs).1 (I xs).2 w ∧ w.heap[l]? = some (.loop (rec .ready none))
  | none => ∃ E2 c h3 g3, Kept cx l d fl p E0 h0 w0 ds M1 N1 A1 E2 h3 g3 w ∧ w.heap[l]? = some (.loop (rec .done (some c))) ∧ J c h3 g3

theorem keep_slots {E0 E2 : Env} {h0 hI : AHeap} {w0 w : World} {a : Act} {t : List (Nat × (Bool × AV))} {g g' : Option (List (List AV))} (hs : Slots w0 E0 ⟨t, h0, g⟩ a)
    (hX : ∀ b c T fz, w0.heap[b]? = some (.cells c T fz) → Xs E2 hI b → Xs E0 h0 b) (hK : ∀ b c T fz, w0.heap[b]? = some (.cells c T fz) → ¬ Xs E0 h0 b → w.heap[b]? = some (.cells c T fz)) (hgo : ∀ j, (hget hI j).isSome → GoesOn E0 h0 E2 hI j) :
    Slots w E2 ⟨keepT hI t, hI, g'⟩ a := fun k gg v hk => by
  have hk' : lk (keepT hI t) k = some (gg, v) := hk
  rw [lk_keepT] at hk'
  obtain ⟨q, hq, e⟩ := Option.map_eq_some_iff.1 hk'
  obtain ⟨g1, v1⟩ := q
  simp only [Prod.mk.injEq] at e
  obtain ⟨rfl, rfl⟩ := e
  obtain ⟨x, h1, h2, h3⟩ := hs k g1 v1 hq
  refine ⟨x, h1, fun e => ?_, h3⟩
  split
  · rename_i hall
    exact Rep.stepc hX hK _ _ (fun j hj => hgo j (List.all_eq_true.1 hall j hj)) (h2 e)
  · simp only [Rep]
end
end
end Go.Aw
