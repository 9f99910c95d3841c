/-
  Forgetting: a state that says less; loops.
-/
import Derived.Test.YtioccpkcnnkpjaaGreatAwCore
namespace Go.Aw
set_option maxRecDepth 100000
set_option linter.unusedSimpArgs false
set_option linter.unusedVariables false
open Go

section
variable {W : World} {E : Env} {h : AHeap}
mutual
theorem Rep.le : ∀ (a b : AV) (v : Value), a.le b → Rep W E h a v → Rep W E h b v
  | a, .any, v, _, _ => by simp only [Rep]
  | .d x, .d y, v, hl, hr => by simp only [AV.le] at hl; subst hl; exact hr
  | .nils _, .d y, v, hl, hr => by
    cases y <;> simp only [AV.le] at hl
    subst hl
    simp only [Rep] at hr ⊢
    simp only [RepD]
    exact .inl ⟨by simp, none, 0, hr⟩
  | .agg xs, .agg ys, v, hl, hr => by
    simp only [AV.le] at hl
    simp only [Rep] at hr ⊢
    obtain ⟨vs, h1, h2⟩ := hr
    exact ⟨vs, h1, Reps.le xs ys _ hl h2⟩
  | .tup xs, .tup ys, v, hl, hr => by
    simp only [AV.le] at hl
    simp only [Rep] at hr ⊢
    obtain ⟨vs, h1, h2⟩ := hr
    exact ⟨vs, h1, Reps.le xs ys _ hl h2⟩
  | .nils _, .nils _, v, _, hr => by simpa only [Rep] using hr
  | .dp xs, .dp ys, v, hl, hr => by
    simp only [AV.le] at hl
    simp only [Rep] at hr ⊢
    obtain ⟨a, c, T, fz, h1, h2, h3, h4, h5⟩ := hr
    have h6 := Reps.le xs ys _ hl h5
    have : ys.length = xs.length := by
      have e1 := Reps.length h5
      have e2 := Reps.length h6
      omega
    exact ⟨a, c, T, fz, h1, h2, h3, h4, by rw [this]; exact h6⟩
  | .vp i o, .vp j p, v, hl, hr => by simp only [AV.le] at hl; obtain ⟨rfl, rfl⟩ := hl; exact hr
  | .ap .., .ap .., v, hl, hr => by simp only [AV.le] at hl; obtain ⟨rfl, rfl, rfl, rfl, rfl⟩ := hl; exact hr
  | .osl .., .osl .., v, hl, hr => by simp only [AV.le] at hl; obtain ⟨rfl, rfl, rfl, rfl, rfl⟩ := hl; exact hr
  | .vsl .., .vsl .., v, hl, hr => by simp only [AV.le] at hl; obtain ⟨rfl, rfl, rfl, rfl⟩ := hl; exact hr
  | .asl .., .asl .., v, hl, hr => by simp only [AV.le] at hl; obtain ⟨rfl, rfl⟩ := hl; exact hr
  | .fn f xs ys, .fn f' xs' ys', v, hl, hr => by
    simp only [AV.le] at hl
    obtain ⟨rfl, h1, h2⟩ := hl
    simp only [Rep] at hr ⊢
    obtain ⟨a, b, e, h3, h4⟩ := hr
    exact ⟨a, b, e, Reps.le _ _ _ h1 h3, Reps.le _ _ _ h2 h4⟩
  | .nilfn, .nilfn, v, _, hr => hr
  | .nilmap, .nilmap, v, _, hr => hr
  | .raw _, .raw _, v, hl, hr => by simp only [AV.le] at hl; subst hl; exact hr
  | .tp .., .tp .., v, hl, hr => by simp only [AV.le] at hl; obtain ⟨rfl, rfl⟩ := hl; exact hr
  | .bsl .., .bsl .., v, hl, hr => by simp only [AV.le] at hl; obtain ⟨rfl, rfl⟩ := hl; exact hr
  | .map i, .map j, v, hl, hr => by simp only [AV.le] at hl; subst hl; exact hr
  | .itr i, .itr j, v, hl, hr => by simp only [AV.le] at hl; subst hl; exact hr
  | .iface t x, .iface t' y, v, hl, hr => by
    simp only [AV.le] at hl
    obtain ⟨rfl, h1⟩ := hl
    simp only [Rep] at hr ⊢
    obtain ⟨z, e, h3⟩ := hr
    exact ⟨z, e, Rep.le x y _ h1 h3⟩
theorem Reps.le : ∀ (as bs : List AV) (vs : List Value), AV.leL as bs → Reps W E h as vs → Reps W E h bs vs
  | [], bs, vs, hl, hr => by simp only [AV.leL] at hl; subst hl; exact hr
  | a :: as, [], vs, hl, _ => by simp [AV.leL] at hl
  | a :: as, b :: bs, vs, hl, hr => by
    simp only [AV.leL] at hl
    simp only [Reps] at hr ⊢
    obtain ⟨v, r, h1, h2, h3⟩ := hr
    exact ⟨v, r, h1, Rep.le a b v hl.1 h2, Reps.le as bs r hl.2 h3⟩
end
end

/-! ### States that say less, reckoned -/
def leT (t : List (Nat × (Bool × AV))) : List (Nat × (Bool × AV)) → Prop
  | [] => True
  | (k, (g', v')) :: r => (match lk t k with | some (g, v) => g' = g ∧ (g' = true → v.le v') | none => False) ∧ leT t r
def leH (h : AHeap) : AHeap → Prop
  | [] => True
  | (i, o') :: r => (match hget h i with | some o => o.le o' | none => False) ∧ leH h r
def idsT : List (Nat × (Bool × AV)) → List Nat
  | [] => []
  | (_, (_, v)) :: r => v.ids ++ idsT r
def idsH : AHeap → List Nat
  | [] => []
  | (_, o) :: r => o.ids ++ idsH r
def inH (h : AHeap) : List Nat → Prop
  | [] => True
  | i :: r => (hget h i).isSome = true ∧ inH h r
def AS.le (s s' : AS) : Prop := leT s.t s'.t ∧ leH s.h s'.h ∧ inH s'.h (idsT s'.t) ∧ inH s'.h (idsH s'.h) ∧ s.g = s'.g

theorem inH_mem {h : AHeap} : ∀ {l : List Nat}, inH h l → ∀ i ∈ l, (hget h i).isSome = true
  | [], _, i, hm => by simp at hm
  | j :: r, hl, i, hm => by
    simp only [inH] at hl
    rcases List.mem_cons.1 hm with rfl | hm
    · exact hl.1
    · exact inH_mem hl.2 i hm

theorem leT_lk {t : List (Nat × (Bool × AV))} : ∀ {t' : List (Nat × (Bool × AV))}, leT t t' → ∀ {k : Nat} {g' : Bool} {v' : AV}, lk t' k = some (g', v') →
    ∃ v, lk t k = some (g', v) ∧ (g' = true → v.le v')
  | [], _, k, g', v', hk => by simp [lk] at hk
  | (j, (gj, vj)) :: r, hl, k, g', v', hk => by
    simp only [leT] at hl
    simp only [lk] at hk
    split at hk
    · rename_i hj; subst hj
      simp only [Option.some.injEq, Prod.mk.injEq] at hk
      obtain ⟨rfl, rfl⟩ := hk
      have h1 := hl.1
      split at h1
      · rename_i g v hg; exact ⟨v, by rw [hg, h1.1], h1.2⟩
      · exact h1.elim
    · exact leT_lk hl.2 hk

theorem idsT_lk : ∀ {t : List (Nat × (Bool × AV))} {k : Nat} {g : Bool} {v : AV}, lk t k = some (g, v) → ∀ i ∈ v.ids, i ∈ idsT t
  | [], k, g, v, hk, _, _ => by simp [lk] at hk
  | (j, (gj, vj)) :: r, k, g, v, hk, i, hi => by
    simp only [lk] at hk
    simp only [idsT, List.mem_append]
    split at hk
    · simp only [Option.some.injEq, Prod.mk.injEq] at hk
      obtain ⟨_, rfl⟩ := hk
      exact .inl hi
    · exact .inr (idsT_lk hk i hi)

theorem leH_get {h : AHeap} : ∀ {h' : AHeap}, leH h h' → ∀ {i : Nat} {o' : AObj}, hget h' i = some o' → ∃ o, hget h i = some o ∧ o.le o'
  | [], _, i, o', hk => by simp [hget] at hk
  | (j, oj) :: r, hl, i, o', hk => by
    simp only [leH] at hl
    simp only [hget] at hk
    split at hk
    · rename_i hj; subst hj
      cases hk
      have h1 := hl.1
      split at h1
      · rename_i o ho; exact ⟨o, ho, h1⟩
      · exact h1.elim
    · exact leH_get hl.2 hk

theorem idsH_get : ∀ {h : AHeap} {i : Nat} {o : AObj}, hget h i = some o → ∀ j ∈ o.ids, j ∈ idsH h
  | [], i, o, hk, _, _ => by simp [hget] at hk
  | (j, oj) :: r, i, o, hk, m, hm => by
    simp only [hget] at hk
    simp only [idsH, List.mem_append]
    split at hk
    · cases hk; exact .inl hm
    · exact .inr (idsH_get hk m hm)

theorem leL_length : ∀ {as bs : List AV}, AV.leL as bs → as.length = bs.length
  | [], bs, hl => by simp only [AV.leL] at hl; subst hl; rfl
  | a :: as, [], hl => by simp [AV.leL] at hl
  | a :: as, b :: bs, hl => by simp only [AV.leL] at hl; simp [leL_length hl.2]

/-- A name that both heaps have goes on. -/
theorem goesOn_le {E : Env} {h h' : AHeap} (hl : leH h h') {i : Nat} (hi : (hget h' i).isSome = true) : GoesOn E h E h' i := by
  obtain ⟨o', ho'⟩ := Option.isSome_iff_exists.1 hi
  obtain ⟨o, ho, hle⟩ := leH_get hl ho'
  unfold GoesOn
  rw [ho]
  cases o with
  | var cs =>
    cases o' <;> simp only [AObj.le] at hle
    exact ⟨rfl, _, ho', (leL_length hle).symm⟩
  | tvar tt cs =>
    cases o' <;> simp only [AObj.le] at hle
    obtain ⟨rfl, hle⟩ := hle
    exact ⟨rfl, _, ho', (leL_length hle).symm⟩
  | arr k xs =>
    simp only [AObj.le] at hle; subst hle
    exact ⟨xs, ho', Nat.le_refl _, fun _ => ⟨rfl, rfl⟩⟩
  | buf tt xs =>
    simp only [AObj.le] at hle; subst hle
    exact ⟨xs, ho', Nat.le_refl _, fun _ => ⟨rfl, rfl⟩⟩
  | strit l p => simp only [AObj.le] at hle; subst hle; exact ⟨rfl, p, ho'⟩
  | omap es => simp only [AObj.le] at hle; subst hle; exact ⟨rfl, es, ho'⟩

theorem own_le {E : Env} {h h' : AHeap} (hl : leH h h') {b : Nat} (ho : Own E h' b) : Own E h b := by
  obtain ⟨i, hi, hb⟩ := ho
  obtain ⟨o', ho'⟩ := Option.isSome_iff_exists.1 hi
  obtain ⟨o, ho, _⟩ := leH_get hl ho'
  exact ⟨i, by simp [ho], hb⟩

theorem xs_le {E : Env} {h h' : AHeap} (hl : leH h h') {b : Nat} (ho : Xs E h' b) : Xs E h b := ho.imp (own_le hl) id

theorem RepObj.le {W : World} {E : Env} {h h' : AHeap} (hl : leH h h') {i : Nat} {o o' : AObj} (hle : o.le o') (hids : ∀ j ∈ o'.ids, (hget h' j).isSome = true) (hr : RepObj W E h i o) : RepObj W E h' i o' := by
  have hX : ∀ b, b < W.heap.size → Xs E h' b → Xs E h b := fun _ _ => xs_le hl
  have hK : ∀ b, b < W.heap.size → ¬ Xs E h b → W.heap[b]? = W.heap[b]? := fun _ _ _ => rfl
  cases o with
  | var cs =>
    cases o' <;> simp only [AObj.le] at hle
    simp only [RepObj] at hr ⊢
    obtain ⟨b, c, T, fz, h1, h2, h3, h4⟩ := hr
    exact ⟨b, c, T, fz, h1, h2, Reps.step hX hK _ _ (fun j hj => goesOn_le hl (hids j hj)) (Reps.le _ _ _ hle h3), h4⟩
  | tvar tt cs =>
    cases o' <;> simp only [AObj.le] at hle
    obtain ⟨rfl, hle⟩ := hle
    simp only [RepObj] at hr ⊢
    obtain ⟨b, c, T, fz, h1, h2, h3, h4⟩ := hr
    exact ⟨b, c, T, fz, h1, h2, Reps.step hX hK _ _ (fun j hj => goesOn_le hl (hids j hj)) (Reps.le _ _ _ hle h3), h4⟩
  | arr k xs =>
    simp only [AObj.le] at hle; subst hle
    simp only [RepObj] at hr ⊢
    rcases hr with hr | ⟨b, c, T, fz, h1, h2, h3, h4, h5, h6⟩
    · exact .inl hr
    · exact .inr ⟨b, c, T, fz, h1, h2, h3, h4, RepRows.step hX hK k xs _ h5, h6⟩
  | buf tt xs =>
    simp only [AObj.le] at hle; subst hle
    simp only [RepObj] at hr ⊢
    rcases hr with hr | ⟨b, c, T, fz, h1, h2, h3, h4, h5, h6⟩
    · exact .inl hr
    · exact .inr ⟨b, c, T, fz, h1, h2, h3, h4, h5, h6⟩
  | strit l p => simp only [AObj.le] at hle; subst hle; exact hr
  | omap es => simp only [AObj.le] at hle; subst hle; exact hr

theorem SatH.le {E : Env} {h h' : AHeap} {w : World} (hs : SatH E h w) (hl : leH h h') (hi : inH h' (idsH h')) : SatH E h' w where
  heap := fun i o' ho' => by
    obtain ⟨o, ho, hle⟩ := leH_get hl ho'
    exact RepObj.le hl hle (fun j hj => inH_mem hi j (idsH_get ho' j hj)) (hs.heap i o ho)
  inj := fun i j b h1 h2 => by
    obtain ⟨o1, e1⟩ := Option.isSome_iff_exists.1 h1
    obtain ⟨o2, e2⟩ := Option.isSome_iff_exists.1 h2
    obtain ⟨p1, f1, _⟩ := leH_get hl e1
    obtain ⟨p2, f2, _⟩ := leH_get hl e2
    exact hs.inj i j b (by simp [f1]) (by simp [f2])
  own := fun b hb => hs.own b (own_le hl hb)
  mlt := hs.mlt
  nlt := hs.nlt

theorem Sat.le {cx : Cx} {E : Env} {s s' : AS} {a : Act} {w : World} (hs : Sat cx E s a w) (hl : s.le s') : Sat cx E s' a w := by
  obtain ⟨hT, hH, hi1, hi2, hg⟩ := hl
  refine ⟨fun k g' v' hk => ?_, hs.nt, hs.hp.le hH hi2, hs.base, hs.marks, hg ▸ cx.stab _ _ _ _ _ w _ (fun _ _ _ => rfl) (fun _ hb => .inl (hb.imp (own_le hH) id)) (fun b hb => hb.elim (fun h => (hs.hp.own b (own_le hH h)).1) hs.marks.lt) (Nat.le_refl _) rfl rfl rfl hs.ghost⟩
  obtain ⟨v, hk', hle⟩ := leT_lk hT hk
  obtain ⟨x, hx, hr, hu⟩ := hs.slots k g' v hk'
  refine ⟨x, hx, fun e => ?_, hu⟩
  exact Rep.step (fun _ _ => xs_le hH) (fun _ _ _ => rfl) v' x (fun j hj => goesOn_le hH (inH_mem hi1 j (idsT_lk hk j hj))) (Rep.le v v' x (hle e) (hr e))

theorem Evo.le {fl : Nat} {E : Env} {h h' : AHeap} (hl : leH h h') (w : World) : Evo fl E h w E h' w :=
  ⟨rfl, rfl, rfl, Nat.le_refl _, fun _ _ _ _ => rfl, fun _ hb => .inl (own_le hl hb), fun _ hm => hm, fun _ hm => .inl hm, rfl, fun i _ hi => ⟨by
    obtain ⟨o', ho'⟩ := Option.isSome_iff_exists.1 hi
    obtain ⟨o, ho, _⟩ := leH_get hl ho'
    simp [ho], goesOn_le hl hi⟩⟩

section
variable {cx : Cx} {Q : Exit → AS → Prop} {s : AS}

theorem aw_le {c : Code} (s' : AS) (hl : s.le s') (h : AW cx c Q s') : AW cx c Q s := fun E a w hs =>
  wpIn_mono (h E a w (hs.le hl)) (fun _ _ _ hr => hr.trans (Evo.le hl.2.1 w))

/-- A loop whose measure is a ghost's. -/
theorem wpIn_loop_ghost {F : Fence} {n : Nat} {P : Program} {c : Code} {Q : Exit → Act → World → Prop} {a : Act} {w : World} {α : Type} (I : α → Act → World → Prop) (μ : α → Nat) (x0 : α) (h₀ : I x0 a w)
    (round : ∀ x a w, I x a w → c.wpIn F n P (Exit.then (fun a' w' => ∃ y, I y a' w' ∧ μ y < μ x) Q) a w) : (Code.loop c).wpIn F n P Q a w := by
  intro b k cs hro hb hr
  have key : ∀ j x a w, μ x = j → I x a w →
      ∃ e a' w', Q e a' w' ∧ ArrivesIn (Machine.fenced P F) P (lone (b.atR a (.code c :: .inLoop c :: k)) cs w) b k cs e a' w' := by
    intro j
    induction j using Nat.strongRecOn with
    | _ j ih =>
      intro x a w hn hI
      obtain ⟨e, a₁, w₁, hq, harr⟩ := round x a w hI b (.inLoop c :: k) cs hro hb hr
      cases e with
      | normal =>
        obtain ⟨y, hI₁, hlt⟩ := hq
        obtain ⟨e₂, a₂, w₂, hq₂, harr₂⟩ := ih (μ y) (hn ▸ hlt) y a₁ w₁ rfl hI₁
        exact ⟨e₂, a₂, w₂, hq₂, .of_steps (StepsIn.trans harr (.one (fenced_calm hb hr rfl) stepR_inLoop)) harr₂⟩
      | exit id => exact ⟨_, a₁, w₁, hq, .pass (x := .inLoop c) rfl (fun _ _ => .inl (by simp)) harr⟩
      | goto l => exact ⟨_, a₁, w₁, hq, .pass (x := .inLoop c) rfl (fun _ _ => .inl (by simp)) harr⟩
      | ret => exact ⟨_, a₁, w₁, hq, .pass (x := .inLoop c) rfl (fun _ _ => .inl (by simp)) harr⟩
      | panic ch => exact ⟨_, a₁, w₁, hq, .pass (x := .inLoop c) rfl (fun _ _ => .inl (by simp)) harr⟩
      | outgrown => exact ⟨_, a₁, w₁, hq, .pass (x := .inLoop c) rfl (fun _ _ => .inl (by simp)) harr⟩
  obtain ⟨e, a', w', hq, harr⟩ := key _ x0 a w rfl h₀
  exact ⟨e, a', w', hq, .of_steps (.one (fenced_calm hb hr rfl) stepR_loop) harr⟩

/-- A loop: a family of states, a measure that each round lowers. -/
theorem aw_loop {c : Code} {α : Type} (I : α → AS) (μ : α → Nat) (x0 : α) (hl : s.le (I x0))
    (round : ∀ x, AW cx c (thenK (fun s' => ∃ y, s'.le (I y) ∧ μ y < μ x) Q) (I x)) : AW cx (.loop c) Q s := by
  refine aw_le (I x0) hl ?_
  intro E a w hs
  refine wpIn_loop_ghost (fun x a' w' => ∃ E', Sat cx E' (I x) a' w' ∧ Evo cx.fl E (I x0).h w E' (I x).h w') μ x0 ⟨E, hs, Evo.refl _ _ _ _⟩ ?_
  rintro x a1 w1 ⟨E1, hs1, he1⟩
  refine wpIn_mono (round x E1 a1 w1 hs1) ?_
  intro e a2 w2 hr
  cases e with
  | normal =>
    obtain ⟨E2, s2, ⟨y, hle, hlt⟩, hs2, he2⟩ := hr
    exact ⟨y, ⟨E2, hs2.le hle, (he1.trans he2).trans (Evo.le hle.2.1 w2)⟩, hlt⟩
  | _ => exact hr.trans he1

end

end Go.Aw
