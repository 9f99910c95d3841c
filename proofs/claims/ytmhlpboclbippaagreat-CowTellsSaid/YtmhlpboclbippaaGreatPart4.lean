/-
  Parts of the proof: AwRangeS, AwPeek, AwDraw7, AwDraw8, AwConv, AwLin, AwOne, Ty, Shelf, LibS, OnceA, OnceB, CrcA, CrcB, CrcE, CrcPB, CrcR, CrcRE, BldA (short names; the readable texts lie in the repo, under wip).
-/
import Derived.Test.YtmhlpboclbippaaGreatPart3
import Derived.Test.YtmhlpboclbippaaGreatPart2
import Derived.Test.YtmhlpboclbippaaGreatProg
import Derived.KernelRfl
import Derived.Shelf.Strings.Prefix
import Derived.Shelf.Strings.Repeat
import Derived.WalkKit
import Derived.Tactics
import Derived.Tactics2
import Derived.Defers
import Derived.Laws.Pointers
import Derived.Laws.LoneSync
import Derived.RegionTactic
import Derived.RegionCalls
import Derived.ChangeAlike
import Derived.Lib.Builder
import Derived.Lib.UnsafeStr
import Derived.Laws.Externs
set_option maxRecDepth 100000
set_option maxHeartbeats 2000000
set_option linter.unusedSimpArgs false
set_option linter.unusedVariables false
namespace Go.Aw
open Go
section
variable {cx : Cx} {s : AS} {Q : Exit → AS → Prop}
theorem ziK {g : Operand} {ps : Array Tmp} {assign body : Code} {f : FuncId} {fs caps caps' : List AV} {fl : Nat} {items : List (List AV)} {Kit : Option (List (List AV)) → AHeap → Prop} (p : Nat → Bool) (I : List (List AV) → AHeap × Option (List (List AV))) (J : Code → AHeap → Option (List (List AV)) → Prop)
    (hro : cx.ro = none) (hg : s.ev g = (true, .fn (.func f) fs caps)) (hcle : AV.leL caps caps') (hen : zeR cx.P f)
    (hit : ∀ E0 w0 (pf qc : Array Value), SatH E0 s.h w0 → Reps w0 E0 s.h fs pf.toList → Reps w0 E0 s.h caps qc.toList → ∃ S : World → Prop,
      (∀ y : Yo cx.P items, (∀ g M N A w, y.G g M N A w → S w) → ∀ E w, SatH E (hsel p s.h) w → Reps w E (hsel p s.h) fs pf.toList → Reps w E (hsel p s.h) caps' qc.toList → y.G (some []) E.M E.N (Own E (hsel p s.h)) w →
        Calls cx.P f (pf ++ #[Value.func (.yield y.yl) #[] #[]] ++ qc) w (fun e w' => ∃ v E' h' g, e = .returned v ∧ Kit g h' ∧ SatH E' h' w' ∧ Evo fl E (hsel p s.h) w E' h' w' ∧ y.G g E'.M E'.N (Own E' h') w')) ∧
      (∀ xs E w, SatH E (I xs).1 w → (∀ i, i < fl → (hget (I xs).1 i).isSome → GoesOn E0 s.h E (I xs).1 i) → S w) ∧
      (∀ c h3 g3, J c h3 g3 → ∀ E w, SatH E h3 w → (∀ i, i < fl → (hget h3 i).isSome → GoesOn E0 s.h E h3 i) → S w))
    (hfl : ∀ i, (hget s.h i).isSome → i < fl) (hfc : cx.fl ≤ fl) (hcl : zh0 p s.h) (hids : ∀ j ∈ AV.idsL fs ++ AV.idsL caps', p j = true)
    (hI : leH (hsel (fun i => !p i) s.h) (I []).1) (hIn : inH (I []).1 (idsH (I []).1)) (hIg : (I []).2 = s.g)
    (hnames : ∀ xs, xs <+: items → ∀ i, (hget (I xs).1 i).isSome → p i = false) (hJ : ∀ c h3 g3, J c h3 g3 → ∀ i, (hget h3 i).isSome → p i = false) (hK1 : ∀ g h', Kit g h' → (∀ i, (hget h' i).isSome → p i = true) ∧ (∀ xs, g = some xs → xs = items))
    (hlen : ∀ x ∈ items, x.length = ps.size) (hps : ∀ t ∈ ps.toList, t < cx.nt)
    (hround : ∀ xs x, (xs ++ [x]) <+: items → ∀ (l : Nat) (r1 : Rnd cx), AW (cx.inR l fl r1) assign (AsgK fun s1 => ∀ r2 : Rnd cx, AW (cx.inR l fl r2) body (zr (fun h' g' => leH h' (I (xs ++ [x])).1 ∧ inH (I (xs ++ [x])).1 (idsH (I (xs ++ [x])).1) ∧ g' = (I (xs ++ [x])).2) J) s1)
      { t := zdf ps.toList x (keepT (I xs).1 s.t), h := (I xs).1, g := (I xs).2 })
    (hdone : ∀ h1, Kit (some items) h1 → Q .normal { t := keepT (h1 ++ (I items).1) s.t, h := h1 ++ (I items).1, g := (I items).2 })
    (hstop : ∀ c h1 h3 g3, Kit none h1 → J c h3 g3 → AW cx c Q { t := keepT (h1 ++ h3) s.t, h := h1 ++ h3, g := g3 }) :
    AW cx (.rangeFunc g ps assign body) Q s := by
  intro E0 a w0 hs0
  refine wpIn_rangeFunc ?_
  intro fn hfn
  obtain ⟨l, hl⟩ : ∃ l, l = w0.heap.size + 1 := ⟨_, rfl⟩
  obtain ⟨d, hd⟩ : ∃ d, d = w0.heap.size := ⟨_, rfl⟩
  obtain ⟨rec, hrec⟩ : ∃ rec : LoopState → Option Code → Loop, rec = fun st pe => { state := st, pending := pe, fn := fn, tmps := a.tmps, params := ps, assign := assign, body := body, defers := d } := ⟨_, rfl⟩
  obtain ⟨w1, hw1⟩ : ∃ w1, w1 = (w0.alloc (.deferred (some []))).alloc (.loop (rec .ready none)) := ⟨_, rfl⟩
  have hsz1 : w1.heap.size = w0.heap.size + 2 := by rw [hw1]; simp
  have hk1 : ∀ b, b < w0.heap.size → w1.heap[b]? = w0.heap[b]? := fun b hb => by
    rw [hw1]
    show ((w0.heap.push _).push _)[b]? = _
    rw [Array.getElem?_push, if_neg (by simp; omega), Array.getElem?_push, if_neg (by omega)]
  have hd1 : w1.heap[d]? = some (.deferred (some [])) := by
    rw [hw1, hd]
    show ((w0.heap.push _).push _)[w0.heap.size]? = _
    rw [Array.getElem?_push, if_neg (by simp), Array.getElem?_push, if_pos rfl]
  have hl1 : w1.heap[l]? = some (.loop (rec .ready none)) := by
    rw [hw1, hl]
    show ((w0.heap.push _).push _)[w0.heap.size + 1]? = _
    rw [Array.getElem?_push, if_pos (by simp)]
  have hfv := ev_ok hs0.slots g (by rw [hg])
  rw [hg] at hfv
  simp only [Rep] at hfv
  obtain ⟨pf, qc, hgv, hfs, hcs⟩ := hfv
  obtain ⟨S, hitS, hSI, hSJ⟩ := hit E0 w0 pf qc hs0.hp hfs hcs
  replace hcs : Reps w0 E0 s.h caps' qc.toList := Reps.le _ _ _ hcle hcs
  have hids1 : ∀ j ∈ AV.idsL fs, p j = true := fun j hj => hids j (List.mem_append_left _ hj)
  have hids2 : ∀ j ∈ AV.idsL caps', p j = true := fun j hj => hids j (List.mem_append_right _ hj)
  have hmk : ∀ b, zaf a.defers b → b < w0.heap.size := fun b hb => hs0.marks.lt hb
  have howns : ∀ b, Own E0 (hsel p s.h) b → ¬ Own E0 (hsel (fun i => !p i) s.h) b := by
    rintro b ⟨i, hi, hb⟩ ⟨j, hj, hb'⟩
    rw [zC] at hi hj
    split at hi
    · rename_i hpi
      split at hj
      · rename_i hpj
        have := hs0.hp.inj i j b hi hj hb hb'
        subst this
        rw [hpi] at hpj; cases hpj
      · simp at hj
    · simp at hi
  obtain ⟨E1, hE1⟩ : ∃ E1 : Env, E1 = { O := E0.O, C := E0.C, M := fun b => Own E0 (hsel (fun i => !p i) s.h) b ∨ E0.M b ∨ b = l ∨ b = d, N := E0.N } := ⟨_, rfl⟩
  have hX1 : ∀ b, b < w0.heap.size → Xs E1 (hsel p s.h) b → Xs E0 s.h b := by
    rw [hE1]
    rintro b hb (hx | (hx | hx | hx | hx) | hx)
    · exact .inl (zG hx)
    · exact .inl (zG hx)
    · exact .inr (.inl hx)
    · omega
    · omega
    · exact .inr (.inr hx)
  have hgo1 : ∀ j, p j = true → GoesOn E0 s.h E1 (hsel p s.h) j := fun j hj => by
    rw [hE1]
    unfold GoesOn
    rw [zC, if_pos hj]
    split <;> simp_all
  have hs1 : SatH E1 (hsel p s.h) w1 := by
    refine ⟨fun i o ho => ?_, fun i j b hi hj h1 h2 => ?_, fun b hb => ?_, fun b hb => ?_, fun b hb => ?_⟩
    · have ho' := ho
      rw [zC] at ho'
      split at ho'
      · rename_i hpi
        have := hs0.hp.heap i o ho'
        have hidso := hcl i o ho' hpi
        have hlt : ∀ b, E0.O i = some b → w1.heap[b]? = w0.heap[b]? := fun b hb => hk1 b (hs0.hp.own b ⟨i, by simp [ho'], hb⟩).1
        have hO : E1.O = E0.O := by rw [hE1]
        have hC : E1.C = E0.C := by rw [hE1]
        cases o with
        | var cs =>
          simp only [RepObj, hO] at this ⊢
          obtain ⟨b, c, T, fz, g1, g2, g3, g4⟩ := this
          exact ⟨b, c, T, fz, g1, (hlt b g1).trans g2, Reps.step hX1 (fun b hb _ => hk1 b hb) _ _ (fun j hj => hgo1 j (hidso j hj)) g3, g4⟩
        | tvar tt cs =>
          simp only [RepObj, hO] at this ⊢
          obtain ⟨b, c, T, fz, g1, g2, g3, g4⟩ := this
          exact ⟨b, c, T, fz, g1, (hlt b g1).trans g2, Reps.step hX1 (fun b hb _ => hk1 b hb) _ _ (fun j hj => hgo1 j (hidso j hj)) g3, g4⟩
        | arr k xs =>
          simp only [RepObj, hO, hC] at this ⊢
          rcases this with g | ⟨b, c, T, fz, g1, g2, g3, g4, g5, g6⟩
          · exact .inl g
          · exact .inr ⟨b, c, T, fz, g1, (hlt b g1).trans g2, g3, g4, RepRows.step hX1 (fun b hb _ => hk1 b hb) _ _ _ g5, g6⟩
        | buf tt xs =>
          simp only [RepObj, hO, hC] at this ⊢
          rcases this with g | ⟨b, c, T, fz, g1, g2, g3, g4, g5, g6⟩
          · exact .inl g
          · exact .inr ⟨b, c, T, fz, g1, (hlt b g1).trans g2, g3, g4, g5, g6⟩
        | strit l q =>
          simp only [RepObj, hO] at this ⊢
          obtain ⟨b, g1, g2⟩ := this
          exact ⟨b, g1, (hlt b g1).trans g2⟩
        | omap es =>
          simp only [RepObj, hO] at this ⊢
          obtain ⟨b, m, cl, g1, g2, g3⟩ := this
          exact ⟨b, m, cl, g1, (hlt b g1).trans g2, g3⟩
      · cases ho'
    · rw [hE1] at h1 h2
      rw [zC] at hi hj
      split at hi
      · split at hj
        · exact hs0.hp.inj i j b hi hj h1 h2
        · simp at hj
      · simp at hi
    · have hb' : Own E0 (hsel p s.h) b := by rw [hE1] at hb; exact hb
      have := hs0.hp.own b (zG hb')
      rw [hE1]
      refine ⟨by omega, ?_, this.2.2⟩
      rintro (hx | hx | hx | hx)
      · exact howns b hb' hx
      · exact this.2.1 hx
      · omega
      · omega
    · rw [hE1] at hb
      rcases hb with hx | hx | hx | hx
      · have := (hs0.hp.own b (zG hx)).1; omega
      · have := hs0.hp.mlt b hx; omega
      · omega
      · omega
    · rw [hE1] at hb
      have := hs0.hp.nlt b hb; omega
  have hfs1 : Reps w1 E1 (hsel p s.h) fs pf.toList := Reps.step hX1 (fun b hb _ => hk1 b hb) _ _ (fun j hj => hgo1 j (hids1 j hj)) hfs
  have hcs1 : Reps w1 E1 (hsel p s.h) caps' qc.toList := Reps.step hX1 (fun b hb _ => hk1 b hb) _ _ (fun j hj => hgo1 j (hids2 j hj)) hcs
  obtain ⟨E2, hE2⟩ : ∃ E2 : Env, E2 = { O := E0.O, C := E0.C, M := E0.M, N := fun b => E0.N b ∨ Own E0 (hsel p s.h) b ∨ b = l ∨ b = d } := ⟨_, rfl⟩
  have hown2 : ∀ b, Own E2 (I []).1 b → Own E0 (hsel (fun i => !p i) s.h) b := fun b hb => by
    have : Own E0 (I []).1 b := by rw [hE2] at hb; exact hb
    exact zf4 hI this
  have hX2 : ∀ b, b < w0.heap.size → Xs E2 (I []).1 b → Xs E0 s.h b := by
    intro b hb hx
    rcases hx with hx | hx | hx
    · exact .inl (zG (hown2 b hx))
    · rw [hE2] at hx; exact .inr (.inl hx)
    · rw [hE2] at hx
      rcases hx with hx | hx | hx | hx
      · exact .inr (.inr hx)
      · exact .inl (zG hx)
      · omega
      · omega
  have hO2 : E2.O = E0.O := by rw [hE2]
  have hC2 : E2.C = E0.C := by rw [hE2]
  have hM2 : E2.M = E0.M := by rw [hE2]
  have hs2 : SatH E2 (I []).1 w1 := by
    have hp0 : ∀ i o, hget (hsel (fun i => !p i) s.h) i = some o → RepObj w0 E0 s.h i o := fun i o ho => by
      rw [zC] at ho
      split at ho
      · exact hs0.hp.heap i o ho
      · cases ho
    refine ⟨fun i o ho => ?_, fun i j b hi hj h1 h2 => ?_, fun b hb => ?_, fun b hb => ?_, fun b hb => ?_⟩
    · obtain ⟨o1, ho1, hle⟩ := zaY hI ho
      have hr := hp0 i o1 ho1
      have hlt : ∀ b, E0.O i = some b → w1.heap[b]? = w0.heap[b]? := fun b hb => hk1 b (hs0.hp.own b ⟨i, by
        rw [zC] at ho1
        split at ho1
        · simp [ho1]
        · simp at ho1, hb⟩).1
      have hgoI : ∀ j, (hget (I []).1 j).isSome → GoesOn E0 s.h E2 (I []).1 j := fun j hj => by
        have hj1 := zbf (E := E0) hI hj
        have hj2 : (hget (hsel (fun i => !p i) s.h) j).isSome := by
          obtain ⟨o', ho'⟩ := Option.isSome_iff_exists.1 hj
          obtain ⟨oo, hoo, _⟩ := zaY hI ho'
          simp [hoo]
        have hpj : (!p j) = true := by
          rw [zC] at hj2
          split at hj2
          · assumption
          · simp at hj2
        have hj3 := (zcb (E := E0) (h := s.h) (p := fun i => !p i) j hpj).trans hj1
        unfold GoesOn at hj3 ⊢
        rw [hO2, hC2]
        exact hj3
      have hidsI : ∀ j ∈ o.ids, (hget (I []).1 j).isSome := fun j hj => zfk hIn j (zeM ho j hj)
      cases o1 with
      | var cs =>
        cases o <;> simp only [AObj.le] at hle
        simp only [RepObj, hO2] at hr ⊢
        obtain ⟨b, c, T, fz, g1, g2, g3, g4⟩ := hr
        exact ⟨b, c, T, fz, g1, (hlt b g1).trans g2, Reps.step hX2 (fun b hb _ => hk1 b hb) _ _ (fun j hj => hgoI j (hidsI j hj)) (Reps.le _ _ _ hle g3), g4⟩
      | tvar tt cs =>
        cases o <;> simp only [AObj.le] at hle
        obtain ⟨rfl, hle⟩ := hle
        simp only [RepObj, hO2] at hr ⊢
        obtain ⟨b, c, T, fz, g1, g2, g3, g4⟩ := hr
        exact ⟨b, c, T, fz, g1, (hlt b g1).trans g2, Reps.step hX2 (fun b hb _ => hk1 b hb) _ _ (fun j hj => hgoI j (hidsI j hj)) (Reps.le _ _ _ hle g3), g4⟩
      | arr k xs =>
        simp only [AObj.le] at hle; subst hle
        simp only [RepObj, hO2, hC2] at hr ⊢
        rcases hr with g | ⟨b, c, T, fz, g1, g2, g3, g4, g5, g6⟩
        · exact .inl g
        · exact .inr ⟨b, c, T, fz, g1, (hlt b g1).trans g2, g3, g4, RepRows.step hX2 (fun b hb _ => hk1 b hb) _ _ _ g5, g6⟩
      | buf tt xs =>
        simp only [AObj.le] at hle; subst hle
        simp only [RepObj, hO2, hC2] at hr ⊢
        rcases hr with g | ⟨b, c, T, fz, g1, g2, g3, g4, g5, g6⟩
        · exact .inl g
        · exact .inr ⟨b, c, T, fz, g1, (hlt b g1).trans g2, g3, g4, g5, g6⟩
      | strit l q =>
        simp only [AObj.le] at hle; subst hle
        simp only [RepObj, hO2] at hr ⊢
        obtain ⟨b, g1, g2⟩ := hr
        exact ⟨b, g1, (hlt b g1).trans g2⟩
      | omap es =>
        simp only [AObj.le] at hle; subst hle
        simp only [RepObj, hO2] at hr ⊢
        obtain ⟨b, m, cl, g1, g2, g3⟩ := hr
        exact ⟨b, m, cl, g1, (hlt b g1).trans g2, g3⟩
    · rw [hO2] at h1 h2
      have key : ∀ i, (hget (I []).1 i).isSome → (hget s.h i).isSome := fun i hi => by
        obtain ⟨o', ho'⟩ := Option.isSome_iff_exists.1 hi
        obtain ⟨oo, hoo, _⟩ := zaY hI ho'
        rw [zC] at hoo
        split at hoo
        · simp [hoo]
        · cases hoo
      exact hs0.hp.inj i j b (key i hi) (key j hj) h1 h2
    · have hb' := hown2 b hb
      have := hs0.hp.own b (zG hb')
      rw [hE2]
      refine ⟨by omega, this.2.1, ?_⟩
      rintro (hx | hx | hx | hx)
      · exact this.2.2 hx
      · exact howns b hx hb'
      · omega
      · omega
    · rw [hM2] at hb
      have := hs0.hp.mlt b hb; omega
    · rw [hE2] at hb
      rcases hb with hx | hx | hx | hx
      · have := hs0.hp.nlt b hx; omega
      · have := (hs0.hp.own b (zG hx)).1; omega
      · omega
      · omega
  have hkept : Kept cx l d fl p E0 s.h w0 a.defers E1.M E1.N (Own E1 (hsel p s.h)) E2 (I []).1 (I []).2 w1 := by
    have hO1 : ∀ b, Own E1 (hsel p s.h) b ↔ Own E0 (hsel p s.h) b := fun b => by rw [hE1]; exact Iff.rfl
    refine ⟨hs2, hnames [] (List.nil_prefix), fun b => by rw [hE1], fun b hb => .inl ((hO1 b).1 hb), fun b => by rw [hE2]; simp only [hO1], fun b hb hm => ?_, fun b hb => ?_, ?_, ⟨by rw [hw1]; rfl, by rw [hw1]; rfl, by rw [hw1]; rfl, by omega, fun b hb _ _ => hk1 b hb, fun b hb => .inl (zG (hown2 b hb)), fun b hb => by rwa [hM2], fun b hb => .inl (by rwa [hM2] at hb), fun i hi hg => ?_⟩, fun b hb => .inl (hown2 b hb), fun b hb => .inl (by rwa [hM2] at hb), by omega, hd1, ?_⟩
    · rw [hM2] at hm
      exact (hs0.hp.own b (zG ((hO1 b).1 hb))).2.1 hm
    · rw [hE1]
      rcases hb with hb | hb
      · exact .inl (hown2 b hb)
      · exact .inr (.inl (by rwa [hM2] at hb))
    · rw [hE1]; exact ⟨.inr (.inr (.inl rfl)), .inr (.inr (.inr rfl))⟩
    · have hj1 := zbf (E := E0) hI hg
      have hj2 : (hget (hsel (fun i => !p i) s.h) i).isSome := by
        obtain ⟨o', ho'⟩ := Option.isSome_iff_exists.1 hg
        obtain ⟨oo, hoo, _⟩ := zaY hI ho'
        simp [hoo]
      have hpj : (!p i) = true := by
        rw [zC] at hj2
        split at hj2
        · assumption
        · simp at hj2
      have hj3 := (zcb (E := E0) (h := s.h) (p := fun i => !p i) i hpj).trans hj1
      refine ⟨by rw [zC, if_pos hpj] at hj2; exact hj2, ?_⟩
      unfold GoesOn at hj3 ⊢
      rw [hO2, hC2]
      exact hj3
    · rw [hIg, hM2]
      refine cx.stab _ _ _ _ _ w0 _ (fun b hb _ => hk1 b hb) (fun b hb => ?_) (fun b hb => ?_) (by omega) (by rw [hw1]; rfl) (by rw [hw1]; rfl) (by rw [hw1]; rfl) hs0.ghost
      · rcases hb with hb | hb | hb | hb | hb
        · exact .inl (.inl (zG (hown2 b hb)))
        · exact .inl (.inl (zG ((hO1 b).1 hb)))
        · exact .inr (by omega)
        · exact .inr (by omega)
        · exact .inl (.inr hb)
      · rcases hb with hb | hb | hb | hb | hb
        · have := (hs0.hp.own b (zG (hown2 b hb))).1; omega
        · have := (hs0.hp.own b (zG ((hO1 b).1 hb))).1; omega
        · omega
        · omega
        · have := hmk b hb; omega
  let y : Yo cx.P items :=
    { yl := l
      G := zau cx l d fl p E0 s.h w0 a.defers I J rec
      stab := fun gg M N A A' w w' hk hA hAb hsz ht ho hout hG => by
        cases gg with
        | some xs =>
          simp only [zau] at hG ⊢
          obtain ⟨E3, k, hrl⟩ := hG
          obtain ⟨E3', k', hnl⟩ := k.step hl hd hs0.hp hmk hk hA hAb hsz ht ho hout
          exact ⟨E3', k', (hk l (by have := k.size; omega) hnl).trans hrl⟩
        | none =>
          simp only [zau] at hG ⊢
          obtain ⟨E3, c, h3, g3, k, hrl, hj⟩ := hG
          obtain ⟨E3', k', hnl⟩ := k.step hl hd hs0.hp hmk hk hA hAb hsz ht ho hout
          exact ⟨E3', c, h3, g3, k', (hk l (by have := k.size; omega) hnl).trans hrl, hj⟩
      yok := zjh hl hd hs0 I J hnames hJ hlen hps hfl hround rec hrec }
  have hGS : ∀ g M N A w, y.G g M N A w → S w := by
    intro gg M N A w hG
    cases gg with
    | some xs =>
      have hG' : zau cx l d fl p E0 s.h w0 a.defers I J rec (some xs) M N A w := hG
      simp only [zau] at hG'
      obtain ⟨E3, k, hrl⟩ := hG'
      exact hSI xs E3 w k.hp (fun i hi hh => (k.far.go i hi hh).2)
    | none =>
      have hG' : zau cx l d fl p E0 s.h w0 a.defers I J rec none M N A w := hG
      simp only [zau] at hG'
      obtain ⟨E3, c, h3, g3, k, hrl, hj⟩ := hG'
      exact hSJ c h3 g3 hj E3 w k.hp (fun i hi hh => (k.far.go i hi hh).2)
  have hG1 : zau cx l d fl p E0 s.h w0 a.defers I J rec (some []) E1.M E1.N (Own E1 (hsel p s.h)) w1 := by
    simp only [zau]
    exact ⟨E2, hkept, hl1⟩
  have hcalls := hitS y hGS E1 w1 hs1 hfs1 hcs1 hG1
  refine ⟨l, [{ target := .collected d, args := #[] }], w1, { target := .fn (.func f) qc, args := pf ++ #[Value.func (.yield l) #[] #[]] }, w1, f, pf ++ #[Value.func (.yield l) #[] #[]] ++ qc, w1, ?_, ?_, fun _ _ => trivial, ?_, fun h => (by cases h), ?_⟩
  · have hround0 : cx.F.round = none := hro
    rw [hround0, hw1, hrec, hl, hd]
    exact run_enterLoop_outer fn a.tmps ps assign body
  · simp only [resolve, rangeCall, hgv, Deferred.ofValue, Sem.run_pure, Sem.run_bind]
    simp [Act.eval]
  · simp only [invoke]
    exact hen _ _
  · refine (zis 0 hcalls).mono ?_
    rintro e w5 ⟨v, E5, h5, g5, rfl, hKit, hs5, hev5, hG5⟩
    have hG5' : zau cx l d fl p E0 s.h w0 a.defers I J rec g5 E5.M E5.N (Own E5 h5) w5 := hG5
    obtain ⟨hn5, hit5⟩ := hK1 g5 h5 hKit
    have fin : ∀ (st : LoopState) (pe : Option Code) (E4 : Env) (hI' : AHeap) (gI' : Option (List (List AV))), st ≠ .busy → Kept cx l d fl p E0 s.h w0 a.defers E5.M E5.N (Own E5 h5) E4 hI' gI' w5 → w5.heap[l]? = some (.loop (rec st pe)) →
        ∃ w6 E6, (Instr.endLoop l).run cx.P w5 = .ok pe w6 ∧ Sat cx E6 { t := keepT (h5 ++ hI') s.t, h := h5 ++ hI', g := gI' } { a with defers := { target := .collected d, args := #[] } :: a.defers } w6 ∧ Evo cx.fl E0 s.h w0 E6 (h5 ++ hI') w6 := by
      intro st pe E4 hI' gI' hst k hrl
      have hend := run_endLoop (P := cx.P) hrl (by rw [hrec]; exact hst)
      obtain ⟨w6, hw6⟩ : ∃ w6, w6 = w5.putObj l (.loop { rec st pe with state := .exhausted }) := ⟨_, rfl⟩
      have hsz5 := k.size
      have ap : Apart p E5 h5 E4 hI' E4.M E0.N :=
        { n1 := hn5, n2 := k.names, o1 := fun b hb => .inr ((k.n2 b).2 (.inr (.inl hb))), o2 := fun b hb => .inl (k.m1 b (.inl hb)), m1 := fun b hb => .inl (k.m1 b (.inr hb)), m2 := fun b hb => .inl hb, k1 := fun b hb => .inr ((k.n1 b).2 hb), k2 := fun b hb => .inr ((k.n2 b).2 (.inl hb)) }
      have hs6' := ap.sat hs5 k.hp k.hp.mlt (fun b hb => k.hp.nlt b ((k.n2 b).2 (.inl hb)))
      obtain ⟨E6, hE6⟩ : ∃ E6, E6 = joinE p E5 E4 E4.M E0.N := ⟨_, rfl⟩
      rw [← hE6] at hs6'
      have hM6 : E6.M = E4.M := by rw [hE6]; rfl
      have hN6 : E6.N = E0.N := by rw [hE6]; rfl
      have hown6 : ∀ b, Own E6 (h5 ++ hI') b → Own E5 h5 b ∨ Own E4 hI' b := fun b hb => by rw [hE6] at hb; exact ap.own hb
      have ho5 : ∀ b, Own E5 h5 b → Own E0 s.h b ∨ w1.heap.size ≤ b := fun b hb => (hev5.own b hb).imp (fun h => by rw [hE1] at h; exact zG h) id
      have hgoE : ∀ j, (hget (h5 ++ hI') j).isSome → GoesOn E0 s.h E6 (h5 ++ hI') j ∧ (j < fl → (hget s.h j).isSome) := fun j hj => by
        by_cases hpj : p j = true
        · have hj5 : (hget h5 j).isSome := by rw [ap.get1 hpj] at hj; exact hj
          have key : j < fl → (hget s.h j).isSome ∧ GoesOn E0 s.h E6 (h5 ++ hI') j := fun hjf => by
            obtain ⟨q1, q2⟩ := hev5.go j hjf hj5
            rw [zC, if_pos hpj] at q1
            refine ⟨q1, ?_⟩
            have q3 : GoesOn E0 s.h E5 h5 j := by
              unfold GoesOn at q2 ⊢
              rw [zC, if_pos hpj, hE1] at q2
              exact q2
            rw [hE6]
            exact q3.trans (ap.goes1 j)
          by_cases hj0 : (hget s.h j).isSome
          · exact ⟨(key (hfl j hj0)).2, fun _ => hj0⟩
          · refine ⟨?_, fun hjf => (key hjf).1⟩
            unfold GoesOn
            split
            · rename_i cs hh; exact (hj0 (by simp [hh])).elim
            · rename_i k xs hh; exact (hj0 (by simp [hh])).elim
            · rename_i l p hh; exact (hj0 (by simp [hh])).elim
            · rename_i es hh; exact (hj0 (by simp [hh])).elim
            · rename_i tt cs hh; exact (hj0 (by simp [hh])).elim
            · rename_i tt cs hh; exact (hj0 (by simp [hh])).elim
            · trivial
        · have hpj' : p j = false := by simpa using hpj
          have hj4 : (hget hI' j).isSome := by rw [ap.get2 hpj'] at hj; exact hj
          by_cases hj0 : (hget s.h j).isSome
          · refine ⟨?_, fun _ => hj0⟩
            rw [hE6]
            exact (k.far.go j (hfl j hj0) hj4).2.trans (ap.goes2 j)
          · refine ⟨?_, fun hjf => (k.far.go j hjf hj4).1⟩
            unfold GoesOn
            split
            · rename_i cs hh; exact (hj0 (by simp [hh])).elim
            · rename_i k xs hh; exact (hj0 (by simp [hh])).elim
            · rename_i l p hh; exact (hj0 (by simp [hh])).elim
            · rename_i es hh; exact (hj0 (by simp [hh])).elim
            · rename_i tt cs hh; exact (hj0 (by simp [hh])).elim
            · rename_i tt cs hh; exact (hj0 (by simp [hh])).elim
            · trivial
      have hXf : ∀ b c T fz, w0.heap[b]? = some (.cells c T fz) → Xs E6 (h5 ++ hI') b → Xs E0 s.h b := fun b c T fz hc hx => by
        have hb := (Array.getElem?_eq_some_iff.1 hc).1
        rcases hx with hx | hx | hx
        · rcases hown6 b hx with h | h
          · rcases ho5 b h with h | h
            · exact .inl h
            · omega
          · rcases k.far.own b h with h | h
            · exact .inl h
            · omega
        · rw [hM6] at hx
          rcases k.far.m2 b hx with h | h
          · exact .inr (.inl h)
          · omega
        · rw [hN6] at hx; exact .inr (.inr hx)
      have hKf : ∀ b c T fz, w0.heap[b]? = some (.cells c T fz) → ¬ Xs E0 s.h b → w5.heap[b]? = some (.cells c T fz) := fun b c T fz hc hx => by
        rcases k.far.block b (Array.getElem?_eq_some_iff.1 hc).1 with h | h
        · exact absurd h hx
        · exact h.trans hc
      have hslots : Slots w5 E6 ⟨keepT (h5 ++ hI') s.t, h5 ++ hI', gI'⟩ a := zfv (g := s.g) hs0.slots hXf hKf (fun j hj => (hgoE j hj).1)
      have hdM : ¬ E4.M d := fun hm => by
        rcases k.m0 d hm with h | h
        · have := hs0.hp.mlt d h; omega
        · omega
      have hmarks5 : Marks cx.base E6 w5 ({ target := .collected d, args := #[] } :: a.defers) := by
        have hb0 := hs0.base
        refine ⟨fun dd hdd => ?_, ?_⟩
        · rcases List.mem_cons.1 hdd with rfl | hdd
          · exact ⟨d, rfl, k.dd, by omega, by rw [hM6]; exact hdM⟩
          · obtain ⟨r, q1, q2, q3, q4⟩ := hs0.marks.1 dd hdd
            have hr := (Array.getElem?_eq_some_iff.1 q2).1
            refine ⟨r, q1, (k.far.keep r hr (hs0.hp.not_mark q2) q4).trans q2, q3, fun hm => ?_⟩
            rw [hM6] at hm
            rcases k.far.m2 r hm with h | h
            · exact q4 h
            · omega
        · simp only [List.map_cons, List.nodup_cons]
          refine ⟨?_, hs0.marks.2⟩
          simp only [List.mem_map, not_exists, not_and]
          intro dd hdd e
          obtain ⟨r, q1, q2, q3, q4⟩ := hs0.marks.1 dd hdd
          have hr := (Array.getElem?_eq_some_iff.1 q2).1
          rw [q1] at e
          simp only at e
          omega
      have hghost5 : cx.G gI' E6.M E6.N (fun b => Own E6 (h5 ++ hI') b ∨ zaf ({ target := .collected d, args := #[] } :: a.defers) b) (w5.putObj l (.loop { rec st pe with state := .exhausted })) := by
        rw [hM6, hN6]
        refine cx.stab _ _ _ _ _ w5 _ (fun b _ hb => World.putObj_heap_other (fun e => hb (by rw [e]; exact .inr (.inr (.inl rfl))))) (fun b hb => .inl ?_) (fun b hb => ?_) (by simp) rfl rfl rfl k.ghost
        · rcases hb with hb | ⟨dd, hdd, hdt⟩
          · rcases hown6 b hb with h | h
            · exact .inr (.inl h)
            · exact .inl h
          · rcases List.mem_cons.1 hdd with rfl | hdd
            · have : b = d := by simpa using hdt.symm
              exact .inr (.inr (.inr (.inl this)))
            · exact .inr (.inr (.inr (.inr ⟨dd, hdd, hdt⟩)))
        · rw [World.putObj_size]
          rcases hb with hb | hb
          · exact (hs6'.own b hb).1
          · exact hmarks5.lt hb
      have hsat5 : Sat (cxOf cx.P cx.base cx.nt cx.fl) E6 { t := keepT (h5 ++ hI') s.t, h := h5 ++ hI', g := gI' } { a with defers := { target := .collected d, args := #[] } :: a.defers } w5 :=
        { slots := fun kk g v hk => hslots kk g v hk, nt := hs0.nt, hp := hs6', base := Nat.le_trans hs0.base k.far.size, marks := hmarks5, ghost := trivial }
      refine ⟨w6, E6, ?_, ?_, ?_⟩
      · rw [hend, hw6, hrec]
      · rw [hw6]
        exact ziz (cx1 := cxOf cx.P cx.base cx.nt cx.fl) (cx2 := cx) _ hsat5 hrl rfl rfl hghost5
      · rw [hw6]
        refine ⟨k.far.os, k.far.tape, k.far.output, by simpa using k.far.size, fun b hb h1 h2 => ?_, fun b hb => ?_, fun b hb => by rw [hM6]; exact k.far.m1 b hb, fun b hb => by rw [hM6] at hb; exact k.far.m2 b hb, hN6, fun i hi hg => ?_⟩
        · exact (World.putObj_heap_other (by omega)).trans (k.far.keep b hb h1 h2)
        · rcases hown6 b hb with h | h
          · rcases ho5 b h with h | h
            · exact .inl h
            · exact .inr (by omega)
          · exact k.far.own b h
        · exact ⟨(hgoE i hg).2 (by omega), (hgoE i hg).1⟩
    cases g5 with
    | some xs =>
      have hxs := hit5 xs rfl
      subst hxs
      simp only [zau] at hG5'
      obtain ⟨E4, k, hrl⟩ := hG5'
      obtain ⟨w6, E6, h1, h2, h3⟩ := fin .ready none E4 _ _ (by simp) k hrl
      exact ⟨none, w6, h1, E6, _, hdone h5 hKit, h2, h3⟩
    | none =>
      simp only [zau] at hG5'
      obtain ⟨E4, c, h3', g3', k, hrl, hj⟩ := hG5'
      obtain ⟨w6, E6, h1, h2, h3⟩ := fin .done (some c) E4 _ _ (by simp) k hrl
      refine ⟨some c, w6, h1, ?_⟩
      exact wpIn_mono (hstop c h5 h3' g3' hKit hj E6 _ w6 h2) (fun _ _ _ hr => hr.trans h3)
end
open Go
def zcZ (v : AV) : AV := if v.scal = true then v else .any
def zstep (cx : Cx) (o : Oper) (s f : AS) (K : AS → AS → Prop) : Prop :=
 dstOk cx.nt o.dst ∧ o.guard = none ∧
 match o.op with
 | .move x => known s x = true ∧ (s.ev x).1 = true ∧ K (s.put o.dst true ((s.ev x).2.tag cx.P o.type)) (f.put o.dst true (zcZ ((s.ev x).2.tag cx.P o.type)))
 | .assign x => known s x = true ∧ (s.ev x).1 = true ∧ K (s.put o.dst true ((s.ev x).2.tag cx.P o.type)) (f.put o.dst true (zcZ ((s.ev x).2.tag cx.P o.type)))
 | .call c => isVal cx.P (.call c) = true ∧ (aval cx.P f (.call c)).1 ∧ K (s.put o.dst true (zcZ (aval cx.P f (.call c)).2)) (f.put o.dst true (aval cx.P f (.call c)).2)
 | .load t x => isVal cx.P (.load t x) = true ∧ (aval cx.P f (.load t x)).1 ∧ K (s.put o.dst true .any) (f.put o.dst true (aval cx.P f (.load t x)).2)
 | op => isVal cx.P op = true ∧ (aval cx.P f op).1 ∧ K (s.put o.dst true (zcZ (aval cx.P f op).2)) (f.put o.dst true (aval cx.P f op).2)
def zh5 (cx : Cx) : List Oper → AS → AS → (AS → Prop) → Prop
 | [], s, _, K => K s
 | o :: r, s, f, K => zstep cx o s f (fun s' f' => zh5 cx r s' f' K)
section
variable {cx : Cx} {tab : Tab} {E F : Env} {s f : AS} {a : Act} {w : World}
theorem zjH {W W' : World} {E E' : Env} {h h' : AHeap} {v : AV} {x : Value} (hr : Rep W E h v x) : Rep W' E' h' (zcZ v) x := by
 unfold zcZ
 split
 ·rename_i hs; exact Rep.scal v x hs hr
 ·simp only [Rep]
theorem zjI {d : Option Nat} {v : AV} {x : Value} (hs : Slots w F f a) (hsz : ∀ k, d = some k → k < a.tmps.size) (hv : Rep w F f.h v x) : Slots w F (f.put d true v) (a.put d x) := by
 cases d with
 | none => exact hs
 | some d =>
  intro k g u hk
  have hd := hsz d rfl
  rw [zjj] at hk
  have hh : (f.put (some d) true v).h = f.h := rfl
  rw [hh]
  split at hk
  ·rename_i e
   simp only [Option.some.injEq] at e
   subst e
   simp only [Option.some.injEq, Prod.mk.injEq] at hk
   obtain ⟨rfl, rfl⟩ := hk
   refine ⟨x, ?_, fun _ => hv, fun e => by cases e⟩
   simp [Act.put, hd]
  ·rename_i e
   have e : ¬ d = k := fun h => e (by rw [h])
   obtain ⟨y, h1, h2, h3⟩ := hs k g u hk
   refine ⟨y, ?_, h2, h3⟩
   simpa [Act.put, Array.getElem?_setIfInBounds_ne e] using h1
theorem zsr {o : Oper} {K : AS → AS → Prop} {Q : Exit → Act → World → Prop} {next : Act → World → Prop} (hs : Sat cx E s a w) (hp : SatH F f.h w) (hf : Slots w F f a) (h : zstep cx o s f K)
  (hn : ∀ s' f' a', Sat cx E s' a' w → SatH F f'.h w → Slots w F f' a' → s'.h = s.h → K s' f' → next a' w) : o.wpIn cx.F 0 cx.P a w next Q := by
 obtain ⟨hd, hg, h⟩ := h
 have hdst : ∀ k, o.dst = some k → k < cx.nt := fun k e => by rw [e] at hd; exact hd
 have hdst' : ∀ k, o.dst = some k → k < a.tmps.size := fun k e => by rw [hs.nt]; exact hdst k e
 have hputh : ∀ (u : AS) (v : AV), (u.put o.dst true v).h = u.h := fun u v => by unfold AS.put; cases o.dst <;> rfl
 have hval : ∀ u : AV, (u = .any ∨ u = zcZ (aval cx.P f o.op).2) → isVal cx.P o.op = true → (aval cx.P f o.op).1 → K (s.put o.dst true u) (f.put o.dst true (aval cx.P f o.op).2) → o.wpIn cx.F 0 cx.P a w next Q := by
  intro u hu h0 h1 h2
  obtain ⟨v, hv, hr⟩ := zkj hp hf o h1
  refine Does.wpIn (zgO h0) (R := fun v' w' => v' = v ∧ w' = w) (.inl ⟨v, w, hv, rfl, rfl⟩) ?_
  rintro v' w' ⟨rfl, rfl⟩
  refine hn _ _ _ (hs.put hdst (fun _ => ?_) (fun e => by cases e)) (by rw [hputh]; exact hp) (zjI hf hdst' hr) (hputh _ _) h2
  rcases hu with rfl | rfl
  ·simp only [Rep]
  ·exact zjH hr
 have hmove : ∀ x, (execOp a.eval o = pure (.value (a.eval x))) → (∀ c, o.op ≠ .defer c) → (s.ev x).1 = true → K (s.put o.dst true ((s.ev x).2.tag cx.P o.type)) (f.put o.dst true (zcZ ((s.ev x).2.tag cx.P o.type))) → o.wpIn cx.F 0 cx.P a w next Q := by
  intro x he h3 h1 h2
  refine Does.wpIn h3 (R := fun v' w' => v' = a.eval x ∧ w' = w) (.inl ⟨a.eval x, w, by rw [he]; rfl, rfl, rfl⟩) ?_
  rintro v' w' ⟨rfl, rfl⟩
  have hr := Rep.tag (P := cx.P) (t := o.type) (ev_ok hs.slots x h1)
  exact hn _ _ _ (hs.put hdst (fun _ => hr) (fun e => by cases e)) (by rw [hputh]; exact hp) (zjI hf hdst' (zjH hr)) (hputh _ _) h2
 obtain ⟨dst, op, ot, pos, after, guard⟩ := o
 dsimp only at h hval hmove
 split at h
 ·exact hmove _ rfl (by simp) h.2.1 h.2.2
 ·exact hmove _ rfl (by simp) h.2.1 h.2.2
 ·exact hval _ (.inr rfl) h.1 h.2.1 h.2.2
 ·exact hval _ (.inl rfl) h.1 h.2.1 h.2.2
 ·exact hval _ (.inr rfl) h.1 h.2.1 h.2.2
theorem zjJ (ht : TabOk cx.P tab) {all : Array Oper} : ∀ (l : List Nat) (pre rest : List Oper) {K : AS → Prop} {s f : AS} {a : Act}, l.map (all[·]?) = (pre ++ rest).map some → Sat cx E s a w → SatH F f.h w → Slots w F f a → zh5 cx pre s f (fun s' => aopsY cx tab all rest K s') →
  wpOpsIn cx.F 0 cx.P all (fun e a' w' => e = .normal ∧ Reach cx E s.h w K a' w') l a w
 | l, [], rest, K, s, f, a, hl, hs, _, _, h => zgo ht l rest (by simpa using hl) hs h
 | [], o :: pre, rest, K, s, f, a, hl, hs, _, _, h => by simp at hl
 | i :: l, o :: pre, rest, K, s, f, a, hl, hs, hp, hf, h => by
  simp only [List.cons_append, List.map_cons, List.cons.injEq] at hl
  obtain ⟨hi, hl⟩ := hl
  simp only [zh5] at h
  simp only [wpOpsIn, hi]
  have hw : Region.wanted o (yielded all a.tmps) = true := by
   unfold Region.wanted
   rw [h.2.1]
  rw [if_pos hw]
  refine zsr hs hp hf h ?_
  intro s' f' a' hs' hp' hf' he hK
  have := zjJ ht l pre rest hl hs' hp' hf' hK
  rw [he] at this
  exact this
theorem zmT {β : Type} {id : Nat} {ops : Array Oper} {Q : Exit → AS → Prop} (tab : Tab) (ht : TabOk cx.P tab) (pre rest : List Oper) (hsp : ops.toList = pre ++ rest) (f : β → AS)
  (hS : ∀ g M N A w, cx.G g M N A w → ∃ F b, SatH F (f b).h w ∧ ∀ k g v, lk (f b).t k = some (g, v) → g = true ∧ ∃ u, lk s.t k = some (true, .raw u) ∧ Rep w F (f b).h v u)
  (h : ∀ b, zh5 cx pre s (f b) (fun s' => aopsY cx tab ops rest (Q .normal) s')) : AW cx (.region id ops false) Q s := fun E a w hs => by
 obtain ⟨F, b, hp, hl⟩ := hS _ _ _ _ _ hs.ghost
 refine wpIn_region (zao _ (zjJ (F := F) ht _ pre rest (by rw [← hsp]; exact zgQ ops) hs hp (fun k g v hk => ?_) (h b)) (by rintro e a' w' ⟨rfl, hr⟩; exact hr))
 obtain ⟨rfl, u, h1, h2⟩ := hl k g v hk
 obtain ⟨x, h3, h4, _⟩ := hs.slots k true _ h1
 have := h4 rfl
 simp only [Rep] at this
 subst this
 exact ⟨x, h3, fun _ => h2, fun e => by cases e⟩
theorem zef {β : Type} {id : Nat} {ops : Array Oper} {y : Code} {Q : Exit → AS → Prop} (tab : Tab) (ht : TabOk cx.P tab) (pre rest : List Oper) (hsp : ops.toList = pre ++ rest) (f : β → AS)
  (hS : ∀ g M N A w, cx.G g M N A w → ∃ F b, SatH F (f b).h w ∧ ∀ k g v, lk (f b).t k = some (g, v) → g = true ∧ ∃ u, lk s.t k = some (true, .raw u) ∧ Rep w F (f b).h v u)
  (h : ∀ K, (∀ s', AW cx y Q s' → K s') → ∀ b, zh5 cx pre s (f b) (fun s' => aopsY cx tab ops rest K s')) : AW cx (.seq (.region id ops false) y) Q s :=
 zq fun K hK => zmT tab ht pre rest hsp f hS (h K hK)
end
attribute [go_sem] zh5 zstep zcZ List.take_succ_cons List.take_zero List.drop_succ_cons List.drop_zero
theorem zmU {cx : Cx} {s : AS} {Q : Exit → AS → Prop} {g : Operand} {ps : Array Tmp} {assign body : Code} {f : FuncId} {q : Nat} (fl : Nat) {items : List (List AV)} (I : List (List AV) → AHeap × Option (List (List AV)))
  (hg : s.ev g = (true, .fn (.func f) [] [.vp q 0])) (hro : cx.ro = none) (hen : zeR cx.P f)
  (hrun : ∀ (y : Yo cx.P items) (v0 : Value), (∀ g M N A w, y.G g M N A w → ∃ F xs, SatH F (I xs).1 w ∧ Rep w F (I xs).1 (.vp q 0) v0) → ∀ E w, SatH E [] w → y.G (some []) E.M E.N (Own E []) w →
   Calls cx.P f (#[] ++ #[Value.func (.yield y.yl) #[] #[]] ++ #[v0]) w (fun e w' => ∃ v E' h' g, e = .returned v ∧ ((∀ xs, g = some xs → xs = items) ∧ h' = []) ∧ SatH E' h' w' ∧ Evo fl E [] w E' h' w' ∧ y.G g E'.M E'.N (Own E' h') w'))
  (hfl : ∀ i, (hget s.h i).isSome → i < fl) (hfc : cx.fl ≤ fl) (hq : ∃ cs, hget s.h q = some (.var cs)) (hqI : ∀ xs, ∃ cs, hget (I xs).1 q = some (.var cs))
  (hI : leH s.h (I []).1) (hIn : inH (I []).1 (idsH (I []).1)) (hIg : (I []).2 = s.g)
  (hlen : ∀ x ∈ items, x.length = ps.size) (hps : ∀ t ∈ ps.toList, t < cx.nt)
  (hround : ∀ xs x, (xs ++ [x]) <+: items → ∀ (l : Nat) (r1 : Rnd cx), AW (cx.inR l fl r1) assign (AsgK fun s1 => ∀ r2 : Rnd cx, AW (cx.inR l fl r2) body (zr (fun h' g' => leH h' (I (xs ++ [x])).1 ∧ inH (I (xs ++ [x])).1 (idsH (I (xs ++ [x])).1) ∧ g' = (I (xs ++ [x])).2) (fun _ _ _ => False)) s1)
   { t := zdf ps.toList x (keepT (I xs).1 s.t), h := (I xs).1, g := (I xs).2 })
  (hdone : Q .normal { t := keepT (I items).1 s.t, h := (I items).1, g := (I items).2 }) :
  AW cx (.rangeFunc g ps assign body) Q s := by
 have hs0 : hsel (fun _ => false) s.h = [] := by
  induction s.h with
  | nil => rfl
  | cons a h ih => simp only [hsel]; rw [if_neg (by simp)]; exact ih
 have hs1 : hsel (fun i => !(fun _ => false) i) s.h = s.h := zgn (fun q _ => rfl)
 refine ziK (Kit := fun g h' => (∀ xs, g = some xs → xs = items) ∧ h' = []) (items := items) (fl := fl) (caps' := [.any]) (fun _ => false) I (fun _ _ _ => False) hro hg (by simp [AV.leL, AV.le]) hen ?_ hfl hfc ?_ ?_ (by rw [hs1]; exact hI) hIn hIg (fun _ _ _ _ => rfl) (fun _ _ _ h => h.elim) ?_ hlen hps hround ?_ ?_
 ·intro E0 w0 pf qc h0 hpf hqc
  have hpf' : pf = #[] := by simp only [Reps] at hpf; simpa using hpf
  subst hpf'
  simp only [Reps] at hqc
  obtain ⟨v0, r, hv0, hr0, hr⟩ := hqc
  subst hr
  have hqc' : qc = #[v0] := by
   apply Array.ext'
   simpa using hv0
  subst hqc'
  refine ⟨fun w => ∃ F xs, SatH F (I xs).1 w ∧ Rep w F (I xs).1 (.vp q 0) v0, ?_, ?_, fun _ _ _ h => h.elim⟩
  ·intro y hy E w hsE _ _ hG
   rw [hs0] at hsE hG ⊢
   exact hrun y v0 hy E w hsE hG
  ·intro xs E w hsE hgo
   refine ⟨E, xs, hsE, ?_⟩
   obtain ⟨cs, hc⟩ := hqI xs
   obtain ⟨cs0, hc0⟩ := hq
   have hgq := hgo q (hfl q (by rw [hc0]; rfl)) (by rw [hc]; rfl)
   simp only [Rep] at hr0 ⊢
   obtain ⟨b, cs', h1, h2, h3⟩ := hr0
   unfold GoesOn at hgq
   rw [hc0] at hgq
   exact ⟨b, cs, hc, hgq.1.trans h2, h3⟩
 ·intro i o _ h; cases h
 ·intro j hj; simp [AV.idsL, AV.ids] at hj
 ·rintro g h' ⟨h1, rfl⟩
  exact ⟨fun i hi => by simp [hget] at hi, h1⟩
 ·rintro h1 ⟨_, rfl⟩
  exact hdone
 ·exact fun _ _ _ _ _ h => h.elim
open Go
inductive Ch where
 | none
 | put (i : Nat) (ob : AObj)
 | new (i : Nat) (ob : AObj)
def Ch.app : Ch → AHeap → AHeap
 | .none, h => h
 | .put i ob, h => hset h i ob
 | .new i ob, h => (i, ob) :: h
def Ch.at : Ch → Option Nat
 | .none => Option.none
 | .put i _ => some i
 | .new i _ => some i
def ziM (h : AHeap) (c : Ch) (rd : List Nat) (k : AHeap) : Prop :=
 (∀ i ∈ rd, hget k i = hget h i) ∧ (match c with | .none => True | .put i _ => hget k i = hget h i | .new i _ => hget k i = Option.none)
def chOf (nm : Nat) (P : Program) (s : AS) (op : Op) (h' : AHeap) : Option (Ch × List Nat) :=
 match op with
 | .alloc _ => (hget h' nm).map fun ob => (.new nm ob, [])
 | .buildSlice _ _ _ => some (match hget h' nm with | some ob => (.new nm ob, []) | Option.none => (.none, []))
 | .makeSlice _ _ _ => (hget h' nm).map fun ob => (.new nm ob, [])
 | .build _ _ => some (.none, [])
 | .convert _ _ x => some (.none, (s.ev x).2.ids)
 | .slice _ x _ _ _ => some (.none, (s.ev x).2.ids)
 | .call c => (match c.callee with
  | .builtin .append => (match c.args.toList with
   | [x, y] => (match (s.ev x).2 with
    | .osl i _ _ _ _ => (hget h' i).map fun ob => (.put i ob, (s.ev y).2.ids)
    | _ => Option.none)
   | _ => Option.none)
  | .builtin .len => (match c.args.toList with
   | [x] => some (.none, (s.ev x).2.ids)
   | _ => Option.none)
  | .value _ => if foot nm P s (.call c) = .cold then some (.none, []) else Option.none
  | _ => Option.none)
 | op => (match foot nm P s op with
  | .cold => some (.none, [])
  | .on i => if isEff op = true then (hget h' i).map fun ob => (.put i ob, []) else some (.none, [i])
  | _ => Option.none)
def atCx (cx : Cx) (nm : Nat) : Cx := { cx with fl := nm }
section
variable {cx : Cx} {tab : Tab} {s : AS} {P : Program}
theorem zlV {k : AHeap} {n : Nat} {v : AV} (h : ∀ i ∈ v.ids, hget k i = hget s.h i) : rowsK { s with h := k } n v = rowsK s n v := by
 unfold rowsK
 cases v with
 | osl i _ _ _ _ => have := h i (by simp [AV.ids]); simp only [this]
 | vsl i _ _ _ => have := h i (by simp [AV.ids]); simp only [this]
 | d x => cases x <;> rfl
 | _ => rfl
theorem zst {k : AHeap} {n : Nat} {t : TypeId} {v : AV} (h : ∀ i ∈ v.ids, hget k i = hget s.h i) : rowsT P { s with h := k } n t v = rowsT P s n t v := by
 unfold rowsT
 rw [zlV h]
theorem zsu {k : AHeap} {t : TypeId} {v : AV} (h : ∀ i ∈ v.ids, hget k i = hget s.h i) : avLen P { s with h := k } t v = avLen P s t v := by
 unfold avLen AS.cur
 generalize (ty P t).td = dd
 cases v with
 | osl i _ _ _ _ => have := h i (by simp [AV.ids]); cases dd <;> simp only [this]
 | d x => cases dd <;> cases x <;> rfl
 | _ => cases dd <;> rfl
theorem zmV {k : AHeap} {t : TypeId} {x : AV} {lo hi mx : Option Operand} (h : ∀ i ∈ x.ids, hget k i = hget s.h i) : zbI P { s with h := k } t x lo hi mx = zbI P s t x lo hi mx := by
 have hb : ∀ y d, AS.bnd { s with h := k } y d = AS.bnd s y d := fun y d => by
  cases y with
  | none => rfl
  | some y => cases y <;> rfl
 unfold zbI AS.cur
 simp only [hb]
 cases x with
 | osl i _ _ _ _ => have := h i (by simp [AV.ids]); simp only [this]
 | vp i _ => have := h i (by simp [AV.ids]); simp only [this]
 | d x => cases x <;> rfl
 | _ => rfl
theorem zsv {nm : Nat} (hnm : hget s.h nm = Option.none) {G : Bool} {o : Oper} {g : Bool} {v : AV} {h' : AHeap} (h : ∀ R : Bool → AV → AHeap → Prop, R g v h' → fop (atCx cx nm) tab s G o R) (hne : isEff o.op = false → h' = s.h)
  {c : Ch} {rd : List Nat} (hc : chOf nm cx.P s o.op h' = some (c, rd)) :
  h' = c.app s.h ∧ ∀ k : AHeap, ziM s.h c rd k → ∀ R : Bool → AV → AHeap → Prop, R g v (c.app k) → fop (atCx cx nm) tab { s with h := k } G o R := by
 have hev : ∀ (k : AHeap) (x : Operand), AS.ev { s with h := k } x = s.ev x := fun k x => by cases x <;> rfl
 have hkn : ∀ (k : AHeap) (x : Operand), known { s with h := k } x = known s x := fun k x => by cases x <;> rfl
 have hfs : fresh nm s.h = nm := zgk hnm
 obtain ⟨ff1, ff2⟩ := zgq h hne
 have old : chOf nm cx.P s o.op h' = (match foot nm cx.P s o.op with
   | .cold => some (.none, [])
   | .on i => if isEff o.op = true then (hget h' i).map fun ob => (.put i ob, []) else some (.none, [i])
   | _ => Option.none) → h' = c.app s.h ∧ ∀ k : AHeap, ziM s.h c rd k → ∀ R : Bool → AV → AHeap → Prop, R g v (c.app k) → fop (atCx cx nm) tab { s with h := k } G o R := by
  intro e
  rw [e] at hc
  cases hf : foot nm cx.P s o.op with
  | cold =>
   rw [hf] at hc
   simp only [Option.some.injEq, Prod.mk.injEq] at hc
   obtain ⟨rfl, rfl⟩ := hc
   obtain ⟨q1, q2⟩ := ff1 hf
   exact ⟨hne q1, fun k _ R hR => q2 k R hR⟩
  | on i =>
   rw [hf] at hc
   dsimp only at hc
   split at hc
   ·rename_i he
    obtain ⟨ob, q1, q2, _⟩ := (ff2 i hf s.h rfl).2 he
    rw [q1] at hc
    simp only [Option.map_some, Option.some.injEq, Prod.mk.injEq] at hc
    obtain ⟨rfl, rfl⟩ := hc
    refine ⟨q2, fun k hk R hR => ?_⟩
    obtain ⟨ob', p1, p2, p3⟩ := (ff2 i hf k hk.2).2 he
    rw [q1] at p1
    cases p1
    exact p3 R hR
   ·rename_i he
    simp only [Option.some.injEq, Prod.mk.injEq] at hc
    obtain ⟨rfl, rfl⟩ := hc
    have he' : isEff o.op = false := by simpa using he
    exact ⟨hne he', fun k hk R hR => (ff2 i hf k (hk.1 i (by simp))).1 he' R hR⟩
  | new i => rw [hf] at hc; cases hc
  | whole => rw [hf] at hc; cases hc
 have h0 := h (fun g1 v1 h1 => g1 = g ∧ v1 = v ∧ h1 = h') ⟨rfl, rfl, rfl⟩
 cases hop : o.op
 case alloc t =>
  rw [hop] at hc
  have n1 : ∀ x, o.op = .move x → False := by simp [hop]
  have n2 : ∀ x, o.op = .assign x → False := by simp [hop]
  have n3 : ∀ x y z, o.op = .pick x y z → False := by simp [hop]
  have n4 : ∀ c, o.op = .call c → False := by simp [hop]
  have hv : ¬ isVal (atCx cx nm).P o.op = true := by rw [hop]; simp [isVal, zbV]
  rw [zX n1 n2 n3 n4, if_neg hv, hop] at h0
  obtain ⟨hG, hdt, h1⟩ := h0
  unfold aeff at h1
  dsimp only [atCx] at h1
  rw [hfs] at h1
  obtain ⟨q1, q2, q3, q4⟩ := h1
  subst q4
  simp only [chOf, hget, if_true, Option.map_some, Option.some.injEq, Prod.mk.injEq] at hc
  obtain ⟨rfl, rfl⟩ := hc
  refine ⟨rfl, fun k hk R hR => ?_⟩
  rw [zX n1 n2 n3 n4, if_neg hv, hop]
  refine ⟨hG, hdt, ?_⟩
  unfold aeff
  dsimp only [atCx]
  rw [zgk hk.2]
  refine ⟨q1, ?_⟩
  rw [← q2, ← q3] at hR
  exact hR
 case makeSlice t l m =>
  rw [hop] at hc
  have n1 : ∀ x, o.op = .move x → False := by simp [hop]
  have n2 : ∀ x, o.op = .assign x → False := by simp [hop]
  have n3 : ∀ x y z, o.op = .pick x y z → False := by simp [hop]
  have n4 : ∀ c, o.op = .call c → False := by simp [hop]
  have hv : ¬ isVal (atCx cx nm).P o.op = true := by rw [hop]; simp [isVal, zbV]
  rw [zX n1 n2 n3 n4, if_neg hv, hop] at h0
  obtain ⟨hG, hdt, h1⟩ := h0
  unfold aeff z8 at h1
  dsimp only [atCx] at h1
  split at h1
  ·rename_i e gl n gc m' ht hl hm
   obtain ⟨c1, c2, c3, c4, c5, c6, c7, c8, c9, h1⟩ := h1
   split at h1
   ·rename_i z hz
    rw [hfs] at h1
    obtain ⟨q2, q3, q4⟩ := h1
    subst q4
    simp only [chOf, hget, if_true, Option.map_some, Option.some.injEq, Prod.mk.injEq] at hc
    obtain ⟨rfl, rfl⟩ := hc
    refine ⟨rfl, fun k hk R hR => ?_⟩
    rw [zX n1 n2 n3 n4, if_neg hv, hop]
    refine ⟨hG, hdt, ?_⟩
    unfold aeff z8
    dsimp only [atCx]
    rw [ht, hev k l, hev k m, hl, hm]
    dsimp only
    rw [hz, zgk hk.2]
    refine ⟨c1, c2, c3, c4, c5, c6, c7, c8, c9, ?_⟩
    rw [← q2, ← q3] at hR
    exact hR
   ·exact h1.elim
  ·exact h1.elim
 case buildSlice t len parts =>
  rw [hop] at hc
  have n1 : ∀ x, o.op = .move x → False := by simp [hop]
  have n2 : ∀ x, o.op = .assign x → False := by simp [hop]
  have n3 : ∀ x y z, o.op = .pick x y z → False := by simp [hop]
  have n4 : ∀ c, o.op = .call c → False := by simp [hop]
  have hv : ¬ isVal (atCx cx nm).P o.op = true := by rw [hop]; simp [isVal, zbV]
  rw [zX n1 n2 n3 n4, if_neg hv, hop] at h0
  obtain ⟨hG, hdt, h1⟩ := h0
  unfold aeff at h1
  dsimp only [atCx] at h1
  split at h1
  ·rename_i e ht
   obtain ⟨c1, c2, c3, c4, c5, c6, h1⟩ := h1
   split at h1
   ·rename_i ds hds
    rw [hfs] at h1
    obtain ⟨q2, q3, q4⟩ := h1
    subst q4
    simp only [chOf, hget, if_true, Option.some.injEq, Prod.mk.injEq] at hc
    obtain ⟨rfl, rfl⟩ := hc
    refine ⟨rfl, fun k hk R hR => ?_⟩
    rw [zX n1 n2 n3 n4, if_neg hv, hop]
    refine ⟨hG, hdt, ?_⟩
    unfold aeff
    dsimp only [atCx]
    rw [ht]
    simp only [hev]
    rw [hds, zgk hk.2]
    refine ⟨c1, c2, c3, c4, c5, c6, ?_⟩
    rw [← q2, ← q3] at hR
    exact hR
   ·rename_i hds
    obtain ⟨c7, q2, q3, q4⟩ := h1
    subst q4
    simp only [chOf, hnm, Option.some.injEq, Prod.mk.injEq] at hc
    obtain ⟨rfl, rfl⟩ := hc
    refine ⟨rfl, fun k hk R hR => ?_⟩
    rw [zX n1 n2 n3 n4, if_neg hv, hop]
    refine ⟨hG, hdt, ?_⟩
    unfold aeff
    dsimp only [atCx]
    rw [ht]
    simp only [hev]
    rw [hds]
    refine ⟨c1, c2, c3, c4, c5, c6, c7, ?_⟩
    rw [← q2, ← q3] at hR
    exact hR
  ·exact h1.elim
 case build t parts =>
  rw [hop] at hc
  have n1 : ∀ x, o.op = .move x → False := by simp [hop]
  have n2 : ∀ x, o.op = .assign x → False := by simp [hop]
  have n3 : ∀ x y z, o.op = .pick x y z → False := by simp [hop]
  have n4 : ∀ c, o.op = .call c → False := by simp [hop]
  have hv : ¬ isVal (atCx cx nm).P o.op = true := by rw [hop]; simp [isVal, zbV]
  simp only [chOf, Option.some.injEq, Prod.mk.injEq] at hc
  obtain ⟨rfl, rfl⟩ := hc
  refine ⟨hne (by rw [hop]; rfl), fun k hk R hR => ?_⟩
  have h2 := h (fun g v _ => R g v k) hR
  rw [zX n1 n2 n3 n4, if_neg hv, hop] at h2
  obtain ⟨hG, hdt, h1⟩ := h2
  rw [zX n1 n2 n3 n4, if_neg hv, hop]
  refine ⟨hG, hdt, ?_⟩
  unfold aeff at h1 ⊢
  dsimp only [atCx] at h1 ⊢
  simp only [hev]
  exact h1
 case convert a b x =>
  rw [hop] at hc
  have n1 : ∀ x, o.op = .move x → False := by simp [hop]
  have n2 : ∀ x, o.op = .assign x → False := by simp [hop]
  have n3 : ∀ x y z, o.op = .pick x y z → False := by simp [hop]
  have n4 : ∀ c, o.op = .call c → False := by simp [hop]
  simp only [chOf, Option.some.injEq, Prod.mk.injEq] at hc
  obtain ⟨rfl, rfl⟩ := hc
  refine ⟨hne (by rw [hop]; rfl), fun k hk R hR => ?_⟩
  have h2 := h (fun g v _ => R g v k) hR
  rw [zX n1 n2 n3 n4, hop] at h2
  rw [zX n1 n2 n3 n4, hop]
  split at h2
  ·rename_i hv
   rw [if_pos hv]
   have : aval (atCx cx nm).P { s with h := k } (.convert a b x) = aval (atCx cx nm).P s (.convert a b x) := by simp only [aval, hev]
   rw [this]
   exact h2
  ·rename_i hv
   rw [if_neg hv]
   obtain ⟨hG, hdt, h1⟩ := h2
   refine ⟨hG, hdt, ?_⟩
   unfold aeff z8 at h1 ⊢
   dsimp only [atCx] at h1 ⊢
   split at h1
   ·rename_i e ht1 ht2
    simp only [detOp, atCx, ht2] at hdt
    cases hdt
   ·rename_i e ht1 ht2
    try rw [ht1, ht2]
    try dsimp only
    rw [hev k x, zlV hk.1]
    exact h1
   ·exact h1.elim
 case slice t x lo hi mx =>
  rw [hop] at hc
  have n1 : ∀ x, o.op = .move x → False := by simp [hop]
  have n2 : ∀ x, o.op = .assign x → False := by simp [hop]
  have n3 : ∀ x y z, o.op = .pick x y z → False := by simp [hop]
  have n4 : ∀ c, o.op = .call c → False := by simp [hop]
  simp only [chOf, Option.some.injEq, Prod.mk.injEq] at hc
  obtain ⟨rfl, rfl⟩ := hc
  refine ⟨hne (by rw [hop]; rfl), fun k hk R hR => ?_⟩
  have h2 := h (fun g v _ => R g v k) hR
  have hv : isVal (atCx cx nm).P o.op = true := by rw [hop]; rfl
  rw [zX n1 n2 n3 n4, if_pos hv, hop] at h2
  rw [zX n1 n2 n3 n4, if_pos hv, hop]
  have : aval (atCx cx nm).P { s with h := k } (.slice t x lo hi mx) = aval (atCx cx nm).P s (.slice t x lo hi mx) := by
   simp only [aval, hev]
   rw [zmV hk.1]
  rw [this]
  exact h2
 case call c =>
  rw [hop] at hc
  simp only [chOf] at hc
  split at hc
  ·-- append
   rename_i hcal
   split at hc
   ·rename_i x y harg
    split at hc
    ·rename_i i kk m off len hx
     have hv : ¬ isVal (atCx cx nm).P (.call c) = true := by simp [isVal, zbV, hcal]
     have hco : ∀ k, zaR (atCx cx nm).P { s with h := k } c = Option.none := fun k => by simp [zaR, hcal]
     unfold fop at h0
     rw [hop] at h0
     dsimp only at h0
     rw [if_neg hv, hco s.h] at h0
     obtain ⟨hG, h1⟩ := h0
     unfold aeff z8 at h1
     dsimp only [atCx] at h1
     rw [hcal] at h1
     dsimp only at h1
     rw [harg] at h1
     split at h1
     ·rename_i x' y' t u e1 e2
      simp only [List.cons.injEq, and_true] at e1
      obtain ⟨rfl, rfl⟩ := e1
      split at h1
      ·rename_i e hte
       obtain ⟨c1, c2, c3, c4, c5, h1⟩ := h1
       split at h1
       ·rename_i rows hr
        rw [hx] at h1
        dsimp only at h1
        split at h1
        ·rename_i k' xs hi
         obtain ⟨d1, d2, d3, d4, d5, d6, d7, q2, q3, q4⟩ := h1
         subst q4
         rw [zw hi] at hc
         simp only [Option.map_some, Option.some.injEq, Prod.mk.injEq] at hc
         obtain ⟨rfl, rfl⟩ := hc
         refine ⟨rfl, fun k hk R hR => ?_⟩
         unfold fop
         rw [hop]
         dsimp only
         rw [if_neg hv, hco k]
         refine ⟨hG, ?_⟩
         unfold aeff z8
         dsimp only [atCx]
         rw [hcal]
         dsimp only
         rw [harg, e2]
         dsimp only
         rw [hte]
         dsimp only
         rw [hev k x, hev k y, zst hk.1, hr]
         dsimp only
         rw [hx]
         dsimp only
         rw [hk.2, hi]
         refine ⟨c1, c2, c3, c4, c5, d1, d2, d3, d4, d5, d6, d7, ?_⟩
         rw [← q2, ← q3] at hR
         exact hR
        ·exact h1.elim
       ·exact h1.elim
      ·exact h1.elim
     ·exact h1.elim
    ·cases hc
   ·cases hc
  ·-- len
   rename_i hcal
   split at hc
   ·rename_i x harg
    simp only [Option.some.injEq, Prod.mk.injEq] at hc
    obtain ⟨rfl, rfl⟩ := hc
    have hv : isVal (atCx cx nm).P (.call c) = true := by simp [isVal, zbV, hcal, isX]
    refine ⟨hne (by rw [hop]; simp [isEff, hcal]), fun k hk R hR => ?_⟩
    have h2 := h (fun g v _ => R g v k) hR
    unfold fop at h2 ⊢
    rw [hop] at h2 ⊢
    dsimp only at h2 ⊢
    rw [if_pos hv] at h2 ⊢
    have : aval (atCx cx nm).P { s with h := k } (.call c) = aval (atCx cx nm).P s (.call c) := by
     simp only [aval, zeP, hcal, harg]
     split
     ·rename_i x' t e1 e2
      simp only [List.cons.injEq, and_true] at e1
      subst e1
      simp only [hev]
      rw [zsu hk.1]
     ·rfl
    rw [this]
    exact h2
   ·cases hc
  ·-- a function's call
   split at hc
   ·rename_i hf
    simp only [Option.some.injEq, Prod.mk.injEq] at hc
    obtain ⟨rfl, rfl⟩ := hc
    obtain ⟨q1, q2⟩ := ff1 (by rw [hop]; exact hf)
    rw [hop] at q1
    exact ⟨hne (by rw [hop]; exact q1), fun k _ R hR => q2 k R hR⟩
   ·cases hc
  ·cases hc
 all_goals (exact old (by rw [hop]; rfl))
end
open Go
structure RG where
 o : Oper
 g : Bool
 v : AV
 c : Ch
 rd : List Nat
def appG (s : AS) (r : RG) : AS := { s with h := r.c.app s.h }.put r.o.dst r.g r.v
def selG : List RG → (Nat → Bool) → AS → AS
 | [], _, s => s
 | x :: L, S, s => selG L (fun i => S (i + 1)) (if S 0 = true then appG s x else s)
def lexG (L : List RG) (n : Nat) (s : AS) : AS := selG L (fun i => decide (i < n)) s
theorem zh6 (s : AS) (r : RG) : (appG s r).h = r.c.app s.h := by
 unfold appG AS.put; cases r.o.dst <;> rfl
theorem zvG (s : AS) (r : RG) : (appG s r).g = s.g := by
 unfold appG AS.put; cases r.o.dst <;> rfl
theorem ziN (s : AS) (r : RG) (k : Nat) : lk (appG s r).t k = if r.o.dst = some k then some (r.g, r.v) else lk s.t k := by
 unfold appG
 rw [zjj]
theorem zjM : ∀ (L : List RG) (S : Nat → Bool) (s : AS), (selG L S s).g = s.g
 | [], _, _ => rfl
 | x :: L, S, s => by
  rw [selG, zjM L]
  split
  ·exact zvG _ _
  ·rfl
theorem zg8 {Q : Nat → Prop} : ∀ (L : List RG) (S S' : Nat → Bool) (s s' : AS), (∀ k, Q k → lk s.t k = lk s'.t k) → (∀ (i : Nat) (r : RG), L[i]? = some r → (∃ d, r.o.dst = some d ∧ Q d) → S i = S' i) →
  ∀ k, Q k → lk (selG L S s).t k = lk (selG L S' s').t k
 | [], _, _, _, _, h, _ => h
 | x :: L, S, S', s, s', h, hS => by
  refine zg8 L _ _ _ _ (fun k hk => ?_) (fun i r hr hd => hS (i + 1) r (by simpa using hr) hd)
  by_cases hd : x.o.dst = some k
  ·rw [hS 0 x rfl ⟨k, hd, hk⟩]
   split
   ·rw [ziN, ziN, if_pos hd, if_pos hd]
   ·exact h k hk
  ·have e1 : ∀ (b : Bool) (u : AS), lk (if b = true then appG u x else u).t k = lk u.t k := fun b u => by
    split
    ·rw [ziN, if_neg hd]
    ·rfl
   rw [e1, e1]
   exact h k hk
theorem zfG {c : Ch} {h : AHeap} {k : Nat} (hc : c.at ≠ some k) : hget (c.app h) k = hget h k := by
 cases c with
 | none => rfl
 | put i ob => exact zH (fun e => hc (by simp [Ch.at, e]))
 | new i ob =>
  have : i ≠ k := fun e => hc (by simp [Ch.at, e])
  simp [Ch.app, hget, this]
theorem ztX {c : Ch} {h h' : AHeap} {k : Nat} (e : hget h k = hget h' k) : hget (c.app h) k = hget (c.app h') k := by
 by_cases hc : c.at = some k
 ·cases c with
  | none => cases hc
  | put i ob =>
   simp only [Ch.at, Option.some.injEq] at hc
   subst hc
   simp only [Ch.app]
   cases hh : hget h i with
   | none => rw [zcy hh, zcy (e ▸ hh)]; exact e
   | some o => rw [zw hh, zw (e ▸ hh)]
  | new i ob =>
   simp only [Ch.at, Option.some.injEq] at hc
   subst hc
   simp [Ch.app, hget]
 ·rw [zfG hc, zfG hc, e]
theorem ze1 (k : Nat) : ∀ (L : List RG) (S S' : Nat → Bool) (s s' : AS), hget s.h k = hget s'.h k → (∀ (i : Nat) (r : RG), L[i]? = some r → r.c.at = some k → S i = S' i) → hget (selG L S s).h k = hget (selG L S' s').h k
 | [], _, _, _, _, h, _ => h
 | x :: L, S, S', s, s', h, hS => by
  refine ze1 k L _ _ _ _ ?_ (fun i r hr hm => hS (i + 1) r (by simpa using hr) hm)
  by_cases hm : x.c.at = some k
  ·rw [hS 0 x rfl hm]
   split
   ·rw [zh6, zh6]; exact ztX h
   ·exact h
  ·have e1 : ∀ (b : Bool) (u : AS), hget (if b = true then appG u x else u).h k = hget u.h k := fun b u => by
    split
    ·rw [zh6]; exact zfG hm
    ·rfl
   rw [e1, e1]
   exact h
theorem zfH (k : Nat) : ∀ (L : List RG) (S : Nat → Bool) (s : AS), (∀ (i : Nat) (r : RG), L[i]? = some r → S i = true → r.c.at ≠ some k) → hget (selG L S s).h k = hget s.h k
 | [], _, _, _ => rfl
 | x :: L, S, s, hS => by
  rw [selG, zfH k L _ _ (fun i r hr hs => hS (i + 1) r (by simpa using hr) hs)]
  split
  ·rename_i h0
   rw [zh6]
   exact zfG (hS 0 x rfl h0)
  ·rfl
theorem zpA (k : Nat) : ∀ (L : List RG) (n : Nat) (r : RG) (S : Nat → Bool) (s : AS), L[n]? = some r → S n = false →
  (∀ (i : Nat) (r' : RG), L[i]? = some r' → n < i → S i = true → r.c.at = some k → r'.c.at ≠ some k) → hget (selG L (fun i => if i = n then true else S i) s).h k = hget (r.c.app (selG L S s).h) k
 | [], n, r, S, s, hr, _, _ => by simp at hr
 | x :: L, 0, r, S, s, hr, hS, hl => by
  have : x = r := by simpa using hr
  subst this
  simp only [selG, if_true, hS, Bool.false_eq_true, if_false, Nat.succ_ne_zero]
  by_cases hc : x.c.at = some k
  ·have hno : ∀ (i : Nat) (r' : RG), L[i]? = some r' → S (i + 1) = true → r'.c.at ≠ some k := fun i r' hr' hs' => hl (i + 1) r' (by simpa using hr') (by omega) hs' hc
   rw [zfH k L _ _ hno, zh6]
   exact ztX (zfH k L _ _ hno).symm
  ·rw [zfG hc]
   refine ze1 k L _ _ _ _ ?_ (fun _ _ _ _ => rfl)
   rw [zh6]
   exact zfG hc
 | x :: L, n + 1, r, S, s, hr, hS, hl => by
  have e0 : (if (0 : Nat) = n + 1 then true else S 0) = S 0 := if_neg (by omega)
  simp only [selG, e0]
  have e1 : (fun i => if i + 1 = n + 1 then true else S (i + 1)) = (fun i => if i = n then true else S (i + 1)) := by
   funext i
   by_cases h : i = n
   ·simp [h]
   ·simp [h]
  rw [e1]
  exact zpA k L n r (fun i => S (i + 1)) _ (by simpa using hr) hS (fun i r' hr' hi hs' => hl (i + 1) r' (by simpa using hr') (by omega) hs')
theorem zdE : ∀ (L : List RG) (s : AS), lexG L 0 s = s
 | [], s => rfl
 | x :: L, s => by
  unfold lexG selG
  have := zdE L s
  unfold lexG at this
  simpa using this
theorem zdF (x : RG) (L : List RG) (n : Nat) (s : AS) : lexG (x :: L) (n + 1) s = lexG L n (appG s x) := by
 unfold lexG
 rw [selG]
 simp
theorem zjN : ∀ (L : List RG) (n : Nat) (s : AS) (r : RG), L[n]? = some r → lexG L (n + 1) s = appG (lexG L n s) r
 | [], n, s, r, h => by simp at h
 | x :: L, 0, s, r, h => by
  have : x = r := by simpa using h
  subst this
  rw [zdF, zdE, zdE]
 | x :: L, n + 1, s, r, h => by
  rw [zdF, zdF]
  exact zjN L n _ r (by simpa using h)
section
variable {cx : Cx} {E E0 : Env} {s s' : AS} {a : Act} {w w0 : World} {h h' h0 : AHeap}
theorem zc1 (hh : ∀ k, hget h k = hget h' k) : Own E h = Own E h' := by
 funext b
 unfold Own
 simp only [hh]
theorem zg9 (hh : ∀ k, hget h k = hget h' k) (i : Nat) : GoesOn E h E h' i := by
 unfold GoesOn
 rw [← hh]
 split <;> simp_all
theorem zkF (hh : ∀ k, hget h k = hget h' k) {x : AV} {v : Value} (hr : Rep w E h x v) : Rep w E h' x v :=
 Rep.step (fun b _ hx => by unfold Xs at hx ⊢; rwa [zc1 hh]) (fun _ _ _ => rfl) x v (fun j _ => zg9 hh j) hr
theorem SatH.ext (hs : SatH E h w) (hh : ∀ k, hget h k = hget h' k) : SatH E h' w where
 heap := fun i o ho => by
  rw [← hh] at ho
  have := hs.heap i o ho
  have hX : ∀ b, b < w.heap.size → Xs E h' b → Xs E h b := fun b _ hx => by unfold Xs at hx ⊢; rwa [zc1 hh]
  cases o with
  | var cs =>
   simp only [RepObj] at this ⊢
   obtain ⟨b, d, T, fz, h1, h2, h3, h4⟩ := this
   exact ⟨b, d, T, fz, h1, h2, Reps.step hX (fun _ _ _ => rfl) _ _ (fun j _ => zg9 hh j) h3, h4⟩
  | tvar tt cs =>
   simp only [RepObj] at this ⊢
   obtain ⟨b, d, T, fz, h1, h2, h3, h4⟩ := this
   exact ⟨b, d, T, fz, h1, h2, Reps.step hX (fun _ _ _ => rfl) _ _ (fun j _ => zg9 hh j) h3, h4⟩
  | arr k xs =>
   simp only [RepObj] at this ⊢
   rcases this with g | ⟨b, d, T, fz, h1, h2, h3, h4, h5, h6⟩
   ·exact .inl g
   ·exact .inr ⟨b, d, T, fz, h1, h2, h3, h4, RepRows.step hX (fun _ _ _ => rfl) _ _ _ h5, h6⟩
  | buf tt xs =>
   simp only [RepObj] at this ⊢
   rcases this with g | ⟨b, d, T, fz, h1, h2, h3, h4, h5, h6⟩
   ·exact .inl g
   ·exact .inr ⟨b, d, T, fz, h1, h2, h3, h4, h5, h6⟩
  | strit l p => exact this
  | omap es => exact this
 inj := fun i j b hi hj => hs.inj i j b (by rwa [hh]) (by rwa [hh])
 own := fun b hb => hs.own b (by rwa [zc1 hh])
 mlt := hs.mlt
 nlt := hs.nlt
theorem Sat.ext (hs : Sat cx E s a w) (ht : ∀ k, lk s.t k = lk s'.t k) (hh : ∀ k, hget s.h k = hget s'.h k) (hg : s.g = s'.g) : Sat cx E s' a w where
 slots := fun k g v hk => by
  obtain ⟨x, h1, h2, h3⟩ := hs.slots k g v (by rw [ht]; exact hk)
  exact ⟨x, h1, fun e => zkF hh (h2 e), h3⟩
 nt := hs.nt
 hp := hs.hp.ext hh
 base := hs.base
 marks := hs.marks
 ghost := by rw [← hg, ← zc1 hh]; exact hs.ghost
theorem Evo.ext {fl : Nat} (he : Evo fl E0 h0 w0 E h w) (hh : ∀ k, hget h k = hget h' k) : Evo fl E0 h0 w0 E h' w where
 os := he.os
 tape := he.tape
 output := he.output
 size := he.size
 keep := he.keep
 own := fun b hb => he.own b (by rwa [zc1 hh])
 m1 := he.m1
 m2 := he.m2
 n := he.n
 go := fun i hi hs => by
  rw [← hh] at hs
  obtain ⟨g1, g2⟩ := he.go i hi hs
  exact ⟨g1, g2.trans (zg9 hh i)⟩
theorem Evo.low {fl fl' : Nat} (he : Evo fl' E0 h0 w0 E h w) (hl : fl ≤ fl') : Evo fl E0 h0 w0 E h w :=
 ⟨he.os, he.tape, he.output, he.size, he.keep, he.own, he.m1, he.m2, he.n, fun i hi => he.go i (by omega)⟩
theorem Sat.at {nm : Nat} (hs : Sat cx E s a w) : Sat (atCx cx nm) E s a w := ⟨hs.slots, hs.nt, hs.hp, hs.base, hs.marks, hs.ghost⟩
theorem Sat.un {nm : Nat} (hs : Sat (atCx cx nm) E s a w) : Sat cx E s a w := ⟨hs.slots, hs.nt, hs.hp, hs.base, hs.marks, hs.ghost⟩
theorem Reach.un {nm : Nat} (hl : cx.fl ≤ nm) {K : AS → Prop} (hr : Reach (atCx cx nm) E h w K a w0) : Reach cx E h w K a w0 := by
 obtain ⟨E1, s1, hk, hs, he⟩ := hr
 exact ⟨E1, s1, hk, hs.un, he.low hl⟩
end
theorem zvH {P : Program} {f : FuncId} {args : List AV} {k : Nat} {rows : List (List D)} {h : AHeap} {nm fl : Nat} (hc : ∀ fl, ACall P f fl args [] (fun r h' => r = .osl fl k rows.length 0 rows.length ∧ h' = [(fl, .arr k rows)])) (hids : AV.idsL args = []) (hnm : hget h nm = none) (hfl : fl ≤ nm) :
    ACallAt P fl f args h (fun r h' => r = .osl nm k rows.length 0 rows.length ∧ h' = (nm, .arr k rows) :: h) := by
  obtain ⟨hen, hc⟩ := hc 0
  refine ⟨hen, fun E w vs hs hr => ?_⟩
  have hno : ∀ (E : Env) b, ¬ Own E [] b := fun E b ⟨i, hi, _⟩ => by simp [hget] at hi
  have hs0 : SatH (bare (Xs E h)) [] w := ⟨fun i o ho => by simp [hget] at ho, fun i j b h1 => by simp [hget] at h1, fun b hb => absurd hb (hno _ b), fun _ h => h.elim, fun b hb => by
    rcases hb with hb | hb | hb
    · exact (hs.own b hb).1
    · exact hs.mlt b hb
    · exact hs.nlt b hb⟩
  have hX0 : ∀ b, b < w.heap.size → Xs (bare (Xs E h)) [] b → Xs E h b := fun b _ hx => by
    rcases hx with hx | hx | hx
    · exact absurd hx (hno _ b)
    · exact hx.elim
    · exact hx
  have hr0 : Reps w (bare (Xs E h)) [] args vs.toList := Reps.step hX0 (fun _ _ _ => rfl) _ _ (by rw [hids]; simp) hr
  refine (hc _ w vs hs0 hr0).mono ?_
  rintro e w' ⟨v, E', r', h1, rfl, ⟨rfl, rfl⟩, hs', hr', hev⟩
  have hkeep : ∀ b, b < w.heap.size → w'.heap[b]? = w.heap[b]? := fun b hb => hev.keep b hb (hno _ b)
  obtain ⟨E2, hE2⟩ : ∃ E2, E2 = E.set nm (E'.O 0) (E'.C 0) := ⟨_, rfl⟩
  have hO : E2.O nm = E'.O 0 := by rw [hE2]; simp [Env.set]
  have hC : E2.C nm = E'.C 0 := by rw [hE2]; simp [Env.set]
  have hob := hs'.heap 0 (.arr k rows) (by simp [hget])
  have hlt : ∀ b, E'.O 0 = some b → w.heap.size ≤ b ∧ b < w'.heap.size := fun b hb => by
    have ho : Own E' [(0, .arr k rows)] b := ⟨0, by simp [hget], hb⟩
    exact ⟨(hev.own b ho).elim (fun h => absurd h (hno _ b)) id, (hs'.own b ho).1⟩
  have c : Chg E h w E2 ((nm, .arr k rows) :: h) w' nm :=
    { os := hev.os, tape := hev.tape, output := hev.output, size := hev.size
      envO := fun j e => by rw [hE2]; simp [Env.set, e]
      envC := fun j e => by rw [hE2]; simp [Env.set, e]
      M := by rw [hE2]; rfl
      N := by rw [hE2]; rfl
      hh := fun j e => by simp [hget, Ne.symm e]
      gi := by unfold GoesOn; rw [hnm]; trivial
      blk := fun b hb _ => hkeep b hb
      new := fun b _ hb => .inr (hlt b (by rw [← hO]; exact hb)) }
  have hXn : ∀ b, b < w'.heap.size → Xs E2 ((nm, .arr k rows) :: h) b → Xs E' [(0, .arr k rows)] b := fun b _ hx => by
    have hN : ∀ b, Xs E h b → Xs E' [(0, .arr k rows)] b := fun b hx => .inr (.inr (by rw [hev.n]; exact hx))
    rcases hx with ⟨j, hj, hb⟩ | hx | hx
    · by_cases e : j = nm
      · subst e
        exact .inl ⟨0, by simp [hget], by rw [← hO]; exact hb⟩
      · exact hN b (.inl ⟨j, by simpa [hget, Ne.symm e] using hj, by rw [← c.envO j e]; exact hb⟩)
    · exact hN b (.inr (.inl (by rwa [c.M] at hx)))
    · exact hN b (.inr (.inr (by rwa [c.N] at hx)))
  have hs2 : SatH E2 ((nm, .arr k rows) :: h) w' := c.satH hs (fun o ho => by
    simp only [hget, if_true, Option.some.injEq] at ho
    subst ho
    simp only [RepObj, hO, hC] at hob ⊢
    rcases hob with g | ⟨b, d, T, fz, h1, h2, h3, h4, h5, h6⟩
    · exact .inl g
    · exact .inr ⟨b, d, T, fz, h1, h2, h3, h4, RepRows.step hXn (fun _ _ _ => rfl) _ _ _ h5, h6⟩)
  refine ⟨v, E2, _, _, rfl, ⟨rfl, rfl⟩, hs2, ?_, ?_, fun x y hxy => c.rep hxy⟩
  · simp only [Rep] at hr' ⊢
    obtain ⟨q1, xs, q2, q3, q4, q5⟩ := hr'
    simp only [hget, if_true, Option.some.injEq, AObj.arr.injEq] at q2
    obtain ⟨-, rfl⟩ := q2
    refine ⟨q1, rows, by simp [hget], q3, q4, ?_⟩
    rw [hO, hC]
    exact q5
  · have ev := c.evo (fl := fl) (.inr hfl)
    exact ⟨ev.os, ev.tape, ev.output, ev.size, fun b hb _ => hkeep b hb, ev.own, c.M, c.N, ev.go⟩
theorem EvoC.ext {E E' : Env} {h0 h h1 h' : AHeap} {w w' : World} {fl fl' : Nat} (he : EvoC fl E h0 w E' h w') (h0e : ∀ k, hget h0 k = hget h1 k) (hh : ∀ k, hget h k = hget h' k) (hfl : ∀ k, (hget h k).isSome → k < fl ∨ fl' ≤ k) : EvoC fl' E h1 w E' h' w' where
 os := he.os
 tape := he.tape
 output := he.output
 size := he.size
 keep := fun b hb hn => he.keep b hb (by rwa [zc1 h0e])
 own := fun b hb => by
  rw [← zc1 hh] at hb
  rw [← zc1 h0e]
  exact he.own b hb
 m := he.m
 n := he.n
 go := fun i hi hs => by
  rw [← hh] at hs
  rcases hfl i hs with hl | hl
  ·obtain ⟨g1, g2⟩ := he.go i hl hs
   exact ⟨by rwa [← h0e], ((zg9 (fun k => (h0e k).symm) i).trans g2).trans (zg9 hh i)⟩
  ·omega
theorem ACall.ext {P : Program} {f : FuncId} {args : List AV} {fl fl' : Nat} {h h' : AHeap} {K : AV → AHeap → Prop} (hc : ACall P f fl args h K) (hh : ∀ k, hget h k = hget h' k) (hfl : ∀ r h2, K r h2 → ∀ k, (hget h2 k).isSome → k < fl ∨ fl' ≤ k) : ACall P f fl' args h' K := by
 refine ⟨hc.1, fun E w vs hs hr => ?_⟩
 have hh' : ∀ k, hget h' k = hget h k := fun k => (hh k).symm
 refine (hc.2 E w vs (hs.ext hh') (Reps.step (fun b _ hx => by unfold Xs at hx ⊢; rwa [zc1 hh']) (fun _ _ _ => rfl) _ _ (fun j _ => zg9 hh' j) hr)).mono ?_
 rintro e w' ⟨v, E', r, h2, rfl, hk, hs', hr', hev⟩
 exact ⟨v, E', r, h2, rfl, hk, hs', hr', hev.ext hh (fun _ => rfl) (hfl r h2 hk)⟩
theorem zeg {P : Program} {f : FuncId} {args : List AV} {r0 : AV} {h : AHeap} {i fl1 fl : Nat} {ob ob' : AObj} (hc : ACall P f fl1 args [(i, ob)] (fun r h' => r = r0 ∧ h' = [(i, ob')])) (hi : i < fl1) (hg : hget h i = some ob) (hcl : ∀ j ∈ ob.ids, j = i) (ha : ∀ j ∈ AV.idsL args, j = i) :
  ACallAt P fl f args h (fun r h' => r = r0 ∧ h' = hset h i ob') := by
 obtain ⟨fl2, hfl2⟩ : ∃ fl2, fl2 = top fl h := ⟨_, rfl⟩
 have hlt : ∀ j, (hget h j).isSome → j < fl2 := fun j hj => by rw [hfl2]; exact zoy hj
 have hil : i < fl2 := hlt i (by simp [hg])
 obtain ⟨p, hp⟩ : ∃ p : Nat → Bool, p = fun j => decide (j = i) || decide (fl2 ≤ j) := ⟨_, rfl⟩
 have hpi : p i = true := by rw [hp]; simp
 have hpj : ∀ j, (hget h j).isSome → p j = true → j = i := fun j hj hpj => by
  have := hlt j hj
  rw [hp] at hpj
  have : j = i ∨ fl2 ≤ j := by simpa using hpj
  omega
 have he1 : ∀ k, hget [(i, ob)] k = hget (hsel p h) k := fun k => by
  rw [zC]
  simp only [hget]
  by_cases hk : i = k
  ·subst hk; rw [if_pos rfl, if_pos hpi, hg]
  ·rw [if_neg hk]
   split
   ·rename_i hpk
    cases hh : hget h k with
    | none => rfl
    | some o => exact absurd (hpj k (by simp [hh]) hpk).symm hk
   ·rfl
 have hc2 := hc.ext (fl' := fl2) he1 (fun r h2 hk k hs => .inl (by
  obtain ⟨_, rfl⟩ := hk
  simp only [hget] at hs
  split at hs
  ·omega
  ·cases hs))
 have := ACall.frame (fl' := fl) hc2 hlt (fun j hj => by rw [hp]; simp; exact .inr hj) (fun j o ho hpj' k hk => by
  have hj := hpj j (by simp [ho]) hpj'
  subst hj
  rw [hg] at ho; cases ho
  rw [hcl k hk]; exact hpi) (fun j hj => by rw [ha j hj]; exact hpi) (by rw [hfl2]; exact zeQ _ _) (fun r h' hk => by
  obtain ⟨_, rfl⟩ := hk
  refine ⟨fun j hj hpj' => ?_, fun j hj => ?_⟩
  ·rw [hpj j hj hpj']; simp [hget]
  ·simp only [hget] at hj
   split at hj
   ·rename_i e; rw [← e]; exact hpi
   ·cases hj)
 refine ⟨this.1, fun E w vs hs hr => (this.2 E w vs hs hr).mono ?_⟩
 rintro e w' ⟨v, E', r, h2, rfl, ⟨h1, ⟨rfl, rfl⟩, rfl⟩, hs', hr', hev, hmv⟩
 have hex : ∀ k, hget ([(i, ob')] ++ hsel (fun j => !p j) h) k = hget (hset h i ob') k := fun k => by
  rw [zbv, zC]
  simp only [hget]
  by_cases hk : i = k
  ·subst hk
   rw [if_pos rfl, zw hg]
   rfl
  ·rw [if_neg hk, Option.none_or, zH (fun e => hk e.symm)]
   split
   ·rfl
   ·rename_i hpk
    cases hh : hget h k with
    | none => rfl
    | some o => exact absurd (hpj k (by simp [hh]) (by simpa using hpk)).symm hk
 exact ⟨v, E', r, _, rfl, ⟨rfl, rfl⟩, hs'.ext hex, zkF hex hr', hev.ext (fun _ => rfl) hex (fun k hk => by
  rcases Nat.lt_or_ge k fl with hl | hl
  ·exact .inl hl
  ·exact .inr hl), fun x y hxy => zkF hex (hmv x y hxy)⟩
def gop (cx : Cx) (tab : Tab) (owns : List FuncId) (nm : Nat) (s : AS) (G : Bool) (o : Oper) (R : Bool → AV → Ch → List Nat → Prop) : Prop :=
 let other := fop (atCx cx nm) tab s G o (fun g v h' => match chOf nm cx.P s o.op h' with | some (c, rd) => R g v c rd | none => False)
 match o.op with
 | .call c => (match zaR cx.P s c with
  | some (f, args, vc) => if owns.contains f = true then G = true ∧ vc ∧ AV.idsL args = [] ∧ ∃ k rows, (∀ fl, ACall cx.P f fl args [] (fun r h' => r = .osl fl k rows.length 0 rows.length ∧ h' = [(fl, .arr k rows)])) ∧ R true (.osl nm k rows.length 0 rows.length) (.new nm (.arr k rows)) []
   else if owns.contains (f + 1000000) = true then G = true ∧ vc ∧ ∃ i fl1 ob r0 ob', hget s.h i = some ob ∧ i < fl1 ∧ (∀ j ∈ ob.ids, j = i) ∧ (∀ j ∈ AV.idsL args, j = i) ∧ ACall cx.P f fl1 args [(i, ob)] (fun r h' => r = r0 ∧ h' = [(i, ob')]) ∧ R true r0 (.put i ob') [] else other
  | none => other)
 | _ => other
def touch (a b : Option Nat × List Nat) : Bool := match a.1 with
 | none => false
 | some i => b.1 == some i || b.2.contains i
def confG (all : Array Oper) (fa fb : Option Nat × List Nat) (a b : Oper) : Bool :=
 (match a.dst with
  | some d => (zdp all b).contains d || b.dst == some d
  | none => false) ||
 (match b.dst with
  | some d => (zdp all a).contains d
  | none => false) ||
 (touch fa fb || touch fb fa)
def zah (ops : Array Oper) (F : List (Option Nat × List Nat)) : Bool :=
 (List.range ops.size).all fun j => match ops[j]? with
  | some b => (b.after.toList.all fun e => !Region.binds .any e || decide (e.on < j)) && (List.range j).all fun i => match ops[i]? with
   | some a => !confG ops (F.getD i (none, [])) (F.getD j (none, [])) a b || anc ops (j + 1) j i
   | none => true
  | none => true
def gops (cx : Cx) (tab : Tab) (owns : List FuncId) (all : Array Oper) : Nat → List Oper → List (Option Nat × List Nat) → (AS → Prop) → AS → Prop
 | _, [], F, K, s => zah all F.reverse = true ∧ K s
 | nm, o :: r, F, K, s => match zas s all o.guard with
  | some G => dstOk cx.nt o.dst ∧ hget s.h nm = none ∧ gop cx tab owns nm s G o (fun g v c rd => gops cx tab owns all (nm + 1) r ((c.at, rd) :: F) K ({ s with h := c.app s.h }.put o.dst g v))
  | none => False
section
variable {cx : Cx} {tab : Tab} {owns : List FuncId} {ops : Array Oper} {s : AS}
structure GLoc (cx : Cx) (all : Array Oper) (s : AS) (r : RG) : Prop where
 put : ∀ i ob, r.c = .put i ob → (hget s.h i).isSome
 new : ∀ i ob, r.c = .new i ob → hget s.h i = none
 step : ∃ G, zas s all r.o.guard = some G ∧ ∀ s' : AS, (∀ x ∈ zam r.o.op, s.ev x = s'.ev x ∧ known s x = known s' x) → zas s' all r.o.guard = some G → ziM s.h r.c r.rd s'.h →
  ∀ (E : Env) (a : Act) (w : World) (K : AS → Prop) (Q : Exit → Act → World → Prop), Sat cx E s' a w → K ({ s' with h := r.c.app s'.h }.put r.o.dst r.g r.v) →
   if Region.wanted r.o (yielded all a.tmps) then r.o.wpIn cx.F 0 cx.P a w (Reach cx E s'.h w K) Q else (∀ f, r.o.about cx.P w a.eval = some f → cx.F.fn f) ∧ Reach cx E s'.h w K (a.put r.o.dst undef) w
def Shaped (nm : Nat) (h' : AHeap) (c : Ch) : Prop := (∀ i ob, c = .put i ob → hget h' i = some ob) ∧ (∀ i ob, c = .new i ob → i = nm)
theorem zha {nm : Nat} {h' : AHeap} : Shaped nm h' .none := by
 constructor
 ·intro i ob e; cases e
 ·intro i ob e; cases e
theorem zh7 {nm : Nat} {h' : AHeap} {ob : AObj} : Shaped nm h' (.new nm ob) := by
 constructor
 ·intro i ob e; cases e
 ·intro i ob e; cases e; rfl
theorem zmW {nm i : Nat} {h' : AHeap} {ob : AObj} (h : hget h' i = some ob) : Shaped nm h' (.put i ob) := by
 constructor
 ·intro i ob e; cases e; exact h
 ·intro i ob e; cases e
theorem zhb {nm : Nat} {h' : AHeap} {c : Ch} {rd l : List Nat} (h : (hget h' nm).map (fun ob => (Ch.new nm ob, l)) = some (c, rd)) : Shaped nm h' c := by
 obtain ⟨ob, e1, e2⟩ := Option.map_eq_some_iff.1 h
 cases e2
 exact zh7
theorem zhc {nm i : Nat} {h' : AHeap} {c : Ch} {rd l : List Nat} (h : (hget h' i).map (fun ob => (Ch.put i ob, l)) = some (c, rd)) : Shaped nm h' c := by
 obtain ⟨ob, e1, e2⟩ := Option.map_eq_some_iff.1 h
 cases e2
 exact zmW e1
theorem zba {nm : Nat} {h' : AHeap} {c : Ch} {rd l : List Nat} (h : some (Ch.none, l) = some (c, rd)) : Shaped nm h' c := by
 cases h
 exact zha
theorem zsw {nm : Nat} {P : Program} {op : Op} {h' : AHeap} {c : Ch} {rd : List Nat} (hc : chOf nm P s op h' = some (c, rd)) : Shaped nm h' c := by
 unfold chOf at hc
 split at hc
 case h_1 => exact zhb hc
 case h_2 =>
  simp only [Option.some.injEq] at hc
  split at hc
  ·cases hc; exact zh7
  ·cases hc; exact zha
 case h_3 => exact zhb hc
 case h_4 => exact zba hc
 case h_5 => exact zba hc
 case h_6 => exact zba hc
 case h_7 =>
  split at hc
  ·split at hc
   ·split at hc
    ·exact zhc hc
    ·cases hc
   ·cases hc
  ·split at hc
   ·exact zba hc
   ·cases hc
  ·split at hc
   ·exact zba hc
   ·cases hc
  ·cases hc
 case h_8 =>
  split at hc
  ·exact zba hc
  ·split at hc
   ·exact zhc hc
   ·exact zba hc
  ·cases hc
theorem zuF (ht : TabOk cx.P tab) {nm : Nat} {G : Bool} {o : Oper} {R : Bool → AV → Ch → List Nat → Prop} (hG : zas s ops o.guard = some G) (hd : dstOk cx.nt o.dst) (hnm : hget s.h nm = none) (hl : cx.fl ≤ nm) (h : gop cx tab owns nm s G o R) :
  ∃ g v c rd, R g v c rd ∧ GLoc cx ops s ⟨o, g, v, c, rd⟩ := by
 have other : fop (atCx cx nm) tab s G o (fun g v h' => match chOf nm cx.P s o.op h' with | some (c, rd) => R g v c rd | none => False) → ∃ g v c rd, R g v c rd ∧ GLoc cx ops s ⟨o, g, v, c, rd⟩ := by
  intro h
  obtain ⟨g, v, h', h1, h2, h3⟩ := zoN h
  split at h1
  ·rename_i c rd hc
   obtain ⟨q1, q2⟩ := zsv hnm h2 h3 hc
   obtain ⟨p1, p2⟩ := zsw hc
   refine ⟨g, v, c, rd, h1, fun i ob e => ?_, fun i ob e => ?_, G, hG, ?_⟩
   ·have hi := p1 i ob e
    have e : c = .put i ob := e
    rw [q1, e] at hi
    cases hh : hget s.h i with
    | none => simp only [Ch.app] at hi; rw [zcy hh, hh] at hi; cases hi
    | some o => rfl
   ·have e : c = .new i ob := e
    rw [p2 i ob e]; exact hnm
   ·intro s' hev hgd hgood E a w K Q hs hK
    dsimp only at hev hgd hgood hK ⊢
    have hf : fop (atCx cx nm) tab s' G o (fun g v h' => K ({ s' with h := h' }.put o.dst g v)) := by
     refine fop_e (s := { s with h := s'.h }) (fun x hx => ?_) rfl (q2 s'.h hgood _ hK)
     have := hev x hx
     have e1 : AS.ev { s with h := s'.h } x = s.ev x := by cases x <;> rfl
     have e2 : known { s with h := s'.h } x = known s x := by cases x <;> rfl
     rw [e1, e2]
     exact this
    have hw := zgS (cx := atCx cx nm) ht (Q := fun _ _ _ => False) (E := E) hs.at hgd (zlr (K := K) hd hf)
    split at hw
    ·rename_i hwt
     rw [if_pos hwt]
     exact zaO hw (fun a w hr => hr.un hl)
    ·rename_i hwt
     rw [if_neg hwt]
     exact ⟨hw.1, hw.2.un hl⟩
  ·exact h1.elim
 unfold gop at h
 dsimp only at h
 split at h
 ·rename_i c hop
  split at h
  ·rename_i f args vc hco
   split at h
   ·obtain ⟨rfl, hvc, hids, k, rows, hcall, hR⟩ := h
    refine ⟨true, _, _, _, hR, (by intro i ob e; cases e), (by intro i ob e; cases e; exact hnm), true, hG, ?_⟩
    intro s' hev hgd hgood E a w K Q hs hK
    dsimp only at hev hgd hgood hK ⊢
    rw [hop] at hev
    have hnv : ¬ isVal cx.P (.call c) = true := by
     obtain ⟨fo, hcal⟩ : ∃ fo, c.callee = .value fo := by
      unfold zaR at hco
      cases hc : c.callee <;> rw [hc] at hco <;> first | exact ⟨_, rfl⟩ | cases hco
     simp [isVal, zbV, hcal]
    have hco' : zaR cx.P s' c = some (f, args, vc) := by rw [← ziC (fun x hx => (hev x hx).1)]; exact hco
    rw [zeS hs.slots hgd]
    simp only [if_true]
    refine zit hs hd ?_
    unfold aop1
    rw [hop]
    simp only [if_neg hnv, hco']
    refine ⟨hvc, (zvH hcall hids hgood.2 hl).mono ?_⟩
    rintro r' h' ⟨rfl, rfl⟩
    exact hK
   split at h
   ·obtain ⟨rfl, hvc, i, fl1, ob, r0, ob', hgi, hil, hcl, ha, hcall, hR⟩ := h
    refine ⟨true, _, _, _, hR, (by intro i ob e; cases e; simp [hgi]), (by intro i ob e; cases e), true, hG, ?_⟩
    intro s' hev hgd hgood E a w K Q hs hK
    dsimp only at hev hgd hgood hK ⊢
    rw [hop] at hev
    have hnv : ¬ isVal cx.P (.call c) = true := by
     obtain ⟨fo, hcal⟩ : ∃ fo, c.callee = .value fo := by
      unfold zaR at hco
      cases hc : c.callee <;> rw [hc] at hco <;> first | exact ⟨_, rfl⟩ | cases hco
     simp [isVal, zbV, hcal]
    have hco' : zaR cx.P s' c = some (f, args, vc) := by rw [← ziC (fun x hx => (hev x hx).1)]; exact hco
    rw [zeS hs.slots hgd]
    simp only [if_true]
    refine zit hs hd ?_
    unfold aop1
    rw [hop]
    simp only [if_neg hnv, hco']
    refine ⟨hvc, (zeg hcall hil (hgood.2.trans hgi) hcl ha).mono ?_⟩
    rintro r' h' ⟨rfl, rfl⟩
    exact hK
   ·exact other h
  ·exact other h
 ·exact other h
def OutsG (cx : Cx) (all : Array Oper) (L : List RG) (s : AS) : Prop := ∀ (i : Nat) (r : RG), L[i]? = some r → GLoc cx all (lexG L i s) r
theorem zjO (ht : TabOk cx.P tab) : ∀ (l : List Oper) (nm : Nat) (F : List (Option Nat × List Nat)) {K : AS → Prop} {s : AS}, cx.fl ≤ nm → gops cx tab owns ops nm l F K s →
  ∃ L : List RG, L.map (·.o) = l ∧ zah ops (F.reverse ++ L.map (fun r => (r.c.at, r.rd))) = true ∧ K (lexG L L.length s) ∧ OutsG cx ops L s
 | [], nm, F, K, s, _, h => ⟨[], rfl, by simpa using h.1, h.2, fun i r hr => by simp at hr⟩
 | o :: l, nm, F, K, s, hl, h => by
  simp only [gops] at h
  split at h
  ·rename_i G hG
   obtain ⟨hd, hnm, h⟩ := h
   obtain ⟨g, v, c, rd, h1, h2⟩ := zuF ht hG hd hnm hl h
   obtain ⟨L, q1, q2, q3, q4⟩ := zjO ht l (nm + 1) _ (by omega) h1
   refine ⟨⟨o, g, v, c, rd⟩ :: L, by simp [q1], by simpa using q2, by rw [List.length_cons, zdF]; exact q3, fun i r hr => ?_⟩
   cases i with
   | zero =>
    have : RG.mk o g v c rd = r := by simpa using hr
    subst this
    rw [zdE]
    exact h2
   | succ i =>
    rw [zdF]
    exact q4 i r (by simpa using hr)
  ·exact h.elim
theorem zlW {F : List (Option Nat × List Nat)} (hd : zah ops F = true) {i j : Nat} {a b : Oper} (hij : i < j) (ha : ops[i]? = some a) (hb : ops[j]? = some b) (hc : confG ops (F.getD i (none, [])) (F.getD j (none, [])) a b = true) : anc ops (j + 1) j i = true := by
 unfold zah at hd
 have hj : j < ops.size := (Array.getElem?_eq_some_iff.1 hb).1
 have := List.all_eq_true.1 hd j (by simpa using hj)
 rw [hb] at this
 simp only [Bool.and_eq_true] at this
 have := List.all_eq_true.1 this.2 i (by simpa using hij)
 rw [ha] at this
 dsimp only at this
 rw [hc] at this
 simpa using this
theorem zsx {F : List (Option Nat × List Nat)} (hd : zah ops F = true) {j : Nat} {b : Oper} (hb : ops[j]? = some b) : ∀ e ∈ b.after.toList, Region.binds .any e = true → e.on < j := by
 unfold zah at hd
 have hj : j < ops.size := (Array.getElem?_eq_some_iff.1 hb).1
 have := List.all_eq_true.1 hd j (by simpa using hj)
 rw [hb] at this
 simp only [Bool.and_eq_true] at this
 intro e he hbi
 have := List.all_eq_true.1 this.1 e he
 simpa [hbi] using this
theorem zkG {F : List (Option Nat × List Nat)} {listed : Array Bool} (hd : zah ops F = true) (hsz : listed.size = ops.size) (hr : Region.ready .any ops listed = []) : ∀ i, i < ops.size → listed.getD i false = true := by
 intro i
 induction i using Nat.strongRecOn with
 | _ i ih =>
  intro hi
  cases hl : listed.getD i false with
  | true => rfl
  | false =>
   have hmem : i ∈ Region.ready .any ops listed := by
    refine mem_ready.2 ⟨?_, ops[i], by simp [hi], fun e he hb => ?_⟩
    ·rw [Array.getD_eq_getD_getElem?] at hl ⊢
     rw [Array.getElem?_eq_getElem (by omega)] at hl ⊢
     exact hl
    ·have := zsx hd (j := i) (b := ops[i]) (Array.getElem?_eq_getElem hi) e (Array.mem_toList_iff.2 he) hb
     exact ih _ this (by omega)
   rw [hr] at hmem
   cases hmem
theorem ziO {a b : Option Nat × List Nat} {k : Nat} (ha : a.1 = some k) (hb : b.1 = some k ∨ k ∈ b.2) : touch a b = true := by
 unfold touch
 rw [ha]
 rcases hb with hb | hb
 ·simp [hb]
 ·simp [hb]
theorem zpB {L : List RG} (hd : zah ops (L.map (fun r => (r.c.at, r.rd))) = true) (hL : L.map (·.o) = ops.toList) {s0 : AS} (ho : OutsG cx ops L s0) {E0 : Env} {w0 : World} {K : AS → Prop} (hK : K (lexG L L.length s0)) :
  ∀ (fuel : Nat) (listed : Array Bool) (E : Env) (a : Act) (w : World), listed.size = ops.size → listed.toList.countP (fun b => b == false) = fuel →
   (∀ (i : Nat) o, ops[i]? = some o → listed.getD i false = true → ∀ e ∈ o.after.toList, Region.binds .any e = true → listed.getD e.on false = true) →
   Sat cx E (selG L (fun i => listed.getD i false) s0) a w → Evo cx.fl E0 s0.h w0 E (selG L (fun i => listed.getD i false) s0).h w →
   wpAnyIn cx.F 0 cx.P .any ops (fun e a' w' => e = .normal ∧ Reach cx E0 s0.h w0 K a' w') fuel listed a w := by
 have hlen : L.length = ops.size := by
  have := congrArg List.length hL
  simpa using this
 have hget : ∀ (l : Nat) (r : RG), L[l]? = some r → ops[l]? = some r.o := fun l r hr => by
  have := congrArg (fun x : List Oper => x[l]?) hL
  simp only [List.getElem?_map, hr, Option.map_some, Array.getElem?_toList] at this
  exact this.symm
 have hfoot : ∀ (l : Nat) (r : RG), L[l]? = some r → (L.map (fun r => (r.c.at, r.rd))).getD l (none, []) = (r.c.at, r.rd) := fun l r hr => by simp [List.getD_eq_getElem?_getD, hr]
 have done : ∀ (listed : Array Bool) (E : Env) (a : Act) (w : World), (∀ i, i < ops.size → listed.getD i false = true) → Sat cx E (selG L (fun i => listed.getD i false) s0) a w → Evo cx.fl E0 s0.h w0 E (selG L (fun i => listed.getD i false) s0).h w →
   (Exit.normal = Exit.normal ∧ Reach cx E0 s0.h w0 K a w) := by
  intro listed E a w hall hs he
  have hSS : ∀ (i : Nat) (r : RG), L[i]? = some r → listed.getD i false = decide (i < L.length) := fun i r hr => by
   have hi : i < L.length := (List.getElem?_eq_some_iff.1 hr).1
   rw [hall i (by omega), decide_eq_true hi]
  have hh : ∀ k, Go.Aw.hget (selG L (fun i => listed.getD i false) s0).h k = Go.Aw.hget (lexG L L.length s0).h k := fun k => ze1 k L _ _ _ _ rfl (fun i r hr _ => hSS i r hr)
  refine ⟨rfl, E, lexG L L.length s0, hK, hs.ext (fun k => zg8 (Q := fun _ => True) L _ _ _ _ (fun _ _ => rfl) (fun i r hr _ => hSS i r hr) k trivial) hh ?_, he.ext hh⟩
  unfold lexG
  rw [zjM, zjM]
 intro fuel
 induction fuel with
 | zero =>
  intro listed E a w hsz hc hcl hs he
  have hall : ∀ i, i < ops.size → listed.getD i false = true := fun i hi => by
   have h0 := List.countP_eq_zero.1 hc (listed[i]'(by omega)) (by simp)
   rw [Array.getD_eq_getD_getElem?, Array.getElem?_eq_getElem (by omega)]
   simpa using h0
  refine ⟨?_, done listed E a w hall hs he⟩
  cases hr : Region.ready .any ops listed with
  | nil => rfl
  | cons i l =>
   have hi : i ∈ Region.ready .any ops listed := by rw [hr]; simp
   obtain ⟨h1, o, h2, _⟩ := mem_ready.1 hi
   have hlt : i < ops.size := (Array.getElem?_eq_some_iff.1 h2).1
   have h3 := hall i hlt
   rw [Array.getD_eq_getD_getElem?, Array.getElem?_eq_getElem (by omega)] at h1 h3
   simp only [Option.getD_some] at h1 h3
   rw [h1] at h3; cases h3
 | succ fuel ih =>
  intro listed E a w hsz hc hcl hs he
  refine ⟨fun hr => done listed E a w (zkG hd hsz hr) hs he, fun i hi => ?_⟩
  obtain ⟨hun, o, hoi, hdep⟩ := mem_ready.1 hi
  have hlt : i < ops.size := (Array.getElem?_eq_some_iff.1 hoi).1
  have hun' : listed[i]? = some false := by
   rw [Array.getD_eq_getD_getElem?, Array.getElem?_eq_getElem (by omega)] at hun
   rw [Array.getElem?_eq_getElem (by omega)]
   simpa using hun
  have hSi : listed.getD i false = false := by rw [Array.getD_eq_getD_getElem?, hun']; rfl
  obtain ⟨r, hr⟩ : ∃ r, L[i]? = some r := ⟨_, List.getElem?_eq_getElem (by omega)⟩
  have hro : r.o = o := Option.some.inj ((hget i r hr).symm.trans hoi)
  subst hro
  obtain ⟨hput, hnew, G, hG, hstep⟩ := ho i r hr
  have hdep' : ∀ o', ops[i]? = some o' → ∀ e ∈ o'.after.toList, Region.binds .any e = true → listed.getD e.on false = true := fun o' ho' e he' hb => by
   rw [hoi] at ho'; cases ho'
   exact hdep e (by simpa using he') hb
  have before : ∀ (l : Nat) (r' : RG), L[l]? = some r' → l < i → confG ops (r'.c.at, r'.rd) (r.c.at, r.rd) r'.o r.o = true → listed.getD l false = true := fun l r' hr' hl hcf =>
   zcx (S := fun i => listed.getD i false) hcl _ i l (zlW hd hl (hget l r' hr') hoi (by rw [hfoot l r' hr', hfoot i r hr]; exact hcf)) hdep'
  have behind : ∀ (l : Nat) (r' : RG), L[l]? = some r' → i < l → confG ops (r.c.at, r.rd) (r'.c.at, r'.rd) r.o r'.o = true → listed.getD l false = false := fun l r' hr' hl hcf => by
   cases hSl : listed.getD l false with
   | false => rfl
   | true =>
    have := zcx (S := fun i => listed.getD i false) hcl _ l i (zlW hd hl hoi (hget l r' hr') (by rw [hfoot l r' hr', hfoot i r hr]; exact hcf)) (fun o' ho' => hcl l o' ho' hSl)
    rw [hSi] at this; cases this
  have agree : ∀ (l : Nat) (r' : RG), L[l]? = some r' → (l < i → confG ops (r'.c.at, r'.rd) (r.c.at, r.rd) r'.o r.o = true) → (i < l → confG ops (r.c.at, r.rd) (r'.c.at, r'.rd) r.o r'.o = true) → listed.getD l false = decide (l < i) := fun l r' hr' h1 h2 => by
   rcases Nat.lt_trichotomy l i with h | h | h
   ·rw [before l r' hr' h (h1 h), decide_eq_true h]
   ·subst h; rw [hSi]; simp
   ·rw [behind l r' hr' h (h2 h), decide_eq_false (by omega)]
  have hslots : ∀ k, k ∈ zdp ops r.o → lk (selG L (fun i => listed.getD i false) s0).t k = lk (lexG L i s0).t k :=
   zg8 (Q := fun k => k ∈ zdp ops r.o) L _ _ _ _ (fun _ _ => rfl) (fun l r' hr' ⟨d, hd1, hd2⟩ => agree l r' hr'
    (fun _ => by unfold confG; rw [hd1]; simp [hd2])
    (fun _ => by unfold confG; rw [hd1]; simp [hd2]))
  have hev := zls (s := lexG L i s0) (s' := selG L (fun i => listed.getD i false) s0) (l := zam r.o.op) (fun k hk => (hslots k (List.mem_append_left _ hk)).symm)
  have hgd : zas (selG L (fun i => listed.getD i false) s0) ops r.o.guard = some G := by
   rw [← hG]
   exact zgT (fun k hk => hslots k (List.mem_append_right _ hk))
  have hname : ∀ k, r.c.at = some k ∨ k ∈ r.rd → Go.Aw.hget (selG L (fun i => listed.getD i false) s0).h k = Go.Aw.hget (lexG L i s0).h k := fun k hk =>
   ze1 k L _ _ _ _ rfl (fun l r' hr' hm => agree l r' hr'
    (fun _ => by
     have := ziO (a := (r'.c.at, r'.rd)) (b := (r.c.at, r.rd)) hm hk
     unfold confG; simp [this])
    (fun _ => by
     have := ziO (a := (r'.c.at, r'.rd)) (b := (r.c.at, r.rd)) hm hk
     unfold confG; simp [this]))
  have hgood : ziM (lexG L i s0).h r.c r.rd (selG L (fun i => listed.getD i false) s0).h := by
   refine ⟨fun k hk => hname k (.inr hk), ?_⟩
   cases hcc : r.c with
   | none => trivial
   | put k ob => exact hname k (.inl (by rw [hcc]; rfl))
   | new k ob => exact (hname k (.inl (by rw [hcc]; rfl))).trans (hnew k ob hcc)
  have hw := hstep (selG L (fun i => listed.getD i false) s0) hev hgd hgood E a w (fun t => t = ({ selG L (fun i => listed.getD i false) s0 with h := r.c.app (selG L (fun i => listed.getD i false) s0).h } : AS).put r.o.dst r.g r.v) (fun _ _ _ => False) hs rfl
  have next : ∀ a1 w1, Reach cx E (selG L (fun i => listed.getD i false) s0).h w (fun t => t = ({ selG L (fun i => listed.getD i false) s0 with h := r.c.app (selG L (fun i => listed.getD i false) s0).h } : AS).put r.o.dst r.g r.v) a1 w1 →
    wpAnyIn cx.F 0 cx.P .any ops (fun e a' w' => e = .normal ∧ Reach cx E0 s0.h w0 K a' w') fuel (listed.setIfInBounds i true) a1 w1 := by
   rintro a1 w1 ⟨E1, s1, rfl, hs1, he1⟩
   have hS' : ∀ k, (listed.setIfInBounds i true).getD k false = if k = i then true else listed.getD k false := fun k => ziD listed i k (by omega)
   have hfun : (fun k => (listed.setIfInBounds i true).getD k false) = fun k => if k = i then true else listed.getD k false := funext hS'
   have hputh : (({ selG L (fun i => listed.getD i false) s0 with h := r.c.app (selG L (fun i => listed.getD i false) s0).h } : AS).put r.o.dst r.g r.v).h = r.c.app (selG L (fun i => listed.getD i false) s0).h := by unfold AS.put; cases r.o.dst <;> rfl
   have hputg : (({ selG L (fun i => listed.getD i false) s0 with h := r.c.app (selG L (fun i => listed.getD i false) s0).h } : AS).put r.o.dst r.g r.v).g = (selG L (fun i => listed.getD i false) s0).g := by unfold AS.put; cases r.o.dst <;> rfl
   have agree' : ∀ (l : Nat) (r' : RG), L[l]? = some r' → (l < i → confG ops (r'.c.at, r'.rd) (r.c.at, r.rd) r'.o r.o = true) → (i < l → confG ops (r.c.at, r.rd) (r'.c.at, r'.rd) r.o r'.o = true) → (listed.setIfInBounds i true).getD l false = decide (l < i + 1) := fun l r' hr' h1 h2 => by
    rw [hS']
    rcases Nat.lt_trichotomy l i with h | h | h
    ·rw [if_neg (by omega), before l r' hr' h (h1 h), decide_eq_true (by omega)]
    ·subst h; rw [if_pos rfl]; simp
    ·rw [if_neg (by omega), behind l r' hr' h (h2 h), decide_eq_false (by omega)]
   have hlk' : ∀ k, lk (({ selG L (fun i => listed.getD i false) s0 with h := r.c.app (selG L (fun i => listed.getD i false) s0).h } : AS).put r.o.dst r.g r.v).t k = lk (selG L (fun k => (listed.setIfInBounds i true).getD k false) s0).t k := by
    intro k
    rw [zjj]
    split
    ·rename_i hk
     have e1 : lk (selG L (fun k => (listed.setIfInBounds i true).getD k false) s0).t k = lk (lexG L (i + 1) s0).t k :=
      zg8 (Q := fun j => j = k) L _ _ _ _ (fun _ _ => rfl) (fun l r' hr' ⟨d, hd1, hd2⟩ => agree' l r' hr'
       (fun _ => by unfold confG; rw [hd1, hk, hd2]; simp)
       (fun _ => by unfold confG; rw [hd1, hk, hd2]; simp)) k rfl
     rw [e1, zjN L i s0 r hr, ziN, if_pos hk]
    ·rename_i hk
     refine zg8 (Q := fun j => j = k) L _ _ _ _ (fun _ _ => rfl) (fun l r' hr' ⟨d, hd1, hd2⟩ => ?_) k rfl
     rw [hS', if_neg]
     intro e
     subst e
     rw [hr] at hr'; cases hr'
     rw [hd2] at hd1
     exact hk hd1
   have hheap : ∀ k, Go.Aw.hget (({ selG L (fun i => listed.getD i false) s0 with h := r.c.app (selG L (fun i => listed.getD i false) s0).h } : AS).put r.o.dst r.g r.v).h k = Go.Aw.hget (selG L (fun k => (listed.setIfInBounds i true).getD k false) s0).h k := by
    intro k
    rw [hputh, hfun]
    refine (zpA k L i r (fun i => listed.getD i false) s0 hr hSi (fun l r' hr' hl hsl hk hk' => ?_)).symm
    have := behind l r' hr' hl (by
     have := ziO (a := (r.c.at, r.rd)) (b := (r'.c.at, r'.rd)) hk (.inl hk')
     unfold confG; simp [this])
    rw [hsl] at this; cases this
   refine ih (listed.setIfInBounds i true) E1 a1 w1 (by simpa using hsz) (zeT listed i fuel hun' hc) ?_ (hs1.ext hlk' hheap (by rw [hputg, zjM, zjM])) ?_
   ·intro l o' ho' hSl e he' hb
    rw [hS'] at hSl ⊢
    split
    ·rfl
    ·split at hSl
     ·rename_i hli
      subst hli
      exact hdep' o' ho' e he' hb
     ·exact hcl l o' ho' hSl e he' hb
   ·exact (he.trans he1).ext hheap
  unfold wpOpIn
  rw [hoi]
  dsimp only
  split at hw
  ·rename_i hwt
   rw [if_pos hwt]
   exact zaO hw next
  ·rename_i hwt
   rw [if_neg hwt]
   exact ⟨hw.1, next _ _ hw.2⟩
theorem zF {id : Nat} {Q : Exit → AS → Prop} (tab : Tab) (owns : List FuncId) (ht : TabOk cx.P tab) (hm : cx.P.follows .mixedOrders = true) (h : gops cx tab owns ops (top cx.fl s.h) ops.toList [] (Q .normal) s) : AW cx (.region id ops true) Q s := by
 intro E a w hs
 obtain ⟨L, hL, hd, hK, ho⟩ := zjO ht ops.toList _ [] (zeQ _ _) h
 have hs' := hs.drawn
 have hev : Evo cx.fl E s.h w E s.h { w with drawn := w.drawn + 1 } := ⟨rfl, rfl, rfl, Nat.le_refl _, fun _ _ _ _ => rfl, fun _ h => .inl h, fun _ h => h, fun _ h => .inl h, rfl, fun i _ h => ⟨h, GoesOn.refl E _ i⟩⟩
 have h0 : ∀ i, (Array.replicate ops.size false).getD i false = false := fun i => by
  rw [Array.getD_eq_getD_getElem?, Array.getElem?_replicate]
  split <;> rfl
 have hsel : selG L (fun i => (Array.replicate ops.size false).getD i false) s = s := by
  have : (fun i => (Array.replicate ops.size false).getD i false) = fun i => decide (i < 0) := by
   funext i; rw [h0]; simp
  rw [this]
  exact zdE L s
 refine wpIn_mono (wpIn_region_any hm (zpB (by simpa using hd) hL ho hK ops.size (Array.replicate ops.size false) E a _ (by simp) (by rw [Array.toList_replicate, List.countP_replicate]; rfl) (fun i o _ hi => by rw [h0] at hi; cases hi) (by rw [hsel]; exact hs') (by rw [hsel]; exact hev))) ?_
 rintro e a' w' ⟨rfl, hr⟩
 exact hr
theorem zE {id : Nat} {y : Code} {Q : Exit → AS → Prop} (tab : Tab) (owns : List FuncId) (ht : TabOk cx.P tab) (hm : cx.P.follows .mixedOrders = true) (h : ∀ K, (∀ s', AW cx y Q s' → K s') → gops cx tab owns ops (top cx.fl s.h) ops.toList [] K s) : AW cx (.seq (.region id ops true) y) Q s :=
 zq fun K hK => zF tab owns ht hm (h K hK)
end
attribute [go_sem] gops gop chOf Ch.app Ch.at atCx isEff List.contains_cons List.contains_nil Option.map_some
open Go
open Go
def rdy (L : List Bool) (o : Oper) : Bool := o.after.toList.all fun e => !Region.binds .any e || L.getD e.on false
def ziX (f : Nat → Oper → Prop) (L : List Bool) : Nat → List Oper → Prop
 | _, [] => True
 | i, o :: r => (if (!(L.getD i false) && rdy L o) = true then f i o else True) ∧ ziX f L (i + 1) r
def anyR (L : List Bool) : Nat → List Oper → Bool
 | _, [] => false
 | i, o :: r => (!(L.getD i false) && rdy L o) || anyR L (i + 1) r
abbrev Hot := FuncId → List AV → AHeap → Option (AV × AHeap)
def HotOk (P : Program) (fl : Nat) (hot : Hot) : Prop := ∀ f args h r h', hot f args h = some (r, h') → ∀ K : AV → AHeap → Prop, K r h' → ACallAt P fl f args h K
def noHot : Hot := fun _ _ _ => none
theorem zmc (P : Program) (fl : Nat) : HotOk P fl noHot := fun _ _ _ _ _ h => by cases h
open Classical in
noncomputable def hotOf (hot : Hot) (f : FuncId) (args : List AV) (h : AHeap) (r : AV) (h' : AHeap) : Hot := fun f' args' h1 => if ((f' : Nat) == (f : Nat)) = true then (if args' = args ∧ h1 = h then some (r, h') else none) else hot f' args' h1
theorem zmd {P : Program} {fl : Nat} {hot : Hot} (hk : HotOk P fl hot) {f : FuncId} {args : List AV} {h : AHeap} {r : AV} {h' : AHeap} (hc : ∀ K : AV → AHeap → Prop, K r h' → ACallAt P fl f args h K) : HotOk P fl (hotOf hot f args h r h') := by
 intro f1 args1 h1 r1 h1' he K hK
 unfold hotOf at he
 split at he
 ·rename_i hq
  have hq : f1 = f := by simpa using hq
  subst hq
  split at he
  ·rename_i hq
   obtain ⟨rfl, rfl⟩ := hq
   cases he
   exact hc K hK
  ·cases he
 ·exact hk _ _ _ _ _ he K hK
def aopH (cx : Cx) (tab : Tab) (hot : Hot) (G : Bool) (o : Oper) (K : AS → Prop) (s : AS) : Prop :=
 match o.op with
 | .call c => (match zaR cx.P s c with
  | some (f, args, vc) => (match hot f args s.h with
   | some (r, h2) => isVal cx.P (.call c) = false ∧ G = true ∧ dstOk cx.nt o.dst ∧ vc ∧ K ({ s with h := h2 }.put o.dst true r)
   | none => aopY cx tab G o K s)
  | none => aopY cx tab G o K s)
 | _ => aopY cx tab G o K s
def linY (cx : Cx) (tab : Tab) (hot : Hot) (all : Array Oper) (lst : List Oper) (K : AS → Prop) : Nat → List Bool → AS → Prop
 | 0, _, s => K s
 | n + 1, L, s => anyR L 0 lst = true ∧ ziX (fun i o => match zas s all o.guard with
   | some G => aopH cx tab hot G o (linY cx tab hot all lst K n (L.set i true)) s
   | none => False) L 0 lst
section
variable {cx : Cx} {tab : Tab} {hot : Hot} {ops : Array Oper} {K : AS → Prop}
theorem zuT (ht : TabOk cx.P tab) (hh : HotOk cx.P cx.fl hot) {E : Env} {s : AS} {a : Act} {w : World} {all : Array Oper} {o : Oper} {G : Bool} {K : AS → Prop} {Q : Exit → Act → World → Prop} (hs : Sat cx E s a w) (hg : zas s all o.guard = some G) (h : aopH cx tab hot G o K s) :
  if Region.wanted o (yielded all a.tmps) then o.wpIn cx.F 0 cx.P a w (Reach cx E s.h w K) Q else (∀ f, o.about cx.P w a.eval = some f → cx.F.fn f) ∧ Reach cx E s.h w K (a.put o.dst undef) w := by
 unfold aopH at h
 split at h
 ·rename_i c hop
  split at h
  ·rename_i f args vc hco
   split at h
   ·rename_i r h2 hhot
    obtain ⟨h1, rfl, h3, h4, h5⟩ := h
    refine zhW hs hg ⟨h3, ?_⟩
    rw [hop]
    dsimp only
    rw [if_neg (by rw [h1]; simp)]
    refine ⟨fun _ => ?_, fun e => by cases e⟩
    unfold aop1
    rw [hop]
    dsimp only
    rw [if_neg (by rw [h1]; simp), hco]
    exact ⟨h4, hh _ _ _ _ _ hhot _ h5⟩
   ·exact zix ht hs hg h
  ·exact zix ht hs hg h
 ·exact zix ht hs hg h
theorem zgg {F : Fence} {n : Nat} {P : Program} {md : Region.Mode} {Q Q' : Exit → Act → World → Prop} (hq : ∀ a w, Q .normal a w → Q' .normal a w) (hf : ∀ i K a w, wpOpIn F n P ops Q i K a w → wpOpIn F n P ops Q' i K a w) : ∀ (fuel : Nat) (listed : Array Bool) (a : Act) (w : World), wpAnyIn F n P md ops Q fuel listed a w → wpAnyIn F n P md ops Q' fuel listed a w
 | 0, listed, a, w, h => ⟨h.1, hq _ _ h.2⟩
 | fuel + 1, listed, a, w, h => ⟨fun hr => hq _ _ (h.1 hr), fun i hi => hf _ _ _ _ (wpOpIn_mono (fun a w => zgg hq hf fuel _ a w) (h.2 i hi))⟩
theorem znt {f : Nat → Oper → Prop} {L : List Bool} (l : List Oper) : ∀ (k i : Nat) (o : Oper), ziX f L k l → l[i]? = some o → L.getD (k + i) false = false → rdy L o = true → f (k + i) o := by
 induction l with
 | nil => intro k i o h hi; simp at hi
 | cons x r ih =>
  intro k i o h hi h1 h2
  cases i with
  | zero =>
   simp only [List.getElem?_cons_zero, Option.some.injEq] at hi
   subst hi
   have h3 := h.1
   have hc : (!(L.getD k false) && rdy L x) = true := by
    have : L.getD k false = false := h1
    rw [this, h2]; rfl
   rw [if_pos hc] at h3
   exact h3
  | succ i =>
   have hi' : r[i]? = some o := by rw [← hi, List.getElem?_cons_succ]
   have := ih (k + 1) i o h.2 hi' (by rw [← h1]; congr 1; omega) h2
   rwa [show k + 1 + i = k + (i + 1) by omega] at this
theorem zqf {L : List Bool} : ∀ (l : List Oper) (k : Nat), anyR L k l = true → ∃ i o, l[i]? = some o ∧ L.getD (k + i) false = false ∧ rdy L o = true
 | [], k, h => by cases h
 | x :: r, k, h => by
  simp only [anyR, Bool.or_eq_true, Bool.and_eq_true, Bool.not_eq_true'] at h
  rcases h with ⟨h1, h2⟩ | h
  ·exact ⟨0, x, rfl, h1, h2⟩
  ·obtain ⟨i, o, h1, h2, h3⟩ := zqf r (k + 1) h
   exact ⟨i + 1, o, by simpa using h1, by rw [← h2]; congr 1; omega, h3⟩
theorem zc8 (l : Array Bool) (i : Nat) (d : Bool) : l.toList.getD i d = l.getD i d := by
 simp [List.getD_eq_getElem?_getD, Array.getD_eq_getD_getElem?]
theorem zkW (ht : TabOk cx.P tab) (hh : HotOk cx.P cx.fl hot) : ∀ (n : Nat) (listed : Array Bool) {s : AS} {E : Env} {a : Act} {w : World}, listed.size = ops.size → listed.toList.countP (fun b => b == false) = n → Sat cx E s a w → linY cx tab hot ops ops.toList K n listed.toList s →
  wpAnyIn cx.F 0 cx.P .any ops (fun e a' w' => e = .normal ∧ Reach cx E s.h w K a' w') n listed a w
 | 0, listed, s, E, a, w, hsz, hc, hs, h => by
  refine ⟨?_, rfl, zek hs h⟩
  cases hr : Region.ready .any ops listed with
  | nil => rfl
  | cons i l =>
   have hi : i ∈ Region.ready .any ops listed := by rw [hr]; simp
   obtain ⟨h1, o, h2, _⟩ := mem_ready.1 hi
   have hlt : i < ops.size := (Array.getElem?_eq_some_iff.1 h2).1
   have h0 := List.countP_eq_zero.1 hc (listed[i]'(by omega)) (by simp)
   rw [Array.getD_eq_getD_getElem?, Array.getElem?_eq_getElem (by omega)] at h1
   simp only [Option.getD_some] at h1
   rw [h1] at h0
   simp at h0
 | n + 1, listed, s, E, a, w, hsz, hc, hs, h => by
  obtain ⟨hany, halt⟩ := h
  refine ⟨fun hr => ?_, fun i hi => ?_⟩
  ·exfalso
   obtain ⟨i, o, h1, h2, h3⟩ := zqf _ _ hany
   rw [Nat.zero_add, zc8] at h2
   have hlt : i < ops.size := (Array.getElem?_eq_some_iff.1 (by simpa using h1)).1
   have : i ∈ Region.ready .any ops listed := mem_ready.2 ⟨by
    rw [Array.getD_eq_getD_getElem?, Array.getElem?_eq_getElem (by omega)] at h2 ⊢
    simpa using h2, o, by simpa using h1, fun e he hb => by
    have := List.all_eq_true.1 h3 e (by simpa using he)
    rw [hb, zc8] at this
    simpa using this⟩
   rw [hr] at this
   cases this
  ·obtain ⟨h1, o, h2, h3⟩ := mem_ready.1 hi
   have hlt : i < ops.size := (Array.getElem?_eq_some_iff.1 h2).1
   have hl : listed[i]? = some false := by
    rw [Array.getD_eq_getD_getElem?, Array.getElem?_eq_getElem (by omega)] at h1
    rw [Array.getElem?_eq_getElem (by omega)]
    simpa using h1
   have hst := znt ops.toList 0 i o halt (by simpa using h2) (by rw [Nat.zero_add, zc8, Array.getD_eq_getD_getElem?, hl]; rfl) (by
    unfold rdy
    refine List.all_eq_true.2 fun e he => ?_
    rw [zc8]
    cases hb : Region.binds .any e with
    | true => simpa using h3 e (by simpa using he) hb
    | false => rfl)
   rw [Nat.zero_add] at hst
   split at hst
   ·rename_i G hg
    have hcnt : (listed.setIfInBounds i true).toList.countP (fun b => b == false) = n := zeT listed i n hl hc
    have hlist : (listed.setIfInBounds i true).toList = listed.toList.set i true := Array.toList_setIfInBounds ..
    have := zuT ht hh (Q := fun _ _ _ => False) hs hg hst
    have next : ∀ a1 w1, Reach cx E s.h w (linY cx tab hot ops ops.toList K n (listed.toList.set i true)) a1 w1 →
      wpAnyIn cx.F 0 cx.P .any ops (fun e a' w' => e = .normal ∧ Reach cx E s.h w K a' w') n (listed.setIfInBounds i true) a1 w1 := by
     rintro a1 w1 ⟨E1, s1, hk, hs1, he1⟩
     rw [← hlist] at hk
     have ih := zkW ht hh n (listed.setIfInBounds i true) (by simpa using hsz) hcnt hs1 hk
     refine zgg (fun a w h => ⟨rfl, h.2.trans he1⟩) (fun i K a w h => ?_) _ _ _ _ ih
     unfold wpOpIn at h ⊢
     split at h
     ·exact h
     ·split at h
      ·rename_i hw
       rw [if_pos hw]
       exact zgP h (fun _ _ h => h) (fun e a w h => ⟨h.1, h.2.trans he1⟩)
      ·rename_i hw
       rw [if_neg hw]
       exact h
    unfold wpOpIn
    rw [h2]
    dsimp only
    split at this
    ·rename_i hw
     rw [if_pos hw]
     exact zaO this next
    ·rename_i hw
     rw [if_neg hw]
     exact ⟨this.1, next _ _ this.2⟩
   ·exact hst.elim
def zqg (o : Oper) : Bool := o.guard.isNone && (match o.op with | .move _ => true | .nilCheck _ => true | .fieldAddr _ _ _ => true | _ => false)
def preOk (ops : Array Oper) : List Nat → Array Bool → Bool
 | [], _ => true
 | i :: r, L => (match ops[i]? with | some o => zqg o | none => false) && (Region.ready .any ops L).contains i && Region.free .any ops L i && preOk ops r (L.setIfInBounds i true)
def ownP : AV → Bool
 | .vp _ _ => true
 | .tp _ _ => true
 | _ => false
def coldY (cx : Cx) (o : Oper) (K : AS → Prop) (s : AS) : Prop :=
 dstOk cx.nt o.dst ∧ (match o.op with
 | .move x => (s.ev x).1 = true ∧ K (s.put o.dst true ((s.ev x).2.tag cx.P o.type))
 | .nilCheck x => (s.ev x).1 = true ∧ ownP (s.ev x).2 = true ∧ K (s.put o.dst true (s.ev x).2)
 | .fieldAddr t x f => (s.ev x).1 = true ∧ ownP (s.ev x).2 = true ∧ (zV cx.P s t (s.ev x).2 f).1 ∧ K (s.put o.dst true (zV cx.P s t (s.ev x).2 f).2)
 | _ => False)
def preY (cx : Cx) (tab : Tab) (hot : Hot) (all : Array Oper) (lst : List Oper) (n : Nat) (K : AS → Prop) : List Nat → List Bool → AS → Prop
 | [], L, s => linY cx tab hot all lst K n L s
 | i :: r, L, s => (match lst[i]? with
  | some o => coldY cx o (preY cx tab hot all lst n K r (L.set i true)) s
  | none => False)
theorem zs2 {E : Env} {s : AS} {a : Act} {w : World} {o : Oper} {K : AS → Prop} (hs : Sat cx E s a w) (hc : zqg o = true) (h : coldY cx o K s) :
  ∃ v s1, YieldsFenced cx.P ops o v a ∧ K s1 ∧ s1.h = s.h ∧ Sat cx E s1 (a.put o.dst v) w := by
 unfold zqg at hc
 rw [Bool.and_eq_true] at hc
 obtain ⟨hg, hop⟩ := hc
 have hg' : o.guard = none := by simpa using hg
 have hw : Region.wanted o (yielded ops a.tmps) = true := by
  unfold Region.wanted
  rw [hg']
 obtain ⟨hd, h⟩ := h
 have hdst : ∀ k, o.dst = some k → k < cx.nt := fun k e => by rw [e] at hd; exact hd
 have hputh : ∀ (g : Bool) (v : AV), (s.put o.dst g v).h = s.h := fun g v => by unfold AS.put; cases o.dst <;> rfl
 obtain ⟨dst, op, ot, pos, after, guard⟩ := o
 dsimp only at h hdst hputh hop hg' ⊢
 cases op <;> dsimp only at h hop <;> try exact h.elim
 case move x =>
  obtain ⟨hk, hK⟩ := h
  refine ⟨a.eval x, _, ⟨.inl ⟨hw, fun w => rfl⟩, fun w => rfl⟩, hK, hputh _ _, ?_⟩
  exact hs.put hdst (fun _ => Rep.tag (ev_ok hs.slots x hk)) (fun e => by cases e)
 case nilCheck x =>
  obtain ⟨h1, h2, hK⟩ := h
  have hx := ev_ok hs.slots x h1
  refine ⟨a.eval x, _, ⟨.inl ⟨hw, fun w => ?_⟩, fun w => rfl⟩, hK, hputh _ _, hs.put hdst (fun _ => hx) (fun e => by cases e)⟩
  generalize (s.ev x).2 = u at h2 hx
  cases u <;> simp only [ownP, Bool.false_eq_true] at h2
  ·simp only [Rep] at hx
   obtain ⟨b, cs, _, _, hv⟩ := hx
   simp [execOp, hv]
  ·simp only [Rep] at hx
   obtain ⟨b, t', cs, _, _, hv⟩ := hx
   simp [execOp, hv]
 case fieldAddr t x f =>
  obtain ⟨h1, h2, h3, hK⟩ := h
  have hx := ev_ok hs.slots x h1
  have key : ∃ v, (∀ W, (Instr.fieldAt t (a.eval x) f).run cx.P W = .ok v W) ∧ Rep w E s.h (zV cx.P s t (s.ev x).2 f).2 v := by
   generalize (s.ev x).2 = u at h2 hx h3
   unfold zV at h3 ⊢
   split at h3
   ·rename_i off ft hf
    obtain ⟨gs, hg, g, hgf, ho, ht⟩ := zfp hf
    subst ho ht
    cases u <;> simp only [ownP, Bool.false_eq_true] at h2
    ·simp only [Rep] at hx ⊢
     obtain ⟨b, cs, q1, q2, hv⟩ := hx
     refine ⟨_, fun W => ?_, b, cs, q1, q2, rfl⟩
     rw [hv]
     simp only [Instr.fieldAt, Sem.run_bind, run_underlying hg, Result.andThen_ok, hgf, Instr.sureAddr, Sem.run_pure, zaN h3.1 h3.2]
    ·simp only [Rep] at hx ⊢
     obtain ⟨b, t', cs, q1, q2, hv⟩ := hx
     refine ⟨_, fun W => ?_, b, t', cs, q1, q2, rfl⟩
     rw [hv]
     simp only [Instr.fieldAt, Sem.run_bind, run_underlying hg, Result.andThen_ok, hgf, Instr.sureAddr, Sem.run_pure, zaN h3.1 h3.2]
   ·exact h3.elim
  obtain ⟨v, hv, hr⟩ := key
  exact ⟨v, _, ⟨.inl ⟨hw, fun w => by simp [execOp, hv]⟩, fun w => rfl⟩, hK, hputh _ _, hs.put hdst (fun _ => hr) (fun e => by cases e)⟩
theorem zqh (hro : cx.ro = none) (hns : Region.noSelect ops = true) (ht : TabOk cx.P tab) (hh : HotOk cx.P cx.fl hot) : ∀ (pre : List Nat) (n : Nat) (listed : Array Bool) {s : AS} {E : Env} {a : Act} {w : World}, preOk ops pre listed = true → listed.size = ops.size → listed.toList.countP (fun b => b == false) = pre.length + n → Sat cx E s a w → preY cx tab hot ops ops.toList n K pre listed.toList s →
  wpAnyIn cx.F 0 cx.P .any ops (fun e a' w' => e = .normal ∧ Reach cx E s.h w K a' w') (pre.length + n) listed a w
 | [], n, listed, s, E, a, w, _, hsz, hc, hs, h => by
  rw [List.length_nil, Nat.zero_add] at hc ⊢
  exact zkW ht hh n listed hsz hc hs h
 | i :: r, n, listed, s, E, a, w, hp, hsz, hc, hs, h => by
  simp only [preOk, Bool.and_eq_true] at hp
  obtain ⟨⟨⟨p1, p2⟩, p3⟩, p4⟩ := hp
  simp only [preY] at h
  split at p1
  ·rename_i o ho
   rw [show ops.toList[i]? = some o by simpa using ho] at h
   dsimp only at h
   obtain ⟨v, s1, y1, y2, y3, y4⟩ := zs2 (ops := ops) hs p1 h
   have hrd : i ∈ Region.ready .any ops listed := by simpa using p2
   obtain ⟨hun, _⟩ := mem_ready.1 hrd
   have hlt : i < listed.size := by
    rcases Nat.lt_or_ge i listed.size with h' | h'
    ·exact h'
    ·simp [Array.getElem?_eq_none h'] at hun
   have hl : listed[i]? = some false := by
    rw [Array.getD_eq_getD_getElem?, Array.getElem?_eq_getElem hlt] at hun
    rw [Array.getElem?_eq_getElem hlt]
    simpa using hun
   have hcnt : (listed.setIfInBounds i true).toList.countP (fun b => b == false) = r.length + n := zeT listed i _ hl (by rw [hc, List.length_cons]; omega)
   have hlist : (listed.setIfInBounds i true).toList = listed.toList.set i true := Array.toList_setIfInBounds ..
   have ih := zqh hro hns ht hh r n (listed.setIfInBounds i true) p4 (by simpa using hsz) hcnt y4 (by rw [hlist]; exact y2)
   rw [y3] at ih
   have e1 : (i :: r).length + n = (r.length + n) + 1 := by rw [List.length_cons]; omega
   rw [e1]
   exact wpAnyIn_take hro ho hns p3 p2 (fun c a w h => by have := h.1; cases this) y1 ih
  ·cases p1
theorem ziY {s : AS} {id : Nat} {Q : Exit → AS → Prop} (tab : Tab) (hot : Hot) (pre : List Nat) (n : Nat) (hro : cx.ro = none) (hp : (Region.noSelect ops && preOk ops pre (Array.replicate ops.size false) && decide (ops.size = pre.length + n)) = true) (ht : TabOk cx.P tab) (hh : HotOk cx.P cx.fl hot) (hm : cx.P.follows .mixedOrders = true) (h : preY cx tab hot ops ops.toList n (Q .normal) pre (List.replicate ops.size false) s) : AW cx (.region id ops true) Q s := by
 intro E a w hs
 simp only [Bool.and_eq_true, decide_eq_true_eq] at hp
 obtain ⟨⟨p1, p2⟩, p3⟩ := hp
 have hs' := hs.drawn
 have hev : Evo cx.fl E s.h w E s.h { w with drawn := w.drawn + 1 } := ⟨rfl, rfl, rfl, Nat.le_refl _, fun _ _ _ _ => rfl, fun _ h => .inl h, fun _ h => h, fun _ h => .inl h, rfl, fun i _ h => ⟨h, GoesOn.refl E _ i⟩⟩
 have := zqh hro p1 ht hh pre n (Array.replicate ops.size false) (K := Q .normal) p2 (by simp) (by rw [Array.toList_replicate, List.countP_replicate, ← p3]; rfl) hs' (by rw [Array.toList_replicate]; exact h)
 rw [← p3] at this
 refine wpIn_mono (wpIn_region_any hm this) ?_
 rintro e a' w' ⟨rfl, hr⟩
 exact hr.trans hev
theorem zfR {s : AS} {id : Nat} {y : Code} {Q : Exit → AS → Prop} (tab : Tab) (hot : Hot) (pre : List Nat) (n : Nat) (hro : cx.ro = none) (hp : (Region.noSelect ops && preOk ops pre (Array.replicate ops.size false) && decide (ops.size = pre.length + n)) = true) (ht : TabOk cx.P tab) (hh : HotOk cx.P cx.fl hot) (hm : cx.P.follows .mixedOrders = true) (s1 : AS) (h : preY cx tab hot ops ops.toList n (fun s' => s'.le s1) pre (List.replicate ops.size false) s) (h2 : AW cx y Q s1) : AW cx (.seq (.region id ops true) y) Q s :=
 zur s1 (ziY tab hot pre n hro hp ht hh hm h) h2
theorem ziZ {s : AS} {id : Nat} {Q : Exit → AS → Prop} (tab : Tab) (hot : Hot) (ht : TabOk cx.P tab) (hh : HotOk cx.P cx.fl hot) (hm : cx.P.follows .mixedOrders = true) (h : linY cx tab hot ops ops.toList (Q .normal) ops.size (List.replicate ops.size false) s) : AW cx (.region id ops true) Q s := by
 intro E a w hs
 have hs' := hs.drawn
 have hev : Evo cx.fl E s.h w E s.h { w with drawn := w.drawn + 1 } := ⟨rfl, rfl, rfl, Nat.le_refl _, fun _ _ _ _ => rfl, fun _ h => .inl h, fun _ h => h, fun _ h => .inl h, rfl, fun i _ h => ⟨h, GoesOn.refl E _ i⟩⟩
 refine wpIn_mono (wpIn_region_any hm (zkW ht hh ops.size (Array.replicate ops.size false) (by simp) (by rw [Array.toList_replicate, List.countP_replicate]; rfl) hs' (by rw [Array.toList_replicate]; exact h))) ?_
 rintro e a' w' ⟨rfl, hr⟩
 exact hr.trans hev
end
attribute [go_sem] linY ziX anyR rdy Region.binds aopH noHot hotOf preY coldY ownP
open Go
theorem ACall.one {P : Program} {f : FuncId} {args : List AV} {fl fl' i : Nat} {ob : AObj} {h h2 : AHeap} {R : AV → AObj → Prop} (hc : ACall P f fl args [(i, ob)] (fun r h' => ∃ ob', h' = [(i, ob')] ∧ R r ob'))
  (h1 : hsel (fun j => decide (j = i) || decide (fl ≤ j)) h = [(i, ob)]) (h2e : hsel (fun j => !(decide (j = i) || decide (fl ≤ j))) h = h2) (hfl : ∀ i, (hget h i).isSome → i < fl) (hg : hget h i = some ob)
  (hcl : ∀ j ∈ ob.ids, j = i) (ha : ∀ j ∈ AV.idsL args, j = i) (hle : fl' ≤ fl) : ACallAt P fl' f args h (fun r h' => ∃ ob', R r ob' ∧ h' = (i, ob') :: h2) := by
 have hi : i < fl := hfl i (by simp [hg])
 have := ACall.frame (P := P) (f := f) (args := args) (fl := fl) (fl' := fl') (h := h) (p := fun j => decide (j = i) || decide (fl ≤ j)) (K := fun r h' => ∃ ob', h' = [(i, ob')] ∧ R r ob') (by rw [h1]; exact hc) hfl (fun j hj => by simp; exact .inr hj)
  (fun j o ho hp k hk => by
   have hj := hfl j (by simp [ho])
   have : j = i := by
    have : j = i ∨ fl ≤ j := by simpa using hp
    omega
   subst this
   rw [hg] at ho; cases ho
   simp [hcl k hk]) (fun j hj => by simp [ha j hj]) hle (fun r h' ⟨ob', he, _⟩ => by
    subst he
    refine ⟨fun j hj hp => ?_, fun j hj => ?_⟩
    ·have hjl := hfl j hj
     have : j = i := by
      have : j = i ∨ fl ≤ j := by simpa using hp
      omega
     subst this
     simp [hget]
    ·simp only [hget] at hj
     split at hj
     ·rename_i e; simp [e]
     ·simp at hj)
 refine this.mono ?_
 rintro r h' ⟨h1', ⟨ob', rfl, hR⟩, rfl⟩
 rw [h2e]
 exact ⟨ob', hR, rfl⟩
theorem zmg : ∀ {h : AHeap} {i : Nat} {o : AObj}, hget h i = some o → (i, o) ∈ h
  | [], i, o, hg => by simp [hget] at hg
  | (k, x) :: r, i, o, hg => by
    simp only [hget] at hg
    split at hg
    · rename_i e; subst e; cases hg; exact List.mem_cons_self ..
    · exact List.mem_cons_of_mem _ (zmg hg)
theorem zW {P : Program} {f : FuncId} {args : List AV} {fl : Nat} {h : AHeap} {K : AV → AHeap → Prop} (p : Nat → Bool) (hc : ACall P f fl args h (fun r h' => (hsel p h').all (fun q => q.2.ids.all p) = true ∧ r.ids.all p = true ∧ K r (hsel p h'))) : ACall P f fl args h K := by
 refine ⟨hc.1, fun E w vs hs hr => (hc.2 E w vs hs hr).mono ?_⟩
 rintro e w' ⟨v, E', r, h', h1, ⟨h2, h3, h4⟩, h5, h6, h7⟩
 have hcl : zh0 p h' := fun i o ho hp j hj => by
  have hg : hget (hsel p h') i = some o := by rw [zC, if_pos hp]; exact ho
  have := List.all_eq_true.1 h2 _ (zmg hg)
  exact List.all_eq_true.1 this j hj
 refine ⟨v, E', r, hsel p h', h1, h4, zku h5 hcl, zoJ (fun j hj => List.all_eq_true.1 h3 j hj) h6, ?_⟩
 refine ⟨h7.os, h7.tape, h7.output, h7.size, h7.keep, fun b ho => h7.own b (zG ho), h7.m, h7.n, fun i hi hl => ?_⟩
 rw [zC] at hl
 by_cases hp : p i = true
 ·rw [if_pos hp] at hl
  obtain ⟨g1, g2⟩ := h7.go i hi hl
  exact ⟨g1, g2.trans (zcb i hp)⟩
 ·rw [if_neg hp] at hl
  cases hl
attribute [go_sem] AObj.ids List.all_nil List.all_cons List.all_append
open Go Go.Proofs
@[go_sem] theorem ty3 : ty Go.Proofs.Tryz.prog 3 = ⟨.int .i64, 1, 8⟩ := by kernel_rfl
@[go_sem] theorem zk3 : z2 Go.Proofs.Tryz.prog 3 = true := by kernel_rfl
@[go_sem] theorem tt3 : zZ Go.Proofs.Tryz.prog 12 3 = false := by kernel_rfl
@[go_sem] theorem zc3 : zS Go.Proofs.Tryz.prog 12 3 = [.d (.int .i64 0)] := by kernel_rfl
@[go_sem] theorem ty4 : ty Go.Proofs.Tryz.prog 4 = ⟨.bool, 1, 1⟩ := by kernel_rfl
@[go_sem] theorem zk4 : z2 Go.Proofs.Tryz.prog 4 = true := by kernel_rfl
@[go_sem] theorem tt4 : zZ Go.Proofs.Tryz.prog 12 4 = false := by kernel_rfl
@[go_sem] theorem zc4 : zS Go.Proofs.Tryz.prog 12 4 = [.d (.bool false)] := by kernel_rfl
@[go_sem] theorem ty5 : ty Go.Proofs.Tryz.prog 5 = ⟨.int .u8, 1, 1⟩ := by kernel_rfl
@[go_sem] theorem zk5 : z2 Go.Proofs.Tryz.prog 5 = true := by kernel_rfl
@[go_sem] theorem zc5 : zS Go.Proofs.Tryz.prog 12 5 = [.d (.int .u8 0)] := by kernel_rfl
@[go_sem] theorem ty9 : ty Go.Proofs.Tryz.prog 9 = ⟨.str, 1, 16⟩ := by kernel_rfl
@[go_sem] theorem zk9 : z2 Go.Proofs.Tryz.prog 9 = true := by kernel_rfl
@[go_sem] theorem tt9 : zZ Go.Proofs.Tryz.prog 12 9 = false := by kernel_rfl
@[go_sem] theorem zc9 : zS Go.Proofs.Tryz.prog 12 9 = [.d (.str [])] := by kernel_rfl
@[go_sem] theorem ty21 : ty Go.Proofs.Tryz.prog 21 = ⟨.int .i32, 1, 4⟩ := by kernel_rfl
@[go_sem] theorem ty22 : ty Go.Proofs.Tryz.prog 22 = ⟨.slice 148, 1, 24⟩ := by kernel_rfl
@[go_sem] theorem tt22 : zZ Go.Proofs.Tryz.prog 12 22 = false := by kernel_rfl
@[go_sem] theorem ty23 : ty Go.Proofs.Tryz.prog 23 = ⟨.slice 3, 1, 24⟩ := by kernel_rfl
@[go_sem] theorem tt23 : zZ Go.Proofs.Tryz.prog 12 23 = false := by kernel_rfl
@[go_sem] theorem ty25 : ty Go.Proofs.Tryz.prog 25 = ⟨.struct [(0, 9), (1, 22), (2, 3), (3, 4), (4, 23)], 5, 80⟩ := by kernel_rfl
@[go_sem] theorem zk25 : z2 Go.Proofs.Tryz.prog 25 = true := by kernel_rfl
@[go_sem] theorem tt25 : zZ Go.Proofs.Tryz.prog 12 25 = false := by kernel_rfl
@[go_sem] theorem zc25 : zS Go.Proofs.Tryz.prog 12 25 = [.d (.str []), .nils 2, .d (.int .i64 0), .d (.bool false), .nils 1] := by kernel_rfl
@[go_sem] theorem ty27 : ty Go.Proofs.Tryz.prog 27 = ⟨.struct [(0, 3), (1, 3)], 2, 16⟩ := by kernel_rfl
@[go_sem] theorem zk27 : z2 Go.Proofs.Tryz.prog 27 = true := by kernel_rfl
@[go_sem] theorem tt27 : zZ Go.Proofs.Tryz.prog 12 27 = false := by kernel_rfl
@[go_sem] theorem zc27 : zS Go.Proofs.Tryz.prog 12 27 = [.d (.int .i64 0), .d (.int .i64 0)] := by kernel_rfl
@[go_sem] theorem si27 : (Go.Proofs.Tryz.prog.stoodInHeld 27) = false := by kernel_rfl
@[go_sem] theorem eg27 : (Go.Proofs.Tryz.prog.eqGuardType Go.Proofs.Tryz.prog.depth 27) = false := by kernel_rfl
@[go_sem] theorem ty28 : ty Go.Proofs.Tryz.prog 28 = ⟨.int .u64, 1, 8⟩ := by kernel_rfl
@[go_sem] theorem tt28 : zZ Go.Proofs.Tryz.prog 12 28 = false := by kernel_rfl
@[go_sem] theorem ty30 : ty Go.Proofs.Tryz.prog 30 = ⟨.struct [(0, 28), (1, 3)], 2, 16⟩ := by kernel_rfl
@[go_sem] theorem zk30 : z2 Go.Proofs.Tryz.prog 30 = true := by kernel_rfl
@[go_sem] theorem tt30 : zZ Go.Proofs.Tryz.prog 12 30 = false := by kernel_rfl
@[go_sem] theorem zc30 : zS Go.Proofs.Tryz.prog 12 30 = [.d (.int .u64 0), .d (.int .i64 0)] := by kernel_rfl
@[go_sem] theorem si30 : (Go.Proofs.Tryz.prog.stoodInHeld 30) = false := by kernel_rfl
@[go_sem] theorem eg30 : (Go.Proofs.Tryz.prog.eqGuardType Go.Proofs.Tryz.prog.depth 30) = false := by kernel_rfl
@[go_sem] theorem ty31 : ty Go.Proofs.Tryz.prog 31 = ⟨.slice 66, 1, 24⟩ := by kernel_rfl
@[go_sem] theorem ty33 : ty Go.Proofs.Tryz.prog 33 = ⟨.struct [(0, 25), (5, 27), (7, 30), (9, 31), (10, 4)], 11, 144⟩ := by kernel_rfl
@[go_sem] theorem zk33 : z2 Go.Proofs.Tryz.prog 33 = true := by kernel_rfl
@[go_sem] theorem tt33 : zZ Go.Proofs.Tryz.prog 12 33 = false := by kernel_rfl
@[go_sem] theorem zc33 : zS Go.Proofs.Tryz.prog 12 33 = [.d (.str []), .nils 2, .d (.int .i64 0), .d (.bool false), .nils 1, .d (.int .i64 0), .d (.int .i64 0), .d (.int .u64 0), .d (.int .i64 0), .nils 66, .d (.bool false)] := by kernel_rfl
@[go_sem] theorem ty34 : ty Go.Proofs.Tryz.prog 34 = ⟨.slice 9, 1, 24⟩ := by kernel_rfl
@[go_sem] theorem zk34 : z2 Go.Proofs.Tryz.prog 34 = true := by kernel_rfl
@[go_sem] theorem tt34 : zZ Go.Proofs.Tryz.prog 12 34 = false := by kernel_rfl
@[go_sem] theorem zc34 : zS Go.Proofs.Tryz.prog 12 34 = [.nils 1] := by kernel_rfl
@[go_sem] theorem ty36 : ty Go.Proofs.Tryz.prog 36 = ⟨.struct [(0, 23), (1, 34)], 2, 48⟩ := by kernel_rfl
@[go_sem] theorem zk36 : z2 Go.Proofs.Tryz.prog 36 = true := by kernel_rfl
@[go_sem] theorem tt36 : zZ Go.Proofs.Tryz.prog 12 36 = false := by kernel_rfl
@[go_sem] theorem zc36 : zS Go.Proofs.Tryz.prog 12 36 = [.nils 1, .nils 1] := by kernel_rfl
@[go_sem] theorem ty40 : ty Go.Proofs.Tryz.prog 40 = ⟨.int .i64, 1, 8⟩ := by kernel_rfl
@[go_sem] theorem zk40 : z2 Go.Proofs.Tryz.prog 40 = true := by kernel_rfl
@[go_sem] theorem tt40 : zZ Go.Proofs.Tryz.prog 12 40 = false := by kernel_rfl
@[go_sem] theorem zc40 : zS Go.Proofs.Tryz.prog 12 40 = [.d (.int .i64 0)] := by kernel_rfl
@[go_sem] theorem ty54 : ty Go.Proofs.Tryz.prog 54 = ⟨.int .u32, 1, 4⟩ := by kernel_rfl
@[go_sem] theorem zk54 : z2 Go.Proofs.Tryz.prog 54 = true := by kernel_rfl
@[go_sem] theorem tt54 : zZ Go.Proofs.Tryz.prog 12 54 = false := by kernel_rfl
@[go_sem] theorem zc54 : zS Go.Proofs.Tryz.prog 12 54 = [.d (.int .u32 0)] := by kernel_rfl
@[go_sem] theorem ty56 : ty Go.Proofs.Tryz.prog 56 = ⟨.struct [(0, 3), (1, 54)], 2, 16⟩ := by kernel_rfl
@[go_sem] theorem zk56 : z2 Go.Proofs.Tryz.prog 56 = true := by kernel_rfl
@[go_sem] theorem tt56 : zZ Go.Proofs.Tryz.prog 12 56 = false := by kernel_rfl
@[go_sem] theorem zc56 : zS Go.Proofs.Tryz.prog 12 56 = [.d (.int .i64 0), .d (.int .u32 0)] := by kernel_rfl
@[go_sem] theorem ty64 : ty Go.Proofs.Tryz.prog 64 = ⟨.arr 64 4, 64, 64⟩ := by kernel_rfl
@[go_sem] theorem ty66 : ty Go.Proofs.Tryz.prog 66 = ⟨.struct [(0, 9), (1, 4), (2, 64)], 66, 88⟩ := by kernel_rfl
@[go_sem] theorem zk66 : z2 Go.Proofs.Tryz.prog 66 = true := by kernel_rfl
@[go_sem] theorem tt66 : zZ Go.Proofs.Tryz.prog 12 66 = false := by kernel_rfl
@[go_sem] theorem zc66 : zS Go.Proofs.Tryz.prog 12 66 = [.d (.str []), .d (.bool false)] ++ List.replicate 64 (.d (.bool false)) := by kernel_rfl
@[go_sem] theorem eg66 : (Go.Proofs.Tryz.prog.eqGuardType Go.Proofs.Tryz.prog.depth 66) = false := by kernel_rfl
@[go_sem] theorem ty72 : ty Go.Proofs.Tryz.prog 72 = ⟨.struct [(0, 3), (1, 3)], 2, 16⟩ := by kernel_rfl
@[go_sem] theorem zk72 : z2 Go.Proofs.Tryz.prog 72 = true := by kernel_rfl
@[go_sem] theorem tt72 : zZ Go.Proofs.Tryz.prog 12 72 = false := by kernel_rfl
@[go_sem] theorem zc72 : zS Go.Proofs.Tryz.prog 12 72 = [.d (.int .i64 0), .d (.int .i64 0)] := by kernel_rfl
@[go_sem] theorem ty83 : ty Go.Proofs.Tryz.prog 83 = ⟨.slice 5, 1, 24⟩ := by kernel_rfl
@[go_sem] theorem zk83 : z2 Go.Proofs.Tryz.prog 83 = true := by kernel_rfl
@[go_sem] theorem tt83 : zZ Go.Proofs.Tryz.prog 12 83 = false := by kernel_rfl
@[go_sem] theorem zc83 : zS Go.Proofs.Tryz.prog 12 83 = [.nils 1] := by kernel_rfl
@[go_sem] theorem ty84 : ty Go.Proofs.Tryz.prog 84 = ⟨.ptr 86, 1, 8⟩ := by kernel_rfl
@[go_sem] theorem tt84 : zZ Go.Proofs.Tryz.prog 12 84 = false := by kernel_rfl
@[go_sem] theorem ty86 : ty Go.Proofs.Tryz.prog 86 = ⟨.struct [(0, 33), (11, 3), (12, 3), (13, 9), (14, 56), (16, 72), (18, 36), (20, 3), (21, 9)], 22, 280⟩ := by kernel_rfl
@[go_sem] theorem zk86 : z2 Go.Proofs.Tryz.prog 86 = true := by kernel_rfl
@[go_sem] theorem tt86 : zZ Go.Proofs.Tryz.prog 12 86 = false := by kernel_rfl
@[go_sem] theorem zc86 : zS Go.Proofs.Tryz.prog 12 86 = [.d (.str []), .nils 2, .d (.int .i64 0), .d (.bool false), .nils 1, .d (.int .i64 0), .d (.int .i64 0), .d (.int .u64 0), .d (.int .i64 0), .nils 66, .d (.bool false), .d (.int .i64 0), .d (.int .i64 0), .d (.str []), .d (.int .i64 0), .d (.int .u32 0), .d (.int .i64 0), .d (.int .i64 0), .nils 1, .nils 1, .d (.int .i64 0), .d (.str [])] := by kernel_rfl
@[go_sem] theorem ty87 : ty Go.Proofs.Tryz.prog 87 = ⟨.func, 1, 8⟩ := by kernel_rfl
@[go_sem] theorem zk87 : z2 Go.Proofs.Tryz.prog 87 = true := by kernel_rfl
@[go_sem] theorem zc87 : zS Go.Proofs.Tryz.prog 12 87 = [.nilfn] := by kernel_rfl
@[go_sem] theorem ty88 : ty Go.Proofs.Tryz.prog 88 = ⟨.slice 87, 1, 24⟩ := by kernel_rfl
@[go_sem] theorem ty121 : ty Go.Proofs.Tryz.prog 121 = ⟨.func, 1, 8⟩ := by kernel_rfl
@[go_sem] theorem tt121 : zZ Go.Proofs.Tryz.prog 12 121 = false := by kernel_rfl
@[go_sem] theorem zk133 : z2 Go.Proofs.Tryz.prog 133 = true := by kernel_rfl
@[go_sem] theorem tt133 : zZ Go.Proofs.Tryz.prog 12 133 = true := by kernel_rfl
@[go_sem] theorem zc133 : zS Go.Proofs.Tryz.prog 12 133 = [.d .nilp, .nils 1] := by kernel_rfl
@[go_sem] theorem ty148 : ty Go.Proofs.Tryz.prog 148 = ⟨.struct [(0, 3), (1, 9)], 2, 24⟩ := by kernel_rfl
@[go_sem] theorem zk148 : z2 Go.Proofs.Tryz.prog 148 = true := by kernel_rfl
@[go_sem] theorem tt148 : zZ Go.Proofs.Tryz.prog 12 148 = false := by kernel_rfl
@[go_sem] theorem zc148 : zS Go.Proofs.Tryz.prog 12 148 = [.d (.int .i64 0), .d (.str [])] := by kernel_rfl
@[go_sem] theorem si148 : (Go.Proofs.Tryz.prog.stoodInHeld 148) = false := by kernel_rfl
@[go_sem] theorem eg148 : (Go.Proofs.Tryz.prog.eqGuardType Go.Proofs.Tryz.prog.depth 148) = false := by kernel_rfl
@[go_sem] theorem ty167 : ty Go.Proofs.Tryz.prog 167 = ⟨.struct [(0, 28), (1, 36)], 3, 56⟩ := by kernel_rfl
@[go_sem] theorem zk167 : z2 Go.Proofs.Tryz.prog 167 = true := by kernel_rfl
@[go_sem] theorem tt167 : zZ Go.Proofs.Tryz.prog 12 167 = false := by kernel_rfl
@[go_sem] theorem zc167 : zS Go.Proofs.Tryz.prog 12 167 = [.d (.int .u64 0), .nils 1, .nils 1] := by kernel_rfl
@[go_sem] theorem ty172 : ty Go.Proofs.Tryz.prog 172 = ⟨.struct [(0, 25), (5, 40)], 6, 88⟩ := by kernel_rfl
@[go_sem] theorem zk172 : z2 Go.Proofs.Tryz.prog 172 = true := by kernel_rfl
@[go_sem] theorem tt172 : zZ Go.Proofs.Tryz.prog 12 172 = false := by kernel_rfl
@[go_sem] theorem zc172 : zS Go.Proofs.Tryz.prog 12 172 = [.d (.str []), .nils 2, .d (.int .i64 0), .d (.bool false), .nils 1, .d (.int .i64 0)] := by kernel_rfl
@[go_sem] theorem ty174 : ty Go.Proofs.Tryz.prog 174 = ⟨.func, 1, 8⟩ := by kernel_rfl
@[go_sem] theorem zk174 : z2 Go.Proofs.Tryz.prog 174 = true := by kernel_rfl
@[go_sem] theorem zc174 : zS Go.Proofs.Tryz.prog 12 174 = [.nilfn] := by kernel_rfl
@[go_sem] theorem ty184 : ty Go.Proofs.Tryz.prog 184 = ⟨.func, 1, 8⟩ := by kernel_rfl
@[go_sem] theorem tt184 : zZ Go.Proofs.Tryz.prog 12 184 = false := by kernel_rfl
@[go_sem] theorem ty213 : ty Go.Proofs.Tryz.prog 213 = ⟨.ptr 215, 1, 8⟩ := by kernel_rfl
@[go_sem] theorem tt213 : zZ Go.Proofs.Tryz.prog 12 213 = false := by kernel_rfl
@[go_sem] theorem ty215 : ty Go.Proofs.Tryz.prog 215 = ⟨.struct [(0, 36), (2, 27), (4, 25), (9, 40)], 10, 152⟩ := by kernel_rfl
@[go_sem] theorem zk215 : z2 Go.Proofs.Tryz.prog 215 = true := by kernel_rfl
@[go_sem] theorem tt215 : zZ Go.Proofs.Tryz.prog 12 215 = false := by kernel_rfl
@[go_sem] theorem zc215 : zS Go.Proofs.Tryz.prog 12 215 = [.nils 1, .nils 1, .d (.int .i64 0), .d (.int .i64 0), .d (.str []), .nils 2, .d (.int .i64 0), .d (.bool false), .nils 1, .d (.int .i64 0)] := by kernel_rfl
@[go_sem] theorem ty225 : ty Go.Proofs.Tryz.prog 225 = ⟨.slice 174, 1, 24⟩ := by kernel_rfl
@[go_sem] theorem ty238 : ty Go.Proofs.Tryz.prog 238 = ⟨.arr 4 5, 4, 4⟩ := by kernel_rfl
@[go_sem] theorem zk238 : z2 Go.Proofs.Tryz.prog 238 = true := by kernel_rfl
@[go_sem] theorem tt238 : zZ Go.Proofs.Tryz.prog 12 238 = false := by kernel_rfl
@[go_sem] theorem zc238 : zS Go.Proofs.Tryz.prog 12 238 = [.d (.int .u8 0), .d (.int .u8 0), .d (.int .u8 0), .d (.int .u8 0)] := by kernel_rfl
@[go_sem] theorem ty248 : ty Go.Proofs.Tryz.prog 248 = ⟨.func, 1, 8⟩ := by kernel_rfl
@[go_sem] theorem tt248 : zZ Go.Proofs.Tryz.prog 12 248 = false := by kernel_rfl
@[go_sem] theorem ty251 : ty Go.Proofs.Tryz.prog 251 = ⟨.map 3 4, 1, 8⟩ := by kernel_rfl
@[go_sem] theorem zk251 : z2 Go.Proofs.Tryz.prog 251 = true := by kernel_rfl
@[go_sem] theorem tt251 : zZ Go.Proofs.Tryz.prog 12 251 = false := by kernel_rfl
@[go_sem] theorem zc251 : zS Go.Proofs.Tryz.prog 12 251 = [.nilmap] := by kernel_rfl
@[go_sem] theorem ty268 : ty Go.Proofs.Tryz.prog 268 = ⟨.bst [(0, 259), (0, 262), (1, 266)], 3, 12⟩ := by kernel_rfl
@[go_sem] theorem ty269 : ty Go.Proofs.Tryz.prog 269 = ⟨.arr 256 54, 256, 1024⟩ := by kernel_rfl
@[go_sem] theorem ty271 : ty Go.Proofs.Tryz.prog 271 = ⟨.struct [(0, 268), (3, 269)], 259, 1036⟩ := by kernel_rfl
@[go_sem] theorem zk271 : z2 Go.Proofs.Tryz.prog 271 = true := by kernel_rfl
@[go_sem] theorem tt271 : zZ Go.Proofs.Tryz.prog 12 271 = false := by kernel_rfl
@[go_sem] theorem zc271 : zS Go.Proofs.Tryz.prog 12 271 = [.d (.int .u32 0), .d (.int .i32 0), .d (.int .u32 0)] ++ List.replicate 256 (.d (.int .u32 0)) := by kernel_rfl
@[go_sem] theorem ty278 : ty Go.Proofs.Tryz.prog 278 = ⟨.slice 36, 1, 24⟩ := by kernel_rfl
theorem mx : Go.Proofs.Tryz.prog.follows .mixedOrders = true := by kernel_rfl
end Go.Aw
namespace Go.Proofs
open Go.Shelf
def Tryz.lays99_ren : Go.Shelf.Ren := ⟨fun | 99 => 82 | 206 => 135 | n => n, fun | 9 => 9 | 4 => 4 | 3 => 3 | n => n, fun | n => n⟩
theorem Tryz.lays99 : Go.Proofs.Lays.n99 Tryz.prog Tryz.lays99_ren := {
 mixed := by kernel_rfl
 f99 := Tryz.func82.trans (congrArg some (by kernel_rfl))
 f206 := Tryz.func135.trans (congrArg some (by kernel_rfl))
 t3 := Tryz.underlying3
 a3 := Tryz.isAgg3
 z3 := Tryz.sizeOf3
 v3 := Tryz.zeroValue3
 t4 := Tryz.underlying4
 a4 := Tryz.isAgg4
 z4 := Tryz.sizeOf4
 v4 := Tryz.zeroValue4
 t9 := Tryz.underlying9
 a9 := Tryz.isAgg9
 z9 := Tryz.sizeOf9
 v9 := Tryz.zeroValue9 }
open Go.RowKit Go.Lib in
theorem Tryz.strings_HasPrefix (s p : ByteArray) (w : World) :
  Calls Tryz.prog 82 #[.string s, .string p] w fun e w' => e = .returned (.bool (Lib.hasPrefix s.data.toList p.data.toList)) ∧ w' = w := Any.strings_HasPrefix Tryz.lays99 s p w
def Tryz.lays105_ren : Go.Shelf.Ren := ⟨fun | 105 => 30 | 212 => 81 | 99 => 82 | 165 => 83 | 166 => 84 | 170 => 85 | 169 => 86 | 263 => 133 | 264 => 134 | 206 => 135 | 240 => 136 | 241 => 137 | 276 => 180 | 277 => 181 | n => n, fun | 9 => 9 | 3 => 3 | 4 => 4 | 20 => 20 | 0 => 0 | 46 => 127 | 109 => 128 | 5 => 5 | 72 => 133 | 76 => 137 | 51 => 54 | 146 => 196 | 53 => 28 | 148 => 198 | 70 => 131 | 37 => 83 | 75 => 136 | 127 => 200 | 164 => 234 | 80 => 140 | n => n, fun | n => n⟩
theorem Tryz.lays105 : Go.Proofs.Lays.n105 Tryz.prog Tryz.lays105_ren := {
 mixed := by kernel_rfl
 f99 := Tryz.func82.trans (congrArg some (by kernel_rfl))
 f105 := Tryz.func30.trans (congrArg some (by kernel_rfl))
 f165 := Tryz.func83.trans (congrArg some (by kernel_rfl))
 f166 := Tryz.func84.trans (congrArg some (by kernel_rfl))
 f169 := Tryz.func86.trans (congrArg some (by kernel_rfl))
 f170 := Tryz.func85.trans (congrArg some (by kernel_rfl))
 f206 := Tryz.func135.trans (congrArg some (by kernel_rfl))
 f212 := Tryz.func81.trans (congrArg some (by kernel_rfl))
 f240 := Tryz.func136.trans (congrArg some (by kernel_rfl))
 f241 := Tryz.func137.trans (congrArg some (by kernel_rfl))
 f263 := Tryz.func133.trans (congrArg some (by kernel_rfl))
 f264 := Tryz.func134.trans (congrArg some (by kernel_rfl))
 f276 := Tryz.func180.trans (congrArg some (by kernel_rfl))
 f277 := Tryz.func181.trans (congrArg some (by kernel_rfl))
 t0 := Tryz.underlying0
 a0 := Tryz.isAgg0
 z0 := Tryz.sizeOf0
 v0 := Tryz.zeroValue0
 t3 := Tryz.underlying3
 a3 := Tryz.isAgg3
 z3 := Tryz.sizeOf3
 v3 := Tryz.zeroValue3
 t4 := Tryz.underlying4
 a4 := Tryz.isAgg4
 z4 := Tryz.sizeOf4
 v4 := Tryz.zeroValue4
 t5 := Tryz.underlying5
 a5 := Tryz.isAgg5
 z5 := Tryz.sizeOf5
 v5 := Tryz.zeroValue5
 t9 := Tryz.underlying9
 a9 := Tryz.isAgg9
 z9 := Tryz.sizeOf9
 v9 := Tryz.zeroValue9
 t20 := Tryz.underlying20
 a20 := Tryz.isAgg20
 z20 := Tryz.sizeOf20
 v20 := Tryz.zeroValue20
 t37 := Tryz.underlying83
 a37 := Tryz.isAgg83
 z37 := Tryz.sizeOf83
 v37 := Tryz.zeroValue83
 t46 := Tryz.underlying127
 a46 := Tryz.isAgg127
 z46 := Tryz.sizeOf127
 v46 := Tryz.zeroValue127
 t51 := Tryz.underlying54
 a51 := Tryz.isAgg54
 z51 := Tryz.sizeOf54
 v51 := Tryz.zeroValue54
 t53 := Tryz.underlying28
 a53 := Tryz.isAgg28
 z53 := Tryz.sizeOf28
 v53 := Tryz.zeroValue28
 t70 := Tryz.underlying131
 a70 := Tryz.isAgg131
 z70 := Tryz.sizeOf131
 v70 := Tryz.zeroValue131
 t72 := Tryz.underlying133
 a72 := Tryz.isAgg133
 z72 := Tryz.sizeOf133
 v72 := Tryz.zeroValue133
 t75 := Tryz.underlying136
 a75 := Tryz.isAgg136
 z75 := Tryz.sizeOf136
 v75 := Tryz.zeroValue136
 t76 := Tryz.underlying137
 a76 := Tryz.isAgg137
 z76 := Tryz.sizeOf137
 v76 := Tryz.zeroValue137
 t109 := Tryz.underlying128
 a109 := Tryz.isAgg128
 z109 := Tryz.sizeOf128
 v109 := Tryz.zeroValue128
 t127 := Tryz.underlying200
 a127 := Tryz.isAgg200
 z127 := Tryz.sizeOf200
 v127 := Tryz.zeroValue200
 t146 := Tryz.underlying196
 a146 := Tryz.isAgg196
 z146 := Tryz.sizeOf196
 v146 := Tryz.zeroValue196
 t148 := Tryz.underlying198
 a148 := Tryz.isAgg198
 z148 := Tryz.sizeOf198
 v148 := Tryz.zeroValue198
 t164 := Tryz.underlying234
 a164 := Tryz.isAgg234
 z164 := Tryz.sizeOf234
 v164 := Tryz.zeroValue234 }
theorem Tryz.Builder_Extra_105 : Builder.Extra Tryz.prog Tryz.lays105_ren := {
 sizeBuilder := by kernel_rfl
 liesBuilder := by kernel_rfl
 t5 := Tryz.underlying5
 a5 := Tryz.isAgg5
 z5 := Tryz.sizeOf5
 v5 := Tryz.zeroValue5
 infoByte := by kernel_rfl
 cellsByte := by kernel_rfl
 sizeByte := by kernel_rfl
 neB5 := by decide }
open Go.RowKit Go.Lib in
theorem Tryz.strings_Repeat (s : ByteArray) (c : Nat) (w : World) (hc : c ≤ 9223372036854775807) (hlen : s.size * c ≤ 140737488355328) :
  Calls Tryz.prog 30 #[.string s, .int .i64 c] w fun e w' => e = .returned (.string ⟨(Lib.repeatL s.data.toList c).toArray⟩) ∧ Below w.heap.size w w' := Any.strings_Repeat Tryz.lays105 Tryz.Builder_Extra_105 s c w hc hlen
end Go.Proofs
namespace Go.Aw
open Go Go.Proofs Go.RowKit
theorem zg0 {P : Program} {f : FuncId} {args : List AV} {r : AV} {v : Value} (hen : zeR P f) (h : ∀ E w (vs : Array Value), Reps w E [] args vs.toList → Calls P f vs w (fun e w' => e = .returned v ∧ Below w.heap.size w w')) (hr : ∀ w E, Rep w E [] r v) : ACall P f 0 args [] (fun r' _ => r' = r) := by
 refine ⟨hen, fun E w vs hs hra => (h E w vs hra).mono ?_⟩
 rintro e w' ⟨rfl, hb⟩
 have hno : ∀ b, ¬ Own E [] b := fun b ⟨i, hi, _⟩ => by simp [hget] at hi
 refine ⟨v, E, r, [], rfl, rfl, ⟨fun i o ho => by simp [hget] at ho, fun i j b h1 => by simp [hget] at h1, fun b hb => absurd hb (hno b), fun b hm => Nat.lt_of_lt_of_le (hs.mlt b hm) hb.size, fun b hm => Nat.lt_of_lt_of_le (hs.nlt b hm) hb.size⟩, hr w' E, ?_⟩
 exact ⟨hb.os, hb.tape, hb.output, hb.size, fun k hk _ => hb.block k hk, fun b ho => .inl ho, rfl, rfl, fun i _ hi => by simp [hget] at hi⟩
theorem zrX (n : Nat) (hn : n ≤ 140737488355328) : ACall Tryz.prog 30 0 [.d (.str [0]), .d (.int .i64 n)] [] (fun r _ => r = .d (.str (List.replicate n 0))) := by
 refine zg0 (v := .string ⟨(List.replicate n 0).toArray⟩) (zu Tryz.func30 (by kernel_rfl) rfl) ?_ (fun w E => by simp [Rep, RepD])
 intro E w vs hr
 simp only [Reps, Rep, RepD] at hr
 obtain ⟨v1, r1, e1, rfl, v2, r2, rfl, rfl, rfl⟩ := hr
 have hvs : vs = #[.string ⟨#[0]⟩, .int .i64 n] := by cases vs; simpa using e1
 subst hvs
 have := Tryz.strings_Repeat ⟨#[0]⟩ n w (by omega) (by simpa [ByteArray.size] using hn)
 refine this.mono ?_
 rintro e w' ⟨rfl, hb⟩
 refine ⟨?_, hb⟩
 have := Lib.repeatL_replicate 0 1 n
 simp only [List.replicate_one, Nat.mul_one, Nat.one_mul] at this
 show Ending.returned (.string ⟨(Lib.repeatL [0] n).toArray⟩) = _
 rw [this]
theorem zjr (s : List UInt8) (p : List UInt8) : ACall Tryz.prog 82 0 [.d (.str s), .d (.str p)] [] (fun r _ => r = .d (.bool (p.isPrefixOf s))) := by
 refine zg0 (v := .bool (p.isPrefixOf s)) (zu Tryz.func82 (by kernel_rfl) rfl) ?_ (fun w E => by simp [Rep, RepD])
 intro E w vs hr
 simp only [Reps, Rep, RepD] at hr
 obtain ⟨v1, r1, e1, rfl, v2, r2, rfl, rfl, rfl⟩ := hr
 have hvs : vs = #[.string ⟨s.toArray⟩, .string ⟨p.toArray⟩] := by cases vs; simpa using e1
 subst hvs
 have := Tryz.strings_HasPrefix ⟨s.toArray⟩ ⟨p.toArray⟩ w
 refine this.mono ?_
 rintro e w' ⟨rfl, rfl⟩
 exact ⟨by simp [Lib.hasPrefix], Below.refl _ _⟩
noncomputable def zco : Ent Tryz.prog := .ofL 82 (consL strT (consL strT nilL)) (fun (s, p, _) => True) (fun (s, p, _) => .d (.bool (p.isPrefixOf s))) (fun (s, p, _) hp => ⟨rfl, zjr s p⟩)
attribute [go_sem] zco
end Go.Aw
namespace Go.Proofs.YtmhlpboclbippaaGreat
open Go Go.RowKit
theorem disable (w : World) : (callFunc 235 #[]).run Tryz.prog w = .ok (.value (.tuple #[])) w := run_call_mark0 Tryz.func235 (by kernel_rfl) (by kernel_rfl) (by kernel_rfl) .disable (by kernel_rfl) w
theorem enable (w : World) : (callFunc 237 #[]).run Tryz.prog w = .ok (.value (.tuple #[])) w := run_call_mark0 Tryz.func237 (by kernel_rfl) (by kernel_rfl) (by kernel_rfl) .enable (by kernel_rfl) w
theorem acquire (a : Addr) (w : World) : (callFunc 238 #[.pointer (some a)]).run Tryz.prog w = .ok (.value (.tuple #[])) w := run_call_marked Tryz.func238 (by kernel_rfl) (by kernel_rfl) (by kernel_rfl) .acquire (by kernel_rfl) a w
theorem releaseMerge (a : Addr) (w : World) : (callFunc 240 #[.pointer (some a)]).run Tryz.prog w = .ok (.value (.tuple #[])) w := run_call_marked Tryz.func240 (by kernel_rfl) (by kernel_rfl) (by kernel_rfl) .releaseMerge (by kernel_rfl) a w
theorem zhJ (a : Addr) (x : Value) (u : FrameMode) (w : World) (hc : w.cell? a = some x) (hz : w.frozen? a = false) :
  CallsD Tryz.prog 230 #[.pointer (some a), .bool true] u w fun e u' w' => u' = u ∧ (e = .returned (.tuple #[]) ∧ w' = w.drew.setCell a (.int .u32 1)) := by
 have hc' : w.drew.cell? a = some x := by go_simp
 have hz' : w.drew.frozen? a = false := by go_simp
 have hst := run_call_store (P := Tryz.prog) Tryz.func233 (by kernel_rfl) (by kernel_rfl) (by kernel_rfl) (by kernel_rfl) (k := .u32) (y := 1) hc' hz'
 go_enter_d Tryz.func230, Tryz.ntmps230
 go_wp2
 go_region_calls
 all_goals (go_end0; exact ⟨rfl, rfl⟩)
theorem zjR (a : Addr) (w : World) (hc : w.cell? a = some (.int .i32 1)) (hz : w.frozen? a = false) :
  Calls Tryz.prog 232 #[.pointer (some a)] w fun e w' => e = .returned (.tuple #[]) ∧ w' = w.setCell a (.int .i32 0) := by
 have hd := disable
 have he := enable
 have hr := releaseMerge
 have hadd := run_call_add (P := Tryz.prog) Tryz.func241 (by kernel_rfl) (by kernel_rfl) (by kernel_rfl) .i32 (by kernel_rfl) (y := -1) (s := 0) hc hz (by simp [go_sem]; rfl)
 have hcv := run_convert_to_unsafe (P := Tryz.prog) (src := 297) (dst := 234) Tryz.underlying297 Tryz.underlying234 (by kernel_rfl) hc
 go_enter Tryz.func232, Tryz.ntmps232
 go_wp2
 go_end0
 exact ⟨rfl, rfl⟩
theorem zhh (a : Addr) (u : FrameMode) (w : World) (hc : w.cell? a = some (.int .i32 1)) (hz : w.frozen? a = false) :
  CallsD Tryz.prog 229 #[.pointer (some a)] u w fun e u' w' => u' = u ∧ (e = .returned (.tuple #[]) ∧ w' = w.setCell a (.int .i32 0)) := by
 go_enter_d Tryz.func229, Tryz.ntmps229
 go_wp2_with (go_at_call 232; refine (zjR a _ (by go_simp) (by go_simp)).mono ?_; rintro e w' ⟨rfl, rfl⟩)
 go_end0
 exact ⟨rfl, rfl⟩
theorem zm5 (a : Addr) (w : World) (hc : w.cell? a = some (.int .i32 0)) (hz : w.frozen? a = false) :
  Calls Tryz.prog 231 #[.pointer (some a)] w fun e w' => e = .returned (.tuple #[]) ∧ w' = w.setCell a (.int .i32 1) := by
 have hd := disable
 have he := enable
 have ha := acquire
 have hcas := run_call_cas_hit (P := Tryz.prog) Tryz.func236 (by kernel_rfl) (by kernel_rfl) (by kernel_rfl) .i32 (by kernel_rfl) (y := 1) hc hz
 have hc' : (w.setCell a (.int .i32 1)).cell? a = some (.int .i32 1) := World.cell?_setCell_same w a _ hc
 have hcv := run_convert_to_unsafe (P := Tryz.prog) (src := 297) (dst := 234) Tryz.underlying297 Tryz.underlying234 (by kernel_rfl) hc'
 go_enter Tryz.func231, Tryz.ntmps231
 go_wp2
 first | go_end0 | (simp only [Exit.inBlock, Exit.then]; refine bodyPost_ret (results_none rfl _ _ _) rfl ?_) | refine bodyPost_ret (results_none rfl _ _ _) rfl ?_
 exact ⟨rfl, rfl⟩
theorem zpH (a : Addr) (w : World) (hc : w.cell? a = some (.int .i32 0)) (hz : w.frozen? a = false) :
  Calls Tryz.prog 228 #[.pointer (some a)] w fun e w' => e = .returned (.tuple #[]) ∧ w' = w.setCell a (.int .i32 1) := by
 go_enter Tryz.func228, Tryz.ntmps228
 go_wp2_with (go_at_call 231; refine (zm5 a _ (by go_simp) (by go_simp)).mono ?_; rintro e w' ⟨rfl, rfl⟩)
 go_end0
 exact ⟨rfl, rfl⟩
theorem zjS (a : Addr) (x : Int) (w : World) (hc : w.cell? a = some (.int .u32 x)) :
  Calls Tryz.prog 225 #[.pointer (some a)] w fun e w' => e = .returned (.bool (x != 0)) ∧ w' = w := by
 have hl := run_call_load (P := Tryz.prog) Tryz.func227 (by kernel_rfl) (by kernel_rfl) (by kernel_rfl) .u32 (by kernel_rfl) hc
 go_enter Tryz.func225, Tryz.ntmps225
 go_wp2
 go_ret
 exact ⟨rfl, rfl⟩
set_option maxHeartbeats 1600000 in
theorem zsC (b off : Nat) (p : Value) (w : World) (R : World → Prop)
  (h0 : w.cell? ⟨b, off, none⟩ = some (.int .u32 0)) (h1 : w.cell? ⟨b, off + 1, none⟩ = some (.int .i32 0)) (f0 : w.frozen? ⟨b, off, none⟩ = false) (f1 : w.frozen? ⟨b, off + 1, none⟩ = false)
  (hf : Calls Tryz.prog 221 #[p] (w.setCell ⟨b, off + 1, none⟩ (.int .i32 1)) fun e w2 => e = .returned (.tuple #[]) ∧ R w2)
  (hR : ∀ w2, R w2 → w2.cell? ⟨b, off, none⟩ = some (.int .u32 0) ∧ w2.cell? ⟨b, off + 1, none⟩ = some (.int .i32 1) ∧ w2.frozen? ⟨b, off, none⟩ = false ∧ w2.frozen? ⟨b, off + 1, none⟩ = false) :
  Calls Tryz.prog 226 #[.pointer (some ⟨b, off, none⟩), .func (.func 221) #[p] #[]] w fun e w' => e = .returned (.tuple #[]) ∧
   ∃ w2, R w2 ∧ w' = (w2.drew.setCell ⟨b, off, none⟩ (.int .u32 1)).setCell ⟨b, off + 1, none⟩ (.int .i32 0) := by
 have hnot : ∀ (x : Bool) (w : World), (Op.unary .not (.bool x)).run Tryz.prog w = .ok (.bool (!x)) w := fun _ _ => rfl
 have hld : (w.setCell ⟨b, off + 1, none⟩ (.int .i32 1)).cell? ⟨b, off, none⟩ = some (.int .u32 0) := (World.cell?_setCell_other _ ⟨b, off + 1, none⟩ ⟨b, off, none⟩ _ (by simp)).trans h0
 go_enter_defers Tryz.func226, Tryz.ntmps226
 go_wp2_with (first
  | (go_at_call 228; refine (zpH ⟨b, off + 1, none⟩ _ (by go_simp) (by go_simp)).mono ?_; rintro e w' ⟨rfl, rfl⟩)
  | (go_at_call 225; refine (zjS ⟨b, off, none⟩ 0 _ hld).mono ?_; rintro e w' ⟨rfl, rfl⟩)
  | (go_at_call 221; refine hf.mono ?_; rintro e w2 ⟨rfl, hr⟩))
 obtain ⟨g0, g1, g2, g3⟩ := hR w2 hr
 refine leaves_cons (f := 230) (args := #[.pointer (some ⟨b, off, none⟩), .bool true]) (by simp) (by simp [go_sem]) ?_
 refine (zhJ ⟨b, off, none⟩ (.int .u32 0) .returning _ g0 g2).mono ?_
 rintro e u' w'' ⟨rfl, rfl, rfl⟩
 refine leaves_cons (f := 229) (args := #[.pointer (some ⟨b, off + 1, none⟩)]) (by simp [settle]) (by simp [go_sem]) ?_
 refine (zhh ⟨b, off + 1, none⟩ _ _ ?_ (by simp [g3])).mono ?_
 ·refine (World.cell?_setCell_other _ ⟨b, off, none⟩ ⟨b, off + 1, none⟩ _ (by simp)).trans ?_
  rw [World.cell?_drew]
  exact g1
 rintro e u' w'' ⟨rfl, rfl, rfl⟩
 simp only [Leaves, settle]
 exact ⟨.tuple #[], by simp [results, Tryz.results226], rfl, w2, hr, rfl⟩
set_option maxHeartbeats 1600000 in
theorem do_first (b off : Nat) (p : Value) (w : World) (R : World → Prop)
  (h0 : w.cell? ⟨b, off, none⟩ = some (.int .u32 0)) (h1 : w.cell? ⟨b, off + 1, none⟩ = some (.int .i32 0)) (f0 : w.frozen? ⟨b, off, none⟩ = false) (f1 : w.frozen? ⟨b, off + 1, none⟩ = false)
  (hf : Calls Tryz.prog 221 #[p] (w.setCell ⟨b, off + 1, none⟩ (.int .i32 1)) fun e w2 => e = .returned (.tuple #[]) ∧ R w2)
  (hR : ∀ w2, R w2 → w2.cell? ⟨b, off, none⟩ = some (.int .u32 0) ∧ w2.cell? ⟨b, off + 1, none⟩ = some (.int .i32 1) ∧ w2.frozen? ⟨b, off, none⟩ = false ∧ w2.frozen? ⟨b, off + 1, none⟩ = false) :
  Calls Tryz.prog 220 #[.pointer (some ⟨b, off, none⟩), .func (.func 221) #[p] #[]] w fun e w' => e = .returned (.tuple #[]) ∧
   ∃ w2, R w2 ∧ w' = (w2.drew.setCell ⟨b, off, none⟩ (.int .u32 1)).setCell ⟨b, off + 1, none⟩ (.int .i32 0) := by
 have hnot : ∀ (x : Bool) (w : World), (Op.unary .not (.bool x)).run Tryz.prog w = .ok (.bool (!x)) w := fun _ _ => rfl
 go_enter Tryz.func220, Tryz.ntmps220
 go_wp2_with (first
  | (go_at_call 225; refine (zjS ⟨b, off, none⟩ 0 _ h0).mono ?_; rintro e w' ⟨rfl, rfl⟩)
  | (go_at_call 226; refine (zsC b off p _ R h0 h1 f0 f1 hf hR).mono ?_; rintro e w' ⟨rfl, w2, hr, rfl⟩))
 go_end0
 exact ⟨rfl, w2, hr, rfl⟩
end Go.Proofs.YtmhlpboclbippaaGreat
namespace Go.Aw
open Go Go.Proofs
section
variable {P : Program} {w w' : World} {E E' : Env} {h h' : AHeap}
theorem zhi : ∀ (h : AHeap) (i : Nat) (a b : AObj), hset (hset h i a) i b = hset h i b
  | [], _, _, _ => rfl
  | (k, o) :: r, i, a, b => by
    by_cases hk : k = i
    · simp [hset, hk]
    · simp [hset, hk, zhi r]
theorem zap {h : AHeap} {i j : Nat} {o : AObj} (hi : (hget h i).isSome) : (hget (hset h i o) j).isSome = (hget h j).isSome := by
 by_cases hj : j = i
 ·subst hj
  obtain ⟨x, hx⟩ := Option.isSome_iff_exists.1 hi
  rw [zw hx, hx]
  rfl
 ·rw [zH hj]
theorem poke (hs : SatH E h w) {i o b : Nat} {cs : List AV} (hi : hget h i = some (.var cs)) (hb : E.O i = some b) {x : AV} {v : Value} (hr : Rep w E h x v) :
  Chg E h w E (hset h i (.var (cs.set o x))) (w.setCell ⟨b, o, none⟩ v) i ∧ SatH E (hset h i (.var (cs.set o x))) (w.setCell ⟨b, o, none⟩ v) := by
 have hob := hs.heap i _ hi
 simp only [RepObj] at hob
 obtain ⟨b', c, T, fz, g1, g2, g3, g4⟩ := hob
 rw [hb] at g1; cases g1
 rw [zcO g2]
 have ch := zoz hs hi (cs' := cs.set o x) (by simp) hb (.cells (c.setIfInBounds o v) T fz)
 refine ⟨ch, ch.satH hs (fun ob hob => ?_)⟩
 rw [zw hi] at hob
 cases hob
 simp only [RepObj]
 refine ⟨b, _, T, fz, hb, zcm (Array.getElem?_eq_some_iff.1 g2).1, ?_, by simpa using g4⟩
 rw [Array.toList_setIfInBounds]
 exact ch.reps (g3.set hr)
theorem zgA {i : Nat} {o : AObj} (hi : (hget h i).isSome) {b : Nat} : Own E (hset h i o) b ↔ Own E h b := by
 unfold Own
 constructor
 ·rintro ⟨j, h1, h2⟩; exact ⟨j, by rwa [zap hi] at h1, h2⟩
 ·rintro ⟨j, h1, h2⟩; exact ⟨j, by rwa [zap hi], h2⟩
end
section
variable {h : AHeap}
theorem zuK {fl i : Nat} {cs cs2 : List AV} (hi : hget h i = some (.var cs)) (c0 : cs[0]? = some (.d (.int .u32 0))) (c1 : cs[1]? = some (.d (.int .i32 0)))
  (d0 : cs2[0]? = some (.d (.int .u32 0))) (d1 : cs2[1]? = some (.d (.int .i32 1)))
  (hf : ACallAt Tryz.prog fl 221 [.vp i 0] (hset h i (.var (cs.set 1 (.d (.int .i32 1))))) (fun r h' => r = .tup [] ∧ h' = hset h i (.var cs2))) :
  ACallAt Tryz.prog fl 220 [.vp i 0, .fn (.func 221) [.vp i 0] []] h (fun r h' => r = .tup [] ∧ h' = hset h i (.var ((cs2.set 0 (.d (.int .u32 1))).set 1 (.d (.int .i32 0))))) := by
 refine ⟨zu Tryz.func220 (by kernel_rfl) rfl, fun E w vs hs hr => ?_⟩
 simp only [Reps] at hr
 obtain ⟨v0, r0, e0, q0, v1, r1, rfl, q1, rfl⟩ := hr
 simp only [Rep, Reps] at q1
 obtain ⟨fa, fb, rfl, ⟨u, r2, e2, q2, rfl⟩, e3⟩ := q1
 have q0' := q0
 simp only [Rep] at q0 q2
 obtain ⟨b, cs', hi', hb, rfl⟩ := q0
 obtain ⟨b', cs'', hi'', hb', rfl⟩ := q2
 rw [hb] at hb'; cases hb'
 have hfa : fa = #[.pointer (some ⟨b, 0, none⟩)] := by cases fa; simpa using e2
 have hfb : fb = #[] := by cases fb; simpa using e3
 subst hfa hfb
 have hvs : vs = #[.pointer (some ⟨b, 0, none⟩), .func (.func 221) #[.pointer (some ⟨b, 0, none⟩)] #[]] := by cases vs; simpa using e0
 subst hvs
 have look : ∀ {E : Env} {h : AHeap} {w : World} {xs : List AV}, SatH E h w → hget h i = some (.var xs) → E.O i = some b → ∀ (o : Nat) (k : IntKind) (n : Int), xs[o]? = some (.d (.int k n)) → w.cell? ⟨b, o, none⟩ = some (.int k n) ∧ w.frozen? ⟨b, o, none⟩ = false := by
  intro E h w xs hs hi hb o k n ho
  have hob := hs.heap i _ hi
  simp only [RepObj] at hob
  obtain ⟨b', c, T, fz, g1, g2, g3, g4⟩ := hob
  rw [hb] at g1; cases g1
  obtain ⟨v, h1, h2⟩ := Reps.get g3 ho
  simp only [Rep, RepD] at h2
  subst h2
  have h1' : c[o]? = some (.int k n) := by simpa using h1
  have hlt := (Array.getElem?_eq_some_iff.1 h1').1
  refine ⟨by rw [zY g2]; exact h1', ?_⟩
  rw [zbS g2]
  have := g4 o hlt
  simpa using this
 obtain ⟨a0, z0⟩ := look hs hi hb 0 _ _ c0
 obtain ⟨a1, z1⟩ := look hs hi hb 1 _ _ c1
 obtain ⟨ch1, hs1⟩ := poke hs hi hb (o := 1) (x := .d (.int .i32 1)) (v := .int .i32 1) (by simp [Rep, RepD])
 have hsome : (hget h i).isSome := by simp [hi]
 have hp1 : Rep (w.setCell ⟨b, 1, none⟩ (.int .i32 1)) E (hset h i (.var (cs.set 1 (.d (.int .i32 1))))) (.vp i 0) (.pointer (some ⟨b, 0, none⟩)) := ch1.rep q0'
 have hfill := hf.2 E _ #[.pointer (some ⟨b, 0, none⟩)] hs1 (by simp only [Reps]; exact ⟨_, _, rfl, hp1, rfl⟩)
 let R : World → Prop := fun w2 => ∃ E2, SatH E2 (hset h i (.var cs2)) w2 ∧ EvoC fl E (hset h i (.var (cs.set 1 (.d (.int .i32 1))))) (w.setCell ⟨b, 1, none⟩ (.int .i32 1)) E2 (hset h i (.var cs2)) w2 ∧
  (∀ x y, Rep (w.setCell ⟨b, 1, none⟩ (.int .i32 1)) E (hset h i (.var (cs.set 1 (.d (.int .i32 1))))) x y → Rep w2 E2 (hset h i (.var cs2)) x y)
 have hO : ∀ {w2 E2}, (∀ x y, Rep (w.setCell ⟨b, 1, none⟩ (.int .i32 1)) E (hset h i (.var (cs.set 1 (.d (.int .i32 1))))) x y → Rep w2 E2 (hset h i (.var cs2)) x y) → E2.O i = some b := by
  intro w2 E2 hrep
  have := hrep _ _ hp1
  simp only [Rep] at this
  obtain ⟨b2, _, _, h1, h2⟩ := this
  have : b = b2 := by
   have := Value.pointer.inj h2
   have := Option.some.inj this
   exact congrArg Addr.block this
  rw [h1, this]
 have hget2 : hget (hset h i (.var cs2)) i = some (.var cs2) := zw hi
 refine (Go.Proofs.YtmhlpboclbippaaGreat.do_first b 0 (.pointer (some ⟨b, 0, none⟩)) w R a0 a1 z0 z1 (hfill.mono ?_) ?_).mono ?_
 ·rintro e w2 ⟨v, E2, r, h2, rfl, ⟨rfl, rfl⟩, g1, g2, g3, g4⟩
  simp only [Rep, Reps] at g2
  obtain ⟨vs, rfl, g5⟩ := g2
  have : vs = #[] := by cases vs; simpa using g5
  subst this
  exact ⟨rfl, E2, g1, g3, g4⟩
 ·rintro w2 ⟨E2, g1, g2, g3⟩
  obtain ⟨x0, y0⟩ := look g1 hget2 (hO g3) 0 _ _ d0
  obtain ⟨x1, y1⟩ := look g1 hget2 (hO g3) 1 _ _ d1
  exact ⟨x0, x1, y0, y1⟩
 ·rintro e w3 ⟨rfl, w2, ⟨E2, g1, g2, g3⟩, rfl⟩
  have hb2 := hO g3
  have hsd : SatH E2 (hset h i (.var cs2)) w2.drew := g1.refit ⟨rfl, rfl, rfl, rfl, fun _ _ => rfl, fun _ _ h _ _ => h⟩ (base := 0) rfl rfl (fun _ _ h => h) (fun b hb => (g1.own b hb).2) g1.mlt g1.nlt
  obtain ⟨ch2, hs2⟩ := poke hsd hget2 hb2 (o := 0) (x := .d (.int .u32 1)) (v := .int .u32 1) (by simp [Rep, RepD])
  have hget3 : hget (hset (hset h i (.var cs2)) i (.var (cs2.set 0 (.d (.int .u32 1))))) i = some (.var (cs2.set 0 (.d (.int .u32 1)))) := zw hget2
  obtain ⟨ch3, hs3⟩ := poke hs2 hget3 hb2 (o := 1) (x := .d (.int .i32 0)) (v := .int .i32 0) (by simp [Rep, RepD])
  have hrep3 : ∀ x y, Rep w2 E2 (hset h i (.var cs2)) x y → Rep _ E2 _ x y := fun x y hxy =>
   ch3.rep (ch2.rep (Rep.step (W := w2) (W' := w2.drew) (fun _ _ h => h) (fun _ _ _ => rfl) x y (fun j _ => GoesOn.refl E2 _ j) hxy))
  have hs2some : (hget (hset h i (.var cs2)) i).isSome := by simp [hget2]
  have hs3some : (hget (hset (hset h i (.var cs2)) i (.var (cs2.set 0 (.d (.int .u32 1))))) i).isSome := by simp [hget3]
  have e4 : hset (hset (hset h i (.var cs2)) i (.var (cs2.set 0 (.d (.int .u32 1))))) i (.var ((cs2.set 0 (.d (.int .u32 1))).set 1 (.d (.int .i32 0)))) = hset h i (.var ((cs2.set 0 (.d (.int .u32 1))).set 1 (.d (.int .i32 0)))) := by rw [zhi, zhi]
  refine ⟨.tuple #[], E2, .tup [], _, rfl, ⟨rfl, rfl⟩, e4 ▸ hs3, by simp [Rep, Reps], ?_, fun x y hxy => e4 ▸ hrep3 x y (g3 x y (ch1.rep hxy))⟩
  have hown : ∀ b', b' < w.heap.size → ¬ Own E h b' → w2.heap[b']? = w.heap[b']? := fun b' hb' hno =>
   (g2.keep b' (by simpa using hb') (fun ho => hno ((zgA hsome).1 ho))).trans (ch1.blk b' hb' (fun ⟨h1, h2⟩ => hno ⟨i, h1, h2⟩))
  have hsz : w.heap.size ≤ w2.heap.size := Nat.le_trans ch1.size g2.size
  refine ⟨?_, ?_, ?_, ?_, fun b' hb' hno => ?_, fun b' ho => ?_, g2.m, g2.n, fun j hj hjs => ?_⟩
  ·exact ch3.os.trans (ch2.os.trans (g2.os.trans ch1.os))
  ·exact ch3.tape.trans (ch2.tape.trans (g2.tape.trans ch1.tape))
  ·exact ch3.output.trans (ch2.output.trans (g2.output.trans ch1.output))
  ·exact Nat.le_trans hsz (Nat.le_trans ch2.size ch3.size)
  ·have hne : ¬ E2.O i = some b' := fun e => by
    rw [hb2] at e; cases e
    exact hno ⟨i, hsome, hb⟩
   have h1 : b' < w2.drew.heap.size := Nat.lt_of_lt_of_le hb' hsz
   rw [ch3.blk b' (Nat.lt_of_lt_of_le h1 ch2.size) (fun h => hne h.2), ch2.blk b' h1 (fun h => hne h.2)]
   exact hown b' hb' hno
  ·rw [zgA hsome] at ho
   have ho2 : Own E2 (hset h i (.var cs2)) b' := (zgA hsome).2 ho
   rcases g2.own b' ho2 with h1 | h1
   ·exact .inl ((zgA hsome).1 h1)
   ·exact .inr (by simpa using h1)
  ·rw [zap hsome] at hjs
   have hj2 : (hget (hset h i (.var cs2)) j).isSome := by rwa [zap hsome]
   obtain ⟨p1, p2⟩ := g2.go j hj hj2
   refine ⟨hjs, ?_⟩
   have p3 := (ch1.goesOn j).trans p2
   have p4 := p3.trans ((ch2.goesOn j).trans (ch3.goesOn j))
   exact e4 ▸ p4
end
open Go Go.Proofs
def bitT (c : Int) : Int := ibits .xor .u32 (ishr .u32 c 1) (IntKind.u32.wrap (ibits .and .u32 c 1 * 2197175160))
def bitsT : Nat → Int → Int
 | 0, c => c
 | n + 1, c => bitT (bitsT n c)
def tabF (j : Nat) : Int := bitsT 8 (IntKind.u32.wrap j)
def tblF (i : Nat) : List D := (List.range 256).map fun j => D.int .u32 (if j < i then tabF j else 0)
theorem zl0 (i : Nat) : (tblF i).length = 256 := by simp [tblF]
theorem zsB (i : Nat) (hi : i < 256) : (tblF i).set i (.int .u32 (tabF i)) = tblF (i + 1) := by
 apply List.ext_getElem?
 intro j
 rw [List.getElem?_set]
 unfold tblF
 simp only [List.length_map, List.length_range, List.getElem?_map]
 by_cases hj : i = j
 ·subst hj
  simp [hi]
 ·rw [if_neg hj]
  by_cases hj2 : j < 256
  ·rw [List.getElem?_range hj2]
   simp only [Option.map_some, Option.some.injEq, D.int.injEq, true_and]
   by_cases h1 : j < i
   ·rw [if_pos h1, if_pos (by omega)]
   ·rw [if_neg h1, if_neg (by omega)]
  ·simp [hj2]
theorem zb4 : ∀ (l : List D), AV.leL (l.map AV.d) (l.map AV.d)
 | [] => by simp [AV.leL]
 | x :: l => by simp only [List.map_cons, AV.leL, AV.le, true_and]; exact zb4 l
theorem zm4 (x y z : D) : ACall Tryz.prog 221 1 [.vp 0 0] [(0, .var (.d x :: .d y :: .d z :: (tblF 0).map AV.d))] (fun r h' => r = .tup [] ∧ h' = [(0, .var (.d x :: .d y :: .d z :: (tblF 256).map AV.d))]) := by
 refine zk Tryz.func221 rfl (zu Tryz.func221 (by kernel_rfl) rfl) Tryz.ntmps221 (by simp) (fun base => ?_)
 refine za noTab (zb _) (fun K hK => ?_); simp only [go_sem, Nat.le_refl, List.append_toArray, List.range_zero, List.append_eq, Int.toNat_natCast, aeq, aeq.aeqF, simprocAttr]
 refine hK _ ?_; clear hK K
 refine zo ?_
 refine zL (fun i : {i : Nat // i ≤ 256} => ⟨[(0, true, .vp 0 0), (4, true, .d (.int .i64 i.1))], [(0, .var (.d x :: .d y :: .d z :: (tblF i.1).map AV.d))], some []⟩) (fun i => 256 - i.1) ⟨0, by omega⟩ (by simp only [AS.le, leT, leH, zr, AsgK, AV.le, AV.leL, AObj.le, inH, idsT, idsH, AV.ids, AV.idsL, AV.idsR, AObj.ids, lk, hget, go_sem, Nat.le_refl, List.append_toArray, List.range_zero, List.append_eq, Int.toNat_natCast, aeq, aeq.aeqF, simprocAttr] <;> simp [zb4, zbt, inH]) (fun i => ?_)
 obtain ⟨i, hi⟩ := i
 refine za noTab (zb _) (fun K hK => ?_); simp only [go_sem, Nat.le_refl, List.append_toArray, List.range_zero, List.append_eq, Int.toNat_natCast, aeq, aeq.aeqF, simprocAttr]
 refine hK _ ?_; clear hK K
 refine zq (fun K hK => ?_)
 refine zp rfl (fun hc => ?_) (fun hc => ?_)
 ·refine zh ?_; simp only [go_sem, Nat.le_refl, List.append_toArray, List.range_zero, List.append_eq, Int.toNat_natCast, aeq, aeq.aeqF, simprocAttr]; refine hK _ ?_; clear hK K
  have hil : i < 256 := by simp at hc; omega
  refine zq (fun K hK => ?_)
  refine zo ?_
  refine za noTab (zb _) (fun K hK => ?_); simp only [go_sem, Nat.le_refl, List.append_toArray, List.range_zero, List.append_eq, Int.toNat_natCast, aeq, aeq.aeqF, simprocAttr]
  refine hK _ ?_; clear hK K
  refine za noTab (zb _) (fun K hK => ?_); simp only [go_sem, Nat.le_refl, List.append_toArray, List.range_zero, List.append_eq, Int.toNat_natCast, aeq, aeq.aeqF, simprocAttr]
  refine hK _ ?_; clear hK K
  refine zq (fun K2 hK2 => ?_)
  refine za noTab (zb _) (fun K hK => ?_); simp only [go_sem, Nat.le_refl, List.append_toArray, List.range_zero, List.append_eq, Int.toNat_natCast, aeq, aeq.aeqF, simprocAttr]
  refine hK _ ?_; clear hK K
  refine zo ?_
  refine zL (fun k : {k : Nat // k ≤ 8} => ⟨[(0, true, .vp 0 0), (4, true, .d (.int .i64 i)), (2, true, .d (.int .i64 i)), (3, true, .d (.int .u32 (bitsT k.1 (IntKind.u32.wrap i)))), (9, true, .d (.int .i64 k.1))], [(0, .var (.d x :: .d y :: .d z :: (tblF i).map AV.d))], some []⟩) (fun k => 8 - k.1) ⟨0, by omega⟩ (by simp only [AS.le, leT, leH, zr, AsgK, AV.le, AV.leL, AObj.le, inH, idsT, idsH, AV.ids, AV.idsL, AV.idsR, AObj.ids, lk, hget, go_sem, Nat.le_refl, List.append_toArray, List.range_zero, List.append_eq, Int.toNat_natCast, aeq, aeq.aeqF, simprocAttr] <;> simp [zb4, zbt, inH, bitsT]) (fun k => ?_)
  obtain ⟨k, hk⟩ := k
  refine za noTab (zb _) (fun K hK => ?_); simp only [go_sem, Nat.le_refl, List.append_toArray, List.range_zero, List.append_eq, Int.toNat_natCast, aeq, aeq.aeqF, simprocAttr]
  refine hK _ ?_; clear hK K
  refine zq (fun K3 hK3 => ?_)
  refine zp rfl (fun hc => ?_) (fun hc => ?_)
  ·refine zh ?_; simp only [go_sem, Nat.le_refl, List.append_toArray, List.range_zero, List.append_eq, Int.toNat_natCast, aeq, aeq.aeqF, simprocAttr]; refine hK3 _ ?_; clear hK3 K3
   have hkl : k < 8 := by simp at hc; omega
   refine zq (fun K hK => ?_)
   refine zo ?_
   refine zc noTab (zb _) ?_; simp only [go_sem, Nat.le_refl, List.append_toArray, List.range_zero, List.append_eq, Int.toNat_natCast, aeq, aeq.aeqF, simprocAttr]
   refine hK _ ?_; clear hK K
   refine zc noTab (zb _) ?_; simp only [go_sem, Nat.le_refl, List.append_toArray, List.range_zero, List.append_eq, Int.toNat_natCast, aeq, aeq.aeqF, simprocAttr]
   have hw : IntKind.i64.wrap ((k : Int) + 1) = ((k + 1 : Nat) : Int) := by rw [IntKind.wrap_i64]; omega
   refine ⟨⟨k + 1, by omega⟩, ?_, by simp; omega⟩
   rw [hw]
   simp only [AS.le, leT, leH, zr, AsgK, AV.le, AV.leL, AObj.le, inH, idsT, idsH, AV.ids, AV.idsL, AV.idsR, AObj.ids, lk, hget, go_sem, Nat.le_refl, List.append_toArray, List.range_zero, List.append_eq, Int.toNat_natCast, aeq, aeq.aeqF, simprocAttr]
   simp [zb4, zbt, inH, bitsT, bitT]
  ·refine zi ?_; simp only [go_sem, Nat.le_refl, List.append_toArray, List.range_zero, List.append_eq, Int.toNat_natCast, aeq, aeq.aeqF, simprocAttr]; refine hK2 _ ?_
   have hk8 : k = 8 := by simp at hc; omega
   subst hk8
   refine zc noTab (zb _) ?_; simp only [go_sem, Nat.le_refl, List.append_toArray, List.range_zero, List.append_eq, Int.toNat_natCast, aeq, aeq.aeqF, simprocAttr]
   refine ⟨⟨by omega, by omega⟩, by simp [zl0]; omega, ?_⟩
   have hset : (AV.d x :: AV.d y :: AV.d z :: (tblF i).map AV.d).set (3 + i * 1) (.d (.int .u32 (bitsT 8 (IntKind.u32.wrap i)))) = AV.d x :: AV.d y :: AV.d z :: (tblF (i + 1)).map AV.d := by
    rw [show 3 + i * 1 = i + 1 + 1 + 1 by omega, List.set_cons_succ, List.set_cons_succ, List.set_cons_succ, ← List.map_set]
    have := zsB i hil
    unfold tabF at this
    rw [this]
   rw [hset]
   refine hK _ ?_
   refine zc noTab (zb _) ?_; simp only [go_sem, Nat.le_refl, List.append_toArray, List.range_zero, List.append_eq, Int.toNat_natCast, aeq, aeq.aeqF, simprocAttr]
   have hw : IntKind.i64.wrap ((i : Int) + 1) = ((i + 1 : Nat) : Int) := by rw [IntKind.wrap_i64]; omega
   refine ⟨⟨i + 1, by omega⟩, ?_, by simp; omega⟩
   rw [hw]
   simp only [AS.le, leT, leH, zr, AsgK, AV.le, AV.leL, AObj.le, inH, idsT, idsH, AV.ids, AV.idsL, AV.idsR, AObj.ids, lk, hget, go_sem, Nat.le_refl, List.append_toArray, List.range_zero, List.append_eq, Int.toNat_natCast, aeq, aeq.aeqF, simprocAttr]
   simp [zb4, zbt, inH]
 ·refine zi ?_
  simp only [go_sem, Nat.le_refl, List.append_toArray, List.range_zero, List.append_eq, Int.toNat_natCast, aeq, aeq.aeqF, simprocAttr, Tryz.results221]
  have : i = 256 := by simp at hc; omega
  subst this
  rfl
open Go Go.Proofs
def byteS (c : Int) (b : UInt8) : Int := ibits .xor .u32 (tabF (ibits .xor .u8 (IntKind.u8.wrap c) b.toNat).toNat) (ishr .u32 c 8)
def sumS (c : Int) (l : List UInt8) : Int := l.foldl byteS c
def notS (c : Int) : Int := ibits .xor .u32 (if IntKind.u32.signed then -1 else IntKind.u32.max) c
def onceC (d m z : D) (i : Nat) : List AV := .d d :: .d m :: .d z :: (tblF i).map AV.d
theorem do_ok : ACallAt Tryz.prog 1 220 [.vp 0 0, .fn (.func 221) [.vp 0 0] []] [(0, .var (onceC (.int .u32 0) (.int .i32 0) (.int .u32 0) 0))] (fun r h' => r = .tup [] ∧ h' = [(0, .var (onceC (.int .u32 1) (.int .i32 0) (.int .u32 0) 256))]) := by
 refine zuK (cs := onceC (.int .u32 0) (.int .i32 0) (.int .u32 0) 0) (cs2 := onceC (.int .u32 0) (.int .i32 1) (.int .u32 0) 256) rfl rfl rfl rfl rfl ?_
 refine (zm4 _ _ _).whole (fun i hi => ?_) (Nat.le_refl _) ?_
 ·by_cases h : i = 0
  ·omega
  ·simp [hget, Ne.symm h] at hi
 ·rintro r h' ⟨rfl, rfl⟩ i hi
  by_cases h : i = 0
  ·subst h; rfl
  ·simp [hget, Ne.symm h] at hi
theorem zuL (n : Int) (h0 : 0 ≤ n) (h1 : n < 256) (d m z : D) : (onceC d m z 256).getD (3 + n.toNat * 1) .any = .d (.int .u32 (tabF n.toNat)) := by
 have : n.toNat < 256 := by omega
 unfold onceC
 rw [show 3 + n.toNat * 1 = n.toNat + 1 + 1 + 1 by omega]
 simp only [List.getD_cons_succ]
 rw [List.getD_eq_getElem?_getD, List.getElem?_map]
 unfold tblF
 rw [List.getElem?_map, List.getElem?_range this]
 simp [this]
theorem zuM (x y : Int) : 0 ≤ ibits .xor .u8 x y ∧ ibits .xor .u8 x y < 256 := by
 unfold ibits
 rw [IntKind.wrap_u8]
 omega
abbrev Mst (c : Int) (l : List UInt8) := { i : Nat // i ≤ l.length }
theorem zuN (c : Int) (l : List UInt8) (hl : l.length ≤ 9223372036854775807) : ACall Tryz.prog 206 1 [.vp 0 0, .d (.int .u32 c), .d (.str l)] [(0, .var (onceC (.int .u32 0) (.int .i32 0) (.int .u32 0) 0))] (fun r h' => r = .d (.int .u32 (sumS c l)) ∧ (hget h' 0).isSome) := by
 refine zk Tryz.func206 rfl (zu Tryz.func206 (by kernel_rfl) rfl) Tryz.ntmps206 (by simp) (fun base => ?_)
 refine za noTab (zb _) (fun K hK => ?_); simp only [go_sem, Nat.le_refl, List.append_toArray, List.range_zero, List.append_eq, Int.toNat_natCast, aeq, aeq.aeqF, simprocAttr]
 refine hK _ ?_; clear hK K
 refine za noTab (zb _) (fun K hK => ?_); simp only [go_sem, Nat.le_refl, List.append_toArray, List.range_zero, List.append_eq, Int.toNat_natCast, aeq, aeq.aeqF, simprocAttr]
 refine do_ok.mono ?_
 rintro r h' ⟨rfl, rfl⟩
 refine hK _ ?_; clear hK K
 refine zq (fun K2 hK2 => ?_)
 refine za noTab (zb _) (fun K hK => ?_); simp only [go_sem, Nat.le_refl, List.append_toArray, List.range_zero, List.append_eq, Int.toNat_natCast, aeq, aeq.aeqF, simprocAttr]
 refine ⟨by simp [zy], hK _ ?_⟩
 clear hK
 refine zo ?_
 refine zL (fun i : Mst c l => ⟨[(0, true, .vp 0 0), (1, true, .d (.int .u32 (sumS c (l.take i.1)))), (16, true, .osl 1 1 l.length 0 l.length), (17, true, .d (.int .i64 l.length)), (18, true, .d (.int .i64 i.1))], [(1, .arr 1 (zy l)), (0, .var (onceC (.int .u32 1) (.int .i32 0) (.int .u32 0) 256))], some []⟩) (fun i => l.length - i.1) ⟨0, Nat.zero_le _⟩ (by simp only [AS.le, leT, leH, zr, AsgK, AV.le, AV.leL, AObj.le, inH, idsT, idsH, AV.ids, AV.idsL, AV.idsR, AObj.ids, lk, hget, go_sem, Nat.le_refl, List.append_toArray, List.range_zero, List.append_eq, Int.toNat_natCast, aeq, aeq.aeqF, simprocAttr] <;> simp [onceC, zb4, zbt, inH, sumS, AV.leL, AV.le, AV.idsL, AV.ids]) (fun i => ?_)
 obtain ⟨i, hi⟩ := i
 refine za noTab (zb _) (fun K hK => ?_); simp only [go_sem, Nat.le_refl, List.append_toArray, List.range_zero, List.append_eq, Int.toNat_natCast, aeq, aeq.aeqF, simprocAttr]
 refine hK _ ?_; clear hK K
 refine zq (fun K3 hK3 => ?_)
 refine zp rfl (fun hc => ?_) (fun hc => ?_)
 ·refine zh ?_; simp only [go_sem, Nat.le_refl, List.append_toArray, List.range_zero, List.append_eq, Int.toNat_natCast, aeq, aeq.aeqF, simprocAttr]; refine hK3 _ ?_; clear hK3 K3
  have hil : i < l.length := by simp at hc; omega
  obtain ⟨b, hb⟩ : ∃ b, l[i]? = some b := ⟨l[i], by simp [hil]⟩
  have hrow : (zy l).getD i [] = [.int .u8 b.toNat] := by simp [zy, List.getD_eq_getElem?_getD, hb, zdl]
  have hrl : (zy l).length = l.length := by simp [zy]
  refine zq (fun K4 hK4 => ?_)
  refine zo ?_
  refine za noTab (zb _) (fun K hK => ?_); simp only [go_sem, Nat.le_refl, List.append_toArray, List.range_zero, List.append_eq, Int.toNat_natCast, aeq, aeq.aeqF, simprocAttr, hrow, hrl, Nat.zero_add]
  refine ⟨⟨by omega, by omega⟩, hil, hK _ ?_⟩
  clear hK
  obtain ⟨hb0, hb1⟩ := zuM (IntKind.u8.wrap (sumS c (l.take i))) b.toNat
  have htb := zuL (ibits .xor .u8 (IntKind.u8.wrap (sumS c (l.take i))) b.toNat) hb0 hb1 (.int .u32 1) (.int .i32 0) (.int .u32 0)
  have hoc : (onceC (.int .u32 1) (.int .i32 0) (.int .u32 0) 256).length = 259 := by simp [onceC, zl0]
  refine zc noTab (zb _) ?_; simp only [go_sem, Nat.le_refl, List.append_toArray, List.range_zero, List.append_eq, Int.toNat_natCast, aeq, aeq.aeqF, simprocAttr, htb, hoc]
  refine ⟨⟨hb0, hb1⟩, by omega, hK4 _ ?_⟩
  clear hK4
  refine zc noTab (zb _) ?_; simp only [go_sem, Nat.le_refl, List.append_toArray, List.range_zero, List.append_eq, Int.toNat_natCast, aeq, aeq.aeqF, simprocAttr]
  have hw : IntKind.i64.wrap ((i : Int) + 1) = ((i + 1 : Nat) : Int) := by rw [IntKind.wrap_i64]; omega
  have hs : ibits .xor .u32 (tabF (ibits .xor .u8 (IntKind.u8.wrap (sumS c (l.take i))) b.toNat).toNat) (ishr .u32 (sumS c (l.take i)) 8) = sumS c (l.take (i + 1)) := by
   rw [List.take_add_one, hb]
   simp [sumS, byteS]
  refine ⟨⟨i + 1, by omega⟩, ?_, by simp; omega⟩
  rw [hw, hs]
  simp only [AS.le, leT, leH, zr, AsgK, AV.le, AV.leL, AObj.le, inH, idsT, idsH, AV.ids, AV.idsL, AV.idsR, AObj.ids, lk, hget, go_sem, Nat.le_refl, List.append_toArray, List.range_zero, List.append_eq, Int.toNat_natCast, aeq, aeq.aeqF, simprocAttr]
  simp [onceC, zb4, zbt, inH, AV.leL, AV.le, AV.idsL, AV.ids]
 ·refine zi ?_; simp only [go_sem, Nat.le_refl, List.append_toArray, List.range_zero, List.append_eq, Int.toNat_natCast, aeq, aeq.aeqF, simprocAttr]; refine hK2 _ ?_
  have hil : i = l.length := by simp at hc; omega
  subst hil
  refine za noTab (zb _) (fun K hK => ?_); simp only [go_sem, Nat.le_refl, List.append_toArray, List.range_zero, List.append_eq, Int.toNat_natCast, aeq, aeq.aeqF, simprocAttr]
  refine hK _ ?_; clear hK K
  refine zn ?_; simp only [go_sem, Nat.le_refl, List.append_toArray, List.range_zero, List.append_eq, Int.toNat_natCast, aeq, aeq.aeqF, simprocAttr, Tryz.results206]
theorem zh9 (c : Int) (l : List UInt8) (hl : l.length ≤ 9223372036854775807) : ACall Tryz.prog 164 0 [.d (.int .u32 c), .d (.str l)] [] (fun r _ => r = .d (.int .u32 (notS (sumS (notS c) l)))) := by
 refine zk Tryz.func164 rfl (zu Tryz.func164 (by kernel_rfl) rfl) Tryz.ntmps164 (by simp) (fun base => ?_)
 refine za noTab (zb _) (fun K hK => ?_); simp only [go_sem, Nat.le_refl, List.append_toArray, List.range_zero, List.append_eq, Int.toNat_natCast, aeq, aeq.aeqF, simprocAttr]
 refine hK _ ?_; clear hK K
 refine za noTab (zb _) (fun K hK => ?_); simp only [go_sem, Nat.le_refl, List.append_toArray, List.range_zero, List.append_eq, Int.toNat_natCast, aeq, aeq.aeqF, simprocAttr]
 refine hK _ ?_; clear hK K
 refine za noTab (zb _) (fun K hK => ?_); simp only [go_sem, Nat.le_refl, List.append_toArray, List.range_zero, List.append_eq, Int.toNat_natCast, aeq, aeq.aeqF, simprocAttr]
 refine ACallAt.mono (h := [(0, .var (onceC (.int .u32 0) (.int .i32 0) (.int .u32 0) 0))]) (K := fun r h' => r = .d (.int .u32 (sumS (notS c) l)) ∧ (hget h' 0).isSome) ((zuN (notS c) l hl).whole (fun i hi => ?_) (Nat.zero_le _) ?_) ?_
 ·by_cases h : i = 0
  ·omega
  ·simp [hget, Ne.symm h] at hi
 ·rintro r h' ⟨rfl, hk⟩ i hi
  by_cases h : i = 0
  ·subst h; exact hk
  ·simp [hget, Ne.symm h] at hi
 rintro r h' ⟨rfl, hk⟩
 simp only [go_sem, Nat.le_refl, List.append_toArray, List.range_zero, List.append_eq, Int.toNat_natCast, aeq, aeq.aeqF, simprocAttr]
 refine hK _ ?_; clear hK K
 refine zn ?_; simp only [go_sem, Nat.le_refl, List.append_toArray, List.range_zero, List.append_eq, Int.toNat_natCast, aeq, aeq.aeqF, simprocAttr, Tryz.results164]
 rfl
def sumOf (c : Int) (l : List UInt8) : Int := notS (sumS (notS c) l)
def tabM : Tab := fun f args =>
 if f = 164 then (match args with
  | [.d (.int .u32 c), .d (.str l)] => some (l.length ≤ 9223372036854775807, .d (.int .u32 (sumOf c l)))
  | _ => none)
 else none
@[go_sem] theorem tabM30 (c : Int) (l : List UInt8) : tabM 164 [.d (.int .u32 c), .d (.str l)] = some (l.length ≤ 9223372036854775807, .d (.int .u32 (sumOf c l))) := rfl
theorem zuO : TabOk Tryz.prog tabM := ⟨fun f args pre r h hp => by
 unfold tabM at h
 split at h
 ·rename_i hf; subst hf
  split at h
  ·cases h; exact ⟨rfl, zh9 _ _ hp⟩
  ·cases h
 ·cases h⟩
theorem zsD (l : List UInt8) (hl : l.length ≤ 9223372036854775807) : ACall Tryz.prog 147 0 [.d (.str l)] [] (fun r _ => r = .d (.int .u32 (sumOf 0 l))) := by
 refine zk Tryz.func147 rfl (zu Tryz.func147 (by kernel_rfl) rfl) Tryz.ntmps147 (by simp) (fun base => ?_)
 refine za noTab (zb _) (fun K hK => ?_); simp only [go_sem, Nat.le_refl, List.append_toArray, List.range_zero, List.append_eq, Int.toNat_natCast, aeq, aeq.aeqF, simprocAttr]
 refine hK _ ?_; clear hK K
 refine za tabM zuO (fun K hK => ?_); simp only [go_sem, Nat.le_refl, List.append_toArray, List.range_zero, List.append_eq, Int.toNat_natCast, aeq, aeq.aeqF, simprocAttr]
 refine ⟨hl, hK _ ?_⟩
 clear hK K
 refine zn ?_; simp only [go_sem, Nat.le_refl, List.append_toArray, List.range_zero, List.append_eq, Int.toNat_natCast, aeq, aeq.aeqF, simprocAttr, Tryz.results147]
def zbp (c : Int) (j : Nat) : Int := IntKind.u8.wrap (ishr .u32 c (IntKind.i64.wrap (24 - IntKind.i64.wrap (8 * (j : Int)))))
def bcell (c : Int) (i j : Nat) : AV := .d (.int .u8 (if j < i then zbp c j else 0))
def zhj (c : Int) (i : Nat) : List AV := [bcell c i 0, bcell c i 1, bcell c i 2, bcell c i 3]
def ze2 (c : Int) : List UInt8 := [UInt8.ofNat (zbp c 0).toNat, UInt8.ofNat (zbp c 1).toNat, UInt8.ofNat (zbp c 2).toNat, UInt8.ofNat (zbp c 3).toNat]
theorem zkI (c : Int) : ACall Tryz.prog 146 0 [.d (.int .u32 c)] [] (fun r _ => r = .d (.str (ze2 c))) := by
 refine zk Tryz.func146 rfl (zu Tryz.func146 (by kernel_rfl) rfl) Tryz.ntmps146 (by simp) (fun base => ?_)
 refine za noTab (zb _) (fun K hK => ?_); simp only [go_sem, Nat.le_refl, List.append_toArray, List.range_zero, List.append_eq, Int.toNat_natCast, aeq, aeq.aeqF, simprocAttr]
 refine hK _ ?_; clear hK K
 refine za noTab (zb _) (fun K hK => ?_); simp only [go_sem, Nat.le_refl, List.append_toArray, List.range_zero, List.append_eq, Int.toNat_natCast, aeq, aeq.aeqF, simprocAttr]
 refine hK _ ?_; clear hK K
 refine zq (fun K2 hK2 => ?_)
 refine za noTab (zb _) (fun K hK => ?_); simp only [go_sem, Nat.le_refl, List.append_toArray, List.range_zero, List.append_eq, Int.toNat_natCast, aeq, aeq.aeqF, simprocAttr]
 refine hK _ ?_; clear hK K
 refine zo ?_
 refine zL (fun i : {i : Nat // i ≤ 4} => ⟨[(0, true, .d (.int .u32 c)), (3, true, .vp 0 0), (5, true, .d (.int .i64 i.1))], [(0, .var (zhj c i.1))], some []⟩) (fun i => 4 - i.1) ⟨0, by omega⟩ (by simp only [AS.le, leT, leH, zr, AsgK, AV.le, AV.leL, AObj.le, inH, idsT, idsH, AV.ids, AV.idsL, AV.idsR, AObj.ids, lk, hget, go_sem, Nat.le_refl, List.append_toArray, List.range_zero, List.append_eq, Int.toNat_natCast, aeq, aeq.aeqF, simprocAttr] <;> simp [zhj, bcell, AV.leL, AV.le, AV.idsL, AV.ids, inH]) (fun i => ?_)
 obtain ⟨i, hi⟩ := i
 refine za noTab (zb _) (fun K hK => ?_); simp only [go_sem, Nat.le_refl, List.append_toArray, List.range_zero, List.append_eq, Int.toNat_natCast, aeq, aeq.aeqF, simprocAttr]
 refine hK _ ?_; clear hK K
 refine zq (fun K3 hK3 => ?_)
 refine zp rfl (fun hc => ?_) (fun hc => ?_)
 ·refine zh ?_; simp only [go_sem, Nat.le_refl, List.append_toArray, List.range_zero, List.append_eq, Int.toNat_natCast, aeq, aeq.aeqF, simprocAttr]; refine hK3 _ ?_; clear hK3 K3
  have hil : i < 4 := by simp at hc; omega
  refine zq (fun K4 hK4 => ?_)
  refine zo ?_
  refine za noTab (zb _) (fun K hK => ?_); simp only [go_sem, Nat.le_refl, List.append_toArray, List.range_zero, List.append_eq, Int.toNat_natCast, aeq, aeq.aeqF, simprocAttr]
  refine hK _ ?_; clear hK K
  refine zc noTab (zb _) ?_; simp only [go_sem, Nat.le_refl, List.append_toArray, List.range_zero, List.append_eq, Int.toNat_natCast, aeq, aeq.aeqF, simprocAttr]
  have hset : (zhj c i).set (i * 1) (.d (.int .u8 (zbp c i))) = zhj c (i + 1) := by
   have : i = 0 ∨ i = 1 ∨ i = 2 ∨ i = 3 := by omega
   rcases this with rfl | rfl | rfl | rfl <;> rfl
  unfold zbp at hset
  rw [hset]
  refine ⟨by simp only [IntKind.wrap_i64]; omega, ⟨by omega, by omega⟩, by simp [zhj]; omega, hK4 _ ?_⟩
  refine zc noTab (zb _) ?_; simp only [go_sem, Nat.le_refl, List.append_toArray, List.range_zero, List.append_eq, Int.toNat_natCast, aeq, aeq.aeqF, simprocAttr]
  have hw : IntKind.i64.wrap ((i : Int) + 1) = ((i + 1 : Nat) : Int) := by rw [IntKind.wrap_i64]; omega
  refine ⟨⟨i + 1, by omega⟩, ?_, by simp; omega⟩
  rw [hw]
  simp only [AS.le, leT, leH, zr, AsgK, AV.le, AV.leL, AObj.le, inH, idsT, idsH, AV.ids, AV.idsL, AV.idsR, AObj.ids, lk, hget, go_sem, Nat.le_refl, List.append_toArray, List.range_zero, List.append_eq, Int.toNat_natCast, aeq, aeq.aeqF, simprocAttr]
  simp [zhj, bcell, AV.leL, AV.le, AV.idsL, AV.ids, inH]
 ·refine zi ?_; simp only [go_sem, Nat.le_refl, List.append_toArray, List.range_zero, List.append_eq, Int.toNat_natCast, aeq, aeq.aeqF, simprocAttr]; refine hK2 _ ?_
  have hil : i = 4 := by simp at hc; omega
  subst hil
  have hb4 : zhj c 4 = [.d (.int .u8 (zbp c 0)), .d (.int .u8 (zbp c 1)), .d (.int .u8 (zbp c 2)), .d (.int .u8 (zbp c 3))] := rfl
  rw [hb4]
  refine za noTab (zb _) (fun K hK => ?_); simp only [go_sem, Nat.le_refl, List.append_toArray, List.range_zero, List.append_eq, Int.toNat_natCast, aeq, aeq.aeqF, simprocAttr]
  refine ⟨rfl, hK _ ?_⟩
  clear hK
  refine zn ?_; simp only [go_sem, Nat.le_refl, List.append_toArray, List.range_zero, List.append_eq, Int.toNat_natCast, aeq, aeq.aeqF, simprocAttr, Tryz.results146]
  rfl
open Go Go.Proofs
noncomputable def zdH : Ent Tryz.prog := .ofL 164 (consL (intT .u32) (consL strT nilL)) (fun (c, l, _) => l.length ≤ 9223372036854775807) (fun (c, l, _) => .d (.int .u32 (notS (sumS (notS c) l)))) (fun (c, l, _) hp => ⟨rfl, zh9 c l hp⟩)
attribute [go_sem] zdH
noncomputable def zby : Ent Tryz.prog := .ofL 147 (consL strT nilL) (fun (l, _) => l.length ≤ 9223372036854775807) (fun (l, _) => .d (.int .u32 (sumOf 0 l))) (fun (l, _) hp => ⟨rfl, zsD l hp⟩)
attribute [go_sem] zby
noncomputable def zaJ : Ent Tryz.prog := .ofL 146 (consL (intT .u32) nilL) (fun (c, _) => True) (fun (c, _) => .d (.str (ze2 c))) (fun (c, _) hp => ⟨rfl, zkI c⟩)
attribute [go_sem] zaJ
open Go Go.Proofs
theorem zsF (n k : Nat) (hk : k ≤ 32) : ishr .u32 (n : Int) (k : Int) = ((n / 2 ^ k : Nat) : Int) := by
 unfold ishr
 rw [show min ((k : Int).toNat) IntKind.u32.bits = k by show min ((k : Int).toNat) 32 = k; omega]
 rw [Int.fdiv_eq_ediv_of_nonneg _ (Int.le_of_lt (Int.pow_pos (by decide)))]
 norm_cast
abbrev B32 := BitVec 32
def polyB : B32 := 2197175160#32
def bT (x : B32) : B32 := (x >>> 1) ^^^ (if x.getLsbD 0 then polyB else 0#32)
def bN : Nat → B32 → B32
 | 0, x => x
 | n + 1, x => bT (bN n x)
def u8B (b : UInt8) : B32 := BitVec.ofNat 32 b.toNat
def stepB (c : B32) (b : UInt8) : B32 := bN 8 (c ^^^ u8B b)
def sumB (c : B32) (l : List UInt8) : B32 := l.foldl stepB c
theorem xor4 (a b c d : B32) : (a ^^^ b) ^^^ (c ^^^ d) = (a ^^^ c) ^^^ (b ^^^ d) := by ac_rfl
theorem zvJ (x y : B32) : bT (x ^^^ y) = bT x ^^^ bT y := by
 unfold bT
 rw [BitVec.ushiftRight_xor_distrib, xor4 (x >>> 1)]
 congr 1
 rw [BitVec.getLsbD_xor]
 cases x.getLsbD 0 <;> cases y.getLsbD 0 <;> simp
theorem zvK (n : Nat) (x y : B32) : bN n (x ^^^ y) = bN n x ^^^ bN n y := by
 induction n with
 | zero => rfl
 | succ n ih => simp only [bN, ih, zvJ]
theorem zsG (n : Nat) : ∀ (x : B32), (∀ i, i < n → x.getLsbD i = false) → bN n x = x >>> n := by
 induction n with
 | zero => intro x _; simp [bN]
 | succ n ih =>
  intro x h
  simp only [bN]
  rw [ih x (fun i hi => h i (by omega))]
  unfold bT
  have : (x >>> n).getLsbD 0 = false := by simpa using h n (by omega)
  rw [this]
  simp only [Bool.false_eq_true, if_false, BitVec.xor_zero]
  rw [← BitVec.shiftRight_add]
def low8 (x : B32) : B32 := x &&& 255#32
def high8 (x : B32) : B32 := x &&& 4294967040#32
theorem zsH (x : B32) : x = low8 x ^^^ high8 x := by
 have e : (4294967040#32) = ~~~(255#32) := by decide
 unfold low8 high8
 rw [e]
 apply BitVec.eq_of_getLsbD_eq
 intro i hi
 simp only [BitVec.getLsbD_xor, BitVec.getLsbD_and, BitVec.getLsbD_not, hi, decide_true, Bool.true_and]
 cases x.getLsbD i <;> cases (255#32).getLsbD i <;> rfl
theorem zpI (x : B32) (i : Nat) (hi : i < 8) : (high8 x).getLsbD i = false := by
 unfold high8
 rw [BitVec.getLsbD_and]
 have : ∀ i, i < 8 → (4294967040#32).getLsbD i = false := by decide
 rw [this i hi, Bool.and_false]
theorem zkK (x : B32) : high8 x >>> 8 = x >>> 8 := by
 unfold high8
 apply BitVec.eq_of_getLsbD_eq
 intro i hi
 simp only [BitVec.getLsbD_ushiftRight, BitVec.getLsbD_and]
 by_cases h : 8 + i < 32
 ·have : ∀ i, i < 24 → (4294967040#32).getLsbD (8 + i) = true := by decide
  rw [this i (by omega), Bool.and_true]
 ·rw [BitVec.getLsbD_of_ge x _ (by omega), Bool.false_and]
theorem zpJ (x : B32) : bN 8 x = bN 8 (low8 x) ^^^ (x >>> 8) := by
 conv => lhs; rw [zsH x]
 rw [zvK, zsG 8 (high8 x) (zpI x), zkK]
theorem zsI (b : UInt8) : u8B b >>> 8 = 0#32 := by
 have := b.toNat_lt
 apply BitVec.eq_of_toNat_eq
 simp [u8B, Nat.shiftRight_eq_div_pow]
 omega
theorem zuP (b : UInt8) : low8 (u8B b) = u8B b := by
 have := b.toNat_lt
 apply BitVec.eq_of_toNat_eq
 simp only [low8, u8B, BitVec.toNat_and, BitVec.toNat_ofNat]
 rw [show 255 % 2 ^ 32 = 2 ^ 8 - 1 by decide, Nat.and_two_pow_sub_one_eq_mod]
 omega
theorem zpK (c : B32) (b : UInt8) : stepB c b = bN 8 (low8 c ^^^ u8B b) ^^^ (c >>> 8) := by
 unfold stepB
 rw [zpJ]
 have h1 : low8 (c ^^^ u8B b) = low8 c ^^^ u8B b := by
  conv => rhs; rw [← zuP b]
  unfold low8
  apply BitVec.eq_of_getLsbD_eq
  intro i hi
  simp only [BitVec.getLsbD_xor, BitVec.getLsbD_and]
  cases c.getLsbD i <;> cases (u8B b).getLsbD i <;> cases (255#32).getLsbD i <;> rfl
 rw [h1, BitVec.ushiftRight_xor_distrib, zsI, BitVec.xor_zero]
theorem zkL (c : B32) (a b : List UInt8) : sumB c (a ++ b) = sumB (sumB c a) b := by simp [sumB, List.foldl_append]
def toI (x : B32) : Int := x.toNat
theorem zjU (n : Nat) (h : n < 4294967296) : toI (BitVec.ofNat 32 n) = n := by
 unfold toI
 rw [BitVec.toNat_ofNat, Nat.mod_eq_of_lt h]
theorem ofI (c : Int) (h0 : 0 ≤ c) (h1 : c ≤ 4294967295) : ∃ x : B32, c = toI x :=
 ⟨BitVec.ofNat 32 c.toNat, by rw [zjU _ (by omega)]; omega⟩
theorem zl1 (x : B32) : BitVec.ofInt 32 (toI x) = x := by
 unfold toI
 rw [BitVec.ofInt_natCast]
 simp
theorem zcE (x y : B32) : ibits .xor .u32 (toI x) (toI y) = toI (x ^^^ y) := by
 show IntKind.u32.wrap ((BitVec.ofInt 32 (toI x) ^^^ BitVec.ofInt 32 (toI y)).toNat : Int) = _
 rw [zl1, zl1]
 have := (x ^^^ y).isLt
 unfold toI
 rw [IntKind.wrap_u32]
 omega
theorem zpL (x y : B32) : ibits .and .u32 (toI x) (toI y) = toI (x &&& y) := by
 show IntKind.u32.wrap ((BitVec.ofInt 32 (toI x) &&& BitVec.ofInt 32 (toI y)).toNat : Int) = _
 rw [zl1, zl1]
 have := (x &&& y).isLt
 unfold toI
 rw [IntKind.wrap_u32]
 omega
theorem zgB (x : B32) (k : Nat) (hk : k ≤ 32) : ishr .u32 (toI x) (k : Int) = toI (x >>> k) := by
 unfold toI
 rw [zsF _ _ hk, BitVec.toNat_ushiftRight, Nat.shiftRight_eq_div_pow]
theorem zsJ (x : B32) : bitT (toI x) = toI (bT x) := by
 unfold bitT bT
 have h1 : (1 : Int) = toI 1#32 := by decide
 have hs : ishr .u32 (toI x) 1 = toI (x >>> 1) := zgB x 1 (by omega)
 rw [hs]
 have ha : ibits .and .u32 (toI x) 1 = toI (x &&& 1#32) := by rw [h1, zpL]
 rw [ha]
 have hb : x &&& 1#32 = if x.getLsbD 0 then 1#32 else 0#32 := by
  apply BitVec.eq_of_getLsbD_eq
  intro i hi
  rw [BitVec.getLsbD_and]
  cases i with
  | zero => cases x.getLsbD 0 <;> rfl
  | succ i =>
   have : (1#32).getLsbD (i + 1) = false := by simp [BitVec.getLsbD_one]
   rw [this, Bool.and_false]
   split <;> simp
 rw [hb]
 cases x.getLsbD 0
 ·simp only [Bool.false_eq_true, if_false]
  rw [show IntKind.u32.wrap (toI 0#32 * 2197175160) = toI 0#32 by decide, zcE]
 ·simp only [if_true]
  rw [show IntKind.u32.wrap (toI 1#32 * 2197175160) = toI polyB by decide, zcE]
theorem zpM (n : Nat) (x : B32) : bitsT n (toI x) = toI (bN n x) := by
 induction n with
 | zero => rfl
 | succ n ih => simp only [bitsT, bN, ih, zsJ]
theorem zsK (x : B32) (h : x.toNat < 4294967296) : tabF x.toNat = toI (bN 8 x) := by
 unfold tabF
 have : IntKind.u32.wrap (x.toNat : Int) = toI x := by
  unfold toI
  rw [IntKind.wrap_u32]; omega
 rw [this, zpM]
theorem zm7 (x : B32) (b : UInt8) : (ibits .xor .u8 (IntKind.u8.wrap (toI x)) b.toNat).toNat = (low8 x ^^^ u8B b).toNat := by
 have hb := b.toNat_lt
 have h1 : IntKind.u8.wrap (toI x) = ((x.toNat % 256 : Nat) : Int) := by
  unfold toI
  rw [IntKind.wrap_u8]; omega
 rw [h1]
 have hx : x.toNat % 256 < 256 := Nat.mod_lt _ (by omega)
 have h2 := Nat.xor_lt_two_pow (n := 8) (x := x.toNat % 256) (y := b.toNat) (by omega) (by omega)
 have h3 : (low8 x ^^^ u8B b).toNat = (x.toNat % 256) ^^^ b.toNat := by
  simp only [low8, u8B, BitVec.toNat_xor, BitVec.toNat_and, BitVec.toNat_ofNat]
  rw [show 255 % 2 ^ 32 = 2 ^ 8 - 1 by decide, Nat.and_two_pow_sub_one_eq_mod, Nat.mod_eq_of_lt (show b.toNat < 2 ^ 32 by omega)]
 rw [h3]
 show (IntKind.u8.wrap ((BitVec.ofInt 8 ((x.toNat % 256 : Nat) : Int) ^^^ BitVec.ofInt 8 ((b.toNat : Nat) : Int)).toNat : Int)).toNat = _
 rw [BitVec.ofInt_natCast, BitVec.ofInt_natCast, BitVec.toNat_xor, BitVec.toNat_ofNat, BitVec.toNat_ofNat, Nat.mod_eq_of_lt (show x.toNat % 256 < 2 ^ 8 by omega), Nat.mod_eq_of_lt (show b.toNat < 2 ^ 8 by omega), IntKind.wrap_u8]
 omega
theorem zpN (x : B32) (b : UInt8) : byteS (toI x) b = toI (stepB x b) := by
 unfold byteS
 rw [zm7, zsK _ (BitVec.isLt _), show ishr .u32 (toI x) 8 = toI (x >>> 8) from zgB x 8 (by omega), zcE, zpK]
theorem zsL (x : B32) (l : List UInt8) : sumS (toI x) l = toI (sumB x l) := by
 induction l generalizing x with
 | nil => rfl
 | cons b l ih =>
  simp only [sumS, sumB, List.foldl_cons, zpN] at *
  exact ih _
def onesB : B32 := 4294967295#32
theorem ziP (x : B32) : notS (toI x) = toI (onesB ^^^ x) := by
 unfold notS
 rw [show (if IntKind.u32.signed = true then (-1 : Int) else IntKind.u32.max) = toI onesB from by decide, zcE]
theorem zjV (x : B32) (l : List UInt8) : sumOf (toI x) l = toI (onesB ^^^ sumB (onesB ^^^ x) l) := by
 unfold sumOf
 rw [ziP, zsL, ziP]
open Go Go.Proofs
theorem zuQ (b : UInt8) : IntKind.u32.wrap (b.toNat : Int) = toI (u8B b) := by
 have := b.toNat_lt
 unfold u8B
 rw [zjU _ (by omega), IntKind.wrap_u32]
 omega
theorem rem2 (x : B32) : ((toI x).tmod 2 == 1) = x.getLsbD 0 := by
 unfold toI
 have h0 : (x.toNat : Int).tmod 2 = ((x.toNat % 2 : Nat) : Int) := by rw [Int.tmod_eq_emod_of_nonneg (by omega)]; omega
 rw [h0]
 have h1 : x.getLsbD 0 = decide (x.toNat % 2 = 1) := by
  rw [BitVec.getLsbD, Nat.testBit_zero]
 rw [h1]
 rcases Nat.mod_two_eq_zero_or_one x.toNat with h | h <;> rw [h] <;> rfl
theorem zpO (x : B32) (h : x.getLsbD 0 = true) : ibits .xor .u32 (ishr .u32 (toI x) 1) 2197175160 = toI (bT x) := by
 rw [show ishr .u32 (toI x) 1 = toI (x >>> 1) from zgB x 1 (by omega), show (2197175160 : Int) = toI polyB by decide, zcE]
 unfold bT
 rw [h]; rfl
theorem zm8 (x : B32) (h : x.getLsbD 0 = false) : ishr .u32 (toI x) 1 = toI (bT x) := by
 rw [show ishr .u32 (toI x) 1 = toI (x >>> 1) from zgB x 1 (by omega)]
 unfold bT
 rw [h]; simp
theorem zm9 (x : B32) (l : List UInt8) (hl : l.length ≤ 9223372036854775807) : ACall Tryz.prog 118 0 [.d (.int .u32 (toI x)), .d (.str l)] [] (fun r _ => r = .d (.int .u32 (toI (onesB ^^^ sumB (onesB ^^^ x) l)))) := by
 have hnot : ∀ y : B32, ibits .xor .u32 (if IntKind.u32.signed = true then (-1 : Int) else IntKind.u32.max) (toI y) = toI (onesB ^^^ y) := ziP
 refine zk Tryz.func118 rfl (zu Tryz.func118 (by kernel_rfl) rfl) Tryz.ntmps118 (by simp) (fun base => ?_)
 refine za noTab (zb _) (fun K hK => ?_); simp only [go_sem, Nat.le_refl, List.append_toArray, List.range_zero, List.append_eq, Int.toNat_natCast, aeq, aeq.aeqF, simprocAttr]
 refine hK _ ?_; clear hK K
 refine za noTab (zb _) (fun K hK => ?_); simp only [go_sem, Nat.le_refl, List.append_toArray, List.range_zero, List.append_eq, Int.toNat_natCast, aeq, aeq.aeqF, simprocAttr, hnot]
 refine hK _ ?_; clear hK K
 refine zq (fun K1 hK1 => ?_)
 refine za noTab (zb _) (fun K hK => ?_); simp only [go_sem, Nat.le_refl, List.append_toArray, List.range_zero, List.append_eq, Int.toNat_natCast, aeq, aeq.aeqF, simprocAttr]
 refine hK _ ?_; clear hK K
 refine zo ?_
 refine zL (fun i : {i : Nat // i ≤ l.length} => ⟨[(1, true, .d (.str l)), (5, true, .d (.int .u32 (toI (sumB (onesB ^^^ x) (l.take i.1))))), (6, true, .d (.int .i64 i.1))], [], some []⟩) (fun i => l.length - i.1) ⟨0, by omega⟩ (by simp only [AS.le, leT, leH, zr, AsgK, AV.le, AV.leL, AObj.le, inH, idsT, idsH, AV.ids, AV.idsL, AV.idsR, AObj.ids, lk, hget, go_sem, Nat.le_refl, List.append_toArray, List.range_zero, List.append_eq, Int.toNat_natCast, aeq, aeq.aeqF, simprocAttr] <;> simp [sumB]) (fun i => ?_)
 obtain ⟨i, hi⟩ := i
 refine zq (fun K2 hK2 => ?_)
 refine za noTab (zb _) (fun K hK => ?_); simp only [go_sem, Nat.le_refl, List.append_toArray, List.range_zero, List.append_eq, Int.toNat_natCast, aeq, aeq.aeqF, simprocAttr]
 refine hK _ ?_; clear hK K
 refine zp rfl (fun hc => ?_) (fun hc => ?_)
 ·refine zh ?_; simp only [go_sem, Nat.le_refl, List.append_toArray, List.range_zero, List.append_eq, Int.toNat_natCast, aeq, aeq.aeqF, simprocAttr]; refine hK2 _ ?_; clear hK2 K2
  have hil : i < l.length := by simp at hc; omega
  obtain ⟨b, hb⟩ : ∃ b, l[i]? = some b := ⟨l[i], by simp [hil]⟩
  have hgd : l.getD i 0 = b := by simp [List.getD_eq_getElem?_getD, hb]
  refine zq (fun K3 hK3 => ?_)
  refine zo ?_
  refine za noTab (zb _) (fun K hK => ?_); simp only [go_sem, Nat.le_refl, List.append_toArray, List.range_zero, List.append_eq, Int.toNat_natCast, aeq, aeq.aeqF, simprocAttr, hgd, zuQ, zcE]
  refine ⟨⟨by omega, by omega⟩, hK _ ?_⟩
  clear hK
  refine za noTab (zb _) (fun K hK => ?_); simp only [go_sem, Nat.le_refl, List.append_toArray, List.range_zero, List.append_eq, Int.toNat_natCast, aeq, aeq.aeqF, simprocAttr]
  refine hK _ ?_; clear hK K
  refine zo ?_
  refine zL (fun k : {k : Nat // k ≤ 8} => ⟨[(1, true, .d (.str l)), (6, true, .d (.int .i64 i)), (5, true, .d (.int .u32 (toI (bN k.1 (sumB (onesB ^^^ x) (l.take i) ^^^ u8B b))))), (7, true, .d (.int .i64 k.1))], [], some []⟩) (fun k => 8 - k.1) ⟨0, by omega⟩ (by simp only [AS.le, leT, leH, zr, AsgK, AV.le, AV.leL, AObj.le, inH, idsT, idsH, AV.ids, AV.idsL, AV.idsR, AObj.ids, lk, hget, go_sem, Nat.le_refl, List.append_toArray, List.range_zero, List.append_eq, Int.toNat_natCast, aeq, aeq.aeqF, simprocAttr] <;> simp [bN]) (fun k => ?_)
  obtain ⟨k, hk⟩ := k
  refine zq (fun K4 hK4 => ?_)
  refine za noTab (zb _) (fun K hK => ?_); simp only [go_sem, Nat.le_refl, List.append_toArray, List.range_zero, List.append_eq, Int.toNat_natCast, aeq, aeq.aeqF, simprocAttr]
  refine hK _ ?_; clear hK K
  refine zp rfl (fun hc => ?_) (fun hc => ?_)
  ·refine zh ?_; simp only [go_sem, Nat.le_refl, List.append_toArray, List.range_zero, List.append_eq, Int.toNat_natCast, aeq, aeq.aeqF, simprocAttr]; refine hK4 _ ?_; clear hK4 K4
   have hkl : k < 8 := by simp at hc; omega
   have hw : IntKind.i64.wrap ((k : Int) + 1) = ((k + 1 : Nat) : Int) := by rw [IntKind.wrap_i64]; omega
   refine zq (fun K5 hK5 => ?_)
   refine zo ?_
   refine za noTab (zb _) (fun K hK => ?_); simp only [go_sem, Nat.le_refl, List.append_toArray, List.range_zero, List.append_eq, Int.toNat_natCast, aeq, aeq.aeqF, simprocAttr, rem2]
   refine hK _ ?_; clear hK K
   refine zp rfl (fun hc => ?_) (fun hc => ?_)
   ·have hb1 : (bN k (sumB (onesB ^^^ x) (l.take i) ^^^ u8B b)).getLsbD 0 = true := by simpa using hc
    refine zc noTab (zb _) ?_; simp only [go_sem, Nat.le_refl, List.append_toArray, List.range_zero, List.append_eq, Int.toNat_natCast, aeq, aeq.aeqF, simprocAttr, zpO _ hb1]
    refine hK5 _ ?_; clear hK5 K5
    refine zc noTab (zb _) ?_; simp only [go_sem, Nat.le_refl, List.append_toArray, List.range_zero, List.append_eq, Int.toNat_natCast, aeq, aeq.aeqF, simprocAttr]
    refine ⟨⟨k + 1, by omega⟩, ?_, by simp; omega⟩
    rw [hw]
    simp only [AS.le, leT, leH, zr, AsgK, AV.le, AV.leL, AObj.le, inH, idsT, idsH, AV.ids, AV.idsL, AV.idsR, AObj.ids, lk, hget, go_sem, Nat.le_refl, List.append_toArray, List.range_zero, List.append_eq, Int.toNat_natCast, aeq, aeq.aeqF, simprocAttr]
    try rfl
   ·have hb1 : (bN k (sumB (onesB ^^^ x) (l.take i) ^^^ u8B b)).getLsbD 0 = false := by simpa using hc
    refine zc noTab (zb _) ?_; simp only [go_sem, Nat.le_refl, List.append_toArray, List.range_zero, List.append_eq, Int.toNat_natCast, aeq, aeq.aeqF, simprocAttr, zm8 _ hb1]
    refine hK5 _ ?_; clear hK5 K5
    refine zc noTab (zb _) ?_; simp only [go_sem, Nat.le_refl, List.append_toArray, List.range_zero, List.append_eq, Int.toNat_natCast, aeq, aeq.aeqF, simprocAttr]
    refine ⟨⟨k + 1, by omega⟩, ?_, by simp; omega⟩
    rw [hw]
    simp only [AS.le, leT, leH, zr, AsgK, AV.le, AV.leL, AObj.le, inH, idsT, idsH, AV.ids, AV.idsL, AV.idsR, AObj.ids, lk, hget, go_sem, Nat.le_refl, List.append_toArray, List.range_zero, List.append_eq, Int.toNat_natCast, aeq, aeq.aeqF, simprocAttr]
    try rfl
  ·refine zi ?_; simp only [go_sem, Nat.le_refl, List.append_toArray, List.range_zero, List.append_eq, Int.toNat_natCast, aeq, aeq.aeqF, simprocAttr]; refine hK3 _ ?_
   have hk8 : k = 8 := by simp at hc; omega
   subst hk8
   refine zc noTab (zb _) ?_; simp only [go_sem, Nat.le_refl, List.append_toArray, List.range_zero, List.append_eq, Int.toNat_natCast, aeq, aeq.aeqF, simprocAttr]
   have hw : IntKind.i64.wrap ((i : Int) + 1) = ((i + 1 : Nat) : Int) := by rw [IntKind.wrap_i64]; omega
   refine ⟨⟨i + 1, by omega⟩, ?_, by simp; omega⟩
   rw [hw]
   have hs : sumB (onesB ^^^ x) (l.take (i + 1)) = bN 8 (sumB (onesB ^^^ x) (l.take i) ^^^ u8B b) := by
    rw [List.take_add_one, hb, Option.toList_some, zkL]; rfl
   rw [hs]
   simp only [AS.le, leT, leH, zr, AsgK, AV.le, AV.leL, AObj.le, inH, idsT, idsH, AV.ids, AV.idsL, AV.idsR, AObj.ids, lk, hget, go_sem, Nat.le_refl, List.append_toArray, List.range_zero, List.append_eq, Int.toNat_natCast, aeq, aeq.aeqF, simprocAttr]
 ·refine zi ?_; simp only [go_sem, Nat.le_refl, List.append_toArray, List.range_zero, List.append_eq, Int.toNat_natCast, aeq, aeq.aeqF, simprocAttr]; refine hK1 _ ?_
  have hil : i = l.length := by simp at hc; omega
  subst hil
  refine za noTab (zb _) (fun K hK => ?_); simp only [go_sem, Nat.le_refl, List.append_toArray, List.range_zero, List.append_eq, Int.toNat_natCast, aeq, aeq.aeqF, simprocAttr, hnot]
  refine hK _ ?_; clear hK K
  refine zn ?_; simp only [go_sem, Nat.le_refl, List.append_toArray, List.range_zero, List.append_eq, Int.toNat_natCast, aeq, aeq.aeqF, simprocAttr, Tryz.results118]
  try rw [List.take_length]
theorem zkM (c : Int) (l : List UInt8) (h0 : 0 ≤ c) (h1 : c ≤ 4294967295) (hl : l.length ≤ 9223372036854775807) : ACall Tryz.prog 118 0 [.d (.int .u32 c), .d (.str l)] [] (fun r _ => r = .d (.int .u32 (sumOf c l))) := by
 obtain ⟨x, rfl⟩ := ofI c h0 h1
 rw [zjV]
 exact zm9 x l hl
theorem zkN (c : Int) (h0 : 0 ≤ c) (h1 : c ≤ 4294967295) : ACall Tryz.prog 55 0 [.d (.int .u32 c)] [] (fun r _ => r = .d (.str (ze2 c))) := by
 refine zk Tryz.func55 rfl (zu Tryz.func55 (by kernel_rfl) rfl) Tryz.ntmps55 (by simp) (fun base => ?_)
 refine za noTab (zb _) (fun K hK => ?_); simp only [go_sem, Nat.le_refl, List.append_toArray, List.range_zero, List.append_eq, Int.toNat_natCast, aeq, aeq.aeqF, simprocAttr]
 refine hK _ ?_; clear hK K
 refine za noTab (zb _) (fun K hK => ?_); simp only [go_sem, Nat.le_refl, List.append_toArray, List.range_zero, List.append_eq, Int.toNat_natCast, aeq, aeq.aeqF, simprocAttr]
 refine ⟨rfl, hK _ ?_⟩
 clear hK K
 refine zn ?_; simp only [go_sem, Nat.le_refl, List.append_toArray, List.range_zero, List.append_eq, Int.toNat_natCast, aeq, aeq.aeqF, simprocAttr, Tryz.results55]
 have e3 : zbp c 3 = IntKind.u8.wrap c := by
  unfold zbp ishr
  rw [show IntKind.i64.wrap (24 - IntKind.i64.wrap (8 * ((3 : Nat) : Int))) = 0 by decide]
  simp
 have e2 : zbp c 2 = IntKind.u8.wrap (ishr .u32 c 8) := by
  unfold zbp
  rw [show IntKind.i64.wrap (24 - IntKind.i64.wrap (8 * ((2 : Nat) : Int))) = 8 by decide]
 have e1 : zbp c 1 = IntKind.u8.wrap (ishr .u32 c 16) := by
  unfold zbp
  rw [show IntKind.i64.wrap (24 - IntKind.i64.wrap (8 * ((1 : Nat) : Int))) = 16 by decide]
 have e0 : zbp c 0 = IntKind.u8.wrap (ishr .u32 c 24) := by
  unfold zbp
  rw [show IntKind.i64.wrap (24 - IntKind.i64.wrap (8 * ((0 : Nat) : Int))) = 24 by decide]
 simp only [ze2, bytesOf, List.map_cons, List.map_nil, numOf, e0, e1, e2, e3]
theorem zpP (c : Int) (l : List UInt8) (h0 : 0 ≤ c) (h1 : c ≤ 4294967295) : 0 ≤ sumOf c l ∧ sumOf c l ≤ 4294967295 := by
 obtain ⟨x, rfl⟩ := ofI c h0 h1
 rw [zjV]
 unfold toI
 have := (onesB ^^^ sumB (onesB ^^^ x) l).isLt
 omega
open Go Go.Proofs
noncomputable def zc6 : Ent Tryz.prog := .ofL 118 (consL (intT .u32) (consL strT nilL)) (fun (c, l, _) => (0 ≤ c) ∧ (c ≤ 4294967295) ∧ (l.length ≤ 9223372036854775807)) (fun (c, l, _) => .d (.int .u32 (sumOf c l))) (fun (c, l, _) hp => ⟨rfl, zkM c l hp.1 hp.2.1 hp.2.2⟩)
attribute [go_sem] zc6
noncomputable def zc7 : Ent Tryz.prog := .ofL 55 (consL (intT .u32) nilL) (fun (c, _) => (0 ≤ c) ∧ (c ≤ 4294967295)) (fun (c, _) => .d (.str (ze2 c))) (fun (c, _) hp => ⟨rfl, zkN c hp.1 hp.2⟩)
attribute [go_sem] zc7
noncomputable def tab2r : Tab := tabOf [zc6]
theorem zl2 : TabOk Tryz.prog tab2r := zz _
@[go_sem] theorem zna (args : List AV) : tab2r 118 args = (zc6).e args := rfl
theorem zsM (l : List UInt8) (hl : l.length ≤ 9223372036854775807) : ACall Tryz.prog 56 0 [.d (.str l)] [] (fun r _ => r = .d (.int .u32 (sumOf 0 l))) := by
 refine zk Tryz.func56 rfl (zu Tryz.func56 (by kernel_rfl) rfl) Tryz.ntmps56 (by simp) (fun base => ?_)
 repeat' (first | ((first | refine za tab2r (zl2) (fun K hK => ?_) | refine zc tab2r (zl2) ?_ | refine zh ?_ | refine zi ?_ | refine zn ?_); simp only [go_sem, aeq, aeq.aeqF, simprocAttr, Tryz.results56]) | refine zq (fun K hK => ?_) | (refine hK _ ?_; clear hK K) | with_reducible refine And.intro ?_ ?_ | omega | assumption | clear hK K)
noncomputable def zfK : Ent Tryz.prog := .ofL 56 (consL strT nilL) (fun (l, _) => l.length ≤ 9223372036854775807) (fun (l, _) => .d (.int .u32 (sumOf 0 l))) (fun (l, _) hp => ⟨rfl, zsM l hp⟩)
attribute [go_sem] zfK
end Go.Aw
namespace Go.Proofs.YtmhlpboclbippaaGreat
open Go Go.RowKit
theorem bsize : ∃ j, Tryz.prog.info? 133 = some j ∧ j.size = 2 := by
 obtain ⟨j, hj, hjs⟩ := Option.map_eq_some_iff.1 (show (Tryz.prog.info? 133).map (·.size) = some 2 by kernel_rfl)
 exact ⟨j, hj, hjs⟩
theorem zqe (b o : Nat) (w : World) (h0 : w.cell? ⟨b, o, none⟩ = some (.pointer (some ⟨b, o, none⟩))) :
  Calls Tryz.prog 136 #[.pointer (some ⟨b, o, none⟩)] w fun e w' => e = .returned (.tuple #[]) ∧ w' = w := by
 obtain ⟨j, hj, hjs⟩ := bsize
 go_enter Tryz.func136, Tryz.ntmps136
 go_wp2
 rw [Lib.run_neq_ptr_same w _ Tryz.underlying131 hj]
 go_wp2
 go_end0
 exact ⟨rfl, rfl⟩
theorem znq (b o n : Nat) (T : TypeId) (w : World) (h0 : w.cell? ⟨b, o, none⟩ = some (.pointer none)) (hsh : w.shape? b = some (T, n)) (hlt : o < n) (hl : liesAt Tryz.prog Tryz.prog.depth T (n / Tryz.prog.cellsOf T) o 133 1 = true) (hfz : w.frozen? ⟨b, o, none⟩ = false) :
  Calls Tryz.prog 136 #[.pointer (some ⟨b, o, none⟩)] w fun e w' => e = .returned (.tuple #[]) ∧ w' = w.setCell ⟨b, o, none⟩ (.pointer (some ⟨b, o, none⟩)) := by
 obtain ⟨j, hj, hjs⟩ := bsize
 go_enter Tryz.func136, Tryz.ntmps136
 go_wp2
 rw [Lib.run_to_unsafe w ⟨b, o, none⟩ Tryz.underlying131 Tryz.underlying234 hj (by rw [hjs]; decide) hsh hlt]
 simp only [Result.andThen]
 rw [Oper.upon_value]
 go_wp2
 rw [run_callFunc_extern Tryz.func180 (by kernel_rfl) (by kernel_rfl) (by kernel_rfl) (e := Extern.AbiNoEscape.same) (by kernel_rfl)]
 rw [Lib.run_noEscape]
 simp only [Result.andThen]
 rw [Oper.upon_value]
 go_wp2
 rw [Lib.run_from_unsafe w ⟨b, o, none⟩ Tryz.underlying234 Tryz.underlying131 hj hsh hl]
 simp only [Result.andThen]
 rw [Oper.upon_value]
 go_wp2
 go_end0
 exact ⟨rfl, rfl⟩
end Go.Proofs.YtmhlpboclbippaaGreat
