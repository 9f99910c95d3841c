/-
  A region that draws its order: the theorem.
-/
import Derived.Test.YtioccpkcnnkpjaaGreatAwDraw3
namespace Go.Aw
set_option maxRecDepth 100000
set_option linter.unusedSimpArgs false
set_option linter.unusedVariables false
open Go

theorem eff_heap {op : Op} (h : isEff op = true) : heapOp op = true := by
  cases op <;> first | rfl | cases h

theorem getD_set (l : Array Bool) (i k : Nat) (hi : i < l.size) : (l.setIfInBounds i true).getD k false = if k = i then true else l.getD k false := by
  simp only [Array.getD_eq_getD_getElem?]
  by_cases h : k = i
  · subst h
    rw [if_pos rfl, Array.getElem?_setIfInBounds_self_of_lt hi]
    rfl
  · rw [if_neg h, Array.getElem?_setIfInBounds_ne (Ne.symm h)]

theorem count_set (l : Array Bool) (i : Nat) (n : Nat) (hi : l[i]? = some false) (hc : l.toList.countP (fun b => b == false) = n + 1) : (l.setIfInBounds i true).toList.countP (fun b => b == false) = n := by
  obtain ⟨hlt, he⟩ := Array.getElem?_eq_some_iff.1 hi
  rw [Array.toList_setIfInBounds, List.countP_set (by simpa using hlt)]
  have : l.toList[i]'(by simpa using hlt) = false := by simpa using he
  rw [this, hc]
  simp

section
variable {cx : Cx} {tab : Tab} {ops : Array Oper}

theorem all_listed {listed : Array Bool} (hd : drawOk ops = true) (hsz : listed.size = ops.size) (hr : Region.ready .any ops listed = []) : ∀ i, i < ops.size → listed.getD i false = true := by
  intro i
  induction i using Nat.strongRecOn with
  | _ i ih =>
    intro hi
    cases hl : listed.getD i false with
    | true => rfl
    | false =>
      have hmem : i ∈ Region.ready .any ops listed := by
        refine mem_ready.2 ⟨?_, ops[i], by simp [hi], fun e he hb => ?_⟩
        · rw [Array.getD_eq_getD_getElem?] at hl ⊢
          rw [Array.getElem?_eq_getElem (by omega)] at hl ⊢
          exact hl
        · have := back_of hd (j := i) (b := ops[i]) (Array.getElem?_eq_getElem hi) e (Array.mem_toList_iff.2 he) hb
          exact ih _ this (by omega)
      rw [hr] at hmem
      cases hmem

theorem draw_any (ht : TabOk cx.P tab) (hd : drawOk ops = true) {L : List Res} (hL : L.map (·.1) = ops.toList) {s0 : AS} (ho : Outs cx tab ops L s0) {E0 : Env} {w0 : World} {K : AS → Prop} (hK : K (lexS L L.length s0)) :
    ∀ (fuel : Nat) (listed : Array Bool) (E : Env) (a : Act) (w : World), listed.size = ops.size → listed.toList.countP (fun b => b == false) = fuel →
      (∀ (i : Nat) o, ops[i]? = some o → listed.getD i false = true → ∀ e ∈ o.after.toList, Region.binds .any e = true → listed.getD e.on false = true) →
      Sat cx E (selS L (fun i => listed.getD i false) s0) a w → Evo cx.fl E0 s0.h w0 E (selS L (fun i => listed.getD i false) s0).h w →
      wpAnyIn cx.F 0 cx.P .any ops (fun e a' w' => e = .normal ∧ Reach cx E0 s0.h w0 K a' w') fuel listed a w := by
  have hlen : L.length = ops.size := by
    have := congrArg List.length hL
    simpa using this
  have hget : ∀ (l : Nat) (r : Res), L[l]? = some r → ops[l]? = some r.1 := fun l r hr => by
    have := congrArg (fun x : List Oper => x[l]?) hL
    simp only [List.getElem?_map, hr, Option.map_some, Array.getElem?_toList] at this
    exact this.symm
  have done : ∀ (listed : Array Bool) (E : Env) (a : Act) (w : World), (∀ i, i < ops.size → listed.getD i false = true) → Sat cx E (selS L (fun i => listed.getD i false) s0) a w → Evo cx.fl E0 s0.h w0 E (selS L (fun i => listed.getD i false) s0).h w →
      (Exit.normal = Exit.normal ∧ Reach cx E0 s0.h w0 K a w) := by
    intro listed E a w hall hs he
    have hSS : ∀ (i : Nat) (r : Res), L[i]? = some r → listed.getD i false = decide (i < L.length) := fun i r hr => by
      have hi : i < L.length := (List.getElem?_eq_some_iff.1 hr).1
      rw [hall i (by omega), decide_eq_true hi]
    have hh : (selS L (fun i => listed.getD i false) s0).h = (lexS L L.length s0).h := sel_h L _ _ _ _ rfl (fun i r hr _ => hSS i r hr)
    refine ⟨rfl, E, lexS L L.length s0, hK, hs.of_lk (fun k => sel_lk (Q := fun _ => True) L _ _ _ _ (fun _ _ => rfl) (fun i r hr _ => hSS i r hr) k trivial) hh ?_, hh ▸ he⟩
    unfold lexS
    rw [sel_g, sel_g]
  intro fuel
  induction fuel with
  | zero =>
    intro listed E a w hsz hc hcl hs he
    have hall : ∀ i, i < ops.size → listed.getD i false = true := fun i hi => by
      have h0 := List.countP_eq_zero.1 hc (listed[i]'(by omega)) (by simp)
      rw [Array.getD_eq_getD_getElem?, Array.getElem?_eq_getElem (by omega)]
      simpa using h0
    refine ⟨?_, done listed E a w hall hs he⟩
    cases hr : Region.ready .any ops listed with
    | nil => rfl
    | cons i l =>
      have hi : i ∈ Region.ready .any ops listed := by rw [hr]; simp
      obtain ⟨h1, o, h2, _⟩ := mem_ready.1 hi
      have hlt : i < ops.size := (Array.getElem?_eq_some_iff.1 h2).1
      have h3 := hall i hlt
      rw [Array.getD_eq_getD_getElem?, Array.getElem?_eq_getElem (by omega)] at h1 h3
      simp only [Option.getD_some] at h1 h3
      rw [h1] at h3; cases h3
  | succ fuel ih =>
    intro listed E a w hsz hc hcl hs he
    refine ⟨fun hr => done listed E a w (all_listed hd hsz hr) hs he, fun i hi => ?_⟩
    obtain ⟨hun, o, hoi, hdep⟩ := mem_ready.1 hi
    have hlt : i < ops.size := (Array.getElem?_eq_some_iff.1 hoi).1
    have hun' : listed[i]? = some false := by
      rw [Array.getD_eq_getD_getElem?, Array.getElem?_eq_getElem (by omega)] at hun
      rw [Array.getElem?_eq_getElem (by omega)]
      simpa using hun
    have hSi : listed.getD i false = false := by rw [Array.getD_eq_getD_getElem?, hun']; rfl
    obtain ⟨r, hr⟩ : ∃ r, L[i]? = some r := ⟨_, List.getElem?_eq_getElem (by omega)⟩
    have hro : r.1 = o := Option.some.inj ((hget i r hr).symm.trans hoi)
    obtain ⟨G, hG, hdst, hfop, hfh⟩ := ho i r hr
    rw [hro] at hG hdst hfop hfh
    have hdep' : ∀ o', ops[i]? = some o' → ∀ e ∈ o'.after.toList, Region.binds .any e = true → listed.getD e.on false = true := fun o' ho' e he' hb => by
      rw [hoi] at ho'; cases ho'
      exact hdep e (by simpa using he') hb
    -- whatever is bound lies as the text has it
    have before : ∀ (l : Nat) (r' : Res), L[l]? = some r' → l < i → conf ops r'.1 o = true → listed.getD l false = true := fun l r' hr' hl hcf =>
      anc_closed (S := fun i => listed.getD i false) hcl _ i l (conf_of hd hl (hget l r' hr') hoi hcf) hdep'
    have behind : ∀ (l : Nat) (r' : Res), L[l]? = some r' → i < l → conf ops o r'.1 = true → listed.getD l false = false := fun l r' hr' hl hcf => by
      cases hSl : listed.getD l false with
      | false => rfl
      | true =>
        have := anc_closed (S := fun i => listed.getD i false) hcl _ l i (conf_of hd hl hoi (hget l r' hr') hcf) (fun o' ho' => hcl l o' ho' hSl)
        rw [hSi] at this; cases this
    have agree : ∀ (l : Nat) (r' : Res), L[l]? = some r' → (l < i → conf ops r'.1 o = true) → (i < l → conf ops o r'.1 = true) → listed.getD l false = decide (l < i) := fun l r' hr' h1 h2 => by
      rcases Nat.lt_trichotomy l i with h | h | h
      · rw [before l r' hr' h (h1 h), decide_eq_true h]
      · subst h; rw [hSi]; simp
      · rw [behind l r' hr' h (h2 h), decide_eq_false (by omega)]
    have hslots : ∀ k, k ∈ slotsOf ops o → lk (selS L (fun i => listed.getD i false) s0).t k = lk (lexS L i s0).t k :=
      sel_lk (Q := fun k => k ∈ slotsOf ops o) L _ _ _ _ (fun _ _ => rfl) (fun l r' hr' ⟨d, hd1, hd2⟩ => agree l r' hr'
        (fun _ => by unfold conf; rw [hd1]; simp [hd2])
        (fun _ => by unfold conf; rw [hd1]; simp [hd2]))
    have hev := ev_of_lk (s := lexS L i s0) (s' := selS L (fun i => listed.getD i false) s0) (l := opndsOf o.op) (fun k hk => (hslots k (List.mem_append_left _ hk)).symm)
    have hgd : guardOf (selS L (fun i => listed.getD i false) s0) ops o.guard = some G := by
      rw [← hG]
      exact guard_of_lk (fun k hk => hslots k (List.mem_append_right _ hk))
    have hheap : heapOp o.op = true → (selS L (fun i => listed.getD i false) s0).h = (lexS L i s0).h := fun hp =>
      sel_h L _ _ _ _ rfl (fun l r' hr' hef => agree l r' hr' (fun _ => by unfold conf; simp [hef, hp]) (fun _ => by unfold conf; simp [hef, hp]))
    -- what the operation comes to here
    obtain ⟨hres, hfS, hresE, hresN⟩ : ∃ hres : AHeap, (∀ R : Bool → AV → AHeap → Prop, R r.2.1 r.2.2.1 hres → fop cx tab (selS L (fun i => listed.getD i false) s0) G o R) ∧ (isEff o.op = true → hres = r.2.2.2) ∧ (isEff o.op = false → hres = (selS L (fun i => listed.getD i false) s0).h) := by
      cases hp : heapOp o.op with
      | true => exact ⟨r.2.2.2, fun R hR => fop_e hev (hheap hp).symm (hfop R hR), fun _ => rfl, fun e => (hfh e).trans (hheap hp).symm⟩
      | false =>
        have hne : isEff o.op = false := by
          cases h : isEff o.op with
          | false => rfl
          | true => rw [eff_heap h] at hp; cases hp
        refine ⟨(selS L (fun i => listed.getD i false) s0).h, fun R hR => ?_, (fun e => by rw [e] at hne; cases hne), fun _ => rfl⟩
        refine fop_e (s := { lexS L i s0 with h := (selS L (fun i => listed.getD i false) s0).h }) (fun x hx => ?_) rfl (fop_cold hp (hfh hne) hfop _ R hR)
        have h1 := hev x hx
        have e1 : AS.ev { lexS L i s0 with h := (selS L (fun i => listed.getD i false) s0).h } x = (lexS L i s0).ev x := by cases x <;> rfl
        have e2 : known { lexS L i s0 with h := (selS L (fun i => listed.getD i false) s0).h } x = known (lexS L i s0) x := by cases x <;> rfl
        rw [e1, e2]
        exact h1
    have hw := aopT_ok ht (Q := fun _ _ _ => False) hs hgd (fop_aopT (K := fun t => t = ({ selS L (fun i => listed.getD i false) s0 with h := hres } : AS).put o.dst r.2.1 r.2.2.1) hdst (hfS _ rfl))
    -- on from there
    have next : ∀ a1 w1, Reach cx E (selS L (fun i => listed.getD i false) s0).h w (fun t => t = ({ selS L (fun i => listed.getD i false) s0 with h := hres } : AS).put o.dst r.2.1 r.2.2.1) a1 w1 →
        wpAnyIn cx.F 0 cx.P .any ops (fun e a' w' => e = .normal ∧ Reach cx E0 s0.h w0 K a' w') fuel (listed.setIfInBounds i true) a1 w1 := by
      rintro a1 w1 ⟨E1, s1, rfl, hs1, he1⟩
      have hS' : ∀ k, (listed.setIfInBounds i true).getD k false = if k = i then true else listed.getD k false := fun k => getD_set listed i k (by omega)
      have hputh : (({ selS L (fun i => listed.getD i false) s0 with h := hres } : AS).put o.dst r.2.1 r.2.2.1).h = hres := by unfold AS.put; cases o.dst <;> rfl
      have hputg : (({ selS L (fun i => listed.getD i false) s0 with h := hres } : AS).put o.dst r.2.1 r.2.2.1).g = (selS L (fun i => listed.getD i false) s0).g := by unfold AS.put; cases o.dst <;> rfl
      have agree' : ∀ (l : Nat) (r' : Res), L[l]? = some r' → (l < i → conf ops r'.1 o = true) → (i < l → conf ops o r'.1 = true) → (listed.setIfInBounds i true).getD l false = decide (l < i + 1) := fun l r' hr' h1 h2 => by
        rw [hS']
        rcases Nat.lt_trichotomy l i with h | h | h
        · rw [if_neg (by omega), before l r' hr' h (h1 h), decide_eq_true (by omega)]
        · subst h; rw [if_pos rfl]; simp
        · rw [if_neg (by omega), behind l r' hr' h (h2 h), decide_eq_false (by omega)]
      have hheap' : hres = (selS L (fun k => (listed.setIfInBounds i true).getD k false) s0).h := by
        cases hef : isEff o.op with
        | true =>
          have e1 : (selS L (fun k => (listed.setIfInBounds i true).getD k false) s0).h = (lexS L (i + 1) s0).h :=
            sel_h L _ _ _ _ rfl (fun l r' hr' hef' => agree' l r' hr' (fun _ => by unfold conf; simp [hef', eff_heap hef]) (fun _ => by unfold conf; simp [hef', eff_heap hef]))
          rw [e1, lexS_step L i s0 r hr, app_h, hro, if_pos hef]
          exact hresE hef
        | false =>
          rw [hresN hef]
          refine sel_h L _ _ _ _ rfl (fun l r' hr' hef' => ?_)
          rw [hS', if_neg]
          intro e
          subst e
          rw [hr] at hr'; cases hr'
          rw [hro, hef] at hef'
          cases hef'
      have hlk' : ∀ k, lk (({ selS L (fun i => listed.getD i false) s0 with h := hres } : AS).put o.dst r.2.1 r.2.2.1).t k = lk (selS L (fun k => (listed.setIfInBounds i true).getD k false) s0).t k := by
        intro k
        rw [put_lk]
        split
        · rename_i hk
          have e1 : lk (selS L (fun k => (listed.setIfInBounds i true).getD k false) s0).t k = lk (lexS L (i + 1) s0).t k :=
            sel_lk (Q := fun j => j = k) L _ _ _ _ (fun _ _ => rfl) (fun l r' hr' ⟨d, hd1, hd2⟩ => agree' l r' hr'
              (fun _ => by unfold conf; rw [hd1, hk, hd2]; simp)
              (fun _ => by unfold conf; rw [hd1, hk, hd2]; simp)) k rfl
          rw [e1, lexS_step L i s0 r hr, app_lk, hro, if_pos hk]
        · rename_i hk
          refine sel_lk (Q := fun j => j = k) L _ _ _ _ (fun _ _ => rfl) (fun l r' hr' ⟨d, hd1, hd2⟩ => ?_) k rfl
          rw [hS', if_neg]
          intro e
          subst e
          rw [hr] at hr'; cases hr'
          rw [hro, hd2] at hd1
          exact hk hd1
      refine ih (listed.setIfInBounds i true) E1 a1 w1 (by simpa using hsz) (count_set listed i fuel hun' hc) ?_ (hs1.of_lk hlk' (hputh.trans hheap') (by rw [hputg, sel_g, sel_g])) ?_
      · intro l o' ho' hSl e he' hb
        rw [hS'] at hSl ⊢
        split
        · rfl
        · split at hSl
          · rename_i hli
            subst hli
            exact hdep' o' ho' e he' hb
          · exact hcl l o' ho' hSl e he' hb
      · rw [← hheap', ← hputh]
        exact he.trans he1
    unfold wpOpIn
    rw [hoi]
    dsimp only
    split at hw
    · rename_i hwt
      rw [if_pos hwt]
      exact wpIn_next_mono hw next
    · rename_i hwt
      rw [if_neg hwt]
      exact ⟨hw.1, next _ _ hw.2⟩

theorem aw_region_draw {id : Nat} {Q : Exit → AS → Prop} {s : AS} (tab : Tab) (ht : TabOk cx.P tab) (hm : cx.P.follows .mixedOrders = true) (hd : drawOk ops = true) (h : fops cx tab ops ops.toList (Q .normal) s) : AW cx (.region id ops true) Q s := by
  intro E a w hs
  obtain ⟨L, hL, hK, ho⟩ := fops_outs ops.toList h
  have hs' := hs.drawn
  have hev : Evo cx.fl E s.h w E s.h { w with drawn := w.drawn + 1 } := ⟨rfl, rfl, rfl, Nat.le_refl _, fun _ _ _ _ => rfl, fun _ h => .inl h, fun _ h => h, fun _ h => .inl h, rfl, fun i _ h => ⟨h, GoesOn.refl E _ i⟩⟩
  have h0 : ∀ i, (Array.replicate ops.size false).getD i false = false := fun i => by
    rw [Array.getD_eq_getD_getElem?, Array.getElem?_replicate]
    split <;> rfl
  have hsel : selS L (fun i => (Array.replicate ops.size false).getD i false) s = s := by
    have : (fun i => (Array.replicate ops.size false).getD i false) = fun i => decide (i < 0) := by
      funext i; rw [h0]; simp
    rw [this]
    exact lexS_zero L s
  refine wpIn_mono (wpIn_region_any hm (draw_any ht hd hL ho hK ops.size (Array.replicate ops.size false) E a _ (by simp) (by rw [Array.toList_replicate, List.countP_replicate]; rfl) (fun i o _ hi => by rw [h0] at hi; cases hi) (by rw [hsel]; exact hs') (by rw [hsel]; exact hev))) ?_
  rintro e a' w' ⟨rfl, hr⟩
  exact hr

theorem aw_seq_region_draw {id : Nat} {y : Code} {Q : Exit → AS → Prop} {s : AS} (tab : Tab) (ht : TabOk cx.P tab) (hm : cx.P.follows .mixedOrders = true) (hd : drawOk ops = true) (h : ∀ K, (∀ s', AW cx y Q s' → K s') → fops cx tab ops ops.toList K s) : AW cx (.seq (.region id ops true) y) Q s :=
  aw_seq fun K hK => aw_region_draw tab ht hm hd (h K hK)
end

attribute [go_sem] fops fop detOp
end Go.Aw
