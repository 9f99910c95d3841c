/-
  Regions that draw their order, told by footprints: the theorem.
-/
import Derived.Test.YtioccpkcnnkpjaaGreatAwDraw5
namespace Go.Aw
set_option maxRecDepth 100000
set_option linter.unusedSimpArgs false
set_option linter.unusedVariables false
open Go

section
variable {cx : Cx} {tab : Tab} {ops : Array Oper}

def OutsF (cx : Cx) (tab : Tab) (all : Array Oper) (L : List ResF) (s : AS) : Prop :=
  ∀ (i : Nat) (r : ResF), L[i]? = some r → ∃ G, guardOf (lexF L i s) all r.1.1.guard = some G ∧ dstOk cx.nt r.1.1.dst ∧ (∀ R : Bool → AV → AHeap → Prop, R r.1.2.1 r.1.2.2.1 r.1.2.2.2 → fop cx tab (lexF L i s) G r.1.1 R) ∧ (isEff r.1.1.op = false → r.1.2.2.2 = (lexF L i s).h) ∧ r.2 = foot cx.fl cx.P (lexF L i s) r.1.1.op

theorem effH_foot {s : AS} {G : Bool} {o : Oper} {g : Bool} {v : AV} {h' : AHeap} (h : ∀ R : Bool → AV → AHeap → Prop, R g v h' → fop cx tab s G o R) (hne : isEff o.op = false → h' = s.h) : effH ((o, g, v, h'), foot cx.fl cx.P s o.op) s.h = h' := by
  unfold effH
  dsimp only
  split
  · rename_i he
    obtain ⟨f1, f2⟩ := fop_foot h hne
    split
    · rename_i i hf
      obtain ⟨ob, q1, q2, _⟩ := (f2 i hf s.h rfl).2 he
      rw [q1]
      exact q2.symm
    · rename_i i hf
      obtain ⟨_, ob, q1, _⟩ := fop_new h hf
      rw [q1]
      simp [hget]
    · rfl
  · rename_i he
    exact (hne (by simpa using he)).symm

theorem fopsF_outs {all : Array Oper} : ∀ (l : List Oper) (F : List Foot) {K : AS → Prop} {s : AS}, fopsF cx tab all l F K s → ∃ L : List ResF, L.map (·.1.1) = l ∧ drawOkF all (F.reverse ++ L.map (·.2)) = true ∧ K (lexF L L.length s) ∧ OutsF cx tab all L s
  | [], F, K, s, h => ⟨[], rfl, by simpa using h.1, h.2, fun i r hr => by simp at hr⟩
  | o :: l, F, K, s, h => by
    simp only [fopsF] at h
    split at h
    · rename_i G hG
      obtain ⟨hd, h⟩ := h
      obtain ⟨g, v, h', h1, h2, h3⟩ := fop_fun h
      have e : ({ s with h := h' } : AS).put o.dst g v = appF s ((o, g, v, h'), foot cx.fl cx.P s o.op) := by
        unfold appF
        rw [effH_foot h2 h3]
      rw [e] at h1
      obtain ⟨L, q1, q2, q3, q4⟩ := fopsF_outs l _ h1
      refine ⟨((o, g, v, h'), foot cx.fl cx.P s o.op) :: L, by simp [q1], by simpa using q2, by rw [List.length_cons, lexF_succ]; exact q3, fun i r hr => ?_⟩
      cases i with
      | zero =>
        have : ((o, g, v, h'), foot cx.fl cx.P s o.op) = r := by simpa using hr
        subst this
        rw [lexF_zero]
        exact ⟨G, hG, hd, h2, h3, rfl⟩
      | succ i =>
        rw [lexF_succ]
        exact q4 i r (by simpa using hr)
    · exact h.elim

theorem conf_ofF {F : List Foot} (hd : drawOkF ops F = true) {i j : Nat} {a b : Oper} (hij : i < j) (ha : ops[i]? = some a) (hb : ops[j]? = some b) (hc : confF ops (F.getD i .whole) (F.getD j .whole) a b = true) : anc ops (j + 1) j i = true := by
  unfold drawOkF at hd
  have hj : j < ops.size := (Array.getElem?_eq_some_iff.1 hb).1
  have := List.all_eq_true.1 hd j (by simpa using hj)
  rw [hb] at this
  simp only [Bool.and_eq_true] at this
  have := List.all_eq_true.1 this.2 i (by simpa using hij)
  rw [ha] at this
  dsimp only at this
  rw [hc] at this
  simpa using this

theorem back_ofF {F : List Foot} (hd : drawOkF ops F = true) {j : Nat} {b : Oper} (hb : ops[j]? = some b) : ∀ e ∈ b.after.toList, Region.binds .any e = true → e.on < j := by
  unfold drawOkF at hd
  have hj : j < ops.size := (Array.getElem?_eq_some_iff.1 hb).1
  have := List.all_eq_true.1 hd j (by simpa using hj)
  rw [hb] at this
  simp only [Bool.and_eq_true] at this
  intro e he hbi
  have := List.all_eq_true.1 this.1 e he
  simpa [hbi] using this

theorem all_listedF {F : List Foot} {listed : Array Bool} (hd : drawOkF ops F = true) (hsz : listed.size = ops.size) (hr : Region.ready .any ops listed = []) : ∀ i, i < ops.size → listed.getD i false = true := by
  intro i
  induction i using Nat.strongRecOn with
  | _ i ih =>
    intro hi
    cases hl : listed.getD i false with
    | true => rfl
    | false =>
      have hmem : i ∈ Region.ready .any ops listed := by
        refine mem_ready.2 ⟨?_, ops[i], by simp [hi], fun e he hb => ?_⟩
        · rw [Array.getD_eq_getD_getElem?] at hl ⊢
          rw [Array.getElem?_eq_getElem (by omega)] at hl ⊢
          exact hl
        · have := back_ofF hd (j := i) (b := ops[i]) (Array.getElem?_eq_getElem hi) e (Array.mem_toList_iff.2 he) hb
          exact ih _ this (by omega)
      rw [hr] at hmem
      cases hmem

theorem draw_anyF (ht : TabOk cx.P tab) {L : List ResF} (hd : drawOkF ops (L.map (·.2)) = true) (hL : L.map (·.1.1) = ops.toList) {s0 : AS} (ho : OutsF cx tab ops L s0) {E0 : Env} {w0 : World} {K : AS → Prop} (hK : K (lexF L L.length s0)) :
    ∀ (fuel : Nat) (listed : Array Bool) (E : Env) (a : Act) (w : World), listed.size = ops.size → listed.toList.countP (fun b => b == false) = fuel →
      (∀ (i : Nat) o, ops[i]? = some o → listed.getD i false = true → ∀ e ∈ o.after.toList, Region.binds .any e = true → listed.getD e.on false = true) →
      Sat cx E (selF L (fun i => listed.getD i false) s0) a w → Evo cx.fl E0 s0.h w0 E (selF L (fun i => listed.getD i false) s0).h w →
      wpAnyIn cx.F 0 cx.P .any ops (fun e a' w' => e = .normal ∧ Reach cx E0 s0.h w0 K a' w') fuel listed a w := by
  have hlen : L.length = ops.size := by
    have := congrArg List.length hL
    simpa using this
  have hget : ∀ (l : Nat) (r : ResF), L[l]? = some r → ops[l]? = some r.1.1 := fun l r hr => by
    have := congrArg (fun x : List Oper => x[l]?) hL
    simp only [List.getElem?_map, hr, Option.map_some, Array.getElem?_toList] at this
    exact this.symm
  have hfoot : ∀ (l : Nat) (r : ResF), L[l]? = some r → (L.map (·.2)).getD l .whole = r.2 := fun l r hr => by simp [List.getD_eq_getElem?_getD, hr]
  have hcold : ∀ (l : Nat) (r : ResF), L[l]? = some r → isEff r.1.1.op = true → r.2 ≠ .cold := fun l r hr he hc => by
    obtain ⟨G, _, _, h2, h3, h4⟩ := ho l r hr
    have := ((fop_foot h2 h3).1 (h4 ▸ hc)).1
    rw [he] at this; cases this
  have done : ∀ (listed : Array Bool) (E : Env) (a : Act) (w : World), (∀ i, i < ops.size → listed.getD i false = true) → Sat cx E (selF L (fun i => listed.getD i false) s0) a w → Evo cx.fl E0 s0.h w0 E (selF L (fun i => listed.getD i false) s0).h w →
      (Exit.normal = Exit.normal ∧ Reach cx E0 s0.h w0 K a w) := by
    intro listed E a w hall hs he
    have hSS : ∀ (i : Nat) (r : ResF), L[i]? = some r → listed.getD i false = decide (i < L.length) := fun i r hr => by
      have hi : i < L.length := (List.getElem?_eq_some_iff.1 hr).1
      rw [hall i (by omega), decide_eq_true hi]
    have hh : (selF L (fun i => listed.getD i false) s0).h = (lexF L L.length s0).h := selF_h L _ _ _ _ rfl (fun i r hr _ => hSS i r hr)
    refine ⟨rfl, E, lexF L L.length s0, hK, hs.of_lk (fun k => selF_lk (Q := fun _ => True) L _ _ _ _ (fun _ _ => rfl) (fun i r hr _ => hSS i r hr) k trivial) hh ?_, hh ▸ he⟩
    unfold lexF
    rw [selF_g, selF_g]
  intro fuel
  induction fuel with
  | zero =>
    intro listed E a w hsz hc hcl hs he
    have hall : ∀ i, i < ops.size → listed.getD i false = true := fun i hi => by
      have h0 := List.countP_eq_zero.1 hc (listed[i]'(by omega)) (by simp)
      rw [Array.getD_eq_getD_getElem?, Array.getElem?_eq_getElem (by omega)]
      simpa using h0
    refine ⟨?_, done listed E a w hall hs he⟩
    cases hr : Region.ready .any ops listed with
    | nil => rfl
    | cons i l =>
      have hi : i ∈ Region.ready .any ops listed := by rw [hr]; simp
      obtain ⟨h1, o, h2, _⟩ := mem_ready.1 hi
      have hlt : i < ops.size := (Array.getElem?_eq_some_iff.1 h2).1
      have h3 := hall i hlt
      rw [Array.getD_eq_getD_getElem?, Array.getElem?_eq_getElem (by omega)] at h1 h3
      simp only [Option.getD_some] at h1 h3
      rw [h1] at h3; cases h3
  | succ fuel ih =>
    intro listed E a w hsz hc hcl hs he
    refine ⟨fun hr => done listed E a w (all_listedF hd hsz hr) hs he, fun i hi => ?_⟩
    obtain ⟨hun, o, hoi, hdep⟩ := mem_ready.1 hi
    have hlt : i < ops.size := (Array.getElem?_eq_some_iff.1 hoi).1
    have hun' : listed[i]? = some false := by
      rw [Array.getD_eq_getD_getElem?, Array.getElem?_eq_getElem (by omega)] at hun
      rw [Array.getElem?_eq_getElem (by omega)]
      simpa using hun
    have hSi : listed.getD i false = false := by rw [Array.getD_eq_getD_getElem?, hun']; rfl
    obtain ⟨r, hr⟩ : ∃ r, L[i]? = some r := ⟨_, List.getElem?_eq_getElem (by omega)⟩
    have hro : r.1.1 = o := Option.some.inj ((hget i r hr).symm.trans hoi)
    obtain ⟨G, hG, hdst, hfop, hfh, hft⟩ := ho i r hr
    rw [hro] at hG hdst hfop hfh hft
    have hdep' : ∀ o', ops[i]? = some o' → ∀ e ∈ o'.after.toList, Region.binds .any e = true → listed.getD e.on false = true := fun o' ho' e he' hb => by
      rw [hoi] at ho'; cases ho'
      exact hdep e (by simpa using he') hb
    have before : ∀ (l : Nat) (r' : ResF), L[l]? = some r' → l < i → confF ops r'.2 r.2 r'.1.1 o = true → listed.getD l false = true := fun l r' hr' hl hcf =>
      anc_closed (S := fun i => listed.getD i false) hcl _ i l (conf_ofF hd hl (hget l r' hr') hoi (by rw [hfoot l r' hr', hfoot i r hr]; exact hcf)) hdep'
    have behind : ∀ (l : Nat) (r' : ResF), L[l]? = some r' → i < l → confF ops r.2 r'.2 o r'.1.1 = true → listed.getD l false = false := fun l r' hr' hl hcf => by
      cases hSl : listed.getD l false with
      | false => rfl
      | true =>
        have := anc_closed (S := fun i => listed.getD i false) hcl _ l i (conf_ofF hd hl hoi (hget l r' hr') (by rw [hfoot l r' hr', hfoot i r hr]; exact hcf)) (fun o' ho' => hcl l o' ho' hSl)
        rw [hSi] at this; cases this
    have agree : ∀ (l : Nat) (r' : ResF), L[l]? = some r' → (l < i → confF ops r'.2 r.2 r'.1.1 o = true) → (i < l → confF ops r.2 r'.2 o r'.1.1 = true) → listed.getD l false = decide (l < i) := fun l r' hr' h1 h2 => by
      rcases Nat.lt_trichotomy l i with h | h | h
      · rw [before l r' hr' h (h1 h), decide_eq_true h]
      · subst h; rw [hSi]; simp
      · rw [behind l r' hr' h (h2 h), decide_eq_false (by omega)]
    have hslots : ∀ k, k ∈ slotsOf ops o → lk (selF L (fun i => listed.getD i false) s0).t k = lk (lexF L i s0).t k :=
      selF_lk (Q := fun k => k ∈ slotsOf ops o) L _ _ _ _ (fun _ _ => rfl) (fun l r' hr' ⟨d, hd1, hd2⟩ => agree l r' hr'
        (fun _ => by unfold confF; rw [hd1]; simp [hd2])
        (fun _ => by unfold confF; rw [hd1]; simp [hd2]))
    have hev := ev_of_lk (s := lexF L i s0) (s' := selF L (fun i => listed.getD i false) s0) (l := opndsOf o.op) (fun k hk => (hslots k (List.mem_append_left _ hk)).symm)
    have hgd : guardOf (selF L (fun i => listed.getD i false) s0) ops o.guard = some G := by
      rw [← hG]
      exact guard_of_lk (fun k hk => hslots k (List.mem_append_right _ hk))
    have hev2 : ∀ k : AHeap, ∀ x ∈ opndsOf o.op, ({ lexF L i s0 with h := k } : AS).ev x = (selF L (fun i => listed.getD i false) s0).ev x ∧ known { lexF L i s0 with h := k } x = known (selF L (fun i => listed.getD i false) s0) x := fun k x hx => by
      have h1 := hev x hx
      have e1 : AS.ev { lexF L i s0 with h := k } x = (lexF L i s0).ev x := by cases x <;> rfl
      have e2 : known { lexF L i s0 with h := k } x = known (lexF L i s0) x := by cases x <;> rfl
      rw [e1, e2]
      exact h1
    obtain ⟨ff1, ff2⟩ := fop_foot hfop hfh
    have hmeetW : ∀ f : Foot, f ≠ .cold → f.meets .whole = true ∧ Foot.whole.meets f = true := fun f hf => by cases f <;> first | exact absurd rfl hf | exact ⟨rfl, rfl⟩
    have hmeetS : ∀ f g : Foot, f.meets g = g.meets f := fun f g => by
      cases f <;> cases g <;> simp [Foot.meets, Bool.beq_comm]
    -- what the operation comes to here, and that this is its place in the text's order
    obtain ⟨hres, hfS, hheap'⟩ : ∃ hres : AHeap, (∀ R : Bool → AV → AHeap → Prop, R r.1.2.1 r.1.2.2.1 hres → fop cx tab (selF L (fun i => listed.getD i false) s0) G o R) ∧
        hres = (selF L (fun k => (listed.setIfInBounds i true).getD k false) s0).h := by
      have hS' : ∀ k, (listed.setIfInBounds i true).getD k false = if k = i then true else listed.getD k false := fun k => getD_set listed i k (by omega)
      have hquiet : isEff o.op = false → (selF L (fun i => listed.getD i false) s0).h = (selF L (fun k => (listed.setIfInBounds i true).getD k false) s0).h := fun hq =>
        selF_h L _ _ _ _ rfl (fun l r' hr' hef' => by
          rw [hS', if_neg]
          intro e
          subst e
          rw [hr] at hr'; cases hr'
          rw [hro, hq] at hef'
          cases hef')
      cases hf : r.2 with
      | cold =>
        obtain ⟨hq, hc1⟩ := ff1 (hft ▸ hf)
        exact ⟨_, fun R hR => fop_e (s := { lexF L i s0 with h := (selF L (fun i => listed.getD i false) s0).h }) (hev2 _) rfl (hc1 _ R hR), hquiet hq⟩
      | on k =>
        have hagk : Go.Aw.hget (selF L (fun i => listed.getD i false) s0).h k = Go.Aw.hget (lexF L i s0).h k :=
          selF_hget k L _ _ _ _ rfl (fun l r' hr' hef hm => agree l r' hr' (fun _ => by unfold confF; rw [hf]; simp [hef, hm]) (fun _ => by unfold confF; rw [hf, hmeetS]; simp [hef, hm])) hcold
        obtain ⟨g1, g2⟩ := ff2 k (hft ▸ hf) _ hagk
        cases heo : isEff o.op with
        | false => exact ⟨_, fun R hR => fop_e (s := { lexF L i s0 with h := (selF L (fun i => listed.getD i false) s0).h }) (hev2 _) rfl (g1 heo R hR), hquiet heo⟩
        | true =>
          obtain ⟨ob, q1, q2, q3⟩ := g2 heo
          refine ⟨_, fun R hR => fop_e (s := { lexF L i s0 with h := (selF L (fun i => listed.getD i false) s0).h }) (hev2 _) rfl (q3 R hR), ?_⟩
          have := selF_in k ob L i r (fun i => listed.getD i false) s0 hr hSi (by rw [hro]; exact heo) hf q1 (fun l r' hr' hl hef hsl => by
            have hnm : ¬ (r.2.meets r'.2 = true) := fun hm => by
              have := behind l r' hr' hl (by unfold confF; simp [hef, hm])
              rw [hsl] at this; cases this
            rw [hf] at hnm
            cases hx : r'.2 with
            | cold => exact absurd hx (hcold l r' hr' hef)
            | on j => refine ⟨j, .inl rfl, ?_⟩; rintro rfl; exact hnm (by rw [hx]; simp [Foot.meets])
            | new j => refine ⟨j, .inr rfl, ?_⟩; rintro rfl; exact hnm (by rw [hx]; simp [Foot.meets])
            | whole => exact absurd (by rw [hx]; rfl) hnm)
          rw [← this]
          congr 1
          congr 1
          funext l
          exact (hS' l).symm
      | new k =>
        obtain ⟨heo, ob, q1, q2⟩ := fop_new hfop (hft ▸ hf)
        have hkeys : (selF L (fun i => listed.getD i false) s0).h.map (·.1) = (lexF L i s0).h.map (·.1) :=
          selF_keys L _ _ _ _ rfl (fun l r' hr' hef hno => by
            have hm : r'.2.meets r.2 = true := by
              rw [hf]
              cases hx : r'.2 with
              | cold => exact absurd hx (hcold l r' hr' hef)
              | on j => exact absurd hx (hno j)
              | new j => rfl
              | whole => rfl
            exact agree l r' hr' (fun _ => by unfold confF; simp [hef, hm]) (fun _ => by unfold confF; rw [hmeetS]; simp [hef, hm]))
        have hk0 : fresh cx.fl (lexF L i s0).h = k := by
          have hx := hft.symm.trans hf
          cases hop : o.op <;> rw [hop] at hx heo <;> simp only [foot, isEff] at hx heo <;> first | exact Foot.new.inj hx | (cases hx; done) | (cases heo; done) | (split at hx <;> first | (cases hx; done) | (split at hx <;> cases hx))
        have hfr : fresh cx.fl (selF L (fun i => listed.getD i false) s0).h = k := (fresh_keys hkeys).trans hk0
        refine ⟨_, fun R hR => fop_e (s := { lexF L i s0 with h := (selF L (fun i => listed.getD i false) s0).h }) (hev2 _) rfl (q2 _ hfr R hR), ?_⟩
        have := selF_in_new k ob L i r (fun i => listed.getD i false) s0 hr hSi (by rw [hro]; exact heo) hf (by rw [q1]; simp [Go.Aw.hget]) (fun l r' hr' hl hef hsl => by
          have hnm : ¬ (r.2.meets r'.2 = true) := fun hm => by
            have := behind l r' hr' hl (by unfold confF; simp [hef, hm])
            rw [hsl] at this; cases this
          rw [hf] at hnm
          cases hx : r'.2 with
          | cold => exact absurd hx (hcold l r' hr' hef)
          | on j => refine ⟨j, rfl, ?_⟩; rintro rfl; exact hnm (by rw [hx]; simp [Foot.meets])
          | new j => exact absurd (by rw [hx]; rfl) hnm
          | whole => exact absurd (by rw [hx]; rfl) hnm) (fun _ _ _ _ _ _ => trivial)
        rw [← this]
        congr 1
        congr 1
        funext l
        exact (hS' l).symm
      | whole =>
        have hhw : (selF L (fun i => listed.getD i false) s0).h = (lexF L i s0).h ∨ isEff o.op = false := .inl (selF_h L _ _ _ _ rfl (fun l r' hr' hef => agree l r' hr' (fun _ => by unfold confF; rw [hf]; simp [hef, (hmeetW _ (hcold l r' hr' hef)).1]) (fun _ => by unfold confF; rw [hf]; simp [hef, (hmeetW _ (hcold l r' hr' hef)).2])))
        have hhw : (selF L (fun i => listed.getD i false) s0).h = (lexF L i s0).h := selF_h L _ _ _ _ rfl (fun l r' hr' hef => agree l r' hr' (fun _ => by unfold confF; rw [hf]; simp [hef, (hmeetW _ (hcold l r' hr' hef)).1]) (fun _ => by unfold confF; rw [hf]; simp [hef, (hmeetW _ (hcold l r' hr' hef)).2]))
        refine ⟨r.1.2.2.2, fun R hR => fop_e (fun x hx => hev x hx) hhw.symm (hfop R hR), ?_⟩
        cases heo : isEff o.op with
        | false => rw [hfh heo, ← hhw]; exact hquiet heo
        | true =>
          have e1 : (selF L (fun k => (listed.setIfInBounds i true).getD k false) s0).h = (lexF L (i + 1) s0).h :=
            selF_h L _ _ _ _ rfl (fun l r' hr' hef' => by
              rw [hS']
              rcases Nat.lt_trichotomy l i with h | h | h
              · rw [if_neg (by omega), before l r' hr' h (by unfold confF; rw [hf]; simp [hef', (hmeetW _ (hcold l r' hr' hef')).1]), decide_eq_true (by omega)]
              · subst h; rw [if_pos rfl]; simp
              · rw [if_neg (by omega), behind l r' hr' h (by unfold confF; rw [hf]; simp [hef', (hmeetW _ (hcold l r' hr' hef')).2]), decide_eq_false (by omega)])
          rw [e1, lexF_step L i s0 r hr, appF_h]
          unfold effH
          rw [hro, if_pos heo, hf]
    have hw := aopT_ok ht (Q := fun _ _ _ => False) hs hgd (fop_aopT (K := fun t => t = ({ selF L (fun i => listed.getD i false) s0 with h := hres } : AS).put o.dst r.1.2.1 r.1.2.2.1) hdst (hfS _ rfl))
    have next : ∀ a1 w1, Reach cx E (selF L (fun i => listed.getD i false) s0).h w (fun t => t = ({ selF L (fun i => listed.getD i false) s0 with h := hres } : AS).put o.dst r.1.2.1 r.1.2.2.1) a1 w1 →
        wpAnyIn cx.F 0 cx.P .any ops (fun e a' w' => e = .normal ∧ Reach cx E0 s0.h w0 K a' w') fuel (listed.setIfInBounds i true) a1 w1 := by
      rintro a1 w1 ⟨E1, s1, rfl, hs1, he1⟩
      have hS' : ∀ k, (listed.setIfInBounds i true).getD k false = if k = i then true else listed.getD k false := fun k => getD_set listed i k (by omega)
      have hputh : (({ selF L (fun i => listed.getD i false) s0 with h := hres } : AS).put o.dst r.1.2.1 r.1.2.2.1).h = hres := by unfold AS.put; cases o.dst <;> rfl
      have hputg : (({ selF L (fun i => listed.getD i false) s0 with h := hres } : AS).put o.dst r.1.2.1 r.1.2.2.1).g = (selF L (fun i => listed.getD i false) s0).g := by unfold AS.put; cases o.dst <;> rfl
      have agree' : ∀ (l : Nat) (r' : ResF), L[l]? = some r' → (l < i → confF ops r'.2 r.2 r'.1.1 o = true) → (i < l → confF ops r.2 r'.2 o r'.1.1 = true) → (listed.setIfInBounds i true).getD l false = decide (l < i + 1) := fun l r' hr' h1 h2 => by
        rw [hS']
        rcases Nat.lt_trichotomy l i with h | h | h
        · rw [if_neg (by omega), before l r' hr' h (h1 h), decide_eq_true (by omega)]
        · subst h; rw [if_pos rfl]; simp
        · rw [if_neg (by omega), behind l r' hr' h (h2 h), decide_eq_false (by omega)]
      have hlk' : ∀ k, lk (({ selF L (fun i => listed.getD i false) s0 with h := hres } : AS).put o.dst r.1.2.1 r.1.2.2.1).t k = lk (selF L (fun k => (listed.setIfInBounds i true).getD k false) s0).t k := by
        intro k
        rw [put_lk]
        split
        · rename_i hk
          have e1 : lk (selF L (fun k => (listed.setIfInBounds i true).getD k false) s0).t k = lk (lexF L (i + 1) s0).t k :=
            selF_lk (Q := fun j => j = k) L _ _ _ _ (fun _ _ => rfl) (fun l r' hr' ⟨d, hd1, hd2⟩ => agree' l r' hr'
              (fun _ => by unfold confF; rw [hd1, hk, hd2]; simp)
              (fun _ => by unfold confF; rw [hd1, hk, hd2]; simp)) k rfl
          rw [e1, lexF_step L i s0 r hr, appF_lk, hro, if_pos hk]
        · rename_i hk
          refine selF_lk (Q := fun j => j = k) L _ _ _ _ (fun _ _ => rfl) (fun l r' hr' ⟨d, hd1, hd2⟩ => ?_) k rfl
          rw [hS', if_neg]
          intro e
          subst e
          rw [hr] at hr'; cases hr'
          rw [hro, hd2] at hd1
          exact hk hd1
      refine ih (listed.setIfInBounds i true) E1 a1 w1 (by simpa using hsz) (count_set listed i fuel hun' hc) ?_ (hs1.of_lk hlk' (hputh.trans hheap') (by rw [hputg, selF_g, selF_g])) ?_
      · intro l o' ho' hSl e he' hb
        rw [hS'] at hSl ⊢
        split
        · rfl
        · split at hSl
          · rename_i hli
            subst hli
            exact hdep' o' ho' e he' hb
          · exact hcl l o' ho' hSl e he' hb
      · rw [← hheap', ← hputh]
        exact he.trans he1
    unfold wpOpIn
    rw [hoi]
    dsimp only
    split at hw
    · rename_i hwt
      rw [if_pos hwt]
      exact wpIn_next_mono hw next
    · rename_i hwt
      rw [if_neg hwt]
      exact ⟨hw.1, next _ _ hw.2⟩

theorem aw_region_drawF {id : Nat} {Q : Exit → AS → Prop} {s : AS} (tab : Tab) (ht : TabOk cx.P tab) (hm : cx.P.follows .mixedOrders = true) (h : fopsF cx tab ops ops.toList [] (Q .normal) s) : AW cx (.region id ops true) Q s := by
  intro E a w hs
  obtain ⟨L, hL, hd, hK, ho⟩ := fopsF_outs ops.toList [] h
  have hs' := hs.drawn
  have hev : Evo cx.fl E s.h w E s.h { w with drawn := w.drawn + 1 } := ⟨rfl, rfl, rfl, Nat.le_refl _, fun _ _ _ _ => rfl, fun _ h => .inl h, fun _ h => h, fun _ h => .inl h, rfl, fun i _ h => ⟨h, GoesOn.refl E _ i⟩⟩
  have h0 : ∀ i, (Array.replicate ops.size false).getD i false = false := fun i => by
    rw [Array.getD_eq_getD_getElem?, Array.getElem?_replicate]
    split <;> rfl
  have hsel : selF L (fun i => (Array.replicate ops.size false).getD i false) s = s := by
    have : (fun i => (Array.replicate ops.size false).getD i false) = fun i => decide (i < 0) := by
      funext i; rw [h0]; simp
    rw [this]
    exact lexF_zero L s
  refine wpIn_mono (wpIn_region_any hm (draw_anyF ht (by simpa using hd) hL ho hK ops.size (Array.replicate ops.size false) E a _ (by simp) (by rw [Array.toList_replicate, List.countP_replicate]; rfl) (fun i o _ hi => by rw [h0] at hi; cases hi) (by rw [hsel]; exact hs') (by rw [hsel]; exact hev))) ?_
  rintro e a' w' ⟨rfl, hr⟩
  exact hr

theorem aw_seq_region_drawF {id : Nat} {y : Code} {Q : Exit → AS → Prop} {s : AS} (tab : Tab) (ht : TabOk cx.P tab) (hm : cx.P.follows .mixedOrders = true) (h : ∀ K, (∀ s', AW cx y Q s' → K s') → fopsF cx tab ops ops.toList [] K s) : AW cx (.seq (.region id ops true) y) Q s :=
  aw_seq fun K hK => aw_region_drawF tab ht hm (h K hK)
end

attribute [go_sem] fopsF foot footA footL List.reverse_cons List.reverse_nil
end Go.Aw
