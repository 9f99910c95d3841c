/-
  Regions that draw their order, told order by order: for short regions in which a call changes memory.
-/
import Derived.Test.YtioccpkcnnkpjaaGreatAwDraw8
namespace Go.Aw
set_option maxRecDepth 100000
set_option linter.unusedSimpArgs false
set_option linter.unusedVariables false
open Go

def rdy (L : List Bool) (o : Oper) : Bool := o.after.toList.all fun e => !Region.binds .any e || L.getD e.on false

def linAlts (f : Nat → Oper → Prop) (L : List Bool) : Nat → List Oper → Prop
  | _, [] => True
  | i, o :: r => (if (!(L.getD i false) && rdy L o) = true then f i o else True) ∧ linAlts f L (i + 1) r

def anyR (L : List Bool) : Nat → List Oper → Bool
  | _, [] => false
  | i, o :: r => (!(L.getD i false) && rdy L o) || anyR L (i + 1) r

/-- Calls that come to one thing from one heap. -/
abbrev Hot := FuncId → List AV → AHeap → Option (AV × AHeap)
def HotOk (P : Program) (fl : Nat) (hot : Hot) : Prop := ∀ f args h r h', hot f args h = some (r, h') → ∀ K : AV → AHeap → Prop, K r h' → ACallAt P fl f args h K
def noHot : Hot := fun _ _ _ => none
theorem noHot_ok (P : Program) (fl : Nat) : HotOk P fl noHot := fun _ _ _ _ _ h => by cases h
open Classical in
/-- One more. -/
noncomputable def hotOf (hot : Hot) (f : FuncId) (args : List AV) (h : AHeap) (r : AV) (h' : AHeap) : Hot := fun f' args' h1 => if f' = f ∧ args' = args ∧ h1 = h then some (r, h') else hot f' args' h1
theorem hotOf_ok {P : Program} {fl : Nat} {hot : Hot} (hk : HotOk P fl hot) {f : FuncId} {args : List AV} {h : AHeap} {r : AV} {h' : AHeap} (hc : ∀ K : AV → AHeap → Prop, K r h' → ACallAt P fl f args h K) : HotOk P fl (hotOf hot f args h r h') := by
  intro f1 args1 h1 r1 h1' he K hK
  unfold hotOf at he
  split at he
  · rename_i hq
    obtain ⟨rfl, rfl, rfl⟩ := hq
    cases he
    exact hc K hK
  · exact hk _ _ _ _ _ he K hK

/-- One operation, such calls among them. -/
def aopH (cx : Cx) (tab : Tab) (hot : Hot) (G : Bool) (o : Oper) (K : AS → Prop) (s : AS) : Prop :=
  match o.op with
  | .call c => (match callOf cx.P s c with
    | some (f, args, vc) => (match hot f args s.h with
      | some (r, h2) => isVal cx.P (.call c) = false ∧ G = true ∧ dstOk cx.nt o.dst ∧ vc ∧ K ({ s with h := h2 }.put o.dst true r)
      | none => aopY cx tab G o K s)
    | none => aopY cx tab G o K s)
  | _ => aopY cx tab G o K s

/-- What must hold so that every order of evaluation ends in K. -/
def linY (cx : Cx) (tab : Tab) (hot : Hot) (all : Array Oper) (lst : List Oper) (K : AS → Prop) : Nat → List Bool → AS → Prop
  | 0, _, s => K s
  | n + 1, L, s => anyR L 0 lst = true ∧ linAlts (fun i o => match guardOf s all o.guard with
      | some G => aopH cx tab hot G o (linY cx tab hot all lst K n (L.set i true)) s
      | none => False) L 0 lst

section
variable {cx : Cx} {tab : Tab} {hot : Hot} {ops : Array Oper} {K : AS → Prop}

theorem aopH_ok (ht : TabOk cx.P tab) (hh : HotOk cx.P cx.fl hot) {E : Env} {s : AS} {a : Act} {w : World} {all : Array Oper} {o : Oper} {G : Bool} {K : AS → Prop} {Q : Exit → Act → World → Prop} (hs : Sat cx E s a w) (hg : guardOf s all o.guard = some G) (h : aopH cx tab hot G o K s) :
    if Region.wanted o (yielded all a.tmps) then o.wpIn cx.F 0 cx.P a w (Reach cx E s.h w K) Q else (∀ f, o.about cx.P w a.eval = some f → cx.F.fn f) ∧ Reach cx E s.h w K (a.put o.dst undef) w := by
  unfold aopH at h
  split at h
  · rename_i c hop
    split at h
    · rename_i f args vc hco
      split at h
      · rename_i r h2 hhot
        obtain ⟨h1, rfl, h3, h4, h5⟩ := h
        refine aop_ok hs hg ⟨h3, ?_⟩
        rw [hop]
        dsimp only
        rw [if_neg (by rw [h1]; simp)]
        refine ⟨fun _ => ?_, fun e => by cases e⟩
        unfold aop1
        rw [hop]
        dsimp only
        rw [if_neg (by rw [h1]; simp), hco]
        exact ⟨h4, hh _ _ _ _ _ hhot _ h5⟩
      · exact aopY_ok ht hs hg h
    · exact aopY_ok ht hs hg h
  · exact aopY_ok ht hs hg h

theorem wpAnyIn_mono {F : Fence} {n : Nat} {P : Program} {md : Region.Mode} {Q Q' : Exit → Act → World → Prop} (hq : ∀ a w, Q .normal a w → Q' .normal a w) (hf : ∀ i K a w, wpOpIn F n P ops Q i K a w → wpOpIn F n P ops Q' i K a w) : ∀ (fuel : Nat) (listed : Array Bool) (a : Act) (w : World), wpAnyIn F n P md ops Q fuel listed a w → wpAnyIn F n P md ops Q' fuel listed a w
  | 0, listed, a, w, h => ⟨h.1, hq _ _ h.2⟩
  | fuel + 1, listed, a, w, h => ⟨fun hr => hq _ _ (h.1 hr), fun i hi => hf _ _ _ _ (wpOpIn_mono (fun a w => wpAnyIn_mono hq hf fuel _ a w) (h.2 i hi))⟩

theorem linAlts_at {f : Nat → Oper → Prop} {L : List Bool} (l : List Oper) : ∀ (k i : Nat) (o : Oper), linAlts f L k l → l[i]? = some o → L.getD (k + i) false = false → rdy L o = true → f (k + i) o := by
  induction l with
  | nil => intro k i o h hi; simp at hi
  | cons x r ih =>
    intro k i o h hi h1 h2
    cases i with
    | zero =>
      simp only [List.getElem?_cons_zero, Option.some.injEq] at hi
      subst hi
      have h3 := h.1
      have hc : (!(L.getD k false) && rdy L x) = true := by
        have : L.getD k false = false := h1
        rw [this, h2]; rfl
      rw [if_pos hc] at h3
      exact h3
    | succ i =>
      have hi' : r[i]? = some o := by rw [← hi, List.getElem?_cons_succ]
      have := ih (k + 1) i o h.2 hi' (by rw [← h1]; congr 1; omega) h2
      rwa [show k + 1 + i = k + (i + 1) by omega] at this

theorem anyR_at {L : List Bool} : ∀ (l : List Oper) (k : Nat), anyR L k l = true → ∃ i o, l[i]? = some o ∧ L.getD (k + i) false = false ∧ rdy L o = true
  | [], k, h => by cases h
  | x :: r, k, h => by
    simp only [anyR, Bool.or_eq_true, Bool.and_eq_true, Bool.not_eq_true'] at h
    rcases h with ⟨h1, h2⟩ | h
    · exact ⟨0, x, rfl, h1, h2⟩
    · obtain ⟨i, o, h1, h2, h3⟩ := anyR_at r (k + 1) h
      exact ⟨i + 1, o, by simpa using h1, by rw [← h2]; congr 1; omega, h3⟩

theorem toList_getD (l : Array Bool) (i : Nat) (d : Bool) : l.toList.getD i d = l.getD i d := by
  simp [List.getD_eq_getElem?_getD, Array.getD_eq_getD_getElem?]

theorem linY_ok (ht : TabOk cx.P tab) (hh : HotOk cx.P cx.fl hot) : ∀ (n : Nat) (listed : Array Bool) {s : AS} {E : Env} {a : Act} {w : World}, listed.size = ops.size → listed.toList.countP (fun b => b == false) = n → Sat cx E s a w → linY cx tab hot ops ops.toList K n listed.toList s →
    wpAnyIn cx.F 0 cx.P .any ops (fun e a' w' => e = .normal ∧ Reach cx E s.h w K a' w') n listed a w
  | 0, listed, s, E, a, w, hsz, hc, hs, h => by
    refine ⟨?_, rfl, aw_done hs h⟩
    cases hr : Region.ready .any ops listed with
    | nil => rfl
    | cons i l =>
      have hi : i ∈ Region.ready .any ops listed := by rw [hr]; simp
      obtain ⟨h1, o, h2, _⟩ := mem_ready.1 hi
      have hlt : i < ops.size := (Array.getElem?_eq_some_iff.1 h2).1
      have h0 := List.countP_eq_zero.1 hc (listed[i]'(by omega)) (by simp)
      rw [Array.getD_eq_getD_getElem?, Array.getElem?_eq_getElem (by omega)] at h1
      simp only [Option.getD_some] at h1
      rw [h1] at h0
      simp at h0
  | n + 1, listed, s, E, a, w, hsz, hc, hs, h => by
    obtain ⟨hany, halt⟩ := h
    refine ⟨fun hr => ?_, fun i hi => ?_⟩
    · exfalso
      obtain ⟨i, o, h1, h2, h3⟩ := anyR_at _ _ hany
      rw [Nat.zero_add, toList_getD] at h2
      have hlt : i < ops.size := (Array.getElem?_eq_some_iff.1 (by simpa using h1)).1
      have : i ∈ Region.ready .any ops listed := mem_ready.2 ⟨by
        rw [Array.getD_eq_getD_getElem?, Array.getElem?_eq_getElem (by omega)] at h2 ⊢
        simpa using h2, o, by simpa using h1, fun e he hb => by
        have := List.all_eq_true.1 h3 e (by simpa using he)
        rw [hb, toList_getD] at this
        simpa using this⟩
      rw [hr] at this
      cases this
    · obtain ⟨h1, o, h2, h3⟩ := mem_ready.1 hi
      have hlt : i < ops.size := (Array.getElem?_eq_some_iff.1 h2).1
      have hl : listed[i]? = some false := by
        rw [Array.getD_eq_getD_getElem?, Array.getElem?_eq_getElem (by omega)] at h1
        rw [Array.getElem?_eq_getElem (by omega)]
        simpa using h1
      have hst := linAlts_at ops.toList 0 i o halt (by simpa using h2) (by rw [Nat.zero_add, toList_getD, Array.getD_eq_getD_getElem?, hl]; rfl) (by
        unfold rdy
        refine List.all_eq_true.2 fun e he => ?_
        rw [toList_getD]
        cases hb : Region.binds .any e with
        | true => simpa using h3 e (by simpa using he) hb
        | false => rfl)
      rw [Nat.zero_add] at hst
      split at hst
      · rename_i G hg
        have hcnt : (listed.setIfInBounds i true).toList.countP (fun b => b == false) = n := count_set listed i n hl hc
        have hlist : (listed.setIfInBounds i true).toList = listed.toList.set i true := Array.toList_setIfInBounds ..
        have := aopH_ok ht hh (Q := fun _ _ _ => False) hs hg hst
        have next : ∀ a1 w1, Reach cx E s.h w (linY cx tab hot ops ops.toList K n (listed.toList.set i true)) a1 w1 →
            wpAnyIn cx.F 0 cx.P .any ops (fun e a' w' => e = .normal ∧ Reach cx E s.h w K a' w') n (listed.setIfInBounds i true) a1 w1 := by
          rintro a1 w1 ⟨E1, s1, hk, hs1, he1⟩
          rw [← hlist] at hk
          have ih := linY_ok ht hh n (listed.setIfInBounds i true) (by simpa using hsz) hcnt hs1 hk
          refine wpAnyIn_mono (fun a w h => ⟨rfl, h.2.trans he1⟩) (fun i K a w h => ?_) _ _ _ _ ih
          unfold wpOpIn at h ⊢
          split at h
          · exact h
          · split at h
            · rename_i hw
              rw [if_pos hw]
              exact oper_mono h (fun _ _ h => h) (fun e a w h => ⟨h.1, h.2.trans he1⟩)
            · rename_i hw
              rw [if_neg hw]
              exact h
        unfold wpOpIn
        rw [h2]
        dsimp only
        split at this
        · rename_i hw
          rw [if_pos hw]
          exact wpIn_next_mono this next
        · rename_i hw
          rw [if_neg hw]
          exact ⟨this.1, next _ _ this.2⟩
      · exact hst.elim

/-! ### What hangs on slots alone goes ahead -/
def coldOp (o : Oper) : Bool := o.guard.isNone && (match o.op with | .move _ => true | .nilCheck _ => true | .fieldAddr _ _ _ => true | _ => false)

def preOk (ops : Array Oper) : List Nat → Array Bool → Bool
  | [], _ => true
  | i :: r, L => (match ops[i]? with | some o => coldOp o | none => false) && (Region.ready .any ops L).contains i && Region.free .any ops L i && preOk ops r (L.setIfInBounds i true)

def ownP : AV → Bool
  | .vp _ _ => true
  | .tp _ _ => true
  | _ => false

def coldY (cx : Cx) (o : Oper) (K : AS → Prop) (s : AS) : Prop :=
  dstOk cx.nt o.dst ∧ (match o.op with
  | .move x => (s.ev x).1 = true ∧ K (s.put o.dst true ((s.ev x).2.tag cx.P o.type))
  | .nilCheck x => (s.ev x).1 = true ∧ ownP (s.ev x).2 = true ∧ K (s.put o.dst true (s.ev x).2)
  | .fieldAddr t x f => (s.ev x).1 = true ∧ ownP (s.ev x).2 = true ∧ (avFieldAddr cx.P s t (s.ev x).2 f).1 ∧ K (s.put o.dst true (avFieldAddr cx.P s t (s.ev x).2 f).2)
  | _ => False)

/-- First those, one by one; then whatever order. -/
def preY (cx : Cx) (tab : Tab) (hot : Hot) (all : Array Oper) (lst : List Oper) (n : Nat) (K : AS → Prop) : List Nat → List Bool → AS → Prop
  | [], L, s => linY cx tab hot all lst K n L s
  | i :: r, L, s => (match lst[i]? with
    | some o => coldY cx o (preY cx tab hot all lst n K r (L.set i true)) s
    | none => False)

theorem coldY_ok {E : Env} {s : AS} {a : Act} {w : World} {o : Oper} {K : AS → Prop} (hs : Sat cx E s a w) (hc : coldOp o = true) (h : coldY cx o K s) :
    ∃ v s1, YieldsFenced cx.P ops o v a ∧ K s1 ∧ s1.h = s.h ∧ Sat cx E s1 (a.put o.dst v) w := by
  unfold coldOp at hc
  rw [Bool.and_eq_true] at hc
  obtain ⟨hg, hop⟩ := hc
  have hg' : o.guard = none := by simpa using hg
  have hw : Region.wanted o (yielded ops a.tmps) = true := by
    unfold Region.wanted
    rw [hg']
  obtain ⟨hd, h⟩ := h
  have hdst : ∀ k, o.dst = some k → k < cx.nt := fun k e => by rw [e] at hd; exact hd
  have hputh : ∀ (g : Bool) (v : AV), (s.put o.dst g v).h = s.h := fun g v => by unfold AS.put; cases o.dst <;> rfl
  obtain ⟨dst, op, ot, pos, after, guard⟩ := o
  dsimp only at h hdst hputh hop hg' ⊢
  cases op <;> dsimp only at h hop <;> try exact h.elim
  case move x =>
    obtain ⟨hk, hK⟩ := h
    refine ⟨a.eval x, _, ⟨.inl ⟨hw, fun w => rfl⟩, fun w => rfl⟩, hK, hputh _ _, ?_⟩
    exact hs.put hdst (fun _ => Rep.tag (ev_ok hs.slots x hk)) (fun e => by cases e)
  case nilCheck x =>
    obtain ⟨h1, h2, hK⟩ := h
    have hx := ev_ok hs.slots x h1
    refine ⟨a.eval x, _, ⟨.inl ⟨hw, fun w => ?_⟩, fun w => rfl⟩, hK, hputh _ _, hs.put hdst (fun _ => hx) (fun e => by cases e)⟩
    generalize (s.ev x).2 = u at h2 hx
    cases u <;> simp only [ownP, Bool.false_eq_true] at h2
    · simp only [Rep] at hx
      obtain ⟨b, cs, _, _, hv⟩ := hx
      simp [execOp, hv]
    · simp only [Rep] at hx
      obtain ⟨b, t', cs, _, _, hv⟩ := hx
      simp [execOp, hv]
  case fieldAddr t x f =>
    obtain ⟨h1, h2, h3, hK⟩ := h
    have hx := ev_ok hs.slots x h1
    have key : ∃ v, (∀ W, (Instr.fieldAt t (a.eval x) f).run cx.P W = .ok v W) ∧ Rep w E s.h (avFieldAddr cx.P s t (s.ev x).2 f).2 v := by
      generalize (s.ev x).2 = u at h2 hx h3
      unfold avFieldAddr at h3 ⊢
      split at h3
      · rename_i off ft hf
        obtain ⟨gs, hg, g, hgf, ho, ht⟩ := fieldOf_ok hf
        subst ho ht
        cases u <;> simp only [ownP, Bool.false_eq_true] at h2
        · simp only [Rep] at hx ⊢
          obtain ⟨b, cs, q1, q2, hv⟩ := hx
          refine ⟨_, fun W => ?_, b, cs, q1, q2, rfl⟩
          rw [hv]
          simp only [Instr.fieldAt, Sem.run_bind, run_underlying hg, Result.andThen_ok, hgf, Instr.sureAddr, Sem.run_pure, run_fieldPlace h3.1 h3.2]
        · simp only [Rep] at hx ⊢
          obtain ⟨b, t', cs, q1, q2, hv⟩ := hx
          refine ⟨_, fun W => ?_, b, t', cs, q1, q2, rfl⟩
          rw [hv]
          simp only [Instr.fieldAt, Sem.run_bind, run_underlying hg, Result.andThen_ok, hgf, Instr.sureAddr, Sem.run_pure, run_fieldPlace h3.1 h3.2]
      · exact h3.elim
    obtain ⟨v, hv, hr⟩ := key
    exact ⟨v, _, ⟨.inl ⟨hw, fun w => by simp [execOp, hv]⟩, fun w => rfl⟩, hK, hputh _ _, hs.put hdst (fun _ => hr) (fun e => by cases e)⟩

theorem preY_ok (hro : cx.ro = none) (hns : Region.noSelect ops = true) (ht : TabOk cx.P tab) (hh : HotOk cx.P cx.fl hot) : ∀ (pre : List Nat) (n : Nat) (listed : Array Bool) {s : AS} {E : Env} {a : Act} {w : World}, preOk ops pre listed = true → listed.size = ops.size → listed.toList.countP (fun b => b == false) = pre.length + n → Sat cx E s a w → preY cx tab hot ops ops.toList n K pre listed.toList s →
    wpAnyIn cx.F 0 cx.P .any ops (fun e a' w' => e = .normal ∧ Reach cx E s.h w K a' w') (pre.length + n) listed a w
  | [], n, listed, s, E, a, w, _, hsz, hc, hs, h => by
    rw [List.length_nil, Nat.zero_add] at hc ⊢
    exact linY_ok ht hh n listed hsz hc hs h
  | i :: r, n, listed, s, E, a, w, hp, hsz, hc, hs, h => by
    simp only [preOk, Bool.and_eq_true] at hp
    obtain ⟨⟨⟨p1, p2⟩, p3⟩, p4⟩ := hp
    simp only [preY] at h
    split at p1
    · rename_i o ho
      rw [show ops.toList[i]? = some o by simpa using ho] at h
      dsimp only at h
      obtain ⟨v, s1, y1, y2, y3, y4⟩ := coldY_ok (ops := ops) hs p1 h
      have hrd : i ∈ Region.ready .any ops listed := by simpa using p2
      obtain ⟨hun, _⟩ := mem_ready.1 hrd
      have hlt : i < listed.size := by
        rcases Nat.lt_or_ge i listed.size with h' | h'
        · exact h'
        · simp [Array.getElem?_eq_none h'] at hun
      have hl : listed[i]? = some false := by
        rw [Array.getD_eq_getD_getElem?, Array.getElem?_eq_getElem hlt] at hun
        rw [Array.getElem?_eq_getElem hlt]
        simpa using hun
      have hcnt : (listed.setIfInBounds i true).toList.countP (fun b => b == false) = r.length + n := count_set listed i _ hl (by rw [hc, List.length_cons]; omega)
      have hlist : (listed.setIfInBounds i true).toList = listed.toList.set i true := Array.toList_setIfInBounds ..
      have ih := preY_ok hro hns ht hh r n (listed.setIfInBounds i true) p4 (by simpa using hsz) hcnt y4 (by rw [hlist]; exact y2)
      rw [y3] at ih
      have e1 : (i :: r).length + n = (r.length + n) + 1 := by rw [List.length_cons]; omega
      rw [e1]
      exact wpAnyIn_take hro ho hns p3 p2 (fun c a w h => by have := h.1; cases this) y1 ih
    · cases p1

theorem aw_region_pre {s : AS} {id : Nat} {Q : Exit → AS → Prop} (tab : Tab) (hot : Hot) (pre : List Nat) (n : Nat) (hro : cx.ro = none) (hp : (Region.noSelect ops && preOk ops pre (Array.replicate ops.size false) && decide (ops.size = pre.length + n)) = true) (ht : TabOk cx.P tab) (hh : HotOk cx.P cx.fl hot) (hm : cx.P.follows .mixedOrders = true) (h : preY cx tab hot ops ops.toList n (Q .normal) pre (List.replicate ops.size false) s) : AW cx (.region id ops true) Q s := by
  intro E a w hs
  simp only [Bool.and_eq_true, decide_eq_true_eq] at hp
  obtain ⟨⟨p1, p2⟩, p3⟩ := hp
  have hs' := hs.drawn
  have hev : Evo cx.fl E s.h w E s.h { w with drawn := w.drawn + 1 } := ⟨rfl, rfl, rfl, Nat.le_refl _, fun _ _ _ _ => rfl, fun _ h => .inl h, fun _ h => h, fun _ h => .inl h, rfl, fun i _ h => ⟨h, GoesOn.refl E _ i⟩⟩
  have := preY_ok hro p1 ht hh pre n (Array.replicate ops.size false) (K := Q .normal) p2 (by simp) (by rw [Array.toList_replicate, List.countP_replicate, ← p3]; rfl) hs' (by rw [Array.toList_replicate]; exact h)
  rw [← p3] at this
  refine wpIn_mono (wpIn_region_any hm this) ?_
  rintro e a' w' ⟨rfl, hr⟩
  exact hr.trans hev

/-- All orders end in one state. -/
theorem aw_seq_region_pre {s : AS} {id : Nat} {y : Code} {Q : Exit → AS → Prop} (tab : Tab) (hot : Hot) (pre : List Nat) (n : Nat) (hro : cx.ro = none) (hp : (Region.noSelect ops && preOk ops pre (Array.replicate ops.size false) && decide (ops.size = pre.length + n)) = true) (ht : TabOk cx.P tab) (hh : HotOk cx.P cx.fl hot) (hm : cx.P.follows .mixedOrders = true) (s1 : AS) (h : preY cx tab hot ops ops.toList n (fun s' => s'.le s1) pre (List.replicate ops.size false) s) (h2 : AW cx y Q s1) : AW cx (.seq (.region id ops true) y) Q s :=
  aw_join s1 (aw_region_pre tab hot pre n hro hp ht hh hm h) h2

theorem aw_region_lin {s : AS} {id : Nat} {Q : Exit → AS → Prop} (tab : Tab) (hot : Hot) (ht : TabOk cx.P tab) (hh : HotOk cx.P cx.fl hot) (hm : cx.P.follows .mixedOrders = true) (h : linY cx tab hot ops ops.toList (Q .normal) ops.size (List.replicate ops.size false) s) : AW cx (.region id ops true) Q s := by
  intro E a w hs
  have hs' := hs.drawn
  have hev : Evo cx.fl E s.h w E s.h { w with drawn := w.drawn + 1 } := ⟨rfl, rfl, rfl, Nat.le_refl _, fun _ _ _ _ => rfl, fun _ h => .inl h, fun _ h => h, fun _ h => .inl h, rfl, fun i _ h => ⟨h, GoesOn.refl E _ i⟩⟩
  refine wpIn_mono (wpIn_region_any hm (linY_ok ht hh ops.size (Array.replicate ops.size false) (by simp) (by rw [Array.toList_replicate, List.countP_replicate]; rfl) hs' (by rw [Array.toList_replicate]; exact h))) ?_
  rintro e a' w' ⟨rfl, hr⟩
  exact hr.trans hev

/-- All orders end in one state. -/
theorem aw_seq_region_lin {s : AS} {id : Nat} {y : Code} {Q : Exit → AS → Prop} (tab : Tab) (hot : Hot) (ht : TabOk cx.P tab) (hh : HotOk cx.P cx.fl hot) (hm : cx.P.follows .mixedOrders = true) (s1 : AS) (h : linY cx tab hot ops ops.toList (fun s' => s'.le s1) ops.size (List.replicate ops.size false) s) (h2 : AW cx y Q s1) : AW cx (.seq (.region id ops true) y) Q s :=
  aw_join s1 (aw_region_lin tab hot ht hh hm h) h2
end
attribute [go_sem] linY linAlts anyR rdy Region.binds aopH noHot hotOf preY coldY ownP
end Go.Aw
