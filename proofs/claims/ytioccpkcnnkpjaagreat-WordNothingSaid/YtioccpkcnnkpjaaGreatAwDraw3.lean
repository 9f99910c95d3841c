/-
  A region that draws its order comes to what the order of the text comes to.
-/
import Derived.Test.YtioccpkcnnkpjaaGreatAwDraw2
namespace Go.Aw
set_option maxRecDepth 100000
set_option linter.unusedSimpArgs false
set_option linter.unusedVariables false
open Go

def anc (ops : Array Oper) : Nat → Nat → Nat → Bool
  | 0, _, _ => false
  | f + 1, j, i => match ops[j]? with
    | some o => o.after.toList.any fun e => Region.binds .any e && (e.on == i || (decide (i < e.on) && anc ops f e.on i))
    | none => false

def gslot (all : Array Oper) (o : Oper) : List Nat :=
  match o.guard with
  | some (j, _) => (match (all[j]?).bind (·.dst) with
    | some d => [d]
    | none => [])
  | none => []

def slotsOf (all : Array Oper) (o : Oper) : List Nat :=
  ((opndsOf o.op).filterMap fun
    | .tmp t => some t
    | _ => none) ++ gslot all o

/-- The first, ahead of the second in the text, may not come behind it. -/
def conf (all : Array Oper) (a b : Oper) : Bool :=
  (match a.dst with
    | some d => (slotsOf all b).contains d || b.dst == some d
    | none => false) ||
  (match b.dst with
    | some d => (slotsOf all a).contains d
    | none => false) ||
  (isEff a.op && heapOp b.op) || (heapOp a.op && isEff b.op)

def drawOk (ops : Array Oper) : Bool :=
  (List.range ops.size).all fun j => match ops[j]? with
    | some b => (b.after.toList.all fun e => !Region.binds .any e || decide (e.on < j)) && (List.range j).all fun i => match ops[i]? with
      | some a => !conf ops a b || anc ops (j + 1) j i
      | none => true
    | none => true

abbrev Res := Oper × Bool × AV × AHeap

/-- An operation's outcome laid onto a state. -/
def app (s : AS) (r : Res) : AS := { s with h := if isEff r.1.op then r.2.2.2 else s.h }.put r.1.dst r.2.1 r.2.2.1

def selS : List Res → (Nat → Bool) → AS → AS
  | [], _, s => s
  | x :: L, S, s => selS L (fun i => S (i + 1)) (if S 0 = true then app s x else s)

theorem app_h (s : AS) (r : Res) : (app s r).h = if isEff r.1.op then r.2.2.2 else s.h := by
  unfold app AS.put; cases r.1.dst <;> rfl
theorem app_g (s : AS) (r : Res) : (app s r).g = s.g := by
  unfold app AS.put; cases r.1.dst <;> rfl
theorem put_lk (s : AS) (d : Option Nat) (g : Bool) (v : AV) (k : Nat) : lk (s.put d g v).t k = if d = some k then some (g, v) else lk s.t k := by
  unfold AS.put
  cases d with
  | none => simp
  | some j =>
    simp only [lk, Option.some.injEq]
theorem app_lk (s : AS) (r : Res) (k : Nat) : lk (app s r).t k = if r.1.dst = some k then some (r.2.1, r.2.2.1) else lk s.t k := by
  unfold app
  rw [put_lk]

theorem sel_lk {Q : Nat → Prop} : ∀ (L : List Res) (S S' : Nat → Bool) (s s' : AS), (∀ k, Q k → lk s.t k = lk s'.t k) → (∀ (i : Nat) (r : Res), L[i]? = some r → (∃ d, r.1.dst = some d ∧ Q d) → S i = S' i) →
    ∀ k, Q k → lk (selS L S s).t k = lk (selS L S' s').t k
  | [], _, _, _, _, h, _ => h
  | x :: L, S, S', s, s', h, hS => by
    refine sel_lk L _ _ _ _ (fun k hk => ?_) (fun i r hr hd => hS (i + 1) r (by simpa using hr) hd)
    by_cases hd : x.1.dst = some k
    · have := hS 0 x rfl ⟨k, hd, hk⟩
      rw [this]
      split
      · rw [app_lk, app_lk, if_pos hd, if_pos hd]
      · exact h k hk
    · have e1 : ∀ (b : Bool) (u : AS), lk (if b = true then app u x else u).t k = lk u.t k := fun b u => by
        split
        · rw [app_lk, if_neg hd]
        · rfl
      rw [e1, e1]
      exact h k hk

theorem sel_h : ∀ (L : List Res) (S S' : Nat → Bool) (s s' : AS), s.h = s'.h → (∀ (i : Nat) (r : Res), L[i]? = some r → isEff r.1.op = true → S i = S' i) → (selS L S s).h = (selS L S' s').h
  | [], _, _, _, _, h, _ => h
  | x :: L, S, S', s, s', h, hS => by
    refine sel_h L _ _ _ _ ?_ (fun i r hr he => hS (i + 1) r (by simpa using hr) he)
    by_cases he : isEff x.1.op = true
    · have := hS 0 x rfl he
      rw [this]
      split
      · rw [app_h, app_h, if_pos he, if_pos he]
      · exact h
    · have e1 : ∀ (b : Bool) (u : AS), (if b = true then app u x else u).h = u.h := fun b u => by
        split
        · rw [app_h, if_neg he]
        · rfl
      rw [e1, e1]
      exact h

theorem sel_g : ∀ (L : List Res) (S : Nat → Bool) (s : AS), (selS L S s).g = s.g
  | [], _, _ => rfl
  | x :: L, S, s => by
    rw [selS, sel_g L]
    split
    · exact app_g _ _
    · rfl

/-- The state ahead of operation number n, in the order of the text. -/
def lexS (L : List Res) (n : Nat) (s : AS) : AS := selS L (fun i => decide (i < n)) s

theorem lexS_zero : ∀ (L : List Res) (s : AS), lexS L 0 s = s
  | [], s => rfl
  | x :: L, s => by
    unfold lexS selS
    have := lexS_zero L s
    unfold lexS at this
    simpa using this

theorem lexS_succ (x : Res) (L : List Res) (n : Nat) (s : AS) : lexS (x :: L) (n + 1) s = lexS L n (app s x) := by
  unfold lexS
  rw [selS]
  simp

theorem lexS_step : ∀ (L : List Res) (n : Nat) (s : AS) (r : Res), L[n]? = some r → lexS L (n + 1) s = app (lexS L n s) r
  | [], n, s, r, h => by simp at h
  | x :: L, 0, s, r, h => by
    have : x = r := by simpa using h
    subst this
    rw [lexS_succ, lexS_zero, lexS_zero]
  | x :: L, n + 1, s, r, h => by
    rw [lexS_succ, lexS_succ]
    exact lexS_step L n _ r (by simpa using h)

section
variable {cx : Cx} {tab : Tab}

/-- The outcomes of a region's operations in the order of the text. -/
def Outs (cx : Cx) (tab : Tab) (all : Array Oper) (L : List Res) (s : AS) : Prop :=
  ∀ (i : Nat) (r : Res), L[i]? = some r → ∃ G, guardOf (lexS L i s) all r.1.guard = some G ∧ dstOk cx.nt r.1.dst ∧ (∀ R : Bool → AV → AHeap → Prop, R r.2.1 r.2.2.1 r.2.2.2 → fop cx tab (lexS L i s) G r.1 R) ∧ (isEff r.1.op = false → r.2.2.2 = (lexS L i s).h)

theorem fops_outs {all : Array Oper} : ∀ (l : List Oper) {K : AS → Prop} {s : AS}, fops cx tab all l K s → ∃ L : List Res, L.map (·.1) = l ∧ K (lexS L L.length s) ∧ Outs cx tab all L s
  | [], K, s, h => ⟨[], rfl, h, fun i r hr => by simp at hr⟩
  | o :: l, K, s, h => by
    simp only [fops] at h
    split at h
    · rename_i G hG
      obtain ⟨hd, h⟩ := h
      obtain ⟨g, v, h', h1, h2, h3⟩ := fop_fun h
      have e : ({ s with h := h' } : AS).put o.dst g v = app s (o, g, v, h') := by
        unfold app
        dsimp only
        cases he : isEff o.op
        · rw [h3 he]; rfl
        · rfl
      rw [e] at h1
      obtain ⟨L, q1, q2, q3⟩ := fops_outs l h1
      refine ⟨(o, g, v, h') :: L, by simp [q1], by rw [List.length_cons, lexS_succ]; exact q2, fun i r hr => ?_⟩
      cases i with
      | zero =>
        have : (o, g, v, h') = r := by simpa using hr
        subst this
        rw [lexS_zero]
        exact ⟨G, hG, hd, h2, h3⟩
      | succ i =>
        rw [lexS_succ]
        exact q3 i r (by simpa using hr)
    · exact h.elim

theorem Sat.of_lk {E : Env} {s s' : AS} {a : Act} {w : World} (hs : Sat cx E s a w) (ht : ∀ k, lk s.t k = lk s'.t k) (hh : s.h = s'.h) (hg : s.g = s'.g) : Sat cx E s' a w where
  slots := fun k g v hk => by
    obtain ⟨x, h1, h2, h3⟩ := hs.slots k g v (by rw [ht]; exact hk)
    exact ⟨x, h1, fun e => by rw [← hh]; exact h2 e, h3⟩
  nt := hs.nt
  hp := by rw [← hh]; exact hs.hp
  base := hs.base
  marks := hs.marks
  ghost := by rw [← hg, ← hh]; exact hs.ghost

theorem Sat.drawn {E : Env} {s : AS} {a : Act} {w : World} (hs : Sat cx E s a w) : Sat cx E s a { w with drawn := w.drawn + 1 } where
  slots := fun k g v hk => by
    obtain ⟨x, h1, h2, h3⟩ := hs.slots k g v hk
    exact ⟨x, h1, fun e => Rep.step (W := w) (W' := { w with drawn := w.drawn + 1 }) (fun _ _ h => h) (fun _ _ _ => rfl) _ _ (fun j _ => GoesOn.refl E s.h j) (h2 e), h3⟩
  nt := hs.nt
  hp := hs.hp.refit ⟨rfl, rfl, rfl, rfl, fun _ _ => rfl, fun _ _ h _ _ => h⟩ (base := 0) rfl rfl (fun _ _ h => h) (fun b hb => (hs.hp.own b hb).2) hs.hp.mlt hs.hp.nlt
  base := hs.base
  marks := hs.marks
  ghost := cx.stab _ _ _ _ _ w _ (fun _ _ _ => rfl) (fun _ hb => .inl hb) (fun b hb => hb.elim (fun h => (hs.hp.own b h).1) hs.marks.lt) (Nat.le_refl _) rfl rfl rfl hs.ghost

theorem anc_closed {ops : Array Oper} {S : Nat → Bool} (hc : ∀ (i : Nat) o, ops[i]? = some o → S i = true → ∀ e ∈ o.after.toList, Region.binds .any e = true → S e.on = true) : ∀ (f j i : Nat), anc ops f j i = true → (∀ o, ops[j]? = some o → ∀ e ∈ o.after.toList, Region.binds .any e = true → S e.on = true) → S i = true
  | 0, _, _, h, _ => by cases h
  | f + 1, j, i, h, hj => by
    unfold anc at h
    split at h
    · rename_i o ho
      obtain ⟨e, he, h⟩ := List.any_eq_true.1 h
      simp only [Bool.and_eq_true, Bool.or_eq_true, beq_iff_eq] at h
      obtain ⟨hb, h⟩ := h
      have hS := hj o ho e he hb
      rcases h with rfl | ⟨_, h⟩
      · exact hS
      · exact anc_closed hc f _ i h (fun o' ho' => hc _ o' ho' hS)
    · cases h

theorem conf_of {ops : Array Oper} (hd : drawOk ops = true) {i j : Nat} {a b : Oper} (hij : i < j) (ha : ops[i]? = some a) (hb : ops[j]? = some b) (hc : conf ops a b = true) : anc ops (j + 1) j i = true := by
  unfold drawOk at hd
  have hj : j < ops.size := (Array.getElem?_eq_some_iff.1 hb).1
  have := List.all_eq_true.1 hd j (by simpa using hj)
  rw [hb] at this
  simp only [Bool.and_eq_true] at this
  have := List.all_eq_true.1 this.2 i (by simpa using hij)
  rw [ha] at this
  simpa [hc] using this

theorem back_of {ops : Array Oper} (hd : drawOk ops = true) {j : Nat} {b : Oper} (hb : ops[j]? = some b) : ∀ e ∈ b.after.toList, Region.binds .any e = true → e.on < j := by
  unfold drawOk at hd
  have hj : j < ops.size := (Array.getElem?_eq_some_iff.1 hb).1
  have := List.all_eq_true.1 hd j (by simpa using hj)
  rw [hb] at this
  simp only [Bool.and_eq_true] at this
  intro e he hbi
  have := List.all_eq_true.1 this.1 e he
  simpa [hbi] using this

theorem ev_of_lk {s s' : AS} {l : List Operand} (h : ∀ k, k ∈ (l.filterMap fun | .tmp t => some t | _ => none) → lk s.t k = lk s'.t k) : ∀ x ∈ l, s.ev x = s'.ev x ∧ known s x = known s' x := by
  intro x hx
  cases x with
  | tmp t =>
    have := h t (List.mem_filterMap.2 ⟨.tmp t, hx, rfl⟩)
    exact ⟨by simp only [AS.ev, this], by simp only [known, this]⟩
  | _ => exact ⟨rfl, rfl⟩

theorem guard_of_lk {s s' : AS} {all : Array Oper} {o : Oper} (h : ∀ k ∈ gslot all o, lk s.t k = lk s'.t k) : guardOf s all o.guard = guardOf s' all o.guard := by
  unfold gslot at h
  unfold guardOf
  cases hg : o.guard with
  | none => rfl
  | some p =>
    obtain ⟨j, want⟩ := p
    rw [hg] at h
    dsimp only at h ⊢
    cases hj : (all[j]?).bind (·.dst) with
    | none => rfl
    | some d =>
      rw [hj] at h
      dsimp only at h ⊢
      rw [h d (by simp)]
end
end Go.Aw
