/-
  Regions, tests, calls.
-/
import Derived.Test.YtioccpkcnnkpjaaGreatAwEffOp
namespace Go.Aw
set_option maxRecDepth 100000
set_option linter.unusedSimpArgs false
set_option linter.unusedVariables false
open Go

/-- A call of f is an entry into its body. -/
def Enters (P : Program) (f : FuncId) : Prop := ∀ args w, (callFunc f args).run P w = .ok (.enter f args) w

/-- What a call keeps. -/
structure EvoC (fl : Nat) (E : Env) (h : AHeap) (w : World) (E' : Env) (h' : AHeap) (w' : World) : Prop where
  os : w'.os = w.os
  tape : w'.tape = w.tape
  output : w'.output = w.output
  size : w.heap.size ≤ w'.heap.size
  keep : ∀ b, b < w.heap.size → ¬ Own E h b → w'.heap[b]? = w.heap[b]?
  own : ∀ b, Own E' h' b → Own E h b ∨ w.heap.size ≤ b
  m : E'.M = E.M
  n : E'.N = E.N
  go : ∀ i, i < fl → (hget h' i).isSome → (hget h i).isSome ∧ GoesOn E h E' h' i

/-- A call of f, its private heap h alone (names below fl are the caller's): whatever says the arguments, it returns, and what comes is said by K. -/
def ACall (P : Program) (f : FuncId) (fl : Nat) (args : List AV) (h : AHeap) (K : AV → AHeap → Prop) : Prop :=
  Enters P f ∧ ∀ E w (vs : Array Value), SatH E h w → Reps w E h args vs.toList →
    Calls P f vs w (fun e w' => ∃ v E' r h', e = .returned v ∧ K r h' ∧ SatH E' h' w' ∧ Rep w' E' h' r v ∧ EvoC fl E h w E' h' w')

/-- A function of plain data: its result is r, whatever else there is. -/
def Pure (P : Program) (f : FuncId) (args : List AV) (r : AV) : Prop := ACall P f 0 args [] (fun r' _ => r' = r) ∧ AV.idsL args = [] ∧ r.ids = []

/-- What a call comes to, from a state of the caller's. -/
def ACallAt (P : Program) (fl : Nat) (f : FuncId) (args : List AV) (h : AHeap) (K : AV → AHeap → Prop) : Prop :=
  Enters P f ∧ ∀ E w (vs : Array Value), SatH E h w → Reps w E h args vs.toList →
    Calls P f vs w (fun e w' => ∃ v E' r h', e = .returned v ∧ K r h' ∧ SatH E' h' w' ∧ Rep w' E' h' r v ∧ EvoC fl E h w E' h' w' ∧
      (∀ x y, Rep w E h x y → Rep w' E' h' x y))

/-- The operands of a call: the function, its arguments. -/
def callOf (P : Program) (s : AS) (c : Call) : Option (FuncId × List AV × Prop) :=
  match c.callee with
  | .value f => match s.ev f with
    | (g, .fn (.func n) fs cs) => some (n, fs ++ ((c.args.toList.zip (c.argTypes.toList ++ List.replicate c.args.size 0)).map fun p => (s.ev p.1).2.tag P p.2) ++ cs, g = true ∧ (c.args.toList.all fun x => (s.ev x).1) = true)
    | _ => none
  | _ => none

/-- Does an operation hand back a value and leave the world alone? -/
def isVal0 : Op → Bool
  | .binOp .. | .unOp .. | .makeInterface .. | .makeFunc .. | .field .. | .fieldAddr .. | .indexAddr .. | .index .. | .slice .. | .load .. | .nilCheck .. | .extract .. | .lookup .. => true
  | .convert .. => true
  | .call c => match c.callee with
    | .builtin .len => true
    | .builtin .min => true
    | .builtin .max => true
    | _ => false
  | _ => false

def isVal (P : Program) (op : Op) : Bool := isVal0 op && !isX P op

def known (s : AS) : Operand → Bool
  | .tmp t => (lk s.t t).isSome
  | _ => true

def dstOk (nt : Nat) : Option Nat → Prop
  | some d => d < nt
  | none => True

def AV.isB : AV → Bool
  | .d (.bool _) => true
  | _ => false
def AV.toB : AV → Bool
  | .d (.bool x) => x
  | _ => false

theorem AV.isB_eq {v : AV} (h : v.isB = true) : v = .d (.bool v.toB) := by
  unfold AV.isB at h
  split at h
  · rfl
  · cases h

/-- One operation that is carried out (its guard, if it has one, said yes). -/
def aop1 (cx : Cx) (o : Oper) (K : AS → Prop) (s : AS) : Prop :=
  match o.op with
  | .move x => known s x = true ∧ K (s.put o.dst (s.ev x).1 ((s.ev x).2.tag cx.P o.type))
  | .assign x => known s x = true ∧ K (s.put o.dst (s.ev x).1 ((s.ev x).2.tag cx.P o.type))
  | .pick c a b => (match s.ev c with
    | (gc, .d (.bool c)) => gc = true ∧ (c = true → (s.ev a).1 = true ∧ (s.ev a).2.isB = true) ∧ (c = false → (s.ev b).1 = true ∧ (s.ev b).2.isB = true) ∧ K (s.put o.dst true (.d (.bool (bif c then (s.ev a).2.toB else (s.ev b).2.toB))))
    | _ => False)
  | .call c => if isVal cx.P (.call c) then (aval cx.P s (.call c)).1 ∧ K (s.put o.dst true (aval cx.P s (.call c)).2) else
    (match callOf cx.P s c with
    | some (f, args, vc) => vc ∧ ACallAt cx.P cx.fl f args s.h (fun r h' => K ({ s with h := h' }.put o.dst true r))
    | none => aeff cx.fl cx.P s (.call c) (fun r h' => K ({ s with h := h' }.put o.dst true r)))
  | op => if isVal cx.P op then (aval cx.P s op).1 ∧ K (s.put o.dst true (aval cx.P s op).2)
    else aeff cx.fl cx.P s op (fun r h' => K ({ s with h := h' }.put o.dst true r))

/-- One operation under the guard G. -/
def aop (cx : Cx) (G : Bool) (o : Oper) (K : AS → Prop) (s : AS) : Prop :=
  dstOk cx.nt o.dst ∧
  match o.op with
  | .move x => known s x = true ∧ K (s.put o.dst (G && (s.ev x).1) ((s.ev x).2.tag cx.P o.type))
  | .assign x => known s x = true ∧ K (s.put o.dst (G && (s.ev x).1) ((s.ev x).2.tag cx.P o.type))
  | .pick c a b => (match s.ev c with
    | (gc, .d (.bool c)) => (G = true → gc = true ∧ (c = true → (s.ev a).1 = true ∧ (s.ev a).2.isB = true) ∧ (c = false → (s.ev b).1 = true ∧ (s.ev b).2.isB = true)) ∧ K (s.put o.dst G (.d (.bool (bif c then (s.ev a).2.toB else (s.ev b).2.toB))))
    | _ => False)
  | op => if isVal cx.P op then (G = true → (aval cx.P s op).1) ∧ K (s.put o.dst G (aval cx.P s op).2)
    else (G = true → aop1 cx o K s) ∧ (G = false → K (s.put o.dst false .any))

/-- The guard of an operation. -/
def guardOf (s : AS) (all : Array Oper) : Option (Nat × Bool) → Option Bool
  | none => some true
  | some (j, want) => match (all[j]?).bind (·.dst) with
    | some d => match lk s.t d with
      | some (g, .d (.bool b)) => some (g && (b == want))
      | some (false, _) => some false
      | _ => none
    | none => none

def aops (cx : Cx) (all : Array Oper) : List Oper → (AS → Prop) → AS → Prop
  | [], K, s => K s
  | o :: r, K, s => match guardOf s all o.guard with
    | some G => aop cx G o (aops cx all r K) s
    | none => False

section
variable {cx : Cx} {E : Env} {s : AS} {a : Act} {w : World}

theorem calls_in {ro : Option Nat} {P : Program} {f : FuncId} {args : Array Value} {w : World} {R : Ending → World → Prop} (n : Nat) (h : Calls P f args w R) : CallsIn { Fence.wide with round := ro } n P f args w R := callsIn_wide.2 h

theorem EvoC.evo {fl : Nat} {h h' : AHeap} {E' : Env} {w' : World} (c : EvoC fl E h w E' h' w') : Evo fl E h w E' h' w' :=
  ⟨c.os, c.tape, c.output, c.size, fun b hb ho _ => c.keep b hb ho, c.own, fun b hb => by rwa [c.m], fun b hb => .inl (by rwa [← c.m]), c.n, c.go⟩

/-- A state behind a call. -/
theorem Sat.call {h' : AHeap} {E' : Env} {w' : World} (hs : Sat cx E s a w) (hh : SatH E' h' w') (c : EvoC cx.fl E s.h w E' h' w') (hrep : ∀ x y, Rep w E s.h x y → Rep w' E' h' x y) : Sat cx E' { s with h := h' } a w' where
  slots := fun k g v hk => by
    obtain ⟨x, h1, h2, h3⟩ := hs.slots k g v hk
    exact ⟨x, h1, fun e => hrep _ _ (h2 e), h3⟩
  nt := hs.nt
  hp := hh
  base := Nat.le_trans hs.base c.size
  marks := hs.marks.step (fun b _ hb => by rwa [← c.m]) (fun r hr hm => c.keep r (Array.getElem?_eq_some_iff.1 hr).1 (hs.hp.not_mark hr))
  ghost := by
    rw [c.m, c.n]
    exact cx.stab _ _ _ _ _ _ _ (fun b hb ho => c.keep b hb (fun h => ho (.inl h))) (fun b hb => hb.elim (fun hb => (c.own b hb).imp .inl id) (fun hb => .inl (.inr hb))) (fun b hb => hb.elim (fun h => (hh.own b h).1) (fun h => Nat.lt_of_lt_of_le (hs.marks.lt h) c.size)) c.size c.tape c.os c.output hs.ghost

theorem Does.wpIn {o : Oper} {R : Value → World → Prop} {Q : Exit → Act → World → Prop} {next : Act → World → Prop} (hd : ∀ c, o.op ≠ .defer c) (h : Does cx.P (execOp a.eval o) w R) (hn : ∀ v w', R v w' → next (a.put o.dst v) w') :
    o.wpIn cx.F 0 cx.P a w next Q := by
  refine ⟨fun _ _ => trivial, ?_⟩
  rw [Oper.semAt_eq _ _ _ hd]
  rcases h with ⟨v, w', h1, h2⟩ | ⟨w', h1, h2⟩
  · rw [h1]; exact hn v w' h2
  · rw [h1]; exact hn undef w' h2

theorem aop1_ok {o : Oper} {K : AS → Prop} {Q : Exit → Act → World → Prop} (hs : Sat cx E s a w) (hd : dstOk cx.nt o.dst) (h : aop1 cx o K s) : o.wpIn cx.F 0 cx.P a w (Reach cx E s.h w K) Q := by
  have hdst : ∀ k, o.dst = some k → k < cx.nt := fun k e => by rw [e] at hd; exact hd
  have hval : (aval cx.P s o.op).1 → K (s.put o.dst true (aval cx.P s o.op).2) → (∀ c, o.op ≠ .defer c) → o.wpIn cx.F 0 cx.P a w (Reach cx E s.h w K) Q := by
    intro h1 h2 h3
    obtain ⟨v, hv, hr⟩ := aval_ok hs.hp hs.slots o h1
    refine Does.wpIn h3 (R := fun v' w' => v' = v ∧ w' = w) (.inl ⟨v, w, hv, rfl, rfl⟩) ?_
    rintro v' w' ⟨rfl, rfl⟩
    exact ⟨E, _, h2, hs.put hdst (fun _ => hr) (fun e => by cases e), by cases o.dst <;> exact Evo.refl _ _ _ _⟩
  have heff : aeff cx.fl cx.P s o.op (fun r h' => K ({ s with h := h' }.put o.dst true r)) → (∀ c, o.op ≠ .defer c) → o.wpIn cx.F 0 cx.P a w (Reach cx E s.h w K) Q := by
    intro h1 h3
    refine Does.wpIn h3 (aeff_ok hs o h1) ?_
    rintro v w' ⟨E', h', x, hk, hs', he, hr⟩
    exact ⟨E', _, hk, hs'.put hdst (fun _ => hr) (fun e => by cases e), by cases o.dst <;> exact he⟩
  have hmove : ∀ x, (execOp a.eval o = pure (.value (a.eval x))) → (∀ c, o.op ≠ .defer c) → (known s x = true ∧ K (s.put o.dst (s.ev x).1 ((s.ev x).2.tag cx.P o.type))) → o.wpIn cx.F 0 cx.P a w (Reach cx E s.h w K) Q := by
    rintro x he h3 ⟨hkn, hk⟩
    refine Does.wpIn h3 (R := fun v' w' => v' = a.eval x ∧ w' = w) (.inl ⟨a.eval x, w, by rw [he]; rfl, rfl, rfl⟩) ?_
    rintro v' w' ⟨rfl, rfl⟩
    refine ⟨E, _, hk, hs.put hdst (fun e => Rep.tag (ev_ok hs.slots x e)) (fun e => ?_), by cases o.dst <;> exact Evo.refl _ _ _ _⟩
    cases x with
    | tmp t =>
      simp only [AS.ev] at e
      cases hl : lk s.t t with
      | none => simp [known, hl] at hkn
      | some p =>
        obtain ⟨g, v⟩ := p
        simp only [hl, Option.getD_some] at e
        obtain ⟨y, hy, _, hu⟩ := hs.slots t g v hl
        simp only [Act.eval]
        rw [show a.tmps.getD t undef = y by simp [hy]]
        exact hu e
    | const v => simp [AS.ev] at e
    | func f => simp [AS.ev] at e
    | global g => simp [AS.ev] at e
  obtain ⟨dst, op, ot, pos, after, guard⟩ := o
  unfold aop1 at h
  dsimp only at h hval heff hmove
  split at h
  · exact hmove _ rfl (by simp) h
  · exact hmove _ rfl (by simp) h
  · rename_i c x y
    split at h
    · rename_i gc c' ec
      obtain ⟨h1, h2, h3, h4⟩ := h
      obtain ⟨x', ex'⟩ : ∃ x', (s.ev x).2.toB = x' := ⟨_, rfl⟩
      obtain ⟨y', ey'⟩ : ∃ y', (s.ev y).2.toB = y' := ⟨_, rfl⟩
      rw [ex', ey'] at h4
      have hc := ev_ok hs.slots c (by rw [ec]; exact h1)
      rw [ec] at hc
      simp only [Rep, RepD] at hc
      have hv : ∃ v, (execOp a.eval ⟨dst, .pick c x y, ot, pos, after, guard⟩).run cx.P w = .ok (.value v) w ∧ v = .bool (bif c' then x' else y') := by
        cases c' with
        | true =>
          have hx := ev_ok hs.slots x (h2 rfl).1
          rw [AV.isB_eq (h2 rfl).2, ex'] at hx
          simp only [Rep, RepD] at hx
          exact ⟨a.eval x, by simp [execOp, hc, asBool], by simpa using hx⟩
        | false =>
          have hy := ev_ok hs.slots y (h3 rfl).1
          rw [AV.isB_eq (h3 rfl).2, ey'] at hy
          simp only [Rep, RepD] at hy
          exact ⟨a.eval y, by simp [execOp, hc, asBool], by simpa using hy⟩
      obtain ⟨v, hv1, rfl⟩ := hv
      refine Does.wpIn (by simp) (R := fun v' w' => v' = .bool (bif c' then x' else y') ∧ w' = w) (.inl ⟨_, w, hv1, rfl, rfl⟩) ?_
      rintro v' w' ⟨rfl, rfl⟩
      exact ⟨E, _, h4, hs.put hdst (fun _ => by simp [Rep, RepD]) (fun e => by cases e), by cases dst <;> exact Evo.refl _ _ _ _⟩
    · exact h.elim
  · rename_i c
    split at h
    · exact hval h.1 h.2 (by simp)
    · split at h
      · rename_i f args vc hco
        obtain ⟨hvc, hen, hcall⟩ := h
        -- a call of a function of the program's
        obtain ⟨callee, cargs, ctypes⟩ := c
        cases callee with
        | invoke r m => simp [callOf] at hco
        | builtin b => simp [callOf] at hco
        | value fo =>
          simp only [callOf] at hco
          split at hco
          case h_2 => cases hco
          case h_1 g n fs cs hef =>
            simp only [Option.some.injEq, Prod.mk.injEq] at hco
            obtain ⟨rfl, rfl, rfl⟩ := hco
            obtain ⟨hg, hall⟩ := hvc
            have hf := ev_ok hs.slots fo (by rw [hef]; exact hg)
            rw [hef] at hf
            simp only [Rep] at hf
            obtain ⟨pf, qc, hfv, hfs, hcs⟩ := hf
            have hargs : Reps w E s.h ((cargs.toList.zip (ctypes.toList ++ List.replicate cargs.size 0)).map fun p => (s.ev p.1).2.tag cx.P p.2) (cargs.toList.map a.eval) := by
              have key : ∀ (l : List Operand) (ts : List TypeId), l.length ≤ ts.length → (l.all fun x => (s.ev x).1) = true → Reps w E s.h ((l.zip ts).map fun p => (s.ev p.1).2.tag cx.P p.2) (l.map a.eval) := by
                intro l
                induction l with
                | nil => intro ts _ _; simp [Reps]
                | cons x l ih =>
                  intro ts hl ha
                  cases ts with
                  | nil => simp at hl
                  | cons t ts =>
                    simp only [List.all_cons, Bool.and_eq_true] at ha
                    simp only [List.zip_cons_cons, List.map_cons, Reps]
                    exact ⟨_, _, rfl, Rep.tag (ev_ok hs.slots x ha.1), ih ts (by simpa using hl) ha.2⟩
              exact key _ _ (by simp) hall
            have hvs : Reps w E s.h (fs ++ ((cargs.toList.zip (ctypes.toList ++ List.replicate cargs.size 0)).map fun p => (s.ev p.1).2.tag cx.P p.2) ++ cs) ((pf ++ cargs.map a.eval) ++ qc).toList := by
              simp only [Array.toList_append, Array.toList_map]
              exact (hfs.append hargs).append hcs
            refine ⟨fun _ _ => trivial, ?_⟩
            rw [Oper.semAt_eq _ _ _ (by simp)]
            have hrun : (execOp a.eval ⟨dst, .call ⟨.value fo, cargs, ctypes⟩, ot, pos, after, guard⟩).run cx.P w = .ok (.enter n (pf ++ cargs.map a.eval ++ qc)) w := by
              simp only [execOp, resolve, hfv, Deferred.ofValue, Sem.run_bind, Sem.run_pure, Result.andThen_ok, invoke]
              exact hen _ _
            rw [hrun]
            simp only [Oper.uponIn_enter]
            refine ⟨(fun h => by cases h), ?_⟩
            refine (calls_in _ (hcall E w _ hs.hp hvs)).mono ?_
            rintro e w' ⟨v, E', r, h', rfl, hk, hh, hr, hev, hrep⟩
            exact ⟨E', _, hk, (hs.call hh hev hrep).put hdst (fun _ => hr) (fun e => by cases e), by cases dst <;> exact hev.evo⟩
      · exact heff h (by simp)
  · rename_i hn1 hn2 hn3 hn4
    have hdf : ∀ c, op ≠ .defer c := by
      rintro c rfl
      simp [isVal, isVal0, aeff, aextra] at h
    split at h
    · exact hval h.1 h.2 hdf
    · exact heff h hdf

theorem undef_any {d : Option Nat} (hs : Sat cx E s a w) (hd : dstOk cx.nt d) : Sat cx E (s.put d false .any) (a.put d undef) w :=
  hs.put (fun k e => by rw [e] at hd; exact hd) (fun e => by cases e) (fun _ => rfl)

theorem isVal_defer {P : Program} {op : Op} (h : isVal P op = true) : ∀ c, op ≠ .defer c := by
  rintro c rfl
  simp [isVal, isVal0] at h

/-- One operation of a region, with its guard. -/
theorem aop_ok {all : Array Oper} {o : Oper} {G : Bool} {K : AS → Prop} {Q : Exit → Act → World → Prop} (hs : Sat cx E s a w) (hg : guardOf s all o.guard = some G) (h : aop cx G o K s) :
    if Region.wanted o (yielded all a.tmps) then o.wpIn cx.F 0 cx.P a w (Reach cx E s.h w K) Q else (∀ f, o.about cx.P w a.eval = some f → cx.F.fn f) ∧ Reach cx E s.h w K (a.put o.dst undef) w := by
  obtain ⟨hd, h⟩ := h
  have hw : Region.wanted o (yielded all a.tmps) = G := by
    unfold guardOf at hg
    unfold Region.wanted
    cases ho : o.guard with
    | none => simp [ho] at hg; simp [hg]
    | some p =>
      obtain ⟨j, want⟩ := p
      simp only [ho] at hg ⊢
      unfold yielded
      cases hj : (all[j]?).bind (·.dst) with
      | none => simp [hj] at hg
      | some d =>
        simp only [hj] at hg
        cases hl : lk s.t d with
        | none => simp [hl] at hg
        | some q =>
          obtain ⟨g, v⟩ := q
          obtain ⟨x, hx, hr, hu⟩ := hs.slots d g v hl
          simp only [hl] at hg
          simp only [Option.bind_some, hx]
          split at hg
          · rename_i g' b e
            simp only [Option.some.injEq, Prod.mk.injEq] at e hg
            obtain ⟨rfl, rfl⟩ := e
            subst hg
            cases g with
            | true =>
              have := hr rfl
              simp only [Rep, RepD] at this
              subst this
              cases b <;> cases want <;> rfl
            | false =>
              have := hu rfl
              subst this
              simp [undef]
          · rename_i v' e
            simp only [Option.some.injEq, Prod.mk.injEq] at e hg
            obtain ⟨rfl, rfl⟩ := e
            subst hg
            have := hu rfl
            subst this
            simp [undef]
          · cases hg
  rw [hw]
  have hev0 : ∀ (x : AV) (g : Bool), Evo cx.fl E s.h w E (s.put o.dst g x).h w := fun x g => by cases o.dst <;> exact Evo.refl _ _ _ _
  cases G with
  | true =>
    have h1 : aop1 cx o K s ∨ (isVal cx.P o.op = true ∧ (aval cx.P s o.op).1 ∧ K (s.put o.dst true (aval cx.P s o.op).2)) := by
      split at h
      · rename_i x he; left; unfold aop1; rw [he]; simpa using h
      · rename_i x he; left; unfold aop1; rw [he]; simpa using h
      · rename_i c x y he
        left; unfold aop1; rw [he]
        dsimp only
        split at h
        · rename_i gc c' ec
          try rw [ec]
          obtain ⟨h1, h2⟩ := h
          obtain ⟨h3, h4, h5⟩ := h1 rfl
          exact ⟨h3, h4, h5, h2⟩
        · exact h.elim
      · split at h
        · rename_i hv
          exact .inr ⟨hv, h.1 rfl, h.2⟩
        · exact .inl (h.1 rfl)
    simp only [if_true]
    rcases h1 with h1 | ⟨hv, h1, h2⟩
    · exact aop1_ok hs hd h1
    · obtain ⟨v, hv1, hr⟩ := aval_ok hs.hp hs.slots o h1
      refine Does.wpIn (isVal_defer hv) (R := fun v' w' => v' = v ∧ w' = w) (.inl ⟨v, w, hv1, rfl, rfl⟩) ?_
      rintro v' w' ⟨rfl, rfl⟩
      exact ⟨E, _, h2, hs.put (fun k e => by rw [e] at hd; exact hd) (fun _ => hr) (fun e => by cases e), hev0 _ _⟩
  | false =>
    simp only [Bool.false_eq_true, if_false]
    refine ⟨fun _ _ => trivial, ?_⟩
    have hput : ∀ x, Sat cx E (s.put o.dst false x) (a.put o.dst undef) w := fun x => hs.put (fun k e => by rw [e] at hd; exact hd) (fun e => by cases e) (fun _ => rfl)
    split at h
    · exact ⟨E, _, h.2, hput _, hev0 _ _⟩
    · exact ⟨E, _, h.2, hput _, hev0 _ _⟩
    · split at h
      · exact ⟨E, _, h.2, hput _, hev0 _ _⟩
      · exact h.elim
    · split at h
      · exact ⟨E, _, h.2, hput _, hev0 _ _⟩
      · exact ⟨E, _, h.2 rfl, hput _, hev0 _ _⟩

theorem oper_mono {F : Fence} {n : Nat} {P : Program} {o : Oper} {Q Q' : Exit → Act → World → Prop} {n1 n2 : Act → World → Prop} (h : o.wpIn F n P a w n1 Q) (hn : ∀ a w, n1 a w → n2 a w) (hQ : ∀ e a w, Q e a w → Q' e a w) : o.wpIn F n P a w n2 Q' := by
  obtain ⟨h1, h2⟩ := h
  refine ⟨h1, ?_⟩
  revert h2
  generalize (o.semAt F.round a.eval).run P w = r
  intro h2
  have hl : LetsOut Q → LetsOut Q' := by rintro ⟨_, _, h⟩; exact ⟨_, _, hQ _ _ _ h⟩
  cases r with
  | ok nx w' =>
    cases nx <;> simp only [Oper.uponIn] at h2 ⊢
    case value v => exact hn _ _ h2
    case skip => exact hn _ _ h2
    case defer d => exact hn _ _ h2
    case enter f args => exact ⟨h2.1, h2.2.mono fun e w'' hr => by
      cases e with
      | returned v => exact hn _ _ hr
      | panicked c => exact hQ _ _ _ hr
      | outgrown => exact hl hr⟩
    case row r args => exact ⟨h2.1, h2.2.mono fun v w'' hr => hn _ _ hr⟩
    case round l f t as b => exact ⟨h2.1, h2.2.mono fun e w'' hr => by
      cases e with
      | returned v => exact hn _ _ hr
      | panicked c => exact hQ _ _ _ hr
      | outgrown => exact hl hr⟩
  | halt x w' => cases x <;> simp only [Oper.uponIn] at h2 ⊢ <;> first | exact hQ _ _ _ h2 | exact h2

theorem wpIn_next_mono {o : Oper} {Q : Exit → Act → World → Prop} {n1 n2 : Act → World → Prop} (h : o.wpIn cx.F 0 cx.P a w n1 (fun _ _ _ => False)) (hn : ∀ a w, n1 a w → n2 a w) : o.wpIn cx.F 0 cx.P a w n2 Q :=
  oper_mono h hn (fun _ _ _ h => h.elim)

theorem wpOpsIn_mono {F : Fence} {n : Nat} {P : Program} {all : Array Oper} {Q Q' : Exit → Act → World → Prop} : ∀ (l : List Nat) {a : Act} {w : World}, wpOpsIn F n P all Q l a w → (∀ e a w, Q e a w → Q' e a w) → wpOpsIn F n P all Q' l a w
  | [], a, w, h, hq => hq _ _ _ h
  | i :: l, a, w, h, hq => by
    simp only [wpOpsIn] at h ⊢
    split
    · rename_i ho; simp only [ho] at h; exact wpOpsIn_mono l h hq
    · rename_i o ho
      simp only [ho] at h
      split
      · rename_i hw; rw [if_pos hw] at h; exact oper_mono h (fun _ _ h => wpOpsIn_mono l h hq) hq
      · rename_i hw; rw [if_neg hw] at h; exact ⟨h.1, wpOpsIn_mono l h.2 hq⟩

/-- A run of operations, in the order of the text. -/
theorem aops_ok {all : Array Oper} : ∀ (l : List Nat) (ops : List Oper) {K : AS → Prop} {s : AS} {E : Env} {a : Act} {w : World}, l.map (all[·]?) = ops.map some → Sat cx E s a w → aops cx all ops K s →
    wpOpsIn cx.F 0 cx.P all (fun e a' w' => e = .normal ∧ Reach cx E s.h w K a' w') l a w
  | [], ops, K, s, E, a, w, hl, hs, h => by
    have : ops = [] := by simpa using hl.symm
    subst this
    exact ⟨rfl, aw_done hs h⟩
  | i :: l, [], K, s, E, a, w, hl, hs, h => by simp at hl
  | i :: l, o :: ops, K, s, E, a, w, hl, hs, h => by
    simp only [List.map_cons, List.cons.injEq] at hl
    obtain ⟨hi, hl⟩ := hl
    simp only [aops] at h
    split at h
    · rename_i G hg
      simp only [wpOpsIn, hi]
      have := aop_ok (Q := fun _ _ _ => False) hs hg h
      split at this
      · rename_i hw
        rw [if_pos hw]
        refine wpIn_next_mono this ?_
        rintro a1 w1 ⟨E1, s1, hk, hs1, he1⟩
        have ih := aops_ok l ops hl hs1 hk
        refine wpOpsIn_mono _ ih ?_
        rintro e a2 w2 ⟨rfl, hr⟩
        exact ⟨rfl, hr.trans he1⟩
      · rename_i hw
        rw [if_neg hw]
        refine ⟨this.1, ?_⟩
        obtain ⟨E1, s1, hk, hs1, he1⟩ := this.2
        have ih := aops_ok l ops hl hs1 hk
        refine wpOpsIn_mono _ ih ?_
        rintro e a2 w2 ⟨rfl, hr⟩
        exact ⟨rfl, hr.trans he1⟩
    · exact h.elim

theorem range_get {α : Type} (all : Array α) : (List.range all.size).map (all[·]?) = all.toList.map some := by
  apply List.ext_getElem?
  intro i
  simp only [List.getElem?_map]
  by_cases hi : i < all.size
  · simp [hi]
  · simp [hi]

theorem aw_region {id : Nat} {ops : Array Oper} {Q : Exit → AS → Prop} (h : aops cx ops ops.toList (Q .normal) s) : AW cx (.region id ops false) Q s := fun E a w hs =>
  wpIn_region (wpOpsIn_mono _ (aops_ok _ _ (range_get ops) hs h) (by rintro e a' w' ⟨rfl, hr⟩; exact hr))

theorem aw_seq_region {id : Nat} {ops : Array Oper} {y : Code} {Q : Exit → AS → Prop} (h : ∀ K, (∀ s', AW cx y Q s' → K s') → aops cx ops ops.toList K s) : AW cx (.seq (.region id ops false) y) Q s :=
  aw_seq fun K hK => aw_region (h K hK)

theorem aw_cond {c : Operand} {x y : Code} {Q : Exit → AS → Prop} {b : Bool} (hc : s.ev c = (true, .d (.bool b))) (ht : b = true → AW cx x Q s) (hf : b = false → AW cx y Q s) : AW cx (.cond c x y) Q s := by
  intro E a w hs
  have := ev_ok hs.slots c (by rw [hc])
  rw [hc] at this
  simp only [Rep, RepD] at this
  exact wpIn_cond_split this (fun e => ht e E a w hs) (fun e => hf e E a w hs)
end
end Go.Aw
