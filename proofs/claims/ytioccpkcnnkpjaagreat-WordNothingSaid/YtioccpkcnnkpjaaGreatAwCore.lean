/-
  The abstract walk: states, what it is for a state to say a frame and a world, and the rules on code that hang on no operation.
-/
import Derived.Test.YtioccpkcnnkpjaaGreatAwList
namespace Go.Aw
set_option maxRecDepth 100000
set_option linter.unusedSimpArgs false
set_option linter.unusedVariables false
open Go

/-- An abstract state: what the slots hold (each under a guard: false: nothing is said), the private heap, and what was handed out by now (none: 'no more' was said). -/
structure AS where
  t : List (Nat × (Bool × AV))
  h : AHeap
  g : Option (List (List AV)) := some []

def lk : List (Nat × (Bool × AV)) → Nat → Option (Bool × AV)
  | [], _ => none
  | (k, v) :: r, n => if k = n then some v else lk r n

def AS.put (s : AS) (d : Option Nat) (g : Bool) (v : AV) : AS :=
  match d with
  | some k => { s with t := (k, (g, v)) :: s.t }
  | none => s

/-- A call of yield, as the walk takes it: its run, and the round's contract. -/
def YieldAt (P : Program) (l : Nat) (args : Array Value) (w : World) (R : Ending → World → Prop) : Prop :=
  ∃ fn tmps assign body, (Instr.yield l args).run P w = .ok (.round l fn tmps assign body) w ∧ RoundIn Fence.wide 0 P l fn tmps assign body w R

/-- An environment that owns nothing: X is not to be leaned on. -/
def bare (X : Nat → Prop) : Env := { O := fun _ => none, C := fun _ => 0, M := fun _ => False, N := X }

/-- What a walk goes by: the program, the round's loop if it is one, the heap's size when the function began; and, of an iterator: the loop whose yield it calls, what it may hand out (beginnings of 'items'), and what its caller keeps (G: what was handed out, blocks that others may write while one yields, blocks that none may share, blocks that the iterator may write). -/
structure Cx where
  P : Program
  ro : Option Nat
  base : Nat
  nt : Nat
  fl : Nat
  G : Option (List (List AV)) → (Nat → Prop) → (Nat → Prop) → (Nat → Prop) → World → Prop
  stab : ∀ g M N A A' w w', (∀ b, b < w.heap.size → ¬ A b → w'.heap[b]? = w.heap[b]?) → (∀ b, A' b → A b ∨ w.heap.size ≤ b) → (∀ b, A' b → b < w'.heap.size) → w.heap.size ≤ w'.heap.size → w'.tape = w.tape → w'.os = w.os → w'.output = w.output → G g M N A w → G g M N A' w'
  yl : Nat := 0
  items : List (List AV) := []
  yok : ∀ xs x X M N A w (vs : Array Value), G (some xs) M N A w → (∀ b, M b ∨ N b ∨ A b → X b) → Reps w (bare X) [] x vs.toList → (xs ++ [x]) <+: items →
    YieldAt P yl vs w (fun e w' => ∃ b M', e = .returned (.bool b) ∧ w'.os = w.os ∧ w'.tape = w.tape ∧ w'.output = w.output ∧ w.heap.size ≤ w'.heap.size ∧ (∀ k, k < w.heap.size → ¬ M k → w'.heap[k]? = w.heap[k]?) ∧
      (∀ k, M k → M' k) ∧ (∀ k, M' k → M k ∨ (w.heap.size ≤ k ∧ k < w'.heap.size)) ∧ G (if b = true then some (xs ++ [x]) else none) M' N A w')

def Cx.F (cx : Cx) : Fence := { Fence.wide with round := cx.ro }

structure SatH (E : Env) (h : AHeap) (w : World) : Prop where
  heap : ∀ i o, hget h i = some o → RepObj w E h i o
  inj : ∀ i j b, (hget h i).isSome → (hget h j).isSome → E.O i = some b → E.O j = some b → i = j
  own : ∀ b, Own E h b → b < w.heap.size ∧ ¬ E.M b ∧ ¬ E.N b
  mlt : ∀ b, E.M b → b < w.heap.size
  nlt : ∀ b, E.N b → b < w.heap.size

/-- The blocks of the marks among deferred calls. -/
def marksOf (ds : List Deferred) (b : Nat) : Prop := ∃ d ∈ ds, d.target = .collected b

/-- The marks among a frame's deferred calls: each its own block, laid since the function began, that nobody else turns. -/
def Marks (base : Nat) (E : Env) (w : World) (ds : List Deferred) : Prop :=
  (∀ d ∈ ds, ∃ r, d.target = .collected r ∧ w.heap[r]? = some (.deferred (some [])) ∧ base ≤ r ∧ ¬ E.M r) ∧ (ds.map (fun d => match d.target with | .collected r => r | _ => 0)).Nodup

def Slots (w : World) (E : Env) (s : AS) (a : Act) : Prop :=
  ∀ k g v, lk s.t k = some (g, v) → ∃ x, a.tmps[k]? = some x ∧ (g = true → Rep w E s.h v x) ∧ (g = false → x = undef)

theorem Marks.lt {base : Nat} {E : Env} {w : World} {ds : List Deferred} (hm : Marks base E w ds) {b : Nat} (hb : marksOf ds b) : b < w.heap.size := by
  obtain ⟨d, hd, e⟩ := hb
  obtain ⟨r, h1, h2, _⟩ := hm.1 d hd
  rw [h1] at e
  cases e
  exact (Array.getElem?_eq_some_iff.1 h2).1

structure Sat (cx : Cx) (E : Env) (s : AS) (a : Act) (w : World) : Prop where
  slots : Slots w E s a
  nt : a.tmps.size = cx.nt
  hp : SatH E s.h w
  base : cx.base ≤ w.heap.size
  marks : Marks cx.base E w a.defers
  ghost : cx.G s.g E.M E.N (fun b => Own E s.h b ∨ marksOf a.defers b) w

structure Evo (fl : Nat) (E : Env) (h : AHeap) (w : World) (E' : Env) (h' : AHeap) (w' : World) : Prop where
  os : w'.os = w.os
  tape : w'.tape = w.tape
  output : w'.output = w.output
  size : w.heap.size ≤ w'.heap.size
  keep : ∀ b, b < w.heap.size → ¬ Own E h b → ¬ E.M b → w'.heap[b]? = w.heap[b]?
  own : ∀ b, Own E' h' b → Own E h b ∨ w.heap.size ≤ b
  m1 : ∀ b, E.M b → E'.M b
  m2 : ∀ b, E'.M b → E.M b ∨ w.heap.size ≤ b
  n : E'.N = E.N
  go : ∀ i, i < fl → (hget h' i).isSome → (hget h i).isSome ∧ GoesOn E h E' h' i

theorem Evo.refl (fl : Nat) (E : Env) (h : AHeap) (w : World) : Evo fl E h w E h w := ⟨rfl, rfl, rfl, Nat.le_refl _, fun _ _ _ _ => rfl, fun _ h => .inl h, fun _ h => h, fun _ h => .inl h, rfl, fun i _ h => ⟨h, GoesOn.refl E _ i⟩⟩

theorem GoesOn.trans {E E' E'' : Env} {h h' h'' : AHeap} {i : Nat} (a : GoesOn E h E' h' i) (b : GoesOn E' h' E'' h'' i) : GoesOn E h E'' h'' i := by
  unfold GoesOn at *
  split at a
  · rename_i cs hc
    obtain ⟨e1, cs', hc', hl⟩ := a
    rw [hc'] at b
    obtain ⟨e2, cs'', hc'', hl'⟩ := b
    try simp only [hc]
    exact ⟨e2.trans e1, cs'', hc'', by omega⟩
  · rename_i k xs hc
    obtain ⟨xs', hc', hl, hE⟩ := a
    rw [hc'] at b
    obtain ⟨xs'', hc'', hl', hE'⟩ := b
    try simp only [hc]
    refine ⟨xs'', hc'', by omega, fun e => ?_⟩
    obtain ⟨f1, f2⟩ := hE (by omega)
    obtain ⟨f3, f4⟩ := hE' (by omega)
    exact ⟨f3.trans f1, f4.trans f2⟩
  · rename_i l p hc
    obtain ⟨e1, p', hc'⟩ := a
    rw [hc'] at b
    obtain ⟨e2, p'', hc''⟩ := b
    try simp only [hc]
    exact ⟨e2.trans e1, p'', hc''⟩
  · rename_i es hc
    obtain ⟨e1, es', hc'⟩ := a
    rw [hc'] at b
    obtain ⟨e2, es'', hc''⟩ := b
    try simp only [hc]
    exact ⟨e2.trans e1, es'', hc''⟩
  · rename_i k xs hc
    obtain ⟨xs', hc', hl, hE⟩ := a
    rw [hc'] at b
    obtain ⟨xs'', hc'', hl', hE'⟩ := b
    try simp only [hc]
    refine ⟨xs'', hc'', by omega, fun e => ?_⟩
    obtain ⟨f1, f2⟩ := hE (by omega)
    obtain ⟨f3, f4⟩ := hE' (by omega)
    exact ⟨f3.trans f1, f4.trans f2⟩
  · rename_i t cs hc
    obtain ⟨e1, cs', hc', hl⟩ := a
    rw [hc'] at b
    obtain ⟨e2, cs'', hc'', hl'⟩ := b
    try simp only [hc]
    exact ⟨e2.trans e1, cs'', hc'', by omega⟩
  · rename_i hc
    try simp only [hc]

theorem Evo.trans {fl : Nat} {E E' E'' : Env} {h h' h'' : AHeap} {w w' w'' : World} (a : Evo fl E h w E' h' w') (b : Evo fl E' h' w' E'' h'' w'') : Evo fl E h w E'' h'' w'' where
  os := b.os.trans a.os
  tape := b.tape.trans a.tape
  output := b.output.trans a.output
  size := Nat.le_trans a.size b.size
  keep := fun k hk ho hm => (b.keep k (Nat.lt_of_lt_of_le hk a.size) (fun h => (a.own k h).elim ho (fun h => by omega)) (fun h => (a.m2 k h).elim hm (fun h => by omega))).trans (a.keep k hk ho hm)
  own := fun k h => (b.own k h).elim (fun h => a.own k h) (fun h => .inr (Nat.le_trans a.size h))
  m1 := fun k h => b.m1 k (a.m1 k h)
  m2 := fun k h => (b.m2 k h).elim (fun h => a.m2 k h) (fun h => .inr (Nat.le_trans a.size h))
  n := b.n.trans a.n
  go := fun i hi h => by
    obtain ⟨h1, g1⟩ := b.go i hi h
    obtain ⟨h2, g2⟩ := a.go i hi h1
    exact ⟨h2, g2.trans g1⟩

/-- What is reached: some state that says it, and all else kept. -/
def Reach (cx : Cx) (E : Env) (h : AHeap) (w : World) (K : AS → Prop) (a' : Act) (w' : World) : Prop :=
  ∃ E' s', K s' ∧ Sat cx E' s' a' w' ∧ Evo cx.fl E h w E' s'.h w'

/-- The abstract walk of a piece of code. -/
def AW (cx : Cx) (c : Code) (Q : Exit → AS → Prop) (s : AS) : Prop :=
  ∀ E a w, Sat cx E s a w → c.wpIn cx.F 0 cx.P (fun e a' w' => Reach cx E s.h w (Q e) a' w') a w

/-- Where what follows stands behind a name. -/
def thenK (K : AS → Prop) (Q : Exit → AS → Prop) : Exit → AS → Prop
  | .normal, s => K s
  | e, s => Q e s

def blockK (id : Nat) (Q : Exit → AS → Prop) : Exit → AS → Prop
  | .exit id', s => if id' = id then Q .normal s else Q (.exit id') s
  | e, s => Q e s

section
variable {cx : Cx} {Q : Exit → AS → Prop} {s : AS}

theorem Reach.trans {E E' : Env} {h h' : AHeap} {w w' : World} {K : AS → Prop} {a'' : Act} {w'' : World} (e : Evo cx.fl E h w E' h' w') (r : Reach cx E' h' w' K a'' w'') : Reach cx E h w K a'' w'' := by
  obtain ⟨E2, s2, hk, hs, he⟩ := r
  exact ⟨E2, s2, hk, hs, e.trans he⟩

theorem Reach.mono {E : Env} {h : AHeap} {w : World} {K K' : AS → Prop} {a'' : Act} {w'' : World} (r : Reach cx E h w K a'' w'') (hk : ∀ s, K s → K' s) : Reach cx E h w K' a'' w'' := by
  obtain ⟨E2, s2, h2, hs, he⟩ := r
  exact ⟨E2, s2, hk _ h2, hs, he⟩

theorem AW.mono {c : Code} {Q' : Exit → AS → Prop} (h : AW cx c Q s) (hq : ∀ e s, Q e s → Q' e s) : AW cx c Q' s :=
  fun E a w hs => wpIn_mono (h E a w hs) (fun e _ _ hr => hr.mono (hq e))

theorem aw_seq {x y : Code} (h : ∀ K, (∀ s', AW cx y Q s' → K s') → AW cx x (thenK K Q) s) : AW cx (.seq x y) Q s := by
  intro E a w hs
  refine wpIn_seq (wpIn_mono (h (AW cx y Q) (fun _ h => h) E a w hs) ?_)
  intro e a1 w1 hr
  cases e with
  | normal =>
    obtain ⟨E1, s1, h1, hs1, he1⟩ := hr
    exact wpIn_mono (h1 E1 a1 w1 hs1) (fun e _ _ hr => hr.trans he1)
  | _ => exact hr

theorem aw_block {id : Nat} {c : Code} (h : AW cx c (blockK id Q) s) : AW cx (.block id c) Q s := by
  intro E a w hs
  refine wpIn_block (wpIn_mono (h E a w hs) ?_)
  intro e a1 w1 hr
  cases e with
  | exit id' =>
    simp only [Exit.inBlock]
    split
    · rename_i hid; subst hid; exact hr.mono (fun s h => by simpa only [blockK, if_true] using h)
    · rename_i hid; exact hr.mono (fun s h => by simpa only [blockK, hid, if_false] using h)
  | _ => exact hr

theorem aw_done {E : Env} {a : Act} {w : World} {K : AS → Prop} (hs : Sat cx E s a w) (h : K s) : Reach cx E s.h w K a w := ⟨E, s, h, hs, Evo.refl _ _ _ _⟩

theorem aw_skip (h : Q .normal s) : AW cx .skip Q s := fun _ _ _ hs => wpIn_skip (aw_done hs h)
theorem aw_label {l : Nat} (h : Q .normal s) : AW cx (.label l) Q s := fun _ _ _ hs => wpIn_label (aw_done hs h)
theorem aw_exit {id : Nat} (h : Q (.exit id) s) : AW cx (.exit id) Q s := fun _ _ _ hs => wpIn_exit (aw_done hs h)
theorem aw_goto {id : Nat} (h : Q (.goto id) s) : AW cx (.goto id) Q s := fun _ _ _ hs => wpIn_goto (aw_done hs h)
theorem aw_ret (h : Q .ret s) : AW cx .ret Q s := fun _ _ _ hs => wpIn_ret (aw_done hs h)
end

/-! ### Forgetting -/
mutual
/-- Whatever value is said by the first is said by the second. -/
def AV.le : AV → AV → Prop
  | a, b => match b with
    | .any => True
    | .d y => (match a with | .d x => x = y | .nils _ => (match y with | .sl _ ys => ys = [] | _ => False) | _ => False)
    | .agg ys => (match a with | .agg xs => AV.leL xs ys | _ => False)
    | .tup ys => (match a with | .tup xs => AV.leL xs ys | _ => False)
    | .nils _ => (match a with | .nils _ => True | _ => False)
    | .dp ys => (match a with | .dp xs => AV.leL xs ys | _ => False)
    | .vp j p => (match a with | .vp i o => i = j ∧ o = p | _ => False)
    | .ap i' n' k' r' off' => (match a with | .ap i n k r off => i = i' ∧ n = n' ∧ k = k' ∧ r = r' ∧ off = off' | _ => False)
    | .osl i' k' n' off' len' => (match a with | .osl i k n off len => i = i' ∧ k = k' ∧ n = n' ∧ off = off' ∧ len = len' | _ => False)
    | .vsl i' k' off' len' => (match a with | .vsl i k off len => i = i' ∧ k = k' ∧ off = off' ∧ len = len' | _ => False)
    | .asl k' ys => (match a with | .asl k xs => k = k' ∧ xs = ys | _ => False)
    | .fn f' xs' ys' => (match a with | .fn f xs ys => f = f' ∧ AV.leL xs xs' ∧ AV.leL ys ys' | _ => False)
    | .nilfn => (match a with | .nilfn => True | _ => False)
    | .map j => (match a with | .map i => i = j | _ => False)
    | .nilmap => (match a with | .nilmap => True | _ => False)
    | .raw v => (match a with | .raw u => u = v | _ => False)
    | .tp j p => (match a with | .tp i o => i = j ∧ o = p | _ => False)
    | .bsl j p => (match a with | .bsl i o => i = j ∧ o = p | _ => False)
    | .itr j => (match a with | .itr i => i = j | _ => False)
    | .iface t' y => (match a with | .iface t x => t = t' ∧ x.le y | _ => False)
def AV.leL : List AV → List AV → Prop
  | [], ys => ys = []
  | x :: xs, ys => (match ys with | y :: ys => x.le y ∧ AV.leL xs ys | [] => False)
end

def AObj.le : AObj → AObj → Prop
  | .var cs, b => (match b with | .var cs' => AV.leL cs cs' | _ => False)
  | .tvar t cs, b => (match b with | .tvar t' cs' => t = t' ∧ AV.leL cs cs' | _ => False)
  | a, b => a = b

end Go.Aw
