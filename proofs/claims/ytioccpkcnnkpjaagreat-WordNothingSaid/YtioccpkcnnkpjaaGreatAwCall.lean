/-
  A function's contract out of its body's walk; a pure function's contract wherever it is called.
-/
import Derived.Test.YtioccpkcnnkpjaaGreatAwRun
namespace Go.Aw
set_option maxRecDepth 100000
set_option linter.unusedSimpArgs false
set_option linter.unusedVariables false
open Go

/-- The cells that a function's results are read from. -/
def ares (P : Program) (s : AS) : List ResultVar → Prop × List AV
  | [] => (True, [])
  | .tmp t :: r => ((s.ev (.tmp t)).1 = true ∧ (ares P s r).1, (s.ev (.tmp t)).2 :: (ares P s r).2)
  | .cell x t :: r => ((s.ev (.tmp x)).1 = true ∧ (avLoad P s t (s.ev (.tmp x)).2).1 ∧ (ares P s r).1, (avLoad P s t (s.ev (.tmp x)).2).2 :: (ares P s r).2)

def one : List AV → AV
  | [v] => v
  | vs => .tup vs

def RetK (P : Program) (fn : Func) (K : AV → AHeap → Prop) : Exit → AS → Prop
  | .normal, s => (ares P s fn.results.toList).1 ∧ K (one (ares P s fn.results.toList).2) s.h
  | .ret, s => (ares P s fn.results.toList).1 ∧ K (one (ares P s fn.results.toList).2) s.h
  | _, _ => False

def slotsFrom : Nat → List AV → List (Nat × (Bool × AV))
  | _, [] => []
  | i, a :: r => (i, (true, a)) :: slotsFrom (i + 1) r

def cxOf (P : Program) (base nt fl : Nat) : Cx := { P := P, ro := none, base := base, nt := nt, fl := fl, G := fun _ _ _ _ _ => True, stab := fun _ _ _ _ _ _ _ _ _ _ _ _ _ _ _ => trivial, yok := fun xs x _ _ _ _ _ _ _ _ _ hp => absurd hp (by simp) }

section
variable {P : Program}

theorem slotsFrom_lk : ∀ (args : List AV) (i k : Nat) {g : Bool} {v : AV}, lk (slotsFrom i args) k = some (g, v) → g = true ∧ i ≤ k ∧ args[k - i]? = some v
  | [], i, k, g, v, h => by simp [slotsFrom, lk] at h
  | a :: r, i, k, g, v, h => by
    simp only [slotsFrom, lk] at h
    split at h
    · rename_i e; subst e
      simp only [Option.some.injEq, Prod.mk.injEq] at h
      obtain ⟨rfl, rfl⟩ := h
      simp
    · rename_i e
      obtain ⟨h1, h2, h3⟩ := slotsFrom_lk r (i + 1) k h
      refine ⟨h1, by omega, ?_⟩
      obtain ⟨d, rfl⟩ : ∃ d, k = i + 1 + d := ⟨k - (i + 1), by omega⟩
      rw [show i + 1 + d - i = d + 1 by omega]
      rw [show i + 1 + d - (i + 1) = d by omega] at h3
      simpa using h3

/-- A world in which some marks' blocks were shut. -/
structure Shut (base : Nat) (w w' : World) : Prop where
  os : w'.os = w.os
  tape : w'.tape = w.tape
  output : w'.output = w.output
  size : w'.heap.size = w.heap.size
  low : ∀ b, b < base → w'.heap[b]? = w.heap[b]?
  keep : ∀ (b : Nat) (o : Obj), w.heap[b]? = some o → (∀ ds, o ≠ .deferred ds) → (∀ r, o ≠ .loop r) → w'.heap[b]? = some o

theorem Shut.refl (base : Nat) (w : World) : Shut base w w := ⟨rfl, rfl, rfl, rfl, fun _ _ => rfl, fun _ _ h _ _ => h⟩

theorem leaves_marks {base : Nat} {E : Env} {fn : Func} {tmps : Array Value} {R : Ending → World → Prop} : ∀ (ds : List Deferred) (w : World), Marks base E w ds →
    (∀ w'', Shut base w w'' → (∀ b, ¬ marksOf ds b → w''.heap[b]? = w.heap[b]?) → ∃ v, (results fn tmps).run P w'' = .ok v w'' ∧ R (.returned v) w'') → LeavesInM Fence.wide 0 P fn tmps R ds .returning w
  | [], w, _, h => h w (Shut.refl _ _) (fun _ _ => rfl)
  | d :: ds, w, hm, h => by
    obtain ⟨r, h1, h2, h3, h4⟩ := hm.1 d (by simp)
    refine ⟨by simp, .inl ⟨r, w.putObj r (.deferred none), h1, run_takeDeferred h2, ?_⟩⟩
    have hr := (Array.getElem?_eq_some_iff.1 h2).1
    refine leaves_marks (base := base) (E := E) ds _ ⟨fun d' hd' => ?_, ?_⟩ (fun w'' hs ho => h w'' ?_ ?_)
    · obtain ⟨r', g1, g2, g3, g4⟩ := hm.1 d' (by simp [hd'])
      have hne : r' ≠ r := by
        intro e
        subst e
        have := hm.2
        simp only [List.map_cons, h1, List.nodup_cons, List.mem_map, not_exists, not_and] at this
        exact this.1 d' hd' (by rw [g1])
      exact ⟨r', g1, (World.putObj_heap_other hne).trans g2, g3, g4⟩
    · have := hm.2
      simp only [List.map_cons, List.nodup_cons] at this
      exact this.2
    · refine ⟨hs.os, hs.tape, hs.output, by rw [hs.size]; simp, fun b hb => (hs.low b hb).trans (World.putObj_heap_other (by omega)), fun b o hb ho hl => hs.keep b o ?_ ho hl⟩
      have hne : b ≠ r := by
        intro e; subst e
        rw [h2] at hb; cases hb
        exact ho _ rfl
      exact (World.putObj_heap_other hne).trans hb
    · intro b hb
      refine (ho b (fun ⟨d', hd', e⟩ => hb ⟨d', by simp [hd'], e⟩)).trans (World.putObj_heap_other (fun e => hb ⟨d, by simp, by rw [h1, e]⟩))

theorem Shut.hK {base : Nat} {w w' : World} (h : Shut base w w') {X : Nat → Prop} : ∀ b c T fz, w.heap[b]? = some (.cells c T fz) → ¬ X b → w'.heap[b]? = some (.cells c T fz) := fun b c T fz hb _ => h.keep b _ hb (by intro ds e; cases e) (by intro ds e; cases e)

/-- The same names, what is foreign told otherwise. -/
theorem SatH.refit {E E' : Env} {h : AHeap} {w w' : World} {base : Nat} (hs : SatH E h w) (sh : Shut base w w') (hO : E'.O = E.O) (hC : E'.C = E.C) (hX : ∀ b, b < w.heap.size → Xs E' h b → Xs E h b)
    (own : ∀ b, Own E h b → ¬ E'.M b ∧ ¬ E'.N b) (m : ∀ b, E'.M b → b < w.heap.size) (n : ∀ b, E'.N b → b < w.heap.size) : SatH E' h w' where
  heap := fun i o ho => by
    have hg : ∀ j, GoesOn E h E' h j := fun j => by
      unfold GoesOn
      split <;> simp_all
    have := hs.heap i o ho
    cases o with
    | var cs =>
      simp only [RepObj, hO] at this ⊢
      obtain ⟨b, d, T, fz, h1, h2, h3, h4⟩ := this
      exact ⟨b, d, T, fz, h1, sh.keep _ _ h2 (by intro ds e; cases e) (by intro ds e; cases e), Reps.stepc (hX_of hX) sh.hK _ _ (fun j _ => hg j) h3, h4⟩
    | tvar tt cs =>
      simp only [RepObj, hO] at this ⊢
      obtain ⟨b, d, T, fz, h1, h2, h3, h4⟩ := this
      exact ⟨b, d, T, fz, h1, sh.keep _ _ h2 (by intro ds e; cases e) (by intro ds e; cases e), Reps.stepc (hX_of hX) sh.hK _ _ (fun j _ => hg j) h3, h4⟩
    | arr k xs =>
      simp only [RepObj, hO, hC] at this ⊢
      rcases this with h0 | ⟨b, d, T, fz, h1, h2, h3, h4, h5, h6⟩
      · exact .inl h0
      · exact .inr ⟨b, d, T, fz, h1, sh.keep _ _ h2 (by intro ds e; cases e) (by intro ds e; cases e), h3, h4, RepRows.stepc (hX_of hX) sh.hK _ _ _ h5, h6⟩
    | buf tt xs =>
      simp only [RepObj, hO, hC] at this ⊢
      rcases this with h0 | ⟨b, d, T, fz, h1, h2, h3, h4, h5, h6⟩
      · exact .inl h0
      · exact .inr ⟨b, d, T, fz, h1, sh.keep _ _ h2 (by intro ds e; cases e) (by intro ds e; cases e), h3, h4, h5, h6⟩
    | strit l p =>
      simp only [RepObj, hO] at this ⊢
      obtain ⟨b, h1, h2⟩ := this
      exact ⟨b, h1, sh.keep _ _ h2 (by intro ds e; cases e) (by intro ds e; cases e)⟩
    | omap es =>
      simp only [RepObj, hO] at this ⊢
      obtain ⟨b, mm, cl, h1, h2, h3⟩ := this
      exact ⟨b, mm, cl, h1, sh.keep _ _ h2 (by intro ds e; cases e) (by intro ds e; cases e), h3⟩
  inj := fun i j b h1 h2 => by rw [hO]; exact hs.inj i j b h1 h2
  own := fun b hb => by
    have hb' : Own E h b := by
      obtain ⟨i, hi, he⟩ := hb
      exact ⟨i, hi, by rw [← hO]; exact he⟩
    exact ⟨by rw [sh.size]; exact (hs.own b hb').1, own b hb'⟩
  mlt := fun b hb => by rw [sh.size]; exact m b hb
  nlt := fun b hb => by rw [sh.size]; exact n b hb

theorem Rep.refit {E E' : Env} {h : AHeap} {w w' : World} {base : Nat} (sh : Shut base w w') (hO : E'.O = E.O) (hC : E'.C = E.C) (hX : ∀ b, b < w.heap.size → Xs E' h b → Xs E h b) {a : AV} {v : Value} (hr : Rep w E h a v) : Rep w' E' h a v :=
  Rep.stepc (hX_of hX) sh.hK a v (fun j _ => by unfold GoesOn; split <;> simp_all) hr
theorem Reps.refit {E E' : Env} {h : AHeap} {w w' : World} {base : Nat} (sh : Shut base w w') (hO : E'.O = E.O) (hC : E'.C = E.C) (hX : ∀ b, b < w.heap.size → Xs E' h b → Xs E h b) {a : List AV} {v : List Value} (hr : Reps w E h a v) : Reps w' E' h a v :=
  Reps.stepc (hX_of hX) sh.hK a v (fun j _ => by unfold GoesOn; split <;> simp_all) hr

def resOne (tmps : Array Value) : ResultVar → Sem Value
  | .tmp t => pure (tmps.getD t undef)
  | .cell a t => asAddr (tmps.getD a undef) >>= fun p => loadVar t p

def oneV : List Value → Value
  | [v] => v
  | vs => .tuple vs.toArray

theorem results_eq (fn : Func) (tmps : Array Value) : results fn tmps = (do let vs ← fn.results.mapM (resOne tmps); pure (if h : vs.size = 1 then vs[0] else .tuple vs)) := by
  unfold results
  congr 1

theorem run_results {fn : Func} {tmps : Array Value} {vs : List Value} {w : World} (h : (fn.results.toList.mapM (resOne tmps)).run P w = .ok vs w) : (results fn tmps).run P w = .ok (oneV vs) w := by
  rw [results_eq, Array.mapM_eq_mapM_toList]
  simp only [Sem.run_bind, Sem.run_map, h, Result.andThen_ok, Sem.run_pure]
  match vs with
  | [] => rfl
  | [v] => rfl
  | v :: u :: r => rfl

theorem ares_ok {E : Env} {s : AS} {a : Act} {w : World} (hp : SatH E s.h w) (hs : Slots w E s a) : ∀ (l : List ResultVar), (ares P s l).1 → ∃ vs, (l.mapM (resOne a.tmps)).run P w = .ok vs w ∧ Reps w E s.h (ares P s l).2 vs
  | [], _ => ⟨[], by simp, by simp [ares, Reps]⟩
  | .tmp t :: l, h => by
    simp only [ares] at h ⊢
    obtain ⟨vs, h1, h2⟩ := ares_ok hp hs l h.2
    have := ev_ok hs (.tmp t) h.1
    simp only [Act.eval] at this
    refine ⟨a.tmps.getD t undef :: vs, ?_, by simp only [Reps]; exact ⟨_, _, rfl, this, h2⟩⟩
    simp only [List.mapM_cons, resOne, Sem.run_bind, Sem.run_pure, Result.andThen_ok, h1]
  | .cell x t :: l, h => by
    simp only [ares] at h ⊢
    obtain ⟨vs, h1, h2⟩ := ares_ok hp hs l h.2.2
    have hx := ev_ok hs (.tmp x) h.1
    obtain ⟨v, h3, h4⟩ := avLoad_ok (P := P) hp h.2.1 hx
    refine ⟨v :: vs, ?_, by simp only [Reps]; exact ⟨_, _, rfl, h4, h2⟩⟩
    have h5 : (resOne a.tmps (.cell x t)).run P w = .ok v w := by
      simp only [Act.eval] at h3
      revert h3
      unfold Instr.loadAt Instr.sureAddr resOne asAddr
      simp only [Sem.run_bind]
      cases a.tmps.getD x undef with
      | pointer p =>
        cases p with
        | none => intro h3; simp at h3
        | some p => intro h3; simpa using h3
      | _ => intro h3; simp at h3
    simp only [List.mapM_cons, Sem.run_bind, h5, Result.andThen_ok, h1, Sem.run_pure]

theorem one_rep {E : Env} {h : AHeap} {w : World} {as : List AV} {vs : List Value} (hr : Reps w E h as vs) : Rep w E h (one as) (oneV vs) := by
  match as, vs, hr with
  | [], vs, hr => simp only [Reps] at hr; subst hr; simp [one, oneV, Rep, Reps]
  | [a], vs, hr =>
    simp only [Reps] at hr
    obtain ⟨v, r, rfl, h1, rfl⟩ := hr
    simpa [one, oneV] using h1
  | a :: b :: as, vs, hr =>
    have hr' := hr
    simp only [Reps] at hr
    obtain ⟨v, r, rfl, h1, u, r', rfl, h2, h3⟩ := hr
    simp only [one, oneV, Rep]
    exact ⟨_, rfl, by simpa using hr'⟩

theorem enters {f : FuncId} {fn : Func} (hf : P.funcs[f]? = some fn) (hn : (fn.name == "runtime.NumGoroutine") = false) (hb : fn.body.isNone = false) : Enters P f := by
  intro args w
  simp only [callFunc, Sem.run_bind, run_program, Result.andThen_ok, hf, hn, hb, Bool.false_eq_true, if_false, Sem.run_pure]

/-- **A FUNCTION's CONTRACT, OUT OF ITS BODY's WALK.** -/
theorem acall_of_body {f : FuncId} {fn : Func} {c : Code} {nt fl : Nat} {args : List AV} {h : AHeap} {K : AV → AHeap → Prop} (hf : P.funcs[f]? = some fn) (hb : fn.body = some c) (hen : Enters P f) (hnt : fn.ntmps = nt) (hn : args.length ≤ nt)
    (haw : ∀ base, AW (cxOf P base nt fl) c (RetK P fn K) { t := slotsFrom 0 args, h := h, g := some [] }) : ACall P f fl args h K := by
  refine ⟨hen, fun E w vs hs hr => (callsIn_wide (n := 0)).1 (callsIn_of_wp_marks hf hb trivial ?_ rfl)⟩
  subst hnt
  have hlen := Reps.length hr
  -- the callee's own view: what is foreign is not to be touched at all
  let E1 : Env := { O := E.O, C := E.C, M := fun _ => False, N := fun b => E.M b ∨ E.N b }
  have hX1 : ∀ b, b < w.heap.size → Xs E1 h b → Xs E h b := fun b _ hx => by
    rcases hx with hx | hx | hx
    · exact .inl hx
    · exact hx.elim
    · exact .inr hx
  have hs1 : SatH E1 h w := hs.refit (Shut.refl 0 w) rfl rfl hX1 (fun b hb => ⟨fun h => h, fun hn => hn.elim (hs.own b hb).2.1 (hs.own b hb).2.2⟩) (fun _ h => h.elim) (fun b hn => hn.elim (hs.mlt b) (hs.nlt b))
  have hr1 : Reps w E1 h args vs.toList := Reps.refit (E := E) (E' := E1) (Shut.refl 0 w) rfl rfl hX1 hr
  have hsat : Sat (cxOf P w.heap.size fn.ntmps fl) E1 { t := slotsFrom 0 args, h := h, g := some [] } { tmps := vs ++ Array.replicate (fn.ntmps - vs.size) undef, defers := [] } w := by
    refine ⟨fun k g v hk => ?_, ?_, hs1, Nat.le_refl _, ⟨by simp, by simp⟩, trivial⟩
    · obtain ⟨rfl, _, hv⟩ := slotsFrom_lk args 0 k hk
      obtain ⟨x, hx, hrx⟩ := Reps.get hr1 hv
      have hx' : vs[k]? = some x := by simpa using hx
      have hk' := (Array.getElem?_eq_some_iff.1 hx').1
      exact ⟨x, by rw [Array.getElem?_append_left hk']; exact hx', fun _ => hrx, fun e => by cases e⟩
    · have : vs.size = args.length := by simpa using hlen
      simp [cxOf]; omega
  refine wpIn_mono (haw w.heap.size E1 _ w hsat) ?_
  intro e a2 w2 hr2
  have key : Reach (cxOf P w.heap.size fn.ntmps fl) E1 h w (fun s => (ares P s fn.results.toList).1 ∧ K (one (ares P s fn.results.toList).2) s.h) a2 w2 → LeavesInM Fence.wide 0 P fn a2.tmps (fun e w' => ∃ v E' r h', e = .returned v ∧ K r h' ∧ SatH E' h' w' ∧ Rep w' E' h' r v ∧ EvoC fl E h w E' h' w') a2.defers .returning w2 := by
    rintro ⟨E2, s2, ⟨hares, hK⟩, hs2, he2⟩
    refine leaves_marks a2.defers w2 hs2.marks (fun w3 sh _ => ?_)
    have hp3 : SatH E2 s2.h w3 := hs2.hp.refit sh rfl rfl (fun _ _ h => h) (fun b hb => (hs2.hp.own b hb).2) hs2.hp.mlt hs2.hp.nlt
    have hsl3 : Slots w3 E2 s2 a2 := fun k g v hk => by
      obtain ⟨x, h1, h2, h3⟩ := hs2.slots k g v hk
      exact ⟨x, h1, fun e => Rep.refit sh rfl rfl (fun _ _ h => h) (h2 e), h3⟩
    obtain ⟨us, hu1, hu2⟩ := ares_ok (P := P) hp3 hsl3 fn.results.toList hares
    refine ⟨_, run_results hu1, ?_⟩
    have hM2 : ∀ b, E2.M b → w.heap.size ≤ b := fun b hb => (he2.m2 b hb).elim (fun h => h.elim) id
    have hN2 : E2.N = fun b => E.M b ∨ E.N b := he2.n
    let E3 : Env := { O := E2.O, C := E2.C, M := E.M, N := E.N }
    have hX3 : ∀ b, b < w3.heap.size → Xs E3 s2.h b → Xs E2 s2.h b := fun b _ hx => by
      rcases hx with hx | hx | hx
      · exact .inl hx
      · exact .inr (.inr (by rw [hN2]; exact .inl hx))
      · exact .inr (.inr (by rw [hN2]; exact .inr hx))
    have hsz : w.heap.size ≤ w3.heap.size := by rw [sh.size]; exact he2.size
    refine ⟨_, E3, _, s2.h, rfl, hK, ?_, Rep.refit (E := E2) (E' := E3) (Shut.refl 0 w3) rfl rfl hX3 (one_rep hu2), ?_⟩
    · refine hp3.refit (E' := E3) (Shut.refl 0 w3) rfl rfl hX3 (fun b hb => ?_) (fun b hb => Nat.lt_of_lt_of_le (hs.mlt b hb) hsz) (fun b hb => Nat.lt_of_lt_of_le (hs.nlt b hb) hsz)
      have := (hp3.own b hb).2.2
      rw [hN2] at this
      exact ⟨fun h => this (.inl h), fun h => this (.inr h)⟩
    · refine ⟨sh.os.trans he2.os, sh.tape.trans he2.tape, sh.output.trans he2.output, hsz, fun b hb ho => (sh.low b hb).trans (he2.keep b hb ho (fun h => h)), he2.own, rfl, rfl, ?_⟩
      intro i hi hl
      obtain ⟨g1, g2⟩ := he2.go i hi hl
      exact ⟨g1, g2⟩
  cases e with
  | normal => exact key hr2
  | ret => exact key hr2
  | exit id => obtain ⟨_, _, h, _⟩ := hr2; exact h.elim
  | goto id => obtain ⟨_, _, h, _⟩ := hr2; exact h.elim
  | panic c => obtain ⟨_, _, h, _⟩ := hr2; exact h.elim
  | outgrown => obtain ⟨_, _, h, _⟩ := hr2; exact h.elim

/-- **A pure function, wherever it is called.** -/
theorem Pure.at {f : FuncId} {args : List AV} {r : AV} (hp : Pure P f args r) {fl : Nat} {h : AHeap} {K : AV → AHeap → Prop} (hk : K r h) : ACallAt P fl f args h K := by
  obtain ⟨⟨hen, hc⟩, ha, hrid⟩ := hp
  refine ⟨hen, fun E w vs hs hr => ?_⟩
  let E0 : Env := { O := fun _ => none, C := fun _ => 0, M := fun _ => False, N := Xs E h }
  have hs0 : SatH E0 [] w := ⟨fun i o ho => by simp [hget] at ho, fun i j b h1 => by simp [hget] at h1, fun b ⟨i, hi, _⟩ => by simp [hget] at hi, fun _ h => h.elim, fun b hb => by
    rcases hb with hb | hb | hb
    · exact (hs.own b hb).1
    · exact hs.mlt b hb
    · exact hs.nlt b hb⟩
  have hX0 : ∀ b, b < w.heap.size → Xs E0 [] b → Xs E h b := fun b _ hx => by
    rcases hx with ⟨i, hi, _⟩ | hx | hx
    · simp [hget] at hi
    · exact hx.elim
    · exact hx
  have hr0 : Reps w E0 [] args vs.toList := Reps.step hX0 (fun _ _ _ => rfl) _ _ (by rw [ha]; simp) hr
  refine (hc E0 w vs hs0 hr0).mono ?_
  rintro e w' ⟨v, E', r', h', rfl, rfl, hs', hr', hev⟩
  have hkeep : ∀ b, b < w.heap.size → w'.heap[b]? = w.heap[b]? := fun b hb => hev.keep b hb (fun ⟨i, hi, _⟩ => by simp [hget] at hi)
  have hrep : ∀ x y, Rep w E h x y → Rep w' E h x y := fun x y hxy => Rep.step (fun _ _ hx => hx) (fun b hb _ => hkeep b hb) x y (fun j _ => GoesOn.refl E h j) hxy
  refine ⟨v, E, _, h, rfl, hk, ?_, ?_, ⟨hev.os, hev.tape, hev.output, hev.size, fun b hb _ => hkeep b hb, fun b hb => .inl hb, rfl, rfl, fun i _ hi => ⟨hi, GoesOn.refl E h i⟩⟩, hrep⟩
  · refine ⟨fun i o ho => ?_, hs.inj, fun b hb => ⟨Nat.lt_of_lt_of_le (hs.own b hb).1 hev.size, (hs.own b hb).2⟩, fun b hb => Nat.lt_of_lt_of_le (hs.mlt b hb) hev.size, fun b hb => Nat.lt_of_lt_of_le (hs.nlt b hb) hev.size⟩
    have := hs.heap i o ho
    have hlt : ∀ b, E.O i = some b → b < w.heap.size := fun b hb => (hs.own b ⟨i, by simp [ho], hb⟩).1
    cases o with
    | var cs =>
      simp only [RepObj] at this ⊢
      obtain ⟨b, d, T, fz, h1, h2, h3, h4⟩ := this
      exact ⟨b, d, T, fz, h1, (hkeep b (hlt b h1)).trans h2, Reps.step (fun _ _ hx => hx) (fun b hb _ => hkeep b hb) _ _ (fun j _ => GoesOn.refl E h j) h3, h4⟩
    | tvar tt cs =>
      simp only [RepObj] at this ⊢
      obtain ⟨b, d, T, fz, h1, h2, h3, h4⟩ := this
      exact ⟨b, d, T, fz, h1, (hkeep b (hlt b h1)).trans h2, Reps.step (fun _ _ hx => hx) (fun b hb _ => hkeep b hb) _ _ (fun j _ => GoesOn.refl E h j) h3, h4⟩
    | arr k xs =>
      simp only [RepObj] at this ⊢
      rcases this with h0 | ⟨b, d, T, fz, h1, h2, h3, h4, h5, h6⟩
      · exact .inl h0
      · exact .inr ⟨b, d, T, fz, h1, (hkeep b (hlt b h1)).trans h2, h3, h4, RepRows.step (fun _ _ hx => hx) (fun b hb _ => hkeep b hb) _ _ _ h5, h6⟩
    | buf tt xs =>
      simp only [RepObj] at this ⊢
      rcases this with h0 | ⟨b, d, T, fz, h1, h2, h3, h4, h5, h6⟩
      · exact .inl h0
      · exact .inr ⟨b, d, T, fz, h1, (hkeep b (hlt b h1)).trans h2, h3, h4, h5, h6⟩
    | strit l p =>
      simp only [RepObj] at this ⊢
      obtain ⟨b, h1, h2⟩ := this
      exact ⟨b, h1, (hkeep b (hlt b h1)).trans h2⟩
    | omap es =>
      simp only [RepObj] at this ⊢
      obtain ⟨b, mm, cl, h1, h2, h3⟩ := this
      exact ⟨b, mm, cl, h1, (hkeep b (hlt b h1)).trans h2, h3⟩
  · -- the result leans on nothing of the caller's own
    refine Rep.step (E := E') (h := h') (fun b _ hx => ?_) (fun _ _ _ => rfl) _ v (by rw [hrid]; simp) hr'
    exact .inr (.inr (by rw [hev.n]; exact hx))

theorem ACall.mono {f : FuncId} {fl : Nat} {args : List AV} {h : AHeap} {K K' : AV → AHeap → Prop} (hc : ACall P f fl args h K) (hk : ∀ r h, K r h → K' r h) : ACall P f fl args h K' :=
  ⟨hc.1, fun E w vs hs hr => (hc.2 E w vs hs hr).mono fun e w' ⟨v, E', r, h', h1, h2, h3⟩ => ⟨v, E', r, h', h1, hk _ _ h2, h3⟩⟩

end
end Go.Aw
