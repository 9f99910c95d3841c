/-
  Regions that draw their order: the order of the text serves every order, where what must not be swapped is bound.
-/
import Derived.Test.YtioccpkcnnkpjaaGreatAwTab
import Derived.OrdersIn
namespace Go.Aw
set_option maxRecDepth 100000
set_option linter.unusedSimpArgs false
set_option linter.unusedVariables false
open Go

def opndsOf : Op → List Operand
  | .move x => [x]
  | .assign x => [x]
  | .pick c a b => [c, a, b]
  | .binOp _ _ x y _ => [x, y]
  | .unOp _ _ x => [x]
  | .convert _ _ x => [x]
  | .makeInterface _ x => [x]
  | .makeFunc _ fs cs => (fs ++ cs).toList
  | .field _ x _ => [x]
  | .fieldAddr _ x _ => [x]
  | .indexAddr _ x y => [x, y]
  | .index _ x y => [x, y]
  | .slice _ x lo hi mx => x :: (lo.toList ++ hi.toList ++ mx.toList)
  | .load _ x => [x]
  | .nilCheck x => [x]
  | .range _ x => [x]
  | .next x _ => [x]
  | .extract x _ => [x]
  | .call c => (match c.callee with | .value f => [f] | _ => []) ++ c.args.toList
  | .box _ x => [x]
  | .build _ parts => parts.toList.map (·.2)
  | .buildSlice _ _ parts => parts.toList.map (·.2)
  | .store _ x y => [x, y]
  | .makeSlice _ x y => [x, y]
  | .lookup _ x y _ => [x, y]
  | .mapUpdate _ x y z => [x, y, z]
  | _ => []

def detOp (P : Program) : Op → Bool
  | .binOp _ _ _ _ _ => false
  | .lookup _ _ _ _ => false
  | .makeMap _ _ => false
  | .range _ _ => false
  | .next _ _ => false
  | .convert _ d _ => (match (ty P d).td with | .slice _ => false | _ => true)
  | _ => true

def isEff : Op → Bool
  | .alloc _ => true
  | .makeSlice _ _ _ => true
  | .call c => (match c.callee with | .builtin .append => true | .builtin .copy => true | .builtin .clear => true | _ => false)
  | .box _ _ => true
  | .buildSlice _ _ _ => true
  | .store _ _ _ => true
  | .mapUpdate _ _ _ _ => true
  | _ => false

def heapOp : Op → Bool
  | .move _ => false
  | .assign _ => false
  | .pick _ _ _ => false
  | .binOp _ _ _ _ _ => false
  | _ => true

/-- What an operation comes to. -/
def fop (cx : Cx) (tab : Tab) (s : AS) (G : Bool) (o : Oper) (R : Bool → AV → AHeap → Prop) : Prop :=
  match o.op with
  | .move x => known s x = true ∧ R (G && (s.ev x).1) ((s.ev x).2.tag cx.P o.type) s.h
  | .assign x => known s x = true ∧ R (G && (s.ev x).1) ((s.ev x).2.tag cx.P o.type) s.h
  | .pick c a b => (match s.ev c with
    | (gc, .d (.bool c)) => (G = true → gc = true ∧ (c = true → (s.ev a).1 = true ∧ (s.ev a).2.isB = true) ∧ (c = false → (s.ev b).1 = true ∧ (s.ev b).2.isB = true)) ∧ R G (.d (.bool (bif c then (s.ev a).2.toB else (s.ev b).2.toB))) s.h
    | _ => False)
  | .call c => if isVal cx.P (.call c) then (G = true → (aval cx.P s (.call c)).1) ∧ R G (aval cx.P s (.call c)).2 s.h else
    (match callOf cx.P s c with
    | some (f, args, vc) => (match tab f (args.map (frz 9 s.h)) with
      | some (pre, r) => (G = true → vc ∧ pre ∧ (r.scal = true ∨ AV.idsL args = [])) ∧ R G r s.h
      | none => False)
    | none => G = true ∧ aeff cx.fl cx.P s (.call c) (fun r h' => R true r h'))
  | op => if isVal cx.P op then (G = true → (aval cx.P s op).1) ∧ R G (aval cx.P s op).2 s.h else G = true ∧ detOp cx.P op = true ∧ aeff cx.fl cx.P s op (fun r h' => R true r h')

def fops (cx : Cx) (tab : Tab) (all : Array Oper) : List Oper → (AS → Prop) → AS → Prop
  | [], K, s => K s
  | o :: r, K, s => match guardOf s all o.guard with
    | some G => dstOk cx.nt o.dst ∧ fop cx tab s G o (fun g v h' => fops cx tab all r K ({ s with h := h' }.put o.dst g v))
    | none => False

section
variable {cx : Cx} {tab : Tab} {P : Program} {s s' : AS}

theorem aextra_fun {fl : Nat} {op : Op} {K : AV → AHeap → Prop} (hdet : detOp P op = true) (h : aextra fl P s op K) : ∃ r h', K r h' ∧ (∀ K', K' r h' → aextra fl P s op K') ∧ (isEff op = false → h' = s.h) := by
  unfold aextra at h
  split at h
  · rename_i src dt x
    split at h
    · rename_i e hs hd
      split at h
      · rename_i g l hx
        exact ⟨_, _, h.2.2, fun K' hk => by unfold aextra; dsimp only; rw [hs, hd]; dsimp only; rw [hx]; exact ⟨h.1, h.2.1, hk⟩, fun e => by simp [detOp, hd] at hdet⟩
      · exact h.elim
    · rename_i e hs hd
      split at h
      · rename_i rows hr
        exact ⟨_, _, h.2.2.2, fun K' hk => by unfold aextra; dsimp only; rw [hs, hd]; dsimp only; rw [hr]; exact ⟨h.1, h.2.1, h.2.2.1, hk⟩, fun _ => rfl⟩
      · exact h.elim
    · exact h.elim
  · cases hdet
  · rename_i t l c
    split at h
    · rename_i e gl n gc m ht hl hc
      obtain ⟨h1, h2, h3, h4, h5, h6, h7, h8, h9, h⟩ := h
      split at h
      · rename_i z hz
        exact ⟨_, _, h, fun K' hk => by unfold aextra; dsimp only; rw [ht, hl, hc]; dsimp only; rw [hz]; exact ⟨h1, h2, h3, h4, h5, h6, h7, h8, h9, hk⟩, fun e => by cases e⟩
      · exact h.elim
    · exact h.elim
  · cases hdet
  · cases hdet
  · cases hdet
  · rename_i t m k v
    split at h
    · rename_i kt et gm i gk kd gv vd ht hm hk hv
      obtain ⟨h1, h2, h3, h4, h⟩ := h
      split at h
      · rename_i es hes
        exact ⟨_, _, h.2.2, fun K' hk' => by unfold aextra; dsimp only; rw [ht, hm, hk, hv]; dsimp only; refine ⟨h1, h2, h3, h4, ?_⟩; rw [hes]; exact ⟨h.1, h.2.1, hk'⟩, fun e => by cases e⟩
      · exact h.elim
    · exact h.elim
  · rename_i c
    split at h
    · rename_i hcal
      split at h
      · rename_i x y t u ha ht
        split at h
        · rename_i e hte
          obtain ⟨h1, h2, h3, h4, h5, h⟩ := h
          split at h
          · rename_i rows hr
            split at h
            · rename_i k hx
              exact ⟨_, _, h.2.2, fun K' hk => by unfold aextra; dsimp only; rw [hcal]; dsimp only; rw [ha, ht]; dsimp only; rw [hte]; refine ⟨h1, h2, h3, h4, h5, ?_⟩; rw [hr]; dsimp only; rw [hx]; exact ⟨h.1, h.2.1, hk⟩, fun e => by simp [isEff, hcal] at e⟩
            · rename_i i k m off len hx
              split at h
              · rename_i k' xs hi
                obtain ⟨g1, g2, g3, g4, g5, g6, g7, h⟩ := h
                exact ⟨_, _, h, fun K' hk => by unfold aextra; dsimp only; rw [hcal]; dsimp only; rw [ha, ht]; dsimp only; rw [hte]; refine ⟨h1, h2, h3, h4, h5, ?_⟩; rw [hr]; dsimp only; rw [hx]; dsimp only; rw [hi]; exact ⟨g1, g2, g3, g4, g5, g6, g7, hk⟩, fun e => by simp [isEff, hcal] at e⟩
              · exact h.elim
            · exact h.elim
          · exact h.elim
        · exact h.elim
      · exact h.elim
    · rename_i hcal
      split at h
      · rename_i x y t u ha ht
        split at h
        · rename_i e hte
          obtain ⟨h1, h2, h3, h4, h⟩ := h
          split at h
          · rename_i rows hr
            split at h
            · rename_i i k m off len hx
              split at h
              · rename_i k' xs hi
                obtain ⟨g1, g2, g3, g4, g5, h⟩ := h
                exact ⟨_, _, h, fun K' hk => by unfold aextra; dsimp only; rw [hcal]; dsimp only; rw [ha, ht]; dsimp only; rw [hte]; refine ⟨h1, h2, h3, h4, ?_⟩; rw [hr]; dsimp only; rw [hx]; dsimp only; rw [hi]; exact ⟨g1, g2, g3, g4, g5, hk⟩, fun e => by simp [isEff, hcal] at e⟩
              · exact h.elim
            · exact h.elim
          · exact h.elim
        · exact h.elim
      · exact h.elim
    · rename_i hcal
      split at h
      · rename_i x t ha ht
        split at h
        · rename_i e hte
          obtain ⟨h1, h2, h3, h4, h⟩ := h
          split at h
          · rename_i z hz
            split at h
            · rename_i i k m off len hx
              split at h
              · rename_i k' xs hi
                obtain ⟨g1, g2, g3, g4, h⟩ := h
                exact ⟨_, _, h, fun K' hk => by unfold aextra; dsimp only; rw [hcal]; dsimp only; rw [ha, ht]; dsimp only; rw [hte]; refine ⟨h1, h2, h3, h4, ?_⟩; rw [hz]; dsimp only; rw [hx]; dsimp only; rw [hi]; exact ⟨g1, g2, g3, g4, hk⟩, fun e => by simp [isEff, hcal] at e⟩
              · exact h.elim
            · exact h.elim
          · exact h.elim
        · exact h.elim
      · exact h.elim
    · exact h.elim
  · exact h.elim

theorem aeff_fun {fl : Nat} {op : Op} {K : AV → AHeap → Prop} (hdet : detOp P op = true) (h : aeff fl P s op K) : ∃ r h', K r h' ∧ (∀ K', K' r h' → aeff fl P s op K') ∧ (isEff op = false → h' = s.h) := by
  unfold aeff at h
  split at h
  · exact ⟨_, _, h.2, fun K' hk => by unfold aeff; exact ⟨h.1, hk⟩, fun e => by cases e⟩
  · exact ⟨_, _, h.2.2, fun K' hk => by unfold aeff; exact ⟨h.1, h.2.1, hk⟩, fun e => by cases e⟩
  · rename_i t parts
    obtain ⟨h1, h2, h3⟩ := h
    split at h3
    · rename_i fs hf
      exact ⟨_, _, h3.2.2, fun K' hk => by unfold aeff; dsimp only; rw [hf]; exact ⟨h1, h2, h3.1, h3.2.1, hk⟩, fun _ => rfl⟩
    · rename_i n e hf
      exact ⟨_, _, h3.2.2, fun K' hk => by unfold aeff; dsimp only; rw [hf]; exact ⟨h1, h2, h3.1, h3.2.1, hk⟩, fun _ => rfl⟩
    · exact h3.elim
  · rename_i t len parts
    split at h
    · rename_i e hf
      obtain ⟨h1, h2, h3, h4, h5, h6, h7⟩ := h
      split at h7
      · rename_i ds hds
        exact ⟨_, _, h7, fun K' hk => by unfold aeff; dsimp only; rw [hf]; refine ⟨h1, h2, h3, h4, h5, h6, ?_⟩; rw [hds]; exact hk, fun e => by cases e⟩
      · rename_i hds
        exact ⟨_, _, h7.2, fun K' hk => by unfold aeff; dsimp only; rw [hf]; refine ⟨h1, h2, h3, h4, h5, h6, ?_⟩; rw [hds]; exact ⟨h7.1, hk⟩, fun e => by cases e⟩
    · exact h.elim
  · rename_i t x y
    obtain ⟨h1, h2, h3, h4, h5, h6⟩ := h
    split at h6
    · rename_i i o hx
      split at h6
      · rename_i cs hi
        exact ⟨_, _, h6.2, fun K' hk => by unfold aeff; dsimp only; refine ⟨h1, h2, h3, h4, h5, ?_⟩; rw [hx]; dsimp only; rw [hi]; exact ⟨h6.1, hk⟩, fun e => by cases e⟩
      · exact h6.elim
    · rename_i i o hx
      split at h6
      · rename_i tt cs hi
        exact ⟨_, _, h6.2, fun K' hk => by unfold aeff; dsimp only; refine ⟨h1, h2, h3, h4, h5, ?_⟩; rw [hx]; dsimp only; rw [hi]; exact ⟨h6.1, hk⟩, fun e => by cases e⟩
      · exact h6.elim
    · rename_i i n k r o hx
      split at h6
      · rename_i k' xs hi
        obtain ⟨g1, g2, g3, g4, g5⟩ := h6
        split at g5
        · rename_i ds hds
          exact ⟨_, _, g5, fun K' hk => by unfold aeff; dsimp only; refine ⟨h1, h2, h3, h4, h5, ?_⟩; rw [hx]; dsimp only; rw [hi]; refine ⟨g1, g2, g3, g4, ?_⟩; rw [hds]; exact hk, fun e => by cases e⟩
        · exact g5.elim
      · exact h6.elim
    · exact h6.elim
  · rename_i op n1 n2 n3 n4 n5
    obtain ⟨r, h', q1, q2, q3⟩ := aextra_fun hdet h
    refine ⟨r, h', q1, fun K' hk => ?_, q3⟩
    have := q2 K' hk
    unfold aeff
    split
    · rename_i t; exact (n1 t rfl).elim
    · rename_i t x; exact (n2 t x rfl).elim
    · rename_i t x; exact (n3 t x rfl).elim
    · rename_i t x y; exact (n4 t x y rfl).elim
    · rename_i t x y; exact (n5 t x y rfl).elim
    · exact this

theorem fop_other {G : Bool} {o : Oper} {R : Bool → AV → AHeap → Prop} (n1 : ∀ x, o.op = .move x → False) (n2 : ∀ x, o.op = .assign x → False) (n3 : ∀ x y z, o.op = .pick x y z → False) (n4 : ∀ c, o.op = .call c → False) :
    fop cx tab s G o R ↔ (if isVal cx.P o.op = true then (G = true → (aval cx.P s o.op).1) ∧ R G (aval cx.P s o.op).2 s.h else G = true ∧ detOp cx.P o.op = true ∧ aeff cx.fl cx.P s o.op (fun r h' => R true r h')) := by
  unfold fop
  split
  · rename_i x ho; exact (n1 x ho).elim
  · rename_i x ho; exact (n2 x ho).elim
  · rename_i x y z ho; exact (n3 x y z ho).elim
  · rename_i x ho; exact (n4 x ho).elim
  · exact Iff.rfl

theorem fop_fun {G : Bool} {o : Oper} {R : Bool → AV → AHeap → Prop} (h : fop cx tab s G o R) : ∃ g v h', R g v h' ∧ (∀ R' : Bool → AV → AHeap → Prop, R' g v h' → fop cx tab s G o R') ∧ (isEff o.op = false → h' = s.h) := by
  unfold fop at h
  split at h
  · rename_i x ho
    exact ⟨_, _, _, h.2, fun R' hk => by unfold fop; rw [ho]; exact ⟨h.1, hk⟩, fun _ => rfl⟩
  · rename_i x ho
    exact ⟨_, _, _, h.2, fun R' hk => by unfold fop; rw [ho]; exact ⟨h.1, hk⟩, fun _ => rfl⟩
  · rename_i c a b ho
    split at h
    · rename_i g1 c1 h1
      exact ⟨_, _, _, h.2, fun R' hk => by unfold fop; rw [ho]; dsimp only; rw [h1]; exact ⟨h.1, hk⟩, fun _ => rfl⟩
    · exact h.elim
  · rename_i c ho
    split at h
    · rename_i hv
      exact ⟨_, _, _, h.2, fun R' hk => by unfold fop; rw [ho]; dsimp only; rw [if_pos hv]; exact ⟨h.1, hk⟩, fun _ => rfl⟩
    · rename_i hv
      split at h
      · rename_i f args vc hc
        split at h
        · rename_i pre r ht
          exact ⟨_, _, _, h.2, fun R' hk => by unfold fop; rw [ho]; dsimp only; rw [if_neg hv, hc]; dsimp only; rw [ht]; exact ⟨h.1, hk⟩, fun _ => rfl⟩
        · exact h.elim
      · rename_i hc
        obtain ⟨rfl, h⟩ := h
        obtain ⟨r, h', q1, q2, q3⟩ := aeff_fun rfl h
        exact ⟨true, r, h', q1, fun R' hk => by unfold fop; rw [ho]; dsimp only; rw [if_neg hv, hc]; exact ⟨rfl, q2 _ hk⟩, by rw [ho]; exact q3⟩
  · rename_i n1 n2 n3 n4
    split at h
    · rename_i hv
      refine ⟨_, _, _, h.2, fun R' hk => ?_, fun _ => rfl⟩
      unfold fop
      split
      · rename_i x ho; exact (n1 x ho).elim
      · rename_i x ho; exact (n2 x ho).elim
      · rename_i x y z ho; exact (n3 x y z ho).elim
      · rename_i x ho; exact (n4 x ho).elim
      · rw [if_pos hv]; exact ⟨h.1, hk⟩
    · rename_i hv
      obtain ⟨rfl, hdt, h⟩ := h
      obtain ⟨r, h', q1, q2, q3⟩ := aeff_fun hdt h
      refine ⟨true, r, h', q1, fun R' hk => ?_, q3⟩
      unfold fop
      split
      · rename_i x ho; exact (n1 x ho).elim
      · rename_i x ho; exact (n2 x ho).elim
      · rename_i x y z ho; exact (n3 x y z ho).elim
      · rename_i x ho; exact (n4 x ho).elim
      · rw [if_neg hv]; exact ⟨rfl, hdt, q2 _ hk⟩

theorem fop_aopT {G : Bool} {o : Oper} {K : AS → Prop} (hd : dstOk cx.nt o.dst) (h : fop cx tab s G o (fun g v h' => K ({ s with h := h' }.put o.dst g v))) : aopT cx tab G o K s := by
  unfold fop at h
  split at h
  · rename_i x ho
    unfold aopT; rw [ho]; dsimp only; rw [if_pos (show isQuiet cx.P _ = true from rfl)]; unfold aop; rw [ho]; exact ⟨hd, h⟩
  · rename_i x ho
    unfold aopT; rw [ho]; dsimp only; rw [if_pos (show isQuiet cx.P _ = true from rfl)]; unfold aop; rw [ho]; exact ⟨hd, h⟩
  · rename_i c a b ho
    unfold aopT; rw [ho]; dsimp only; rw [if_pos (show isQuiet cx.P _ = true from rfl)]; unfold aop; rw [ho]
    refine ⟨hd, ?_⟩
    dsimp only
    split at h
    · rename_i g1 c1 h1
      rw [h1]; exact h
    · exact h.elim
  · rename_i c ho
    unfold aopT; rw [ho]; dsimp only
    split at h
    · rename_i hv
      rw [if_pos hv]; unfold aop; rw [ho]; dsimp only; rw [if_pos hv]; exact ⟨hd, h⟩
    · rename_i hv
      rw [if_neg hv]
      split at h
      · rename_i f args vc hc
        rw [hc]
        dsimp only
        split at h
        · rename_i pre r ht
          rw [ht]; exact ⟨hd, h⟩
        · exact h.elim
      · rename_i hc
        rw [hc]
        obtain ⟨rfl, h⟩ := h
        refine ⟨hd, ?_⟩
        rw [if_pos rfl]
        unfold aop1
        rw [ho]; dsimp only
        rw [if_neg hv, hc]
        exact h
  · rename_i n1 n2 n3 n4
    have hq : isQuiet cx.P o.op = isVal cx.P o.op := by
      unfold isQuiet
      split
      · rename_i x ho; exact (n1 x ho).elim
      · rename_i x ho; exact (n2 x ho).elim
      · rename_i x y z ho; exact (n3 x y z ho).elim
      · rfl
    have e1 : aopT cx tab G o K s = if isQuiet cx.P o.op then aop cx G o K s else aopS cx G o K s := by
      unfold aopT
      split
      · rename_i x ho; exact (n4 x ho).elim
      · rfl
    rw [e1, hq]
    split at h
    · rename_i hv
      rw [if_pos hv]
      refine ⟨hd, ?_⟩
      split
      · rename_i x ho; exact (n1 x ho).elim
      · rename_i x ho; exact (n2 x ho).elim
      · rename_i x y z ho; exact (n3 x y z ho).elim
      · rw [if_pos hv]; exact h
    · rename_i hv
      rw [if_neg hv]
      obtain ⟨rfl, -, h⟩ := h
      refine ⟨hd, ?_⟩
      rw [if_pos rfl]
      unfold aop1
      split
      · rename_i x ho; exact (n1 x ho).elim
      · rename_i x ho; exact (n2 x ho).elim
      · rename_i x y z ho; exact (n3 x y z ho).elim
      · rename_i x ho; exact (n4 x ho).elim
      · rw [if_neg hv]; exact h

/-! ### What an operation hangs on -/
theorem esOf_h {i : Nat} (hh : s.h = s'.h) : s.esOf i = s'.esOf i := by unfold AS.esOf; rw [hh]
theorem avLookup_h {t : TypeId} {x y : AV} {ok : Bool} (hh : s.h = s'.h) : avLookup P s t x y ok = avLookup P s' t x y ok := by unfold avLookup AS.esOf; rw [hh]
theorem avLoad_h {t : TypeId} {x : AV} (hh : s.h = s'.h) : avLoad P s t x = avLoad P s' t x := by unfold avLoad; rw [hh]
theorem avFieldAddr_h {t : TypeId} {x : AV} {f : Nat} (hh : s.h = s'.h) : avFieldAddr P s t x f = avFieldAddr P s' t x f := by unfold avFieldAddr AS.cur; rw [hh]
theorem avIndexAddr_h {t : TypeId} {x y : AV} (hh : s.h = s'.h) : avIndexAddr P s t x y = avIndexAddr P s' t x y := by unfold avIndexAddr AS.cur; rw [hh]
theorem avLen_h {t : TypeId} {x : AV} (hh : s.h = s'.h) : avLen P s t x = avLen P s' t x := by unfold avLen AS.cur; rw [hh]
theorem bnd_e {x : Option Operand} {d : Int} (he : ∀ y ∈ x.toList, s.ev y = s'.ev y) : s.bnd x d = s'.bnd x d := by
  cases x with
  | none => rfl
  | some y => simp only [AS.bnd, he y (by simp)]

theorem all_e {l : List Operand} (he : ∀ y ∈ l, s.ev y = s'.ev y) : (l.all fun x => (s.ev x).1) = l.all fun x => (s'.ev x).1 := by
  induction l with
  | nil => rfl
  | cons a l ih => simp only [List.all_cons, he a (by simp), ih (fun y hy => he y (by simp [hy]))]
theorem map_e {l : List Operand} (he : ∀ y ∈ l, s.ev y = s'.ev y) : (l.map fun x => (s.ev x).2) = l.map fun x => (s'.ev x).2 := List.map_congr_left fun y hy => by rw [he y hy]
theorem zip_e {l : List Operand} (he : ∀ y ∈ l, s.ev y = s'.ev y) (ts : List TypeId) : ((l.zip ts).map fun p => (s.ev p.1).2.tag P p.2) = (l.zip ts).map fun p => (s'.ev p.1).2.tag P p.2 :=
  List.map_congr_left fun p hp => by rw [he p.1 (List.of_mem_zip hp).1]
theorem allp_e {l : List (Nat × Operand)} (he : ∀ y ∈ l.map (·.2), s.ev y = s'.ev y) : (l.all fun p => (s.ev p.2).1) = l.all fun p => (s'.ev p.2).1 := by
  induction l with
  | nil => rfl
  | cons a l ih => simp only [List.all_cons, he a.2 (by simp), ih (fun y hy => he y (by simp only [List.map_cons, List.mem_cons]; exact .inr hy))]
theorem mapp_e {l : List (Nat × Operand)} (he : ∀ y ∈ l.map (·.2), s.ev y = s'.ev y) (f : Nat → TypeId) : (l.map fun p => (p.1, ((s.ev p.2).2.tag P (f p.1)))) = l.map fun p => (p.1, ((s'.ev p.2).2.tag P (f p.1))) :=
  List.map_congr_left fun p hp => by rw [he p.2 (List.mem_map.2 ⟨p, hp, rfl⟩)]
end
end Go.Aw
