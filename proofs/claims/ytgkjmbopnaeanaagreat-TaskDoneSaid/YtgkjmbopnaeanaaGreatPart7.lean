/-
  Parts of the proof: AwRng, AwPeek, AwConv, AwCut, Ty, Shelf (short names; the readable texts lie in the repo, under wip).
-/
import Derived.Test.YtgkjmbopnaeanaaGreatPart6
import Derived.Test.YtgkjmbopnaeanaaGreatProg
import Derived.KernelRfl
import Derived.CallsIn
import Derived.ChangeAlike
import Derived.ChangeKeysEq
import Derived.ChangeSame
import Derived.Defers
import Derived.Laws.AppendOwn
import Derived.Laws.BytesArg
import Derived.Laws.Cells
import Derived.Laws.Externs
import Derived.Laws.IdiomStrings
import Derived.Laws.LoneSync
import Derived.Laws.Pointers
import Derived.Laws.RangeAny
import Derived.Laws.RangeString
import Derived.Laws.StructEq
import Derived.Lib.AppendStr
import Derived.Lib.Builder
import Derived.Lib.MakeNoZero
import Derived.Lib.Slices
import Derived.Lib.Strings
import Derived.Lib.UnsafeStr
import Derived.OpenShut
import Derived.OrdersIn
import Derived.ProofKit
import Derived.RangeFuncRecord
import Derived.RegionCalls
import Derived.RegionTactic
import Derived.ScopeJumps
import Derived.Shelf.Strings.Prefix
import Derived.Shelf.Strings.Repeat
import Derived.Tactics
import Derived.Tactics2
import Derived.WalkKit
import GoSem.Dispatch
set_option maxRecDepth 100000
set_option maxHeartbeats 2000000
set_option linter.unusedSimpArgs false
set_option linter.unusedVariables false
namespace Go.Aw
open Go
def never:AHeap:= [(0,.var [.vp 1 0])]
theorem zlv {cx:Cx} {E:Env} {s:AS} {a:Act} {w:World} (hs:Sat cx E s a w) (h:s.h=never):False:=by
 have:=hs.hp.heap 0 (.var [.vp 1 0]) (by rw [h];simp [never,hget])
 simp only [RepObj,Reps,Rep] at this
 obtain ⟨b,c,T,fz,_,_,⟨v,r,_,⟨b2,cs,h2,_⟩,_⟩,_⟩:=this
 rw [h] at h2
 simp [never,hget] at h2
theorem ztX {cx:Cx} {c:Code} {Q:Exit→AS→Prop} {t:List (Nat×(Bool×AV))} {g:Option (List (List AV))} :AW cx c Q ⟨t,never,g⟩:=
 fun E a w hs=>(zlv hs rfl).elim
theorem zpS {cx:Cx} {c:Code} {Q:Exit→AS→Prop} {s:AS} (h:AW cx c (fun e s=>Q e s∨s.h=never) s):AW cx c Q s:=by
 intro E a w hs
 refine wpIn_mono (h E a w hs) ?_
 rintro e a1 w1 ⟨E1,s1,hq,hs1,he⟩
 rcases hq with hq|hq
 ·exact ⟨E1,s1,hq,hs1,he⟩
 ·exact (zlv hs1 hq).elim
open Classical in
theorem zbz {cx:Cx} {s:AS} {Q:Exit→AS→Prop} {g:Operand} {ps:Array Tmp} {assign body:Code} {f:FuncId} {fs caps:List AV} (fl:Nat) {items:List (List AV)} (Good:List (List AV)→Prop) (I:List (List AV)→AHeap×Option (List (List AV))) (J:Code→AHeap→Option (List (List AV))→Prop)
  (hit:AIter cx.P f fl fs caps [] items (fun g h'=>(∀xs,g=some xs→xs=items)∧h'= [])) (hg:s.ev g=(true,.fn (.func f) fs caps)) (hro:cx.ro=none)
  (hfl:∀i,(hget s.h i).isSome→i<fl) (hfc:cx.fl≤fl) (hids:AV.idsL fs++AV.idsL caps= [])
  (hG0:Good []) (hI:leH s.h (I []).1) (hIn:inH (I []).1 (idsH (I []).1)) (hIg:(I []).2=s.g)
  (hlen:∀x∈items,x.length=ps.size) (hps:∀t∈ps.toList,t<cx.nt)
  (hround:∀xs x,(xs++ [x])<+:items→Good xs→∀ (l:Nat) (r1:Rnd cx),AW (cx.inR l fl r1) assign (AsgK fun s1=>∀r2:Rnd cx,AW (cx.inR l fl r2) body (zf (fun h' g'=>Good (xs++ [x])∧leH h' (I (xs++ [x])).1∧inH (I (xs++ [x])).1 (idsH (I (xs++ [x])).1)∧g'=(I (xs++ [x])).2) J) s1)
   { t:=zeU ps.toList x (keepT (I xs).1 s.t),h:=(I xs).1,g:=(I xs).2 })
  (hdone:Good items→Q .normal { t:=keepT (I items).1 s.t,h:=(I items).1,g:=(I items).2 })
  (hstop:∀c h3 g3,J c h3 g3→AW cx c Q { t:=keepT h3 s.t,h:=h3,g:=g3 }):
  AW cx (.rangeFunc g ps assign body) Q s:=by
 refine zpS (zrA fl (fun xs=>if Good xs then I xs else (never,none)) J hit hg hro hfl hfc hids ?_ ?_ ?_ hlen hps ?_ ?_ ?_)
 ·simp only [if_pos hG0];exact hI
 ·simp only [if_pos hG0];exact hIn
 ·simp only [if_pos hG0];exact hIg
 ·intro xs x hp l r1
  by_cases hgd:Good xs
  ·simp only [if_pos hgd]
   refine (hround xs x hp hgd l r1).mono ?_
   intro e s1 h1
   cases e with
   | normal=>
    intro r2
    refine (h1 r2).mono ?_
    intro e2 s2 h2
    cases e2 with
    |normal=>
     obtain ⟨g1,g2,g3,g4⟩:=h2
     simp only [zf,if_pos g1]
     exact ⟨g2,g3,g4⟩
    |_=>exact h2
   |_=>exact h1
  ·simp only [if_neg hgd]
   exact ztX
 ·by_cases hgd:Good items
  ·simp only [if_pos hgd];exact .inl (hdone hgd)
  ·simp only [if_neg hgd];exact .inr trivial
 ·intro c h3 g3 hj
  exact (hstop c h3 g3 hj).mono fun e s h=> .inl h
theorem zdT {α β:Type} {g:α→β} {xs:List β} {x:β} {l:List α} (h:(xs++ [x])<+:l.map g):∃ys q zs,xs=ys.map g∧x=g q∧l=ys++q::zs:=by
 obtain ⟨r,hr⟩:=h
 rw [List.append_assoc,List.singleton_append] at hr
 obtain ⟨ys,zs,hl,h1,h2⟩:=List.map_eq_append_iff.1 hr.symm
 obtain ⟨q,zs',hz,h3,h4⟩:=List.map_eq_cons_iff.1 h2
 exact ⟨ys,q,zs',h1.symm,h3.symm,by rw [hl,hz]⟩
theorem zpT {α:Type} {p:α→Bool} {ys zs:List α} {q:α} (h:ys.any p=false) (hq:p q=true):(ys++q::zs).find? p=some q:=by
 rw [List.find?_append,List.find?_eq_none.2 (fun x hx=>by simpa using List.any_eq_false.1 h x hx),List.find?_cons,hq]
 rfl
theorem ze9 {cx:Cx} {c:Code} {Q:Exit→AS→Prop} {s:AS} (h:AW cx c (fun e s=>Q e { t:= [],h:= [],g:=s.g }) s):AW cx c Q s:=by
 intro E a w hs
 refine wpIn_mono (h E a w hs) ?_
 rintro e a1 w1 ⟨E1,s1,hq,hs1,he⟩
 have hno:∀b,¬Own E1 [] b:=fun b ⟨i,hi,_⟩=>by simp [hget] at hi
 refine ⟨E1, { t:= [],h:= [],g:=s1.g },hq,⟨fun k g v hk=>by simp [lk] at hk,hs1.nt,⟨fun i o ho=>by simp [hget] at ho,fun i j b hi=>by simp [hget] at hi,fun b hb=>absurd hb (hno b),hs1.hp.mlt,hs1.hp.nlt⟩,hs1.base,hs1.marks,?_⟩,
  ⟨he.os,he.tape,he.output,he.size,he.keep,fun b hb=>absurd hb (hno b),he.m1,he.m2,he.n,fun i _ h=>by simp [hget] at h⟩⟩
 exact cx.stab _ _ _ _ _ w1 _ (fun _ _ _=>rfl) (fun b hb=> .inl (hb.elim (fun h=>absurd h (hno b)) .inr)) (fun b hb=>hb.elim (fun h=>absurd h (hno b)) hs1.marks.lt) (Nat.le_refl _) rfl rfl rfl hs1.ghost
open Go
def zeB (v:AV):AV:=if v.scal=true then v else .any
def zstep (cx:Cx) (o:Oper) (s f:AS) (K:AS→AS→Prop):Prop:=
 dstOk cx.nt o.dst∧o.guard=none∧
 match o.op with
 | .move x=>known s x=true∧(s.ev x).1=true∧K (s.put o.dst true ((s.ev x).2.tag cx.P o.type)) (f.put o.dst true (zeB ((s.ev x).2.tag cx.P o.type)))
 | .assign x=>known s x=true∧(s.ev x).1=true∧K (s.put o.dst true ((s.ev x).2.tag cx.P o.type)) (f.put o.dst true (zeB ((s.ev x).2.tag cx.P o.type)))
 | .call c=>isVal cx.P (.call c)=true∧(aval cx.P f (.call c)).1∧K (s.put o.dst true (zeB (aval cx.P f (.call c)).2)) (f.put o.dst true (aval cx.P f (.call c)).2)
 | .load t x=>isVal cx.P (.load t x)=true∧(aval cx.P f (.load t x)).1∧K (s.put o.dst true .any) (f.put o.dst true (aval cx.P f (.load t x)).2)
 |op=>isVal cx.P op=true∧(aval cx.P f op).1∧K (s.put o.dst true (zeB (aval cx.P f op).2)) (f.put o.dst true (aval cx.P f op).2)
def zjx (cx:Cx):List Oper→AS→AS→(AS→Prop)→Prop
 | [],s,_,K=>K s
 |o::r,s,f,K=>zstep cx o s f (fun s' f'=>zjx cx r s' f' K)
section
variable {cx : Cx} {tab : Tab} {E F : Env} {s f : AS} {a : Act} {w : World}
theorem zlG {W W':World} {E E':Env} {h h':AHeap} {v:AV} {x:Value} (hr:Rep W E h v x):Rep W' E' h' (zeB v) x:=by
 unfold zeB
 split
 ·rename_i hs;exact Rep.scal v x hs hr
 ·simp only [Rep]
theorem zlH {d:Option Nat} {v:AV} {x:Value} (hs:Slots w F f a) (hsz:∀k,d=some k→k<a.tmps.size) (hv:Rep w F f.h v x):Slots w F (f.put d true v) (a.put d x):=by
 cases d with
 |none=>exact hs
 | some d=>
  intro k g u hk
  have hd:=hsz d rfl
  rw [zry] at hk
  have hh:(f.put (some d) true v).h=f.h:=rfl
  rw [hh]
  split at hk
  ·rename_i e
   simp only [Option.some.injEq] at e
   subst e
   simp only [Option.some.injEq,Prod.mk.injEq] at hk
   obtain ⟨rfl,rfl⟩:=hk
   refine ⟨x,?_,fun _=>hv,fun e=>by cases e⟩
   simp [Act.put,hd]
  ·rename_i e
   have e:¬d=k:=fun h=>e (by rw [h])
   obtain ⟨y,h1,h2,h3⟩:=hs k g u hk
   refine ⟨y,?_,h2,h3⟩
   simpa [Act.put,Array.getElem?_setIfInBounds_ne e] using h1
theorem zud {o:Oper} {K:AS→AS→Prop} {Q:Exit→Act→World→Prop} {next:Act→World→Prop} (hs:Sat cx E s a w) (hp:SatH F f.h w) (hf:Slots w F f a) (h:zstep cx o s f K)
  (hn:∀s' f' a',Sat cx E s' a' w→SatH F f'.h w→Slots w F f' a'→s'.h=s.h→K s' f'→next a' w):o.wpIn cx.F 0 cx.P a w next Q:=by
 obtain ⟨hd,hg,h⟩:=h
 have hdst:∀k,o.dst=some k→k<cx.nt:=fun k e=>by rw [e] at hd;exact hd
 have hdst':∀k,o.dst=some k→k<a.tmps.size:=fun k e=>by rw [hs.nt];exact hdst k e
 have hputh:∀ (u:AS) (v:AV),(u.put o.dst true v).h=u.h:=fun u v=>by unfold AS.put;cases o.dst<;>rfl
 have hval:∀u:AV,(u= .any∨u=zeB (aval cx.P f o.op).2)→isVal cx.P o.op=true→(aval cx.P f o.op).1→K (s.put o.dst true u) (f.put o.dst true (aval cx.P f o.op).2)→o.wpIn cx.F 0 cx.P a w next Q:=by
  intro u hu h0 h1 h2
  obtain ⟨v,hv,hr⟩:=zmQ hp hf o h1
  refine Does.wpIn (zhP h0) (R:=fun v' w'=>v'=v∧w'=w) (.inl ⟨v,w,hv,rfl,rfl⟩) ?_
  rintro v' w' ⟨rfl,rfl⟩
  refine hn _ _ _ (hs.put hdst (fun _=>?_) (fun e=>by cases e)) (by rw [hputh];exact hp) (zlH hf hdst' hr) (hputh _ _) h2
  rcases hu with rfl|rfl
  ·simp only [Rep]
  ·exact zlG hr
 have hmove:∀x,(execOp a.eval o=pure (.value (a.eval x)))→(∀c,o.op≠ .defer c)→(s.ev x).1=true→K (s.put o.dst true ((s.ev x).2.tag cx.P o.type)) (f.put o.dst true (zeB ((s.ev x).2.tag cx.P o.type)))→o.wpIn cx.F 0 cx.P a w next Q:=by
  intro x he h3 h1 h2
  refine Does.wpIn h3 (R:=fun v' w'=>v'=a.eval x∧w'=w) (.inl ⟨a.eval x,w,by rw [he];rfl,rfl,rfl⟩) ?_
  rintro v' w' ⟨rfl,rfl⟩
  have hr:=Rep.tag (P:=cx.P) (t:=o.type) (ev_ok hs.slots x h1)
  exact hn _ _ _ (hs.put hdst (fun _=>hr) (fun e=>by cases e)) (by rw [hputh];exact hp) (zlH hf hdst' (zlG hr)) (hputh _ _) h2
 obtain ⟨dst,op,ot,pos,after,guard⟩:=o
 dsimp only at h hval hmove
 split at h
 ·exact hmove _ rfl (by simp) h.2.1 h.2.2
 ·exact hmove _ rfl (by simp) h.2.1 h.2.2
 ·exact hval _ (.inr rfl) h.1 h.2.1 h.2.2
 ·exact hval _ (.inl rfl) h.1 h.2.1 h.2.2
 ·exact hval _ (.inr rfl) h.1 h.2.1 h.2.2
theorem zlI (ht:TabOk cx.P tab) {all:Array Oper} :∀ (l:List Nat) (pre rest:List Oper) {K:AS→Prop} {s f:AS} {a:Act},l.map (all[·]?)=(pre++rest).map some→Sat cx E s a w→SatH F f.h w→Slots w F f a→zjx cx pre s f (fun s'=>aopsY cx tab all rest K s')→
  wpOpsIn cx.F 0 cx.P all (fun e a' w'=>e= .normal∧Reach cx E s.h w K a' w') l a w
 |l,[],rest,K,s,f,a,hl,hs,_,_,h=>zhz ht l rest (by simpa using hl) hs h
 | [],o::pre,rest,K,s,f,a,hl,hs,_,_,h=>by simp at hl
 | i::l,o::pre,rest,K,s,f,a,hl,hs,hp,hf,h=>by
  simp only [List.cons_append,List.map_cons,List.cons.injEq] at hl
  obtain ⟨hi,hl⟩:=hl
  simp only [zjx] at h
  simp only [wpOpsIn,hi]
  have hw:Region.wanted o (yielded all a.tmps)=true:=by
   unfold Region.wanted
   rw [h.2.1]
  rw [if_pos hw]
  refine zud hs hp hf h ?_
  intro s' f' a' hs' hp' hf' he hK
  have:=zlI ht l pre rest hl hs' hp' hf' hK
  rw [he] at this
  exact this
theorem zp0 {β:Type} {id:Nat} {ops:Array Oper} {Q:Exit→AS→Prop} (tab:Tab) (ht:TabOk cx.P tab) (pre rest:List Oper) (hsp:ops.toList=pre++rest) (f:β→AS)
  (hS:∀g M N A w,cx.G g M N A w→∃F b,SatH F (f b).h w∧∀k g v,lk (f b).t k=some (g,v)→g=true∧∃u,lk s.t k=some (true,.raw u)∧Rep w F (f b).h v u)
  (h:∀b,zjx cx pre s (f b) (fun s'=>aopsY cx tab ops rest (Q .normal) s')):AW cx (.region id ops false) Q s:=fun E a w hs=>by
 obtain ⟨F,b,hp,hl⟩:=hS _ _ _ _ _ hs.ghost
 refine wpIn_region (zak _ (zlI (F:=F) ht _ pre rest (by rw [← hsp];exact zgc ops) hs hp (fun k g v hk=>?_) (h b)) (by rintro e a' w' ⟨rfl,hr⟩;exact hr))
 obtain ⟨rfl,u,h1,h2⟩:=hl k g v hk
 obtain ⟨x,h3,h4,_⟩:=hs.slots k true _ h1
 have:=h4 rfl
 simp only [Rep] at this
 subst this
 exact ⟨x,h3,fun _=>h2,fun e=>by cases e⟩
theorem zfS {β:Type} {id:Nat} {ops:Array Oper} {y:Code} {Q:Exit→AS→Prop} (tab:Tab) (ht:TabOk cx.P tab) (pre rest:List Oper) (hsp:ops.toList=pre++rest) (f:β→AS)
  (hS:∀g M N A w,cx.G g M N A w→∃F b,SatH F (f b).h w∧∀k g v,lk (f b).t k=some (g,v)→g=true∧∃u,lk s.t k=some (true,.raw u)∧Rep w F (f b).h v u)
  (h:∀K,(∀s',AW cx y Q s'→K s')→∀b,zjx cx pre s (f b) (fun s'=>aopsY cx tab ops rest K s')):AW cx (.seq (.region id ops false) y) Q s:=
 zae fun K hK=>zp0 tab ht pre rest hsp f hS (h K hK)
end
attribute [go_sem] zjx zstep zeB List.take_succ_cons List.take_zero List.drop_succ_cons List.drop_zero
theorem zp1 {cx:Cx} {s:AS} {Q:Exit→AS→Prop} {g:Operand} {ps:Array Tmp} {assign body:Code} {f:FuncId} {q:Nat} (fl:Nat) {items:List (List AV)} (I:List (List AV)→AHeap×Option (List (List AV)))
  (hg:s.ev g=(true,.fn (.func f) [] [.vp q 0])) (hro:cx.ro=none) (hen:zgb cx.P f)
  (hrun:∀ (y:Yo cx.P items) (v0:Value),(∀g M N A w,y.G g M N A w→∃F xs,SatH F (I xs).1 w∧Rep w F (I xs).1 (.vp q 0) v0)→∀E w,SatH E [] w→y.G (some []) E.M E.N (Own E []) w→
   Calls cx.P f (#[]++ #[Value.func (.yield y.yl) #[] #[]]++ #[v0]) w (fun e w'=>∃v E' h' g,e= .returned v∧((∀xs,g=some xs→xs=items)∧h'= [])∧SatH E' h' w'∧Evo fl E [] w E' h' w'∧y.G g E'.M E'.N (Own E' h') w'))
  (hfl:∀i,(hget s.h i).isSome→i<fl) (hfc:cx.fl≤fl) (hq:∃cs,hget s.h q=some (.var cs)) (hqI:∀xs,∃cs,hget (I xs).1 q=some (.var cs))
  (hI:leH s.h (I []).1) (hIn:inH (I []).1 (idsH (I []).1)) (hIg:(I []).2=s.g)
  (hlen:∀x∈items,x.length=ps.size) (hps:∀t∈ps.toList,t<cx.nt)
  (hround:∀xs x,(xs++ [x])<+:items→∀ (l:Nat) (r1:Rnd cx),AW (cx.inR l fl r1) assign (AsgK fun s1=>∀r2:Rnd cx,AW (cx.inR l fl r2) body (zf (fun h' g'=>leH h' (I (xs++ [x])).1∧inH (I (xs++ [x])).1 (idsH (I (xs++ [x])).1)∧g'=(I (xs++ [x])).2) (fun _ _ _=>False)) s1)
   { t:=zeU ps.toList x (keepT (I xs).1 s.t),h:=(I xs).1,g:=(I xs).2 })
  (hdone:Q .normal { t:=keepT (I items).1 s.t,h:=(I items).1,g:=(I items).2 }):
  AW cx (.rangeFunc g ps assign body) Q s:=by
 have hs0:hsel (fun _=>false) s.h= []:=by
  induction s.h with
  |nil=>rfl
  |cons a h ih=>simp only [hsel];rw [if_neg (by simp)];exact ih
 have hs1:hsel (fun i=> !(fun _=>false) i) s.h=s.h:=zhy (fun q _=>rfl)
 refine zgf (Kit:=fun g h'=>(∀xs,g=some xs→xs=items)∧h'= []) (items:=items) (fl:=fl) (caps':= [.any]) (fun _=>false) I (fun _ _ _=>False) hro hg (by simp [AV.leL,AV.le]) hen ?_ hfl hfc ?_ ?_ (by rw [hs1];exact hI) hIn hIg (fun _ _ _ _=>rfl) (fun _ _ _ h=>h.elim) ?_ hlen hps hround ?_ ?_
 ·intro E0 w0 pf qc h0 hpf hqc
  have hpf':pf= #[]:=by simp only [Reps] at hpf;simpa using hpf
  subst hpf'
  simp only [Reps] at hqc
  obtain ⟨v0,r,hv0,hr0,hr⟩:=hqc
  subst hr
  have hqc':qc= #[v0]:=by
   apply Array.ext'
   simpa using hv0
  subst hqc'
  refine ⟨fun w=>∃F xs,SatH F (I xs).1 w∧Rep w F (I xs).1 (.vp q 0) v0,?_,?_,fun _ _ _ h=>h.elim⟩
  ·intro y hy E w hsE _ _ hG
   rw [hs0] at hsE hG ⊢
   exact hrun y v0 hy E w hsE hG
  ·intro xs E w hsE hgo
   refine ⟨E,xs,hsE,?_⟩
   obtain ⟨cs,hc⟩:=hqI xs
   obtain ⟨cs0,hc0⟩:=hq
   have hgq:=hgo q (hfl q (by rw [hc0];rfl)) (by rw [hc];rfl)
   simp only [Rep] at hr0 ⊢
   obtain ⟨b,cs',h1,h2,h3⟩:=hr0
   unfold GoesOn at hgq
   rw [hc0] at hgq
   exact ⟨b,cs,hc,hgq.1.trans h2,h3⟩
 ·intro i o _ h;cases h
 ·intro j hj;simp [AV.idsL,AV.ids] at hj
 ·rintro g h' ⟨h1,rfl⟩
  exact ⟨fun i hi=>by simp [hget] at hi,h1⟩
 ·rintro h1 ⟨_,rfl⟩
  exact hdone
 ·exact fun _ _ _ _ _ h=>h.elim
open Go
open Go
def aopsF (cx:Cx) (tab:Tab) (all:Array Oper) (i:Nat):Nat→List Oper→(AS→Prop)→AS→Prop
 |0,r,K,s=>∃o,hget s.h i=some o∧aopsT cx tab all r K (s.fz i o)
 |n+1,o::r,K,s=>match zbc s all o.guard with
  |some G=>aopT cx tab G o (aopsF cx tab all i n r K) s
  |none=>False
 |_+1,[],_,_=>False
attribute [go_sem] aopsF
section
variable {cx : Cx} {tab : Tab} {s : AS}
theorem zxL {E:Env} {a:Act} {w:World} {i:Nat} {o:AObj} (hs:Sat cx E s a w) (hi:hget s.h i=some o):Sat cx E (s.fz i o) a w∧Evo cx.fl E s.h w E (s.fz i o).h w:=by
 refine ⟨{ slots:=fun k g v hk=>?_,nt:=hs.nt,hp:=zvu hs.hp hi,base:=hs.base,marks:=hs.marks,ghost:=?_ },?_⟩
 ·have hk':lk (tfz i o s.t) k=some (g,v):=hk
  rw [zrp] at hk'
  obtain ⟨q,hq,e⟩:=Option.map_eq_some_iff.1 hk'
  obtain ⟨g',v'⟩:=q
  simp only [Prod.mk.injEq] at e
  obtain ⟨rfl,rfl⟩:=e
  obtain ⟨x,h1,h2,h3⟩:=hs.slots k g' v' hq
  exact ⟨x,h1,fun e=>zoL hs.hp hi v' x (h2 e),h3⟩
 ·exact cx.stab _ _ _ _ _ w _ (fun _ _ _=>rfl) (fun _ hb=> .inl (hb.imp zg9 id)) (fun b hb=>hb.elim (fun h=>(hs.hp.own b (zg9 h)).1) hs.marks.lt) (Nat.le_refl _) rfl rfl rfl hs.ghost
 ·exact ⟨rfl,rfl,rfl,Nat.le_refl _,fun _ _ _ _=>rfl,fun b hb=> .inl (zg9 hb),fun _ h=>h,fun _ h=> .inl h,rfl,fun j _ hj=>by
   have hj':(hget (hfz i o s.h) j).isSome:=hj
   rw [zds] at hj'
   split at hj'
   ·simp at hj'
   ·rename_i hne
    exact ⟨by simpa using hj',zdP j hne⟩⟩
theorem zkZ (ht:TabOk cx.P tab) {all:Array Oper} {x:Nat} :∀ (n:Nat) (l:List Nat) (ops:List Oper) {K:AS→Prop} {s:AS} {E:Env} {a:Act} {w:World},l.map (all[·]?)=ops.map some→Sat cx E s a w→aopsF cx tab all x n ops K s→
  wpOpsIn cx.F 0 cx.P all (fun e a' w'=>e= .normal∧Reach cx E s.h w K a' w') l a w
 |0,l,ops,K,s,E,a,w,hl,hs,h=>by
  simp only [aopsF] at h
  obtain ⟨o,hi,h⟩:=h
  obtain ⟨h1,h2⟩:=zxL hs hi
  refine zak _ (zhx ht l ops hl h1 h) ?_
  rintro e a2 w2 ⟨rfl,hr⟩
  exact ⟨rfl,hr.trans h2⟩
 |n+1,l,[],K,s,E,a,w,hl,hs,h=>by simp only [aopsF] at h
 |n+1,[],o::ops,K,s,E,a,w,hl,hs,h=>by simp at hl
 | n+1,i::l,o::ops,K,s,E,a,w,hl,hs,h=>by
  simp only [List.map_cons,List.cons.injEq] at hl
  obtain ⟨hi,hl⟩:=hl
  simp only [aopsF] at h
  split at h
  ·rename_i G hg
   simp only [wpOpsIn,hi]
   have:=zgJ ht (Q:=fun _ _ _=>False) hs hg h
   split at this
   ·rename_i hw
    rw [if_pos hw]
    refine zbd this ?_
    rintro a1 w1 ⟨E1,s1,hk,hs1,he1⟩
    have ih:=zkZ ht n l ops hl hs1 hk
    refine zak _ ih ?_
    rintro e a2 w2 ⟨rfl,hr⟩
    exact ⟨rfl,hr.trans he1⟩
   ·rename_i hw
    rw [if_neg hw]
    refine ⟨this.1,?_⟩
    obtain ⟨E1,s1,hk,hs1,he1⟩:=this.2
    have ih:=zkZ ht n l ops hl hs1 hk
    refine zak _ ih ?_
    rintro e a2 w2 ⟨rfl,hr⟩
    exact ⟨rfl,hr.trans he1⟩
  ·exact h.elim
theorem zeg {id:Nat} {ops:Array Oper} {y:Code} {Q:Exit→AS→Prop} (tab:Tab) (ht:TabOk cx.P tab) (n i:Nat) (h:∀K,(∀s',AW cx y Q s'→K s')→aopsF cx tab ops i n ops.toList K s):AW cx (.seq (.region id ops false) y) Q s:=
 zae fun K hK=>fun E a w hs=>wpIn_region (zak _ (zkZ ht n _ _ (zgc ops) hs (h K hK)) (by rintro e a' w' ⟨rfl,hr⟩;exact hr))
end
open Go Go.Proofs
@[go_sem] theorem ty3:ty Go.Proofs.Tryz.prog 3=⟨.int .i64,1,8⟩:=by kernel_rfl
@[go_sem] theorem zk3:zX Go.Proofs.Tryz.prog 3=true:=by kernel_rfl
@[go_sem] theorem tt3:zZ Go.Proofs.Tryz.prog 12 3=false:=by kernel_rfl
@[go_sem] theorem zc3:zO Go.Proofs.Tryz.prog 12 3= [.d (.int .i64 0)]:=by kernel_rfl
@[go_sem] theorem ty4:ty Go.Proofs.Tryz.prog 4=⟨.bool,1,1⟩:=by kernel_rfl
@[go_sem] theorem zk4:zX Go.Proofs.Tryz.prog 4=true:=by kernel_rfl
@[go_sem] theorem tt4:zZ Go.Proofs.Tryz.prog 12 4=false:=by kernel_rfl
@[go_sem] theorem zc4:zO Go.Proofs.Tryz.prog 12 4= [.d (.bool false)]:=by kernel_rfl
@[go_sem] theorem ty5:ty Go.Proofs.Tryz.prog 5=⟨.int .u8,1,1⟩:=by kernel_rfl
@[go_sem] theorem zk5:zX Go.Proofs.Tryz.prog 5=true:=by kernel_rfl
@[go_sem] theorem zc5:zO Go.Proofs.Tryz.prog 12 5= [.d (.int .u8 0)]:=by kernel_rfl
@[go_sem] theorem ty9:ty Go.Proofs.Tryz.prog 9=⟨.str,1,16⟩:=by kernel_rfl
@[go_sem] theorem zk9:zX Go.Proofs.Tryz.prog 9=true:=by kernel_rfl
@[go_sem] theorem tt9:zZ Go.Proofs.Tryz.prog 12 9=false:=by kernel_rfl
@[go_sem] theorem zc9:zO Go.Proofs.Tryz.prog 12 9= [.d (.str [])]:=by kernel_rfl
@[go_sem] theorem ty20:ty Go.Proofs.Tryz.prog 20=⟨.iface,1,16⟩:=by kernel_rfl
@[go_sem] theorem zk20:zX Go.Proofs.Tryz.prog 20=true:=by kernel_rfl
@[go_sem] theorem zc20:zO Go.Proofs.Tryz.prog 12 20= [.d .nilif]:=by kernel_rfl
@[go_sem] theorem ty22:ty Go.Proofs.Tryz.prog 22=⟨.slice 142,1,24⟩:=by kernel_rfl
@[go_sem] theorem tt22:zZ Go.Proofs.Tryz.prog 12 22=false:=by kernel_rfl
@[go_sem] theorem ty23:ty Go.Proofs.Tryz.prog 23=⟨.slice 3,1,24⟩:=by kernel_rfl
@[go_sem] theorem tt23:zZ Go.Proofs.Tryz.prog 12 23=false:=by kernel_rfl
@[go_sem] theorem ty25:ty Go.Proofs.Tryz.prog 25=⟨.struct [(0,9),(1,22),(2,3),(3,4),(4,23)],5,80⟩:=by kernel_rfl
@[go_sem] theorem zk25:zX Go.Proofs.Tryz.prog 25=true:=by kernel_rfl
@[go_sem] theorem tt25:zZ Go.Proofs.Tryz.prog 12 25=false:=by kernel_rfl
@[go_sem] theorem zc25:zO Go.Proofs.Tryz.prog 12 25= [.d (.str []),.nils 2,.d (.int .i64 0),.d (.bool false),.nils 1]:=by kernel_rfl
@[go_sem] theorem ty27:ty Go.Proofs.Tryz.prog 27=⟨.struct [(0,3),(1,3)],2,16⟩:=by kernel_rfl
@[go_sem] theorem zk27:zX Go.Proofs.Tryz.prog 27=true:=by kernel_rfl
@[go_sem] theorem tt27:zZ Go.Proofs.Tryz.prog 12 27=false:=by kernel_rfl
@[go_sem] theorem zc27:zO Go.Proofs.Tryz.prog 12 27= [.d (.int .i64 0),.d (.int .i64 0)]:=by kernel_rfl
@[go_sem] theorem si27:(Go.Proofs.Tryz.prog.stoodInHeld 27)=false:=by kernel_rfl
@[go_sem] theorem eg27:(Go.Proofs.Tryz.prog.eqGuardType Go.Proofs.Tryz.prog.depth 27)=false:=by kernel_rfl
@[go_sem] theorem ty28:ty Go.Proofs.Tryz.prog 28=⟨.int .u64,1,8⟩:=by kernel_rfl
@[go_sem] theorem zk28:zX Go.Proofs.Tryz.prog 28=true:=by kernel_rfl
@[go_sem] theorem tt28:zZ Go.Proofs.Tryz.prog 12 28=false:=by kernel_rfl
@[go_sem] theorem zc28:zO Go.Proofs.Tryz.prog 12 28= [.d (.int .u64 0)]:=by kernel_rfl
@[go_sem] theorem ty30:ty Go.Proofs.Tryz.prog 30=⟨.struct [(0,28),(1,3)],2,16⟩:=by kernel_rfl
@[go_sem] theorem zk30:zX Go.Proofs.Tryz.prog 30=true:=by kernel_rfl
@[go_sem] theorem tt30:zZ Go.Proofs.Tryz.prog 12 30=false:=by kernel_rfl
@[go_sem] theorem zc30:zO Go.Proofs.Tryz.prog 12 30= [.d (.int .u64 0),.d (.int .i64 0)]:=by kernel_rfl
@[go_sem] theorem si30:(Go.Proofs.Tryz.prog.stoodInHeld 30)=false:=by kernel_rfl
@[go_sem] theorem eg30:(Go.Proofs.Tryz.prog.eqGuardType Go.Proofs.Tryz.prog.depth 30)=false:=by kernel_rfl
@[go_sem] theorem ty31:ty Go.Proofs.Tryz.prog 31=⟨.slice 121,1,24⟩:=by kernel_rfl
@[go_sem] theorem ty33:ty Go.Proofs.Tryz.prog 33=⟨.struct [(0,25),(5,27),(7,30),(9,31),(10,4)],11,144⟩:=by kernel_rfl
@[go_sem] theorem zk33:zX Go.Proofs.Tryz.prog 33=true:=by kernel_rfl
@[go_sem] theorem tt33:zZ Go.Proofs.Tryz.prog 12 33=false:=by kernel_rfl
@[go_sem] theorem zc33:zO Go.Proofs.Tryz.prog 12 33= [.d (.str []),.nils 2,.d (.int .i64 0),.d (.bool false),.nils 1,.d (.int .i64 0),.d (.int .i64 0),.d (.int .u64 0),.d (.int .i64 0),.nils 66,.d (.bool false)]:=by kernel_rfl
@[go_sem] theorem ty34:ty Go.Proofs.Tryz.prog 34=⟨.int .u32,1,4⟩:=by kernel_rfl
@[go_sem] theorem zk34:zX Go.Proofs.Tryz.prog 34=true:=by kernel_rfl
@[go_sem] theorem tt34:zZ Go.Proofs.Tryz.prog 12 34=false:=by kernel_rfl
@[go_sem] theorem zc34:zO Go.Proofs.Tryz.prog 12 34= [.d (.int .u32 0)]:=by kernel_rfl
@[go_sem] theorem ty36:ty Go.Proofs.Tryz.prog 36=⟨.struct [(0,3),(1,3),(2,28),(3,28),(4,34),(5,9)],6,56⟩:=by kernel_rfl
@[go_sem] theorem zk36:zX Go.Proofs.Tryz.prog 36=true:=by kernel_rfl
@[go_sem] theorem tt36:zZ Go.Proofs.Tryz.prog 12 36=false:=by kernel_rfl
@[go_sem] theorem zc36:zO Go.Proofs.Tryz.prog 12 36= [.d (.int .i64 0),.d (.int .i64 0),.d (.int .u64 0),.d (.int .u64 0),.d (.int .u32 0),.d (.str [])]:=by kernel_rfl
@[go_sem] theorem si36:(Go.Proofs.Tryz.prog.stoodInHeld 36)=false:=by kernel_rfl
@[go_sem] theorem eg36:(Go.Proofs.Tryz.prog.eqGuardType Go.Proofs.Tryz.prog.depth 36)=false:=by kernel_rfl
@[go_sem] theorem ty37:ty Go.Proofs.Tryz.prog 37=⟨.slice 34,1,24⟩:=by kernel_rfl
@[go_sem] theorem ty40:ty Go.Proofs.Tryz.prog 40=⟨.slice 68,1,24⟩:=by kernel_rfl
@[go_sem] theorem tt40:zZ Go.Proofs.Tryz.prog 12 40=false:=by kernel_rfl
@[go_sem] theorem ty41:ty Go.Proofs.Tryz.prog 41=⟨.slice 71,1,24⟩:=by kernel_rfl
@[go_sem] theorem ty43:ty Go.Proofs.Tryz.prog 43=⟨.struct [(0,36),(6,40),(7,3),(8,34),(9,9),(10,41),(11,4)],12,144⟩:=by kernel_rfl
@[go_sem] theorem zk43:zX Go.Proofs.Tryz.prog 43=true:=by kernel_rfl
@[go_sem] theorem tt43:zZ Go.Proofs.Tryz.prog 12 43=false:=by kernel_rfl
@[go_sem] theorem zc43:zO Go.Proofs.Tryz.prog 12 43= [.d (.int .i64 0),.d (.int .i64 0),.d (.int .u64 0),.d (.int .u64 0),.d (.int .u32 0),.d (.str []),.nils 3,.d (.int .i64 0),.d (.int .u32 0),.d (.str []),.nils 2,.d (.bool false)]:=by kernel_rfl
@[go_sem] theorem ty56:ty Go.Proofs.Tryz.prog 56=⟨.struct [(0,3),(1,9),(2,4),(3,4),(4,37)],5,56⟩:=by kernel_rfl
@[go_sem] theorem zk56:zX Go.Proofs.Tryz.prog 56=true:=by kernel_rfl
@[go_sem] theorem tt56:zZ Go.Proofs.Tryz.prog 12 56=false:=by kernel_rfl
@[go_sem] theorem zc56:zO Go.Proofs.Tryz.prog 12 56= [.d (.int .i64 0),.d (.str []),.d (.bool false),.d (.bool false),.nils 1]:=by kernel_rfl
@[go_sem] theorem ty59:ty Go.Proofs.Tryz.prog 59=⟨.slice 9,1,24⟩:=by kernel_rfl
@[go_sem] theorem zk59:zX Go.Proofs.Tryz.prog 59=true:=by kernel_rfl
@[go_sem] theorem tt59:zZ Go.Proofs.Tryz.prog 12 59=false:=by kernel_rfl
@[go_sem] theorem zc59:zO Go.Proofs.Tryz.prog 12 59= [.nils 1]:=by kernel_rfl
@[go_sem] theorem ty61:ty Go.Proofs.Tryz.prog 61=⟨.struct [(0,28),(1,59)],2,32⟩:=by kernel_rfl
@[go_sem] theorem zk61:zX Go.Proofs.Tryz.prog 61=true:=by kernel_rfl
@[go_sem] theorem tt61:zZ Go.Proofs.Tryz.prog 12 61=false:=by kernel_rfl
@[go_sem] theorem zc61:zO Go.Proofs.Tryz.prog 12 61= [.d (.int .u64 0),.nils 1]:=by kernel_rfl
@[go_sem] theorem ty68:ty Go.Proofs.Tryz.prog 68=⟨.arr 3 3,3,24⟩:=by kernel_rfl
@[go_sem] theorem zk68:zX Go.Proofs.Tryz.prog 68=true:=by kernel_rfl
@[go_sem] theorem tt68:zZ Go.Proofs.Tryz.prog 12 68=false:=by kernel_rfl
@[go_sem] theorem zc68:zO Go.Proofs.Tryz.prog 12 68= [.d (.int .i64 0),.d (.int .i64 0),.d (.int .i64 0)]:=by kernel_rfl
@[go_sem] theorem eg68:(Go.Proofs.Tryz.prog.eqGuardType Go.Proofs.Tryz.prog.depth 68)=false:=by kernel_rfl
@[go_sem] theorem ty69:ty Go.Proofs.Tryz.prog 69=⟨.slice 104,1,24⟩:=by kernel_rfl
@[go_sem] theorem tt69:zZ Go.Proofs.Tryz.prog 12 69=false:=by kernel_rfl
@[go_sem] theorem ty71:ty Go.Proofs.Tryz.prog 71=⟨.struct [(0,34),(1,69)],2,32⟩:=by kernel_rfl
@[go_sem] theorem zk71:zX Go.Proofs.Tryz.prog 71=true:=by kernel_rfl
@[go_sem] theorem tt71:zZ Go.Proofs.Tryz.prog 12 71=false:=by kernel_rfl
@[go_sem] theorem zc71:zO Go.Proofs.Tryz.prog 12 71= [.d (.int .u32 0),.nils 2]:=by kernel_rfl
@[go_sem] theorem ty73:ty Go.Proofs.Tryz.prog 73=⟨.int .i64,1,8⟩:=by kernel_rfl
@[go_sem] theorem zk73:zX Go.Proofs.Tryz.prog 73=true:=by kernel_rfl
@[go_sem] theorem tt73:zZ Go.Proofs.Tryz.prog 12 73=false:=by kernel_rfl
@[go_sem] theorem zc73:zO Go.Proofs.Tryz.prog 12 73= [.d (.int .i64 0)]:=by kernel_rfl
@[go_sem] theorem ty77:ty Go.Proofs.Tryz.prog 77=⟨.struct [(0,34),(1,28),(2,9)],3,32⟩:=by kernel_rfl
@[go_sem] theorem zk77:zX Go.Proofs.Tryz.prog 77=true:=by kernel_rfl
@[go_sem] theorem tt77:zZ Go.Proofs.Tryz.prog 12 77=false:=by kernel_rfl
@[go_sem] theorem zc77:zO Go.Proofs.Tryz.prog 12 77= [.d (.int .u32 0),.d (.int .u64 0),.d (.str [])]:=by kernel_rfl
@[go_sem] theorem ty81:ty Go.Proofs.Tryz.prog 81=⟨.struct [(0,4),(1,3),(2,28),(3,9)],4,40⟩:=by kernel_rfl
@[go_sem] theorem zk81:zX Go.Proofs.Tryz.prog 81=true:=by kernel_rfl
@[go_sem] theorem tt81:zZ Go.Proofs.Tryz.prog 12 81=false:=by kernel_rfl
@[go_sem] theorem zc81:zO Go.Proofs.Tryz.prog 12 81= [.d (.bool false),.d (.int .i64 0),.d (.int .u64 0),.d (.str [])]:=by kernel_rfl
@[go_sem] theorem ty83:ty Go.Proofs.Tryz.prog 83=⟨.slice 5,1,24⟩:=by kernel_rfl
@[go_sem] theorem zk83:zX Go.Proofs.Tryz.prog 83=true:=by kernel_rfl
@[go_sem] theorem tt83:zZ Go.Proofs.Tryz.prog 12 83=false:=by kernel_rfl
@[go_sem] theorem zc83:zO Go.Proofs.Tryz.prog 12 83= [.nils 1]:=by kernel_rfl
@[go_sem] theorem zk85:zX Go.Proofs.Tryz.prog 85=true:=by kernel_rfl
@[go_sem] theorem tt85:zZ Go.Proofs.Tryz.prog 12 85=true:=by kernel_rfl
@[go_sem] theorem zc85:zO Go.Proofs.Tryz.prog 12 85= [.d .nilp,.nils 1]:=by kernel_rfl
@[go_sem] theorem ty98:ty Go.Proofs.Tryz.prog 98=⟨.struct [(0,43),(12,33),(23,37),(24,68)],27,336⟩:=by kernel_rfl
@[go_sem] theorem zk98:zX Go.Proofs.Tryz.prog 98=true:=by kernel_rfl
@[go_sem] theorem tt98:zZ Go.Proofs.Tryz.prog 12 98=false:=by kernel_rfl
@[go_sem] theorem zc98:zO Go.Proofs.Tryz.prog 12 98= [.d (.int .i64 0),.d (.int .i64 0),.d (.int .u64 0),.d (.int .u64 0),.d (.int .u32 0),.d (.str []),.nils 3,.d (.int .i64 0),.d (.int .u32 0),.d (.str []),.nils 2,.d (.bool false),.d (.str []),.nils 2,.d (.int .i64 0),.d (.bool false),.nils 1,.d (.int .i64 0),.d (.int .i64 0),.d (.int .u64 0),.d (.int .i64 0),.nils 66,.d (.bool false),.nils 1,.d (.int .i64 0),.d (.int .i64 0),.d (.int .i64 0)]:=by kernel_rfl
@[go_sem] theorem ty99:ty Go.Proofs.Tryz.prog 99=⟨.func,1,8⟩:=by kernel_rfl
@[go_sem] theorem zk99:zX Go.Proofs.Tryz.prog 99=true:=by kernel_rfl
@[go_sem] theorem zc99:zO Go.Proofs.Tryz.prog 12 99= [.nilfn]:=by kernel_rfl
@[go_sem] theorem ty100:ty Go.Proofs.Tryz.prog 100=⟨.arr 8 99,8,64⟩:=by kernel_rfl
@[go_sem] theorem zk100:zX Go.Proofs.Tryz.prog 100=true:=by kernel_rfl
@[go_sem] theorem tt100:zZ Go.Proofs.Tryz.prog 12 100=false:=by kernel_rfl
@[go_sem] theorem zc100:zO Go.Proofs.Tryz.prog 12 100= [.nilfn,.nilfn,.nilfn,.nilfn,.nilfn,.nilfn,.nilfn,.nilfn]:=by kernel_rfl
@[go_sem] theorem ty104:ty Go.Proofs.Tryz.prog 104=⟨.struct [(0,3),(1,3)],2,16⟩:=by kernel_rfl
@[go_sem] theorem zk104:zX Go.Proofs.Tryz.prog 104=true:=by kernel_rfl
@[go_sem] theorem tt104:zZ Go.Proofs.Tryz.prog 12 104=false:=by kernel_rfl
@[go_sem] theorem zc104:zO Go.Proofs.Tryz.prog 12 104= [.d (.int .i64 0),.d (.int .i64 0)]:=by kernel_rfl
@[go_sem] theorem si104:(Go.Proofs.Tryz.prog.stoodInHeld 104)=false:=by kernel_rfl
@[go_sem] theorem eg104:(Go.Proofs.Tryz.prog.eqGuardType Go.Proofs.Tryz.prog.depth 104)=false:=by kernel_rfl
@[go_sem] theorem ty118:ty Go.Proofs.Tryz.prog 118=⟨.func,1,8⟩:=by kernel_rfl
@[go_sem] theorem tt118:zZ Go.Proofs.Tryz.prog 12 118=false:=by kernel_rfl
@[go_sem] theorem ty119:ty Go.Proofs.Tryz.prog 119=⟨.arr 64 4,64,64⟩:=by kernel_rfl
@[go_sem] theorem ty121:ty Go.Proofs.Tryz.prog 121=⟨.struct [(0,9),(1,4),(2,119)],66,88⟩:=by kernel_rfl
@[go_sem] theorem zk121:zX Go.Proofs.Tryz.prog 121=true:=by kernel_rfl
@[go_sem] theorem tt121:zZ Go.Proofs.Tryz.prog 12 121=false:=by kernel_rfl
@[go_sem] theorem zc121:zO Go.Proofs.Tryz.prog 12 121= [.d (.str []),.d (.bool false)]++List.replicate 64 (.d (.bool false)):=by kernel_rfl
@[go_sem] theorem eg121:(Go.Proofs.Tryz.prog.eqGuardType Go.Proofs.Tryz.prog.depth 121)=false:=by kernel_rfl
@[go_sem] theorem ty128:ty Go.Proofs.Tryz.prog 128=⟨.struct [(0,23),(1,59)],2,48⟩:=by kernel_rfl
@[go_sem] theorem zk128:zX Go.Proofs.Tryz.prog 128=true:=by kernel_rfl
@[go_sem] theorem tt128:zZ Go.Proofs.Tryz.prog 12 128=false:=by kernel_rfl
@[go_sem] theorem zc128:zO Go.Proofs.Tryz.prog 12 128= [.nils 1,.nils 1]:=by kernel_rfl
@[go_sem] theorem ty133:ty Go.Proofs.Tryz.prog 133=⟨.struct [(0,3),(1,34)],2,16⟩:=by kernel_rfl
@[go_sem] theorem zk133:zX Go.Proofs.Tryz.prog 133=true:=by kernel_rfl
@[go_sem] theorem tt133:zZ Go.Proofs.Tryz.prog 12 133=false:=by kernel_rfl
@[go_sem] theorem zc133:zO Go.Proofs.Tryz.prog 12 133= [.d (.int .i64 0),.d (.int .u32 0)]:=by kernel_rfl
@[go_sem] theorem ty142:ty Go.Proofs.Tryz.prog 142=⟨.struct [(0,3),(1,9)],2,24⟩:=by kernel_rfl
@[go_sem] theorem zk142:zX Go.Proofs.Tryz.prog 142=true:=by kernel_rfl
@[go_sem] theorem tt142:zZ Go.Proofs.Tryz.prog 12 142=false:=by kernel_rfl
@[go_sem] theorem zc142:zO Go.Proofs.Tryz.prog 12 142= [.d (.int .i64 0),.d (.str [])]:=by kernel_rfl
@[go_sem] theorem si142:(Go.Proofs.Tryz.prog.stoodInHeld 142)=false:=by kernel_rfl
@[go_sem] theorem eg142:(Go.Proofs.Tryz.prog.eqGuardType Go.Proofs.Tryz.prog.depth 142)=false:=by kernel_rfl
@[go_sem] theorem ty148:ty Go.Proofs.Tryz.prog 148=⟨.int .u16,1,2⟩:=by kernel_rfl
@[go_sem] theorem zk148:zX Go.Proofs.Tryz.prog 148=true:=by kernel_rfl
@[go_sem] theorem zc148:zO Go.Proofs.Tryz.prog 12 148= [.d (.int .u16 0)]:=by kernel_rfl
@[go_sem] theorem ty151:ty Go.Proofs.Tryz.prog 151=⟨.func,1,8⟩:=by kernel_rfl
@[go_sem] theorem ty177:ty Go.Proofs.Tryz.prog 177=⟨.struct [(0,3),(1,3)],2,16⟩:=by kernel_rfl
@[go_sem] theorem zk177:zX Go.Proofs.Tryz.prog 177=true:=by kernel_rfl
@[go_sem] theorem tt177:zZ Go.Proofs.Tryz.prog 12 177=false:=by kernel_rfl
@[go_sem] theorem zc177:zO Go.Proofs.Tryz.prog 12 177= [.d (.int .i64 0),.d (.int .i64 0)]:=by kernel_rfl
@[go_sem] theorem si177:(Go.Proofs.Tryz.prog.stoodInHeld 177)=false:=by kernel_rfl
@[go_sem] theorem eg177:(Go.Proofs.Tryz.prog.eqGuardType Go.Proofs.Tryz.prog.depth 177)=false:=by kernel_rfl
@[go_sem] theorem ty181:ty Go.Proofs.Tryz.prog 181=⟨.slice 20,1,24⟩:=by kernel_rfl
@[go_sem] theorem ty211:ty Go.Proofs.Tryz.prog 211=⟨.slice 4,1,24⟩:=by kernel_rfl
@[go_sem] theorem ty225:ty Go.Proofs.Tryz.prog 225=⟨.ptr 227,1,8⟩:=by kernel_rfl
@[go_sem] theorem tt225:zZ Go.Proofs.Tryz.prog 12 225=false:=by kernel_rfl
@[go_sem] theorem ty227:ty Go.Proofs.Tryz.prog 227=⟨.struct [(0,33),(11,3),(12,3),(13,9),(14,133),(16,177),(18,128),(20,3),(21,9)],22,280⟩:=by kernel_rfl
@[go_sem] theorem zk227:zX Go.Proofs.Tryz.prog 227=true:=by kernel_rfl
@[go_sem] theorem tt227:zZ Go.Proofs.Tryz.prog 12 227=false:=by kernel_rfl
@[go_sem] theorem zc227:zO Go.Proofs.Tryz.prog 12 227= [.d (.str []),.nils 2,.d (.int .i64 0),.d (.bool false),.nils 1,.d (.int .i64 0),.d (.int .i64 0),.d (.int .u64 0),.d (.int .i64 0),.nils 66,.d (.bool false),.d (.int .i64 0),.d (.int .i64 0),.d (.str []),.d (.int .i64 0),.d (.int .u32 0),.d (.int .i64 0),.d (.int .i64 0),.nils 1,.nils 1,.d (.int .i64 0),.d (.str [])]:=by kernel_rfl
@[go_sem] theorem ty228:ty Go.Proofs.Tryz.prog 228=⟨.slice 99,1,24⟩:=by kernel_rfl
@[go_sem] theorem ty240:ty Go.Proofs.Tryz.prog 240=⟨.func,1,8⟩:=by kernel_rfl
@[go_sem] theorem zk240:zX Go.Proofs.Tryz.prog 240=true:=by kernel_rfl
@[go_sem] theorem zc240:zO Go.Proofs.Tryz.prog 12 240= [.nilfn]:=by kernel_rfl
@[go_sem] theorem ty253:ty Go.Proofs.Tryz.prog 253=⟨.arr 4 5,4,4⟩:=by kernel_rfl
@[go_sem] theorem zk253:zX Go.Proofs.Tryz.prog 253=true:=by kernel_rfl
@[go_sem] theorem tt253:zZ Go.Proofs.Tryz.prog 12 253=false:=by kernel_rfl
@[go_sem] theorem zc253:zO Go.Proofs.Tryz.prog 12 253= [.d (.int .u8 0),.d (.int .u8 0),.d (.int .u8 0),.d (.int .u8 0)]:=by kernel_rfl
@[go_sem] theorem ty272:ty Go.Proofs.Tryz.prog 272=⟨.ptr 274,1,8⟩:=by kernel_rfl
@[go_sem] theorem tt272:zZ Go.Proofs.Tryz.prog 12 272=false:=by kernel_rfl
@[go_sem] theorem ty274:ty Go.Proofs.Tryz.prog 274=⟨.struct [(0,128),(2,27),(4,25),(9,73)],10,152⟩:=by kernel_rfl
@[go_sem] theorem zk274:zX Go.Proofs.Tryz.prog 274=true:=by kernel_rfl
@[go_sem] theorem tt274:zZ Go.Proofs.Tryz.prog 12 274=false:=by kernel_rfl
@[go_sem] theorem zc274:zO Go.Proofs.Tryz.prog 12 274= [.nils 1,.nils 1,.d (.int .i64 0),.d (.int .i64 0),.d (.str []),.nils 2,.d (.int .i64 0),.d (.bool false),.nils 1,.d (.int .i64 0)]:=by kernel_rfl
@[go_sem] theorem ty282:ty Go.Proofs.Tryz.prog 282=⟨.struct [(0,25),(5,3)],6,88⟩:=by kernel_rfl
@[go_sem] theorem zk282:zX Go.Proofs.Tryz.prog 282=true:=by kernel_rfl
@[go_sem] theorem tt282:zZ Go.Proofs.Tryz.prog 12 282=false:=by kernel_rfl
@[go_sem] theorem zc282:zO Go.Proofs.Tryz.prog 12 282= [.d (.str []),.nils 2,.d (.int .i64 0),.d (.bool false),.nils 1,.d (.int .i64 0)]:=by kernel_rfl
@[go_sem] theorem ty286:ty Go.Proofs.Tryz.prog 286=⟨.struct [(0,121)],66,88⟩:=by kernel_rfl
@[go_sem] theorem zk286:zX Go.Proofs.Tryz.prog 286=true:=by kernel_rfl
@[go_sem] theorem tt286:zZ Go.Proofs.Tryz.prog 12 286=false:=by kernel_rfl
@[go_sem] theorem zc286:zO Go.Proofs.Tryz.prog 12 286= [.d (.str []),.d (.bool false)]++List.replicate 64 (.d (.bool false)):=by kernel_rfl
@[go_sem] theorem ty294:ty Go.Proofs.Tryz.prog 294=⟨.struct [(0,28),(1,128)],3,56⟩:=by kernel_rfl
@[go_sem] theorem zk294:zX Go.Proofs.Tryz.prog 294=true:=by kernel_rfl
@[go_sem] theorem tt294:zZ Go.Proofs.Tryz.prog 12 294=false:=by kernel_rfl
@[go_sem] theorem zc294:zO Go.Proofs.Tryz.prog 12 294= [.d (.int .u64 0),.nils 1,.nils 1]:=by kernel_rfl
@[go_sem] theorem ty306:ty Go.Proofs.Tryz.prog 306=⟨.bst [(0,297),(0,300),(1,304)],3,12⟩:=by kernel_rfl
@[go_sem] theorem ty307:ty Go.Proofs.Tryz.prog 307=⟨.arr 256 34,256,1024⟩:=by kernel_rfl
@[go_sem] theorem ty309:ty Go.Proofs.Tryz.prog 309=⟨.struct [(0,306),(3,307)],259,1036⟩:=by kernel_rfl
@[go_sem] theorem zk309:zX Go.Proofs.Tryz.prog 309=true:=by kernel_rfl
@[go_sem] theorem tt309:zZ Go.Proofs.Tryz.prog 12 309=false:=by kernel_rfl
@[go_sem] theorem zc309:zO Go.Proofs.Tryz.prog 12 309= [.d (.int .u32 0),.d (.int .i32 0),.d (.int .u32 0)]++List.replicate 256 (.d (.int .u32 0)):=by kernel_rfl
@[go_sem] theorem ty312:ty Go.Proofs.Tryz.prog 312=⟨.func,1,8⟩:=by kernel_rfl
@[go_sem] theorem tt312:zZ Go.Proofs.Tryz.prog 12 312=false:=by kernel_rfl
@[go_sem] theorem ty324:ty Go.Proofs.Tryz.prog 324=⟨.func,1,8⟩:=by kernel_rfl
@[go_sem] theorem tt324:zZ Go.Proofs.Tryz.prog 12 324=false:=by kernel_rfl
@[go_sem] theorem ty331:ty Go.Proofs.Tryz.prog 331=⟨.struct [(0,25),(5,73)],6,88⟩:=by kernel_rfl
@[go_sem] theorem zk331:zX Go.Proofs.Tryz.prog 331=true:=by kernel_rfl
@[go_sem] theorem tt331:zZ Go.Proofs.Tryz.prog 12 331=false:=by kernel_rfl
@[go_sem] theorem zc331:zO Go.Proofs.Tryz.prog 12 331= [.d (.str []),.nils 2,.d (.int .i64 0),.d (.bool false),.nils 1,.d (.int .i64 0)]:=by kernel_rfl
@[go_sem] theorem ty355:ty Go.Proofs.Tryz.prog 355=⟨.slice 240,1,24⟩:=by kernel_rfl
@[go_sem] theorem ty363:ty Go.Proofs.Tryz.prog 363=⟨.slice 128,1,24⟩:=by kernel_rfl
@[go_sem] theorem ty365:ty Go.Proofs.Tryz.prog 365=⟨.map 3 4,1,8⟩:=by kernel_rfl
@[go_sem] theorem zk365:zX Go.Proofs.Tryz.prog 365=true:=by kernel_rfl
@[go_sem] theorem tt365:zZ Go.Proofs.Tryz.prog 12 365=false:=by kernel_rfl
@[go_sem] theorem zc365:zO Go.Proofs.Tryz.prog 12 365= [.nilmap]:=by kernel_rfl
attribute [go_sem] Tryz.results0 Tryz.results1 Tryz.results2 Tryz.results3 Tryz.results4 Tryz.results5 Tryz.results6 Tryz.results7 Tryz.results8 Tryz.results9 Tryz.results10 Tryz.results11 Tryz.results12 Tryz.results13 Tryz.results14 Tryz.results15 Tryz.results16 Tryz.results17 Tryz.results18 Tryz.results19 Tryz.results20 Tryz.results21 Tryz.results22 Tryz.results23 Tryz.results24 Tryz.results25 Tryz.results26 Tryz.results27 Tryz.results28 Tryz.results29 Tryz.results30 Tryz.results31 Tryz.results32 Tryz.results33 Tryz.results34 Tryz.results35 Tryz.results36 Tryz.results37 Tryz.results38 Tryz.results39
attribute [go_sem] Tryz.results40 Tryz.results41 Tryz.results42 Tryz.results43 Tryz.results44 Tryz.results45 Tryz.results46 Tryz.results47 Tryz.results48 Tryz.results49 Tryz.results50 Tryz.results51 Tryz.results52 Tryz.results53 Tryz.results54 Tryz.results55 Tryz.results56 Tryz.results57 Tryz.results58 Tryz.results59 Tryz.results60 Tryz.results61 Tryz.results62 Tryz.results63 Tryz.results64 Tryz.results65 Tryz.results66 Tryz.results67 Tryz.results68 Tryz.results69 Tryz.results70 Tryz.results71 Tryz.results72 Tryz.results73 Tryz.results74 Tryz.results75 Tryz.results76 Tryz.results77 Tryz.results78 Tryz.results79
attribute [go_sem] Tryz.results80 Tryz.results81 Tryz.results82 Tryz.results83 Tryz.results84 Tryz.results85 Tryz.results86 Tryz.results87 Tryz.results88 Tryz.results89 Tryz.results90 Tryz.results91 Tryz.results92 Tryz.results93 Tryz.results94 Tryz.results95 Tryz.results96 Tryz.results97 Tryz.results98 Tryz.results99 Tryz.results100 Tryz.results101 Tryz.results102 Tryz.results103 Tryz.results104 Tryz.results105 Tryz.results106 Tryz.results107 Tryz.results108 Tryz.results109 Tryz.results110 Tryz.results111 Tryz.results112 Tryz.results113 Tryz.results114 Tryz.results115 Tryz.results116 Tryz.results117 Tryz.results118 Tryz.results119
attribute [go_sem] Tryz.results120 Tryz.results121 Tryz.results122 Tryz.results123 Tryz.results124 Tryz.results125 Tryz.results126 Tryz.results127 Tryz.results128 Tryz.results129 Tryz.results130 Tryz.results131 Tryz.results132 Tryz.results133 Tryz.results134 Tryz.results135 Tryz.results136 Tryz.results137 Tryz.results138 Tryz.results139 Tryz.results140 Tryz.results141 Tryz.results142 Tryz.results143 Tryz.results144 Tryz.results145 Tryz.results146 Tryz.results147 Tryz.results148 Tryz.results149 Tryz.results150 Tryz.results151 Tryz.results152 Tryz.results153 Tryz.results154 Tryz.results155 Tryz.results156 Tryz.results157 Tryz.results158 Tryz.results159
attribute [go_sem] Tryz.results160 Tryz.results161 Tryz.results162 Tryz.results163 Tryz.results164 Tryz.results165 Tryz.results166 Tryz.results167 Tryz.results168 Tryz.results169 Tryz.results170 Tryz.results171 Tryz.results172 Tryz.results173 Tryz.results174 Tryz.results175 Tryz.results176 Tryz.results177 Tryz.results178 Tryz.results179 Tryz.results180 Tryz.results181 Tryz.results182 Tryz.results183 Tryz.results184 Tryz.results185 Tryz.results186 Tryz.results187 Tryz.results188 Tryz.results189 Tryz.results190 Tryz.results191 Tryz.results192 Tryz.results193 Tryz.results194 Tryz.results195 Tryz.results196 Tryz.results197 Tryz.results198 Tryz.results199
attribute [go_sem] Tryz.results200 Tryz.results201 Tryz.results202 Tryz.results203 Tryz.results204 Tryz.results205 Tryz.results206 Tryz.results207 Tryz.results208 Tryz.results209 Tryz.results210 Tryz.results211 Tryz.results212 Tryz.results213 Tryz.results214 Tryz.results215 Tryz.results216 Tryz.results217 Tryz.results218 Tryz.results219 Tryz.results220 Tryz.results221 Tryz.results222 Tryz.results223 Tryz.results224 Tryz.results225 Tryz.results226 Tryz.results227 Tryz.results228 Tryz.results229 Tryz.results230 Tryz.results231 Tryz.results232 Tryz.results233 Tryz.results234 Tryz.results235 Tryz.results236 Tryz.results237 Tryz.results238 Tryz.results239
attribute [go_sem] Tryz.results240 Tryz.results241 Tryz.results242 Tryz.results243 Tryz.results244 Tryz.results245 Tryz.results246 Tryz.results247 Tryz.results248 Tryz.results249 Tryz.results250 Tryz.results251 Tryz.results252 Tryz.results253 Tryz.results254 Tryz.results255 Tryz.results256 Tryz.results257 Tryz.results258 Tryz.results259 Tryz.results260 Tryz.results261 Tryz.results262 Tryz.results263 Tryz.results264 Tryz.results265 Tryz.results266 Tryz.results267 Tryz.results268 Tryz.results269 Tryz.results270 Tryz.results271 Tryz.results272 Tryz.results273 Tryz.results274 Tryz.results275 Tryz.results276 Tryz.results277 Tryz.results278 Tryz.results279
attribute [go_sem] Tryz.results280 Tryz.results281 Tryz.results282 Tryz.results283 Tryz.results284 Tryz.results285 Tryz.results286 Tryz.results287 Tryz.results288 Tryz.results289 Tryz.results290 Tryz.results291 Tryz.results292 Tryz.results293 Tryz.results294 Tryz.results295 Tryz.results296 Tryz.results297 Tryz.results298 Tryz.results299 Tryz.results300 Tryz.results301 Tryz.results302 Tryz.results303 Tryz.results304 Tryz.results305 Tryz.results306 Tryz.results307 Tryz.results308 Tryz.results309 Tryz.results310 Tryz.results311 Tryz.results312 Tryz.results313 Tryz.results314 Tryz.results315 Tryz.results316 Tryz.results317 Tryz.results318 Tryz.results319
attribute [go_sem] Tryz.results320 Tryz.results321 Tryz.results322 Tryz.results323 Tryz.results324 Tryz.results325 Tryz.results326 Tryz.results327 Tryz.results328 Tryz.results329 Tryz.results330
abbrev AC (f:FuncId) (args:List AV) (r:AV):Prop:=ACall Go.Proofs.Tryz.prog f 0 args [] fun v _=>v=r
theorem mx:Go.Proofs.Tryz.prog.follows .mixedOrders=true:=by kernel_rfl
end Go.Aw
namespace Go.Proofs
open Go.Shelf
def Tryz.lays99_ren:Go.Shelf.Ren:=⟨fun|99=>141|206=>179|n=>n,fun|9=>9|4=>4|3=>3|n=>n,fun|n=>n⟩
theorem Tryz.lays99:Go.Proofs.Lays.n99 Tryz.prog Tryz.lays99_ren:= {
 mixed:=by kernel_rfl
 f99:=Tryz.func141.trans (congrArg some (by kernel_rfl))
 f206:=Tryz.func179.trans (congrArg some (by kernel_rfl))
 t3:=Tryz.underlying3
 a3:=Tryz.isAgg3
 z3:=Tryz.sizeOf3
 v3:=Tryz.zeroValue3
 t4:=Tryz.underlying4
 a4:=Tryz.isAgg4
 z4:=Tryz.sizeOf4
 v4:=Tryz.zeroValue4
 t9:=Tryz.underlying9
 a9:=Tryz.isAgg9
 z9:=Tryz.sizeOf9
 v9:=Tryz.zeroValue9 }
open Go.RowKit Go.Lib in
theorem Tryz.strings_HasPrefix (s p:ByteArray) (w:World):
  Calls Tryz.prog 141 #[.string s,.string p] w fun e w'=>e= .returned (.bool (Lib.hasPrefix s.data.toList p.data.toList))∧w'=w:=Any.strings_HasPrefix Tryz.lays99 s p w
def Tryz.lays105_ren:Go.Shelf.Ren:=⟨fun|105=>121|212=>160|99=>141|165=>161|166=>35|170=>162|169=>36|263=>194|264=>195|206=>179|240=>79|241=>196|276=>113|277=>224|n=>n,fun|9=>9|3=>3|4=>4|20=>20|0=>0|46=>209|109=>231|5=>5|72=>85|76=>89|51=>34|146=>268|53=>28|148=>270|70=>82|37=>83|75=>88|127=>145|164=>182|80=>91|n=>n,fun|n=>n⟩
theorem Tryz.lays105:Go.Proofs.Lays.n105 Tryz.prog Tryz.lays105_ren:= {
 mixed:=by kernel_rfl
 f99:=Tryz.func141.trans (congrArg some (by kernel_rfl))
 f105:=Tryz.func121.trans (congrArg some (by kernel_rfl))
 f165:=Tryz.func161.trans (congrArg some (by kernel_rfl))
 f166:=Tryz.func35.trans (congrArg some (by kernel_rfl))
 f169:=Tryz.func36.trans (congrArg some (by kernel_rfl))
 f170:=Tryz.func162.trans (congrArg some (by kernel_rfl))
 f206:=Tryz.func179.trans (congrArg some (by kernel_rfl))
 f212:=Tryz.func160.trans (congrArg some (by kernel_rfl))
 f240:=Tryz.func79.trans (congrArg some (by kernel_rfl))
 f241:=Tryz.func196.trans (congrArg some (by kernel_rfl))
 f263:=Tryz.func194.trans (congrArg some (by kernel_rfl))
 f264:=Tryz.func195.trans (congrArg some (by kernel_rfl))
 f276:=Tryz.func113.trans (congrArg some (by kernel_rfl))
 f277:=Tryz.func224.trans (congrArg some (by kernel_rfl))
 t0:=Tryz.underlying0
 a0:=Tryz.isAgg0
 z0:=Tryz.sizeOf0
 v0:=Tryz.zeroValue0
 t3:=Tryz.underlying3
 a3:=Tryz.isAgg3
 z3:=Tryz.sizeOf3
 v3:=Tryz.zeroValue3
 t4:=Tryz.underlying4
 a4:=Tryz.isAgg4
 z4:=Tryz.sizeOf4
 v4:=Tryz.zeroValue4
 t5:=Tryz.underlying5
 a5:=Tryz.isAgg5
 z5:=Tryz.sizeOf5
 v5:=Tryz.zeroValue5
 t9:=Tryz.underlying9
 a9:=Tryz.isAgg9
 z9:=Tryz.sizeOf9
 v9:=Tryz.zeroValue9
 t20:=Tryz.underlying20
 a20:=Tryz.isAgg20
 z20:=Tryz.sizeOf20
 v20:=Tryz.zeroValue20
 t37:=Tryz.underlying83
 a37:=Tryz.isAgg83
 z37:=Tryz.sizeOf83
 v37:=Tryz.zeroValue83
 t46:=Tryz.underlying209
 a46:=Tryz.isAgg209
 z46:=Tryz.sizeOf209
 v46:=Tryz.zeroValue209
 t51:=Tryz.underlying34
 a51:=Tryz.isAgg34
 z51:=Tryz.sizeOf34
 v51:=Tryz.zeroValue34
 t53:=Tryz.underlying28
 a53:=Tryz.isAgg28
 z53:=Tryz.sizeOf28
 v53:=Tryz.zeroValue28
 t70:=Tryz.underlying82
 a70:=Tryz.isAgg82
 z70:=Tryz.sizeOf82
 v70:=Tryz.zeroValue82
 t72:=Tryz.underlying85
 a72:=Tryz.isAgg85
 z72:=Tryz.sizeOf85
 v72:=Tryz.zeroValue85
 t75:=Tryz.underlying88
 a75:=Tryz.isAgg88
 z75:=Tryz.sizeOf88
 v75:=Tryz.zeroValue88
 t76:=Tryz.underlying89
 a76:=Tryz.isAgg89
 z76:=Tryz.sizeOf89
 v76:=Tryz.zeroValue89
 t109:=Tryz.underlying231
 a109:=Tryz.isAgg231
 z109:=Tryz.sizeOf231
 v109:=Tryz.zeroValue231
 t127:=Tryz.underlying145
 a127:=Tryz.isAgg145
 z127:=Tryz.sizeOf145
 v127:=Tryz.zeroValue145
 t146:=Tryz.underlying268
 a146:=Tryz.isAgg268
 z146:=Tryz.sizeOf268
 v146:=Tryz.zeroValue268
 t148:=Tryz.underlying270
 a148:=Tryz.isAgg270
 z148:=Tryz.sizeOf270
 v148:=Tryz.zeroValue270
 t164:=Tryz.underlying182
 a164:=Tryz.isAgg182
 z164:=Tryz.sizeOf182
 v164:=Tryz.zeroValue182 }
theorem Tryz.Builder_Extra_105:Builder.Extra Tryz.prog Tryz.lays105_ren:= {
 sizeBuilder:=by kernel_rfl
 liesBuilder:=by kernel_rfl
 t5:=Tryz.underlying5
 a5:=Tryz.isAgg5
 z5:=Tryz.sizeOf5
 v5:=Tryz.zeroValue5
 infoByte:=by kernel_rfl
 cellsByte:=by kernel_rfl
 sizeByte:=by kernel_rfl
 neB5:=by decide }
open Go.RowKit Go.Lib in
theorem Tryz.strings_Repeat (s:ByteArray) (c:Nat) (w:World) (hc:c≤9223372036854775807) (hlen:s.size*c≤140737488355328):
  Calls Tryz.prog 121 #[.string s,.int .i64 c] w fun e w'=>e= .returned (.string ⟨(Lib.repeatL s.data.toList c).toArray⟩)∧Below w.heap.size w w':=Any.strings_Repeat Tryz.lays105 Tryz.Builder_Extra_105 s c w hc hlen
end Go.Proofs
