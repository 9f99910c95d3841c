/-
 Parts of the proof: lemmas.
-/
import Derived.Test.YtgldbfelccddbaaGreatBeg6
import Derived.Test.YtgldbfelccddbaaGreatProg
import Derived.KernelRfl
import Derived.CallsIn
import Derived.ChangeAlike
import Derived.ChangeKeysEq
import Derived.ChangeSame
import Derived.Defers
import Derived.Laws.AppendOwn
import Derived.Laws.BytesArg
import Derived.Laws.Cells
import Derived.Laws.Externs
import Derived.Laws.IdiomStrings
import Derived.Laws.LoneSync
import Derived.Laws.Pointers
import Derived.Laws.RangeAny
import Derived.Laws.RangeString
import Derived.Laws.StructEq
import Derived.Lib.AppendStr
import Derived.Lib.Builder
import Derived.Lib.MakeNoZero
import Derived.Lib.Slices
import Derived.Lib.Strings
import Derived.Lib.UnsafeStr
import Derived.OpenShut
import Derived.OrdersIn
import Derived.ProofKit
import Derived.RangeFuncRecord
import Derived.Recover
import Derived.RegionCalls
import Derived.RegionTactic
import Derived.ScopeJumps
import Derived.Shelf.Small.Strs
import Derived.Shelf.Strings.Prefix
import Derived.Shelf.Strings.Repeat
import Derived.SizedLaws
import Derived.Sort.AssemblyPlain
import Derived.Tactics
import Derived.Tactics2
import Derived.WalkKit
import GoSem.Dispatch
set_option maxRecDepth 100000
set_option maxHeartbeats 2000000
set_option linter.unusedSimpArgs false
set_option linter.unusedVariables false
namespace Go.Aw
open Go
def never:AHeap:= [(0,.var [.vp 1 0])]
theorem zhj {cx:Cx} {E:Env} {s:AS} {a:Act} {w:World} (hs:Sat cx E s a w) (h:s.h=never):False:=by
 have:=hs.hp.heap 0 (.var [.vp 1 0]) (by rw [h];simp [never,hget])
 simp only [RepObj,Reps,Rep] at this
 obtain ⟨b,c,T,fz,_,_,⟨v,r,_,⟨b2,cs,h2,_⟩,_⟩,_⟩:=this
 rw [h] at h2
 simp [never,hget] at h2
theorem zjq {cx:Cx} {c:Code} {Q:Exit→AS→Prop} {t:List (Nat×(Bool×AV))} {g:Option (List (List AV))} :AW cx c Q ⟨t,never,g⟩:=
 fun E a w hs=>(zhj hs rfl).elim
theorem zkl {cx:Cx} {c:Code} {Q:Exit→AS→Prop} {s:AS} (h:AW cx c (fun e s=>Q e s∨s.h=never) s):AW cx c Q s:=by
 intro E a w hs
 refine wpIn_mono (h E a w hs) ?_
 rintro e a1 w1 ⟨E1,s1,hq,hs1,he⟩
 rcases hq with hq|hq
 ·exact ⟨E1,s1,hq,hs1,he⟩
 ·exact (zhj hs1 hq).elim
open Classical in
theorem zhk {cx:Cx} {s:AS} {Q:Exit→AS→Prop} {g:Operand} {ps:Array Tmp} {assign body:Code} {f:FuncId} {fs caps:List AV} (fl:Nat) {items:List (List AV)} (Good:List (List AV)→Prop) (I:List (List AV)→AHeap×Option (List (List AV))) (J:Code→AHeap→Option (List (List AV))→Prop)
  (hit:AIter cx.P f fl fs caps [] items (fun g h'=>(∀xs,g=some xs→xs=items)∧h'= [])) (hg:s.ev g=(true,.fn (.func f) fs caps)) (hro:cx.lone=true)
  (hfl:∀i,(hget s.h i).isSome→i<fl) (hfc:cx.fl≤fl) (hids:AV.idsL fs++AV.idsL caps= [])
  (hG0:Good []) (hI:leH s.h (I []).1) (hIn:inH (I []).1 (idsH (I []).1)) (hIg:(I []).2=s.g)
  (hlen:∀x∈items,x.length=ps.size) (hps:∀t∈ps.toList,t<cx.nt)
  (hround:∀xs x,(xs++ [x])<+:items→Good xs→∀ (l:Nat) (r1:Rnd cx),AW (cx.inR l fl r1) assign (AsgK fun s1=>∀r2:Rnd cx,AW (cx.inR l fl r2) body (zh (fun h' g'=>Good (xs++ [x])∧leH h' (I (xs++ [x])).1∧inH (I (xs++ [x])).1 (idsH (I (xs++ [x])).1)∧g'=(I (xs++ [x])).2) J) s1)
   { t:=zaX ps.toList x (keepT (I xs).1 s.t),h:=(I xs).1,g:=(I xs).2 })
  (hdone:Good items→Q .normal { t:=keepT (I items).1 s.t,h:=(I items).1,g:=(I items).2 })
  (hstop:∀c h3 g3,J c h3 g3→AW cx c Q { t:=keepT h3 s.t,h:=h3,g:=g3 }):
  AW cx (.rangeFunc g ps assign body) Q s:=by
 refine zkl (zlH fl (fun xs=>if Good xs then I xs else (never,none)) J hit hg hro hfl hfc hids ?_ ?_ ?_ hlen hps ?_ ?_ ?_)
 ·simp only [if_pos hG0];exact hI
 ·simp only [if_pos hG0];exact hIn
 ·simp only [if_pos hG0];exact hIg
 ·intro xs x hp l r1
  by_cases hgd:Good xs
  ·simp only [if_pos hgd]
   refine (hround xs x hp hgd l r1).mono ?_
   intro e s1 h1
   cases e with
   | normal=>
    intro r2
    refine (h1 r2).mono ?_
    intro e2 s2 h2
    cases e2 with
    |normal=>
     obtain ⟨g1,g2,g3,g4⟩:=h2
     simp only [zh,if_pos g1]
     exact ⟨g2,g3,g4⟩
    |_=>exact h2
   |_=>exact h1
  ·simp only [if_neg hgd]
   exact zjq
 ·by_cases hgd:Good items
  ·simp only [if_pos hgd];exact .inl (hdone hgd)
  ·simp only [if_neg hgd];exact .inr trivial
 ·intro c h3 g3 hj
  exact (hstop c h3 g3 hj).mono fun e s h=> .inl h
theorem zkm {cx:Cx} {E:Env} {s:AS} {a:Act} {w:World} (hs:Sat cx E s a w) (h:hget s.h 0=some (.var [.vp 1 0])∧hget s.h 1=none):False:=by
 have:=hs.hp.heap 0 (.var [.vp 1 0]) h.1
 simp only [RepObj,Reps,Rep] at this
 obtain ⟨b,c,T,fz,_,_,⟨v,r,_,⟨b2,cs,h2,_⟩,_⟩,_⟩:=this
 rw [h.2] at h2
 cases h2
open Classical in
theorem zeJ {cx:Cx} {s:AS} {Q:Exit→AS→Prop} {g:Operand} {ps:Array Tmp} {assign body:Code} {f:FuncId} {fs caps:List AV} (fl nm:Nat) (hnm:2≤nm) {items:List (List AV)} (Good:List (List AV)→Prop) (I:List (List AV)→AHeap×Option (List (List AV))) (J:Code→AHeap→Option (List (List AV))→Prop)
  (hit:AIter cx.P f fl fs caps (hsel (fun i=>i==nm) s.h) items (fun g h'=>(∀xs,g=some xs→xs=items)∧∃u,h'= [(nm,.var [u])])) (hg:s.ev g=(true,.fn (.func f) fs caps)) (hro:cx.lone=true)
  (hfl:∀i,(hget s.h i).isSome→i<fl) (hfc:cx.fl≤fl) (hcl:inH (hsel (fun i=>i==nm) s.h) (idsH (hsel (fun i=>i==nm) s.h))) (hids:(AV.idsL fs++AV.idsL caps).all (fun i=>i==nm)=true)
  (hG0:Good []) (hI:leH (hsel (fun i=> !(i==nm)) s.h) (I []).1) (hIn:inH (I []).1 (idsH (I []).1)) (hIg:(I []).2=s.g)
  (hnames:∀xs,hget (I xs).1 nm=none) (hJ:∀c h3 g3,J c h3 g3→hget h3 nm=none)
  (hlen:∀x∈items,x.length=ps.size) (hps:∀t∈ps.toList,t<cx.nt)
  (hround:∀xs x,(xs++ [x])<+:items→Good xs→∀ (l:Nat) (r1:Rnd cx),AW (cx.inR l fl r1) assign (AsgK fun s1=>∀r2:Rnd cx,AW (cx.inR l fl r2) body (zh (fun h' g'=>Good (xs++ [x])∧leH h' (I (xs++ [x])).1∧inH (I (xs++ [x])).1 (idsH (I (xs++ [x])).1)∧g'=(I (xs++ [x])).2) J) s1)
   { t:=zaX ps.toList x (keepT (I xs).1 s.t),h:=(I xs).1,g:=(I xs).2 })
  (hdone:∀u,Good items→Q .normal { t:=keepT ((nm,.var [u])::(I items).1) s.t,h:=(nm,.var [u])::(I items).1,g:=(I items).2 })
  (hstop:∀c u h3 g3,J c h3 g3→AW cx c Q { t:=keepT ((nm,.var [u])::h3) s.t,h:=(nm,.var [u])::h3,g:=g3 }):
  AW cx (.rangeFunc g ps assign body) Q s:=by
 have un:∀ {c:Code} {s:AS},AW cx c (fun e s=>Q e s∨(hget s.h 0=some (.var [.vp 1 0])∧hget s.h 1=none)) s→AW cx c Q s:=by
  intro c s h E a w hs
  refine wpIn_mono (h E a w hs) ?_
  rintro e a1 w1 ⟨E1,s1,hq,hs1,he⟩
  rcases hq with hq|hq
  ·exact ⟨E1,s1,hq,hs1,he⟩
  ·exact (zkm hs1 hq).elim
 have hone:∀ (h:AHeap),hget h nm=none→∀i,(hget h i).isSome→(i==nm)=false:=fun h hn i hi=>by
  rw [beq_eq_false_iff_ne]
  rintro rfl
  rw [hn] at hi
  cases hi
 refine un (zdV (Kit:=fun g h'=>(∀xs,g=some xs→xs=items)∧∃u,h'= [(nm,.var [u])]) (fun i=>i==nm) (fun xs=>if Good xs then I xs else (never,none)) J hro hg hit hfl hfc (fun i o ho hp j hj=>by
  have h1:hget (hsel (fun i=>i==nm) s.h) i=some o:=by rw [zk,if_pos hp];exact ho
  have h2:=zb0 hcl j (zcY h1 j hj)
  rw [zk] at h2
  split at h2
  ·assumption
  ·simp at h2) (fun j hj=>List.all_eq_true.1 hids j hj) ?_ ?_ ?_ ?_ (fun c h3 g3 h=>hone h3 (hJ c h3 g3 h)) ?_ hlen hps ?_ ?_ ?_)
 ·simp only [if_pos hG0];exact hI
 ·simp only [if_pos hG0];exact hIn
 ·simp only [if_pos hG0];exact hIg
 ·intro xs _ i hi
  by_cases hgd:Good xs
  ·simp only [if_pos hgd] at hi
   exact hone _ (hnames xs) i hi
  ·simp only [if_neg hgd,never,hget] at hi
   rw [beq_eq_false_iff_ne]
   rintro rfl
   rw [if_neg (by omega)] at hi
   cases hi
 ·rintro g h' ⟨h1,u,rfl⟩
  refine ⟨fun i hi=>?_,h1⟩
  simp only [hget] at hi
  split at hi
  ·rename_i e
   rw [← e]
   exact beq_self_eq_true _
  ·cases hi
 ·intro xs x hp l r1
  by_cases hgd:Good xs
  ·simp only [if_pos hgd]
   refine (hround xs x hp hgd l r1).mono ?_
   intro e s1 h1
   cases e with
   | normal=>
    intro r2
    refine (h1 r2).mono ?_
    intro e2 s2 h2
    cases e2 with
    |normal=>
     obtain ⟨g1,g2,g3,g4⟩:=h2
     simp only [zh,if_pos g1]
     exact ⟨g2,g3,g4⟩
    |_=>exact h2
   |_=>exact h1
  ·simp only [if_neg hgd]
   exact zjq
 ·rintro h1 ⟨_,u,rfl⟩
  by_cases hgd:Good items
  ·simp only [if_pos hgd];exact .inl (hdone u hgd)
  ·simp only [if_neg hgd]
   refine .inr ⟨?_,?_⟩<;>simp only [List.singleton_append,never,hget]<;>rw [if_neg (by omega)]<;>rfl
 ·rintro c h1 h3 g3 ⟨_,u,rfl⟩ hj
  exact (hstop c u h3 g3 hj).mono fun e s h=> .inl h
theorem zeK {α β:Type} {g:α→β} {xs:List β} {x:β} {l:List α} (h:(xs++ [x])<+:l.map g):∃ys q zs,xs=ys.map g∧x=g q∧l=ys++q::zs:=by
 obtain ⟨r,hr⟩:=h
 rw [List.append_assoc,List.singleton_append] at hr
 obtain ⟨ys,zs,hl,h1,h2⟩:=List.map_eq_append_iff.1 hr.symm
 obtain ⟨q,zs',hz,h3,h4⟩:=List.map_eq_cons_iff.1 h2
 exact ⟨ys,q,zs',h1.symm,h3.symm,by rw [hl,hz]⟩
theorem zlP {cx:Cx} {c:Code} {Q:Exit→AS→Prop} {s:AS} (h:AW cx c (fun e s=>Q e { t:= [],h:= [],g:=s.g }) s):AW cx c Q s:=by
 intro E a w hs
 refine wpIn_mono (h E a w hs) ?_
 rintro e a1 w1 ⟨E1,s1,hq,hs1,he⟩
 have hno:∀b,¬Own E1 [] b:=fun b ⟨i,hi,_⟩=>by simp [hget] at hi
 refine ⟨E1, { t:= [],h:= [],g:=s1.g },hq,⟨fun k g v hk=>by simp [lk] at hk,hs1.nt,⟨fun i o ho=>by simp [hget] at ho,fun i j b hi=>by simp [hget] at hi,fun b hb=>absurd hb (hno b),hs1.hp.mlt,hs1.hp.nlt⟩,hs1.base,hs1.marks,?_⟩,
  ⟨he.os,he.tape,he.output,he.size,he.keep,fun b hb=>absurd hb (hno b),he.m1,he.m2,he.n,fun i _ h=>by simp [hget] at h⟩⟩
 exact cx.stab _ _ _ _ _ w1 _ (fun _ _ _=>rfl) (fun b hb=> .inl (hb.elim (fun h=>absurd h (hno b)) .inr)) (fun b hb=>hb.elim (fun h=>absurd h (hno b)) hs1.marks.lt) (Nat.le_refl _) rfl rfl rfl hs1.ghost
open Go
def zbO (v:AV):AV:=if v.scal=true then v else .any
def zstep (cx:Cx) (o:Oper) (s f:AS) (K:AS→AS→Prop):Prop:=
 dstOk cx.nt o.dst∧o.guard=none∧
 match o.op with
 | .move x=>known s x=true∧(s.ev x).1=true∧K (s.put o.dst true ((s.ev x).2.tag cx.P o.type)) (f.put o.dst true (zbO ((s.ev x).2.tag cx.P o.type)))
 | .assign x=>known s x=true∧(s.ev x).1=true∧K (s.put o.dst true ((s.ev x).2.tag cx.P o.type)) (f.put o.dst true (zbO ((s.ev x).2.tag cx.P o.type)))
 | .call c=>isVal cx.P (.call c)=true∧(aval cx.P f (.call c)).1∧K (s.put o.dst true (zbO (aval cx.P f (.call c)).2)) (f.put o.dst true (aval cx.P f (.call c)).2)
 | .load t x=>isVal cx.P (.load t x)=true∧(aval cx.P f (.load t x)).1∧K (s.put o.dst true .any) (f.put o.dst true (aval cx.P f (.load t x)).2)
 |op=>isVal cx.P op=true∧(aval cx.P f op).1∧K (s.put o.dst true (zbO (aval cx.P f op).2)) (f.put o.dst true (aval cx.P f op).2)
def zfG (cx:Cx):List Oper→AS→AS→(AS→Prop)→Prop
 | [],s,_,K=>K s
 |o::r,s,f,K=>zstep cx o s f (fun s' f'=>zfG cx r s' f' K)
section
variable {cx : Cx} {tab : Tab} {E F : Env} {s f : AS} {a : Act} {w : World}
theorem zho {W W':World} {E E':Env} {h h':AHeap} {v:AV} {x:Value} (hr:Rep W E h v x):Rep W' E' h' (zbO v) x:=by
 unfold zbO
 split
 ·rename_i hs;exact Rep.scal v x hs hr
 ·simp only [Rep]
theorem zhp {d:Option Nat} {v:AV} {x:Value} (hs:Slots w F f a) (hsz:∀k,d=some k→k<a.tmps.size) (hv:Rep w F f.h v x):Slots w F (f.put d true v) (a.put d x):=by
 cases d with
 |none=>exact hs
 | some d=>
  intro k g u hk
  have hd:=hsz d rfl
  rw [zlF] at hk
  have hh:(f.put (some d) true v).h=f.h:=rfl
  rw [hh]
  split at hk
  ·rename_i e
   simp only [Option.some.injEq] at e
   subst e
   simp only [Option.some.injEq,Prod.mk.injEq] at hk
   obtain ⟨rfl,rfl⟩:=hk
   refine ⟨x,?_,fun _=>hv,fun e=>by cases e⟩
   simp [Act.put,hd]
  ·rename_i e
   have e:¬d=k:=fun h=>e (by rw [h])
   obtain ⟨y,h1,h2,h3⟩:=hs k g u hk
   refine ⟨y,?_,h2,h3⟩
   simpa [Act.put,Array.getElem?_setIfInBounds_ne e] using h1
theorem znQ {o:Oper} {K:AS→AS→Prop} {Q:Exit→Act→World→Prop} {next:Act→World→Prop} (hs:Sat cx E s a w) (hp:SatH F f.h w) (hf:Slots w F f a) (h:zstep cx o s f K)
  (hn:∀s' f' a',Sat cx E s' a' w→SatH F f'.h w→Slots w F f' a'→s'.h=s.h→K s' f'→next a' w):o.wpIn cx.F 0 cx.P a w next Q:=by
 obtain ⟨hd,hg,h⟩:=h
 have hdst:∀k,o.dst=some k→k<cx.nt:=fun k e=>by rw [e] at hd;exact hd
 have hdst':∀k,o.dst=some k→k<a.tmps.size:=fun k e=>by rw [hs.nt];exact hdst k e
 have hputh:∀ (u:AS) (v:AV),(u.put o.dst true v).h=u.h:=fun u v=>by unfold AS.put;cases o.dst<;>rfl
 have hval:∀u:AV,(u= .any∨u=zbO (aval cx.P f o.op).2)→isVal cx.P o.op=true→(aval cx.P f o.op).1→K (s.put o.dst true u) (f.put o.dst true (aval cx.P f o.op).2)→o.wpIn cx.F 0 cx.P a w next Q:=by
  intro u hu h0 h1 h2
  obtain ⟨v,hv,hr⟩:=zic hp hf o h1
  refine Does.wpIn (zeu h0) (R:=fun v' w'=>v'=v∧w'=w) (.inl ⟨v,w,hv,rfl,rfl⟩) ?_
  rintro v' w' ⟨rfl,rfl⟩
  refine hn _ _ _ (hs.put hdst (fun _=>?_) (fun e=>by cases e)) (by rw [hputh];exact hp) (zhp hf hdst' hr) (hputh _ _) h2
  rcases hu with rfl|rfl
  ·simp only [Rep]
  ·exact zho hr
 have hmove:∀x,(execOp a.eval o=pure (.value (a.eval x)))→(∀c,o.op≠ .defer c)→(s.ev x).1=true→K (s.put o.dst true ((s.ev x).2.tag cx.P o.type)) (f.put o.dst true (zbO ((s.ev x).2.tag cx.P o.type)))→o.wpIn cx.F 0 cx.P a w next Q:=by
  intro x he h3 h1 h2
  refine Does.wpIn h3 (R:=fun v' w'=>v'=a.eval x∧w'=w) (.inl ⟨a.eval x,w,by rw [he];rfl,rfl,rfl⟩) ?_
  rintro v' w' ⟨rfl,rfl⟩
  have hr:=Rep.tag (P:=cx.P) (t:=o.type) (ev_ok hs.slots x h1)
  exact hn _ _ _ (hs.put hdst (fun _=>hr) (fun e=>by cases e)) (by rw [hputh];exact hp) (zhp hf hdst' (zho hr)) (hputh _ _) h2
 obtain ⟨dst,op,ot,pos,after,guard⟩:=o
 dsimp only at h hval hmove
 split at h
 ·exact hmove _ rfl (by simp) h.2.1 h.2.2
 ·exact hmove _ rfl (by simp) h.2.1 h.2.2
 ·exact hval _ (.inr rfl) h.1 h.2.1 h.2.2
 ·exact hval _ (.inl rfl) h.1 h.2.1 h.2.2
 ·exact hval _ (.inr rfl) h.1 h.2.1 h.2.2
theorem zhq (ht:TabOk cx.P tab) {all:Array Oper} :∀ (l:List Nat) (pre rest:List Oper) {K:AS→Prop} {s f:AS} {a:Act},l.map (all[·]?)=(pre++rest).map some→Sat cx E s a w→SatH F f.h w→Slots w F f a→zfG cx pre s f (fun s'=>aopsY cx tab all rest K s')→
  wpOpsIn cx.F 0 cx.P all (fun e a' w'=>e= .normal∧Reach cx E s.h w K a' w') l a w
 |l,[],rest,K,s,f,a,hl,hs,_,_,h=>zeb ht l rest (by simpa using hl) hs h
 | [],o::pre,rest,K,s,f,a,hl,hs,_,_,h=>by simp at hl
 | i::l,o::pre,rest,K,s,f,a,hl,hs,hp,hf,h=>by
  simp only [List.cons_append,List.map_cons,List.cons.injEq] at hl
  obtain ⟨hi,hl⟩:=hl
  simp only [zfG] at h
  simp only [wpOpsIn,hi]
  have hw:Region.wanted o (yielded all a.tmps)=true:=by
   unfold Region.wanted
   rw [h.2.1]
  rw [if_pos hw]
  refine znQ hs hp hf h ?_
  intro s' f' a' hs' hp' hf' he hK
  have:=zhq ht l pre rest hl hs' hp' hf' hK
  rw [he] at this
  exact this
theorem zkq {β:Type} {id:Nat} {ops:Array Oper} {Q:Exit→AS→Prop} (tab:Tab) (ht:TabOk cx.P tab) (pre rest:List Oper) (hsp:ops.toList=pre++rest) (f:β→AS)
  (hS:∀g M N A w,cx.G g M N A w→∃F b,SatH F (f b).h w∧∀k g v,lk (f b).t k=some (g,v)→g=true∧∃u,lk s.t k=some (true,.raw u)∧Rep w F (f b).h v u)
  (h:∀b,zfG cx pre s (f b) (fun s'=>aopsY cx tab ops rest (Q .normal) s')):AW cx (.region id ops false) Q s:=fun E a w hs=>by
 obtain ⟨F,b,hp,hl⟩:=hS _ _ _ _ _ hs.ghost
 refine wpIn_region (zw _ (zhq (F:=F) ht _ pre rest (by rw [← hsp];exact zbz ops) hs hp (fun k g v hk=>?_) (h b)) (by rintro e a' w' ⟨rfl,hr⟩;exact hr))
 obtain ⟨rfl,u,h1,h2⟩:=hl k g v hk
 obtain ⟨x,h3,h4,_⟩:=hs.slots k true _ h1
 have:=h4 rfl
 simp only [Rep] at this
 subst this
 exact ⟨x,h3,fun _=>h2,fun e=>by cases e⟩
theorem zcx {β:Type} {id:Nat} {ops:Array Oper} {y:Code} {Q:Exit→AS→Prop} (tab:Tab) (ht:TabOk cx.P tab) (pre rest:List Oper) (hsp:ops.toList=pre++rest) (f:β→AS)
  (hS:∀g M N A w,cx.G g M N A w→∃F b,SatH F (f b).h w∧∀k g v,lk (f b).t k=some (g,v)→g=true∧∃u,lk s.t k=some (true,.raw u)∧Rep w F (f b).h v u)
  (h:∀K,(∀s',AW cx y Q s'→K s')→∀b,zfG cx pre s (f b) (fun s'=>aopsY cx tab ops rest K s')):AW cx (.seq (.region id ops false) y) Q s:=
 zbh fun K hK=>zkq tab ht pre rest hsp f hS (h K hK)
end
attribute [go_sem] zfG zstep zbO List.take_succ_cons List.take_zero List.drop_succ_cons List.drop_zero
theorem zkr {cx:Cx} {s:AS} {Q:Exit→AS→Prop} {g:Operand} {ps:Array Tmp} {assign body:Code} {f:FuncId} {q:Nat} (fl:Nat) {items:List (List AV)} (I:List (List AV)→AHeap×Option (List (List AV)))
  (hg:s.ev g=(true,.fn (.func f) [] [.vp q 0])) (hro:cx.lone=true) (hen:zbj cx.P f)
  (hrun:∀ (y:Yo cx.P items) (v0:Value),(∀g M N A w,y.G g M N A w→∃F xs,SatH F (I xs).1 w∧Rep w F (I xs).1 (.vp q 0) v0)→∀E w,SatH E [] w→y.G (some []) E.M E.N (Own E []) w→
   Calls cx.P f (#[]++ #[Value.func (.yield y.yl) #[] #[]]++ #[v0]) w (fun e w'=>∃v E' h' g,e= .returned v∧((∀xs,g=some xs→xs=items)∧h'= [])∧SatH E' h' w'∧Evo fl E [] w E' h' w'∧y.G g E'.M E'.N (Own E' h') w'))
  (hfl:∀i,(hget s.h i).isSome→i<fl) (hfc:cx.fl≤fl) (hq:∃cs,hget s.h q=some (.var cs)) (hqI:∀xs,∃cs,hget (I xs).1 q=some (.var cs))
  (hI:leH s.h (I []).1) (hIn:inH (I []).1 (idsH (I []).1)) (hIg:(I []).2=s.g)
  (hlen:∀x∈items,x.length=ps.size) (hps:∀t∈ps.toList,t<cx.nt)
  (hround:∀xs x,(xs++ [x])<+:items→∀ (l:Nat) (r1:Rnd cx),AW (cx.inR l fl r1) assign (AsgK fun s1=>∀r2:Rnd cx,AW (cx.inR l fl r2) body (zh (fun h' g'=>leH h' (I (xs++ [x])).1∧inH (I (xs++ [x])).1 (idsH (I (xs++ [x])).1)∧g'=(I (xs++ [x])).2) (fun _ _ _=>False)) s1)
   { t:=zaX ps.toList x (keepT (I xs).1 s.t),h:=(I xs).1,g:=(I xs).2 })
  (hdone:Q .normal { t:=keepT (I items).1 s.t,h:=(I items).1,g:=(I items).2 }):
  AW cx (.rangeFunc g ps assign body) Q s:=by
 have hs0:hsel (fun _=>false) s.h= []:=by
  induction s.h with
  |nil=>rfl
  |cons a h ih=>simp only [hsel];rw [if_neg (by simp)];exact ih
 have hs1:hsel (fun i=> !(fun _=>false) i) s.h=s.h:=zea (fun q _=>rfl)
 refine zc7 (Kit:=fun g h'=>(∀xs,g=some xs→xs=items)∧h'= []) (items:=items) (fl:=fl) (caps':= [.any]) (fun _=>false) I (fun _ _ _=>False) hro hg (by simp [AV.leL,AV.le]) hen ?_ hfl hfc ?_ ?_ (by rw [hs1];exact hI) hIn hIg (fun _ _ _ _=>rfl) (fun _ _ _ h=>h.elim) ?_ hlen hps hround ?_ ?_
 ·intro E0 w0 pf qc h0 hpf hqc
  have hpf':pf= #[]:=by simp only [Reps] at hpf;simpa using hpf
  subst hpf'
  simp only [Reps] at hqc
  obtain ⟨v0,r,hv0,hr0,hr⟩:=hqc
  subst hr
  have hqc':qc= #[v0]:=by
   apply Array.ext'
   simpa using hv0
  subst hqc'
  refine ⟨fun w=>∃F xs,SatH F (I xs).1 w∧Rep w F (I xs).1 (.vp q 0) v0,?_,?_,fun _ _ _ h=>h.elim⟩
  ·intro y hy E w hsE _ _ hG
   rw [hs0] at hsE hG ⊢
   exact hrun y v0 hy E w hsE hG
  ·intro xs E w hsE hgo
   refine ⟨E,xs,hsE,?_⟩
   obtain ⟨cs,hc⟩:=hqI xs
   obtain ⟨cs0,hc0⟩:=hq
   have hgq:=hgo q (hfl q (by rw [hc0];rfl)) (by rw [hc];rfl)
   simp only [Rep] at hr0 ⊢
   obtain ⟨b,cs',h1,h2,h3⟩:=hr0
   unfold GoesOn at hgq
   rw [hc0] at hgq
   exact ⟨b,cs,hc,hgq.1.trans h2,h3⟩
 ·intro i o _ h;cases h
 ·intro j hj;simp [AV.idsL,AV.ids] at hj
 ·rintro g h' ⟨h1,rfl⟩
  exact ⟨fun i hi=>by simp [hget] at hi,h1⟩
 ·rintro h1 ⟨_,rfl⟩
  exact hdone
 ·exact fun _ _ _ _ _ h=>h.elim
open Go
open Go
def aopsF (cx:Cx) (tab:Tab) (all:Array Oper) (i:Nat):Nat→List Oper→(AS→Prop)→AS→Prop
 |0,r,K,s=>∃o,hget s.h i=some o∧aopsT cx tab all r K (s.fz i o)
 |n+1,o::r,K,s=>match zaa s all o.guard with
  |some G=>aopT cx tab G o (aopsF cx tab all i n r K) s
  |none=>False
 |_+1,[],_,_=>False
attribute [go_sem] aopsF
section
variable {cx : Cx} {tab : Tab} {s : AS}
theorem zgx (ht:TabOk cx.P tab) {all:Array Oper} {x:Nat} :∀ (n:Nat) (l:List Nat) (ops:List Oper) {K:AS→Prop} {s:AS} {E:Env} {a:Act} {w:World},l.map (all[·]?)=ops.map some→Sat cx E s a w→aopsF cx tab all x n ops K s→
  wpOpsIn cx.F 0 cx.P all (fun e a' w'=>e= .normal∧Reach cx E s.h w K a' w') l a w
 |0,l,ops,K,s,E,a,w,hl,hs,h=>by
  simp only [aopsF] at h
  obtain ⟨o,hi,h⟩:=h
  obtain ⟨h1,h2⟩:=zp9 hs hi
  refine zw _ (zd9 ht l ops hl h1 h) ?_
  rintro e a2 w2 ⟨rfl,hr⟩
  exact ⟨rfl,hr.trans h2⟩
 |n+1,l,[],K,s,E,a,w,hl,hs,h=>by simp only [aopsF] at h
 |n+1,[],o::ops,K,s,E,a,w,hl,hs,h=>by simp at hl
 | n+1,i::l,o::ops,K,s,E,a,w,hl,hs,h=>by
  simp only [List.map_cons,List.cons.injEq] at hl
  obtain ⟨hi,hl⟩:=hl
  simp only [aopsF] at h
  split at h
  ·rename_i G hg
   simp only [wpOpsIn,hi]
   have:=zdB ht (Q:=fun _ _ _=>False) hs hg h
   split at this
   ·rename_i hw
    rw [if_pos hw]
    refine zZ this ?_
    rintro a1 w1 ⟨E1,s1,hk,hs1,he1⟩
    have ih:=zgx ht n l ops hl hs1 hk
    refine zw _ ih ?_
    rintro e a2 w2 ⟨rfl,hr⟩
    exact ⟨rfl,hr.trans he1⟩
   ·rename_i hw
    rw [if_neg hw]
    refine ⟨this.1,?_⟩
    obtain ⟨E1,s1,hk,hs1,he1⟩:=this.2
    have ih:=zgx ht n l ops hl hs1 hk
    refine zw _ ih ?_
    rintro e a2 w2 ⟨rfl,hr⟩
    exact ⟨rfl,hr.trans he1⟩
  ·exact h.elim
theorem zbv {id:Nat} {ops:Array Oper} {y:Code} {Q:Exit→AS→Prop} (tab:Tab) (ht:TabOk cx.P tab) (n i:Nat) (h:∀K,(∀s',AW cx y Q s'→K s')→aopsF cx tab ops i n ops.toList K s):AW cx (.seq (.region id ops false) y) Q s:=
 zbh fun K hK=>fun E a w hs=>wpIn_region (zw _ (zgx ht n _ _ (zbz ops) hs (h K hK)) (by rintro e a' w' ⟨rfl,hr⟩;exact hr))
end
open Go
def AV.shr (n m:Nat):AV→AV
 | .osl i k t off len=>if t=n∧off=0∧len=m then .osl i k m 0 m else .any
 |_=> .any
theorem zmy {cx:Cx} {c:Code} {Q:Exit→AS→Prop} {s:AS} (i:Nat) {k:Nat} {xs ys:List (List D)} (hi:hget s.h i=some (.arr k (xs++ys))) (hne:0<ys.length) (hlt:xs.length+ys.length<9223372036854775808) (hfl:cx.fl≤i)
  (h:AW cx c Q (s.tr i (AV.shr (xs.length+ys.length) xs.length) ((i,.arr k xs)::htr (onI i (AV.shr (xs.length+ys.length) xs.length)) (hdel s.h i)))):AW cx c Q s:=fun E a w hs=>by
 have hob:=hs.hp.heap i _ hi
 simp only [RepObj] at hob
 rcases hob with ⟨_,h1⟩|⟨b,c',T,fz,g1,g2,g3,g4,g5,g6⟩
 ·rw [List.length_append] at h1
  rcases h1 with h1|h1
  ·simp [List.append_eq_nil_iff.1 h1] at hne
  ·simp only [zdo] at h1;omega
 rw [List.length_append] at g4
 have oth:∀j,j≠i→hget ((i,.arr k xs)::htr (onI i (AV.shr (xs.length+ys.length) xs.length)) (hdel s.h i)) j=(hget s.h j).map (AObj.tr (onI i (AV.shr (xs.length+ys.length) xs.length))):=fun j hj=>by simp only [hget];rw [if_neg (Ne.symm hj),zc2,zbB,if_neg hj]
 have sub:(hget ((i,.arr k xs)::htr (onI i (AV.shr (xs.length+ys.length) xs.length)) (hdel s.h i)) i).isSome→(hget s.h i).isSome:=fun _=>by simp [hi]
 have hT:Turn w E s.h ((i,.arr k xs)::htr (onI i (AV.shr (xs.length+ys.length) xs.length)) (hdel s.h i)) i (AV.shr (xs.length+ys.length) xs.length):=by
  refine ⟨oth,sub,fun a v ha hr=>?_,fun o ho=>?_⟩
  ·cases a<;>simp only [AV.ref,Option.some.injEq,reduceCtorEq] at ha<;>subst ha<;>simp only [AV.shr,Rep]
   case osl j k' mm off len=>
    split
    ·rename_i hc
     obtain ⟨rfl,rfl,rfl⟩:=hc
     simp only [Rep] at hr ⊢
     obtain ⟨e0,xs',h1,_,_,h6⟩:=hr
     rw [hi] at h1;cases h1
     refine ⟨e0,xs,by simp only [hget,if_true],Nat.le_refl _,by omega,fun _=>?_⟩
     rcases h6 (by rw [List.length_append]) with ⟨⟨_,h7⟩,_⟩|⟨b',h7,rfl⟩|⟨h7,_⟩
     ·omega
     ·exact .inr (.inl ⟨b',h7,rfl⟩)
     ·exact absurd rfl h7
    ·simp only [Rep]
  ·simp only [hget,if_true,Option.some.injEq] at ho
   subst ho
   simp only [RepObj]
   have:=g5.take xs.length
   rw [List.take_left] at this
   exact .inr ⟨b,c',T,fz,g1,g2,g3,by omega,RepRows.step (fun b _ hx=>zb5 oth sub hx) (fun _ _ _=>rfl) _ _ _ this,g6⟩
 obtain ⟨q1,q2⟩:=zlw hs hT (.inl hfl)
 exact wpIn_mono (h E a w q1) (fun _ _ _ hr=>hr.trans q2)
attribute [go_sem] AV.shr
open Go
def APan (P:Program) (f:FuncId) (fl:Nat) (args:List AV) (h:AHeap) (v:Value):Prop:=
 zbj P f∧∀E w (vs:Array Value),SatH E h w→Reps w E h args vs.toList→
  Calls P f vs w (fun e w'=>∃E' h',e= .panicked [{ v:=v,recovered:=false }]∧SatH E' h' w'∧EvoC fl E h w E' h' w')
def PanK (v:Value):Exit→AS→Prop
 | .panic ch,_=>ch= [{ v:=v,recovered:=false }]
 |_,_=>False
def opPan (cx:Cx) (o:Oper) (v:Value) (s:AS):Prop:=
 match o.op with
 | .panic x=>(match s.ev x with
  |(g,.iface t (.d y))=>g=true∧y.scal=true∧v= .iface t (valD y)
  |_=>False)
 | .call c=>(match z6 cx.P s c with
  |some (f,args,vc)=>vc∧APan cx.P f cx.fl args s.h v
  |none=>False)
 |_=>False
def aopsP (cx:Cx) (tab:Tab) (all:Array Oper) (v:Value):Nat→List Oper→AS→Prop
 |0,o::_,s=>zaa s all o.guard=some true∧opPan cx o v s
 |k+1,o::r,s=>(match zaa s all o.guard with
  |some G=>aopT cx tab G o (aopsP cx tab all v k r) s
  |none=>False)
 |_,[],_=>False
section
variable {P : Program} {cx : Cx} {tab : Tab} {E : Env} {s : AS} {a : Act} {w : World}
theorem zol {o:Oper} {v:Value} {next:Act→World→Prop} {Q:Exit→Act→World→Prop} (hs:Sat cx E s a w) (h:opPan cx o v s) (hQ:∀w',Reach cx E s.h w (fun _=>True) a w'→Q (.panic [{ v:=v,recovered:=false }]) a w'):o.wpIn cx.F 0 cx.P a w next Q:=by
 unfold opPan at h
 refine ⟨fun _ _=>trivial,?_⟩
 split at h
 ·rename_i x hop
  split at h
  case h_2=>exact h.elim
  rename_i g t y hev
  obtain ⟨rfl,hsc,hv⟩:=h
  have hx:=ev_ok hs.slots x (by rw [hev])
  rw [hev] at hx
  simp only [Rep] at hx
  obtain ⟨u,hu,hru⟩:=hx
  rw [Oper.semAt_eq _ _ _ (by rw [hop];simp)]
  have hrun:(execOp a.eval o).run cx.P w= .halt (.panic v) w:=by
   obtain ⟨dst,op,ot,pos,after,guard⟩:=o
   dsimp only at hop
   subst hop
   rw [hv,← (zaU hsc).1 hru]
   show (execOp a.eval ⟨dst,.panic x,ot,pos,after,guard⟩).run cx.P w=_
   simp only [execOp,hu]
   rfl
  rw [hrun,Oper.uponIn_panic]
  exact hQ w ⟨E,s,trivial,hs,Evo.refl _ _ _ _⟩
 ·rename_i c hop
  split at h
  ·rename_i f args vc hco
   obtain ⟨hvc,hen,hcall⟩:=h
   obtain ⟨vs,hvs,hrun⟩:=zfw hop hs hco hvc hen
   rw [Oper.semAt_eq _ _ _ (by rw [hop];simp),hrun]
   simp only [Oper.uponIn_enter]
   refine ⟨(fun h=>by cases h),?_⟩
   refine (zfZ _ (hcall E w _ hs.hp hvs)).mono ?_
   rintro e w' ⟨E',h',rfl,hh,hev⟩
   refine hQ w' ⟨E', { t:= [],h:=h',g:=s.g },trivial,⟨fun k g v hk=>by simp [lk] at hk,hs.nt,hh,⟨Nat.le_trans hs.base.1 hev.size,hs.base.2⟩,?_,?_⟩,hev.evo⟩
   ·exact hs.marks.step (fun b _ hb=>by rwa [← hev.m]) (fun r hr hm=>hev.keep r (Array.getElem?_eq_some_iff.1 hr).1 (hs.hp.not_mark hr))
   ·rw [hev.m,hev.n]
    exact cx.stab _ _ _ _ _ _ _ (fun b hb ho=>hev.keep b hb (fun h=>ho (.inl h))) (fun b hb=>hb.elim (fun hb=>(hev.own b hb).imp .inl id) (fun hb=> .inl (.inr hb))) (fun b hb=>hb.elim (fun h=>(hh.own b h).1) (fun h=>Nat.lt_of_lt_of_le (hs.marks.lt h) hev.size)) hev.size hev.tape hev.os hev.output hs.ghost
  ·exact h.elim
 ·exact h.elim
theorem zei (ht:TabOk cx.P tab) {all:Array Oper} {v:Value} :∀ (k:Nat) (l:List Nat) (ops:List Oper) {s:AS} {E:Env} {a:Act} {w:World},l.map (all[·]?)=ops.map some→Sat cx E s a w→aopsP cx tab all v k ops s→
  wpOpsIn cx.F 0 cx.P all (fun e a' w'=>e= .panic [{ v:=v,recovered:=false }]∧Reach cx E s.h w (fun _=>True) a' w') l a w
 |k,[],ops,s,E,a,w,hl,hs,h=>by
  have:ops= []:=by simpa using hl.symm
  subst this
  cases k<;>exact h.elim
 |k,i::l,[],s,E,a,w,hl,hs,h=>by simp at hl
 |0,i::l,o::ops,s,E,a,w,hl,hs,h=>by
  simp only [List.map_cons,List.cons.injEq] at hl
  obtain ⟨hi,hl⟩:=hl
  simp only [wpOpsIn,hi]
  rw [zaE hs.slots h.1,if_pos rfl]
  exact zol hs h.2 fun w' hr=>⟨rfl,hr⟩
 | k+1,i::l,o::ops,s,E,a,w,hl,hs,h=>by
  simp only [List.map_cons,List.cons.injEq] at hl
  obtain ⟨hi,hl⟩:=hl
  simp only [aopsP] at h
  split at h
  ·rename_i G hg
   simp only [wpOpsIn,hi]
   have:=zdB ht (Q:=fun _ _ _=>False) hs hg h
   split at this
   ·rename_i hw
    rw [if_pos hw]
    refine zZ this ?_
    rintro a1 w1 ⟨E1,s1,hk,hs1,he1⟩
    refine zw _ (zei ht k l ops hl hs1 hk) ?_
    rintro e a2 w2 ⟨rfl,hr⟩
    exact ⟨rfl,hr.trans he1⟩
   ·rename_i hw
    rw [if_neg hw]
    refine ⟨this.1,?_⟩
    obtain ⟨E1,s1,hk,hs1,he1⟩:=this.2
    refine zw _ (zei ht k l ops hl hs1 hk) ?_
    rintro e a2 w2 ⟨rfl,hr⟩
    exact ⟨rfl,hr.trans he1⟩
  ·exact h.elim
theorem zcr {id:Nat} {ops:Array Oper} {v:Value} {Q:Exit→AS→Prop} (tab:Tab) (ht:TabOk cx.P tab) (k:Nat) (hQ:∀s',Q (.panic [{ v:=v,recovered:=false }]) s') (h:aopsP cx tab ops v k ops.toList s):AW cx (.region id ops false) Q s:=fun E a w hs=>
 wpIn_region (zw _ (zei ht k _ _ (zbz ops) hs h) (by
  rintro e a' w' ⟨rfl,E',s',_,hs',he⟩
  exact ⟨E',s',hQ s',hs',he⟩))
theorem zT {id:Nat} {ops:Array Oper} {y:Code} {v:Value} {Q:Exit→AS→Prop} (tab:Tab) (ht:TabOk cx.P tab) (k:Nat) (hQ:∀s',Q (.panic [{ v:=v,recovered:=false }]) s') (h:aopsP cx tab ops v k ops.toList s):AW cx (.seq (.region id ops false) y) Q s:=fun E a w hs=>
 wpIn_seq (wpIn_region (zw _ (zei ht k _ _ (zbz ops) hs h) (by
  rintro e a' w' ⟨rfl,E',s',_,hs',he⟩
  exact ⟨E',s',hQ s',hs',he⟩)))
theorem zhS {f:FuncId} {fn:Func} {c:Code} {nt fl:Nat} {args:List AV} {h:AHeap} {v:Value} (hf:P.funcs[f]?=some fn) (hb:fn.body=some c) (hen:zbj P f) (hnt:fn.ntmps=nt) (hn:args.length≤nt)
  (haw:∀base,AW { cxOf P base nt fl with rq:=true } c (PanK v) { t:=zL 0 args,h:=h,g:=some [] }):APan P f fl args h v:=by
 refine ⟨hen,fun E w vs hs hr=>(callsIn_wide (n:=0)).1 (callsIn_of_wp_marks hf hb trivial ?_ rfl)⟩
 subst hnt
 have hlen:=Reps.length hr
 let E1:Env:= { O:=E.O,C:=E.C,M:=fun _=>False,N:=fun b=>E.M b∨E.N b }
 have hX1:∀b,b<w.heap.size→Xs E1 h b→Xs E h b:=fun b _ hx=>by
  rcases hx with hx|hx|hx
  ·exact .inl hx
  ·exact hx.elim
  ·exact .inr hx
 have hs1:SatH E1 h w:=hs.refit (Shut.refl 0 w) rfl rfl hX1 (fun b hb=>⟨fun h=>h,fun hn=>hn.elim (hs.own b hb).2.1 (hs.own b hb).2.2⟩) (fun _ h=>h.elim) (fun b hn=>hn.elim (hs.mlt b) (hs.nlt b))
 have hr1:Reps w E1 h args vs.toList:=Reps.refit (E:=E) (E':=E1) (Shut.refl 0 w) rfl rfl hX1 hr
 have hsat:Sat { cxOf P w.heap.size fn.ntmps fl with rq:=true } E1 { t:=zL 0 args,h:=h,g:=some [] } { tmps:=vs++Array.replicate (fn.ntmps - vs.size) undef,defers:= [] } w:=by
  refine ⟨fun k g v hk=>?_,?_,hs1,⟨Nat.le_refl _,fun _=>rfl⟩,⟨by simp,by simp⟩,trivial⟩
  ·obtain ⟨rfl,_,hv⟩:=zbl args 0 k hk
   obtain ⟨x,hx,hrx⟩:=Reps.get hr1 hv
   have hx':vs[k]?=some x:=by simpa using hx
   have hk':=(Array.getElem?_eq_some_iff.1 hx').1
   exact ⟨x,by rw [Array.getElem?_append_left hk'];exact hx',fun _=>hrx,fun e=>by cases e⟩
  ·have:vs.size=args.length:=by simpa using hlen
   simp [cxOf];omega
 refine wpIn_mono (haw w.heap.size E1 _ w hsat) ?_
 intro e a2 w2 hr2
 cases e with
 | panic ch=>
  obtain ⟨E2,s2,hv,hs2,he2⟩:=hr2
  simp only [PanK] at hv
  subst hv
  have hnd:a2.defers= []:=hs2.base.2 rfl
  show LeavesInM Fence.wide 0 P fn a2.tmps _ a2.defers (.panicking _) w2
  rw [hnd]
  have hN2:E2.N=fun b=>E.M b∨E.N b:=he2.n
  let E3:Env:= { O:=E2.O,C:=E2.C,M:=E.M,N:=E.N }
  have hX3:∀b,b<w2.heap.size→Xs E3 s2.h b→Xs E2 s2.h b:=fun b _ hx=>by
   rcases hx with hx|hx|hx
   ·exact .inl hx
   ·exact .inr (.inr (by rw [hN2];exact .inl hx))
   ·exact .inr (.inr (by rw [hN2];exact .inr hx))
  refine ⟨E3,s2.h,rfl,hs2.hp.refit (E':=E3) (Shut.refl 0 w2) rfl rfl hX3 (fun b hb=>?_) (fun b hb=>Nat.lt_of_lt_of_le (hs.mlt b hb) he2.size) (fun b hb=>Nat.lt_of_lt_of_le (hs.nlt b hb) he2.size),⟨he2.os,he2.tape,he2.output,he2.size,fun b hb ho=>he2.keep b hb ho (fun h=>h),he2.own,rfl,rfl,fun i hi hl=>he2.go i hi hl⟩⟩
  have:=(hs2.hp.own b hb).2.2
  rw [hN2] at this
  exact ⟨fun h=>this (.inl h),fun h=>this (.inr h)⟩
 |_=>exact absurd hr2 (by rintro ⟨_,_,h,_⟩;exact h)
theorem pbod {f:FuncId} {fn:Func} {c:Code} {nt fl:Nat} {args:List AV} {h:AHeap} {v:Value} (hf:P.funcs[f]?=some fn) (hnt:fn.ntmps=nt)
  (haw:∀base,AW { cxOf P base nt fl with rq:=true } c (PanK v) { t:=zL 0 args,h:=h,g:=some [] }) (hb:fn.body=some c:=by rfl) (he:(fn.name== "runtime.NumGoroutine")=false:=by kernel_rfl) (hi:fn.body.isNone=false:=by rfl) (hn:args.length≤nt:=by simp):APan P f fl args h v:=
 zhS hf hb (zbA hf he hi) hnt hn haw
theorem zej {f:FuncId} {args:List AV} {v:Value} {h:AHeap} {i fl1 fl:Nat} {ob:AObj} (hc:APan P f fl1 args [(i,ob)] v) (hg:hget h i=some ob) (hcl:∀j∈ob.ids,j=i) (ha:∀j∈AV.idsL args,j=i):APan P f fl args h v:=by
 obtain ⟨p,hp⟩:∃p:Nat→Bool,p=fun j=>decide (j=i):=⟨_,rfl⟩
 have he1:∀k,hget (hsel p h) k=hget [(i,ob)] k:=fun k=>by
  rw [zk,hp]
  simp only [hget,decide_eq_true_eq]
  by_cases hk:i=k
  ·subst hk;rw [if_pos rfl,if_pos rfl,hg]
  ·rw [if_neg hk,if_neg (Ne.symm hk)]
 refine ⟨hc.1,fun E w vs hs hr=>?_⟩
 have hs1:SatH E [(i,ob)] w:=(zgd hs (p:=p) (fun j o ho hpj k hk=>by
  rw [hp] at hpj ⊢
  have hj:j=i:=by simpa using hpj
  subst hj
  rw [hg] at ho;cases ho
  simpa using hcl k hk)).ext he1
 have hr1:Reps w E (hsel p h) args vs.toList:=zgc (fun j hj=>by rw [hp];simpa using ha j hj) hr
 have hr2:Reps w E [(i,ob)] args vs.toList:=Reps.step (fun b _ hx=>by unfold Xs at hx ⊢;rwa [zbt he1]) (fun _ _ _=>rfl) _ _ (fun j _=>zdW he1 j) hr1
 refine (hc.2 E w vs hs1 hr2).mono ?_
 rintro e w' ⟨E',h',rfl,hs',hev⟩
 refine ⟨E,[],rfl,⟨fun i o ho=>by simp [hget] at ho,fun i j b hi=>by simp [hget] at hi,fun b ⟨i,hi,_⟩=>by simp [hget] at hi,fun b hb=>Nat.lt_of_lt_of_le (hs.mlt b hb) hev.size,fun b hb=>Nat.lt_of_lt_of_le (hs.nlt b hb) hev.size⟩,
  ⟨hev.os,hev.tape,hev.output,hev.size,fun b hb ho=>hev.keep b hb (fun ⟨j,hj,hb'⟩=>ho ⟨j,?_,hb'⟩),fun b ⟨i,hi,_⟩=>by simp [hget] at hi,rfl,rfl,fun i hi hl=>by simp [hget] at hl⟩⟩
 simp only [hget] at hj
 split at hj
 ·rename_i e;subst e;simp [hg]
 ·cases hj
end
attribute [go_sem] aopsP opPan
open Go Go.Proofs
@[go_sem] theorem ty1:ty Go.Proofs.Tryz.prog 1=⟨.func,1,8⟩:=by kernel_rfl
@[go_sem] theorem zk1:zD Go.Proofs.Tryz.prog 1=true:=by kernel_rfl
@[go_sem] theorem zc1:zx Go.Proofs.Tryz.prog 12 1= [.nilfn]:=by kernel_rfl
@[go_sem] theorem ty3:ty Go.Proofs.Tryz.prog 3=⟨.int .i64,1,8⟩:=by kernel_rfl
@[go_sem] theorem zk3:zD Go.Proofs.Tryz.prog 3=true:=by kernel_rfl
@[go_sem] theorem tt3:zI Go.Proofs.Tryz.prog 12 3=false:=by kernel_rfl
@[go_sem] theorem zc3:zx Go.Proofs.Tryz.prog 12 3= [.d (.int .i64 0)]:=by kernel_rfl
@[go_sem] theorem ty4:ty Go.Proofs.Tryz.prog 4=⟨.bool,1,1⟩:=by kernel_rfl
@[go_sem] theorem zk4:zD Go.Proofs.Tryz.prog 4=true:=by kernel_rfl
@[go_sem] theorem tt4:zI Go.Proofs.Tryz.prog 12 4=false:=by kernel_rfl
@[go_sem] theorem zc4:zx Go.Proofs.Tryz.prog 12 4= [.d (.bool false)]:=by kernel_rfl
@[go_sem] theorem ty5:ty Go.Proofs.Tryz.prog 5=⟨.int .u8,1,1⟩:=by kernel_rfl
@[go_sem] theorem zk5:zD Go.Proofs.Tryz.prog 5=true:=by kernel_rfl
@[go_sem] theorem zc5:zx Go.Proofs.Tryz.prog 12 5= [.d (.int .u8 0)]:=by kernel_rfl
@[go_sem] theorem ty9:ty Go.Proofs.Tryz.prog 9=⟨.str,1,16⟩:=by kernel_rfl
@[go_sem] theorem zk9:zD Go.Proofs.Tryz.prog 9=true:=by kernel_rfl
@[go_sem] theorem tt9:zI Go.Proofs.Tryz.prog 12 9=false:=by kernel_rfl
@[go_sem] theorem zc9:zx Go.Proofs.Tryz.prog 12 9= [.d (.str [])]:=by kernel_rfl
@[go_sem] theorem ty20:ty Go.Proofs.Tryz.prog 20=⟨.iface,1,16⟩:=by kernel_rfl
@[go_sem] theorem zk20:zD Go.Proofs.Tryz.prog 20=true:=by kernel_rfl
@[go_sem] theorem zc20:zx Go.Proofs.Tryz.prog 12 20= [.d .nilif]:=by kernel_rfl
@[go_sem] theorem ty22:ty Go.Proofs.Tryz.prog 22=⟨.int .u64,1,8⟩:=by kernel_rfl
@[go_sem] theorem zk22:zD Go.Proofs.Tryz.prog 22=true:=by kernel_rfl
@[go_sem] theorem tt22:zI Go.Proofs.Tryz.prog 12 22=false:=by kernel_rfl
@[go_sem] theorem zc22:zx Go.Proofs.Tryz.prog 12 22= [.d (.int .u64 0)]:=by kernel_rfl
@[go_sem] theorem ty23:ty Go.Proofs.Tryz.prog 23=⟨.slice 9,1,24⟩:=by kernel_rfl
@[go_sem] theorem ty25:ty Go.Proofs.Tryz.prog 25=⟨.struct [(0,22),(1,23)],2,32⟩:=by kernel_rfl
@[go_sem] theorem zk25:zD Go.Proofs.Tryz.prog 25=true:=by kernel_rfl
@[go_sem] theorem tt25:zI Go.Proofs.Tryz.prog 12 25=false:=by kernel_rfl
@[go_sem] theorem zc25:zx Go.Proofs.Tryz.prog 12 25= [.d (.int .u64 0),.nils 1]:=by kernel_rfl
@[go_sem] theorem ty27:ty Go.Proofs.Tryz.prog 27=⟨.func,1,8⟩:=by kernel_rfl
@[go_sem] theorem ty28:ty Go.Proofs.Tryz.prog 28=⟨.slice 22,1,24⟩:=by kernel_rfl
@[go_sem] theorem tt28:zI Go.Proofs.Tryz.prog 12 28=false:=by kernel_rfl
@[go_sem] theorem ty33:ty Go.Proofs.Tryz.prog 33=⟨.slice 3,1,24⟩:=by kernel_rfl
@[go_sem] theorem zk33:zD Go.Proofs.Tryz.prog 33=true:=by kernel_rfl
@[go_sem] theorem tt33:zI Go.Proofs.Tryz.prog 12 33=false:=by kernel_rfl
@[go_sem] theorem zc33:zx Go.Proofs.Tryz.prog 12 33= [.nils 1]:=by kernel_rfl
@[go_sem] theorem ty60:ty Go.Proofs.Tryz.prog 60=⟨.slice 5,1,24⟩:=by kernel_rfl
@[go_sem] theorem zk60:zD Go.Proofs.Tryz.prog 60=true:=by kernel_rfl
@[go_sem] theorem tt60:zI Go.Proofs.Tryz.prog 12 60=false:=by kernel_rfl
@[go_sem] theorem zc60:zx Go.Proofs.Tryz.prog 12 60= [.nils 1]:=by kernel_rfl
@[go_sem] theorem ty61:ty Go.Proofs.Tryz.prog 61=⟨.slice 67,1,24⟩:=by kernel_rfl
@[go_sem] theorem ty63:ty Go.Proofs.Tryz.prog 63=⟨.struct [(0,3),(1,9),(2,4),(3,4),(4,61)],5,56⟩:=by kernel_rfl
@[go_sem] theorem zk63:zD Go.Proofs.Tryz.prog 63=true:=by kernel_rfl
@[go_sem] theorem tt63:zI Go.Proofs.Tryz.prog 12 63=false:=by kernel_rfl
@[go_sem] theorem zc63:zx Go.Proofs.Tryz.prog 12 63= [.d (.int .i64 0),.d (.str []),.d (.bool false),.d (.bool false),.nils 1]:=by kernel_rfl
@[go_sem] theorem ty67:ty Go.Proofs.Tryz.prog 67=⟨.int .u32,1,4⟩:=by kernel_rfl
@[go_sem] theorem zk67:zD Go.Proofs.Tryz.prog 67=true:=by kernel_rfl
@[go_sem] theorem tt67:zI Go.Proofs.Tryz.prog 12 67=false:=by kernel_rfl
@[go_sem] theorem zc67:zx Go.Proofs.Tryz.prog 12 67= [.d (.int .u32 0)]:=by kernel_rfl
@[go_sem] theorem ty69:ty Go.Proofs.Tryz.prog 69=⟨.struct [(0,3),(1,3),(2,22),(3,22),(4,67),(5,9)],6,56⟩:=by kernel_rfl
@[go_sem] theorem zk69:zD Go.Proofs.Tryz.prog 69=true:=by kernel_rfl
@[go_sem] theorem tt69:zI Go.Proofs.Tryz.prog 12 69=false:=by kernel_rfl
@[go_sem] theorem zc69:zx Go.Proofs.Tryz.prog 12 69= [.d (.int .i64 0),.d (.int .i64 0),.d (.int .u64 0),.d (.int .u64 0),.d (.int .u32 0),.d (.str [])]:=by kernel_rfl
@[go_sem] theorem ty77:ty Go.Proofs.Tryz.prog 77=⟨.int .i64,1,8⟩:=by kernel_rfl
@[go_sem] theorem zk77:zD Go.Proofs.Tryz.prog 77=true:=by kernel_rfl
@[go_sem] theorem tt77:zI Go.Proofs.Tryz.prog 12 77=false:=by kernel_rfl
@[go_sem] theorem zc77:zx Go.Proofs.Tryz.prog 12 77= [.d (.int .i64 0)]:=by kernel_rfl
@[go_sem] theorem ty85:ty Go.Proofs.Tryz.prog 85=⟨.slice 69,1,24⟩:=by kernel_rfl
@[go_sem] theorem zk85:zD Go.Proofs.Tryz.prog 85=true:=by kernel_rfl
@[go_sem] theorem tt85:zI Go.Proofs.Tryz.prog 12 85=false:=by kernel_rfl
@[go_sem] theorem zc85:zx Go.Proofs.Tryz.prog 12 85= [.nils 6]:=by kernel_rfl
@[go_sem] theorem ty137:ty Go.Proofs.Tryz.prog 137=⟨.struct [(0,69),(6,63),(11,67)],12,120⟩:=by kernel_rfl
@[go_sem] theorem zk137:zD Go.Proofs.Tryz.prog 137=true:=by kernel_rfl
@[go_sem] theorem tt137:zI Go.Proofs.Tryz.prog 12 137=false:=by kernel_rfl
@[go_sem] theorem zc137:zx Go.Proofs.Tryz.prog 12 137= [.d (.int .i64 0),.d (.int .i64 0),.d (.int .u64 0),.d (.int .u64 0),.d (.int .u32 0),.d (.str []),.d (.int .i64 0),.d (.str []),.d (.bool false),.d (.bool false),.nils 1,.d (.int .u32 0)]:=by kernel_rfl
@[go_sem] theorem ty143:ty Go.Proofs.Tryz.prog 143=⟨.struct [(0,4),(1,3),(2,22),(3,9)],4,40⟩:=by kernel_rfl
@[go_sem] theorem zk143:zD Go.Proofs.Tryz.prog 143=true:=by kernel_rfl
@[go_sem] theorem tt143:zI Go.Proofs.Tryz.prog 12 143=false:=by kernel_rfl
@[go_sem] theorem zc143:zx Go.Proofs.Tryz.prog 12 143= [.d (.bool false),.d (.int .i64 0),.d (.int .u64 0),.d (.str [])]:=by kernel_rfl
@[go_sem] theorem ty145:ty Go.Proofs.Tryz.prog 145=⟨.struct [(0,143),(4,9),(5,77)],6,64⟩:=by kernel_rfl
@[go_sem] theorem zk145:zD Go.Proofs.Tryz.prog 145=true:=by kernel_rfl
@[go_sem] theorem tt145:zI Go.Proofs.Tryz.prog 12 145=false:=by kernel_rfl
@[go_sem] theorem zc145:zx Go.Proofs.Tryz.prog 12 145= [.d (.bool false),.d (.int .i64 0),.d (.int .u64 0),.d (.str []),.d (.str []),.d (.int .i64 0)]:=by kernel_rfl
@[go_sem] theorem ty147:ty Go.Proofs.Tryz.prog 147=⟨.func,1,8⟩:=by kernel_rfl
@[go_sem] theorem ty175:ty Go.Proofs.Tryz.prog 175=⟨.ptr 182,1,8⟩:=by kernel_rfl
@[go_sem] theorem tt175:zI Go.Proofs.Tryz.prog 12 175=false:=by kernel_rfl
@[go_sem] theorem ty177:ty Go.Proofs.Tryz.prog 177=⟨.struct [(0,67),(1,9)],2,24⟩:=by kernel_rfl
@[go_sem] theorem zk177:zD Go.Proofs.Tryz.prog 177=true:=by kernel_rfl
@[go_sem] theorem tt177:zI Go.Proofs.Tryz.prog 12 177=false:=by kernel_rfl
@[go_sem] theorem zc177:zx Go.Proofs.Tryz.prog 12 177= [.d (.int .u32 0),.d (.str [])]:=by kernel_rfl
@[go_sem] theorem ty180:ty Go.Proofs.Tryz.prog 180=⟨.struct [(0,178),(1,60)],2,32⟩:=by kernel_rfl
@[go_sem] theorem zk180:zD Go.Proofs.Tryz.prog 180=true:=by kernel_rfl
@[go_sem] theorem tt180:zI Go.Proofs.Tryz.prog 12 180=true:=by kernel_rfl
@[go_sem] theorem zc180:zx Go.Proofs.Tryz.prog 12 180= [.d .nilp,.nils 1]:=by kernel_rfl
@[go_sem] theorem ty182:ty Go.Proofs.Tryz.prog 182=⟨.struct [(0,63),(5,25),(7,177),(9,180)],11,144⟩:=by kernel_rfl
@[go_sem] theorem zk182:zD Go.Proofs.Tryz.prog 182=true:=by kernel_rfl
@[go_sem] theorem tt182:zI Go.Proofs.Tryz.prog 12 182=true:=by kernel_rfl
@[go_sem] theorem zc182:zx Go.Proofs.Tryz.prog 12 182= [.d (.int .i64 0),.d (.str []),.d (.bool false),.d (.bool false),.nils 1,.d (.int .u64 0),.nils 1,.d (.int .u32 0),.d (.str []),.d .nilp,.nils 1]:=by kernel_rfl
@[go_sem] theorem ty183:ty Go.Proofs.Tryz.prog 183=⟨.arr 2 27,2,16⟩:=by kernel_rfl
@[go_sem] theorem zk183:zD Go.Proofs.Tryz.prog 183=true:=by kernel_rfl
@[go_sem] theorem tt183:zI Go.Proofs.Tryz.prog 12 183=false:=by kernel_rfl
@[go_sem] theorem zc183:zx Go.Proofs.Tryz.prog 12 183= [.nilfn,.nilfn]:=by kernel_rfl
@[go_sem] theorem ty190:ty Go.Proofs.Tryz.prog 190=⟨.slice 231,1,24⟩:=by kernel_rfl
@[go_sem] theorem zk190:zD Go.Proofs.Tryz.prog 190=true:=by kernel_rfl
@[go_sem] theorem tt190:zI Go.Proofs.Tryz.prog 12 190=false:=by kernel_rfl
@[go_sem] theorem zc190:zx Go.Proofs.Tryz.prog 12 190= [.nils 2]:=by kernel_rfl
@[go_sem] theorem ty204:ty Go.Proofs.Tryz.prog 204=⟨.struct [(0,67),(1,22),(2,9)],3,32⟩:=by kernel_rfl
@[go_sem] theorem zk204:zD Go.Proofs.Tryz.prog 204=true:=by kernel_rfl
@[go_sem] theorem tt204:zI Go.Proofs.Tryz.prog 12 204=false:=by kernel_rfl
@[go_sem] theorem zc204:zx Go.Proofs.Tryz.prog 12 204= [.d (.int .u32 0),.d (.int .u64 0),.d (.str [])]:=by kernel_rfl
@[go_sem] theorem ty214:ty Go.Proofs.Tryz.prog 214=⟨.int .u64,1,8⟩:=by kernel_rfl
@[go_sem] theorem ty231:ty Go.Proofs.Tryz.prog 231=⟨.struct [(0,3),(1,3)],2,16⟩:=by kernel_rfl
@[go_sem] theorem zk231:zD Go.Proofs.Tryz.prog 231=true:=by kernel_rfl
@[go_sem] theorem tt231:zI Go.Proofs.Tryz.prog 12 231=false:=by kernel_rfl
@[go_sem] theorem zc231:zx Go.Proofs.Tryz.prog 12 231= [.d (.int .i64 0),.d (.int .i64 0)]:=by kernel_rfl
@[go_sem] theorem ty238:ty Go.Proofs.Tryz.prog 238=⟨.struct [(0,69),(6,9)],7,72⟩:=by kernel_rfl
@[go_sem] theorem zk238:zD Go.Proofs.Tryz.prog 238=true:=by kernel_rfl
@[go_sem] theorem tt238:zI Go.Proofs.Tryz.prog 12 238=false:=by kernel_rfl
@[go_sem] theorem zc238:zx Go.Proofs.Tryz.prog 12 238= [.d (.int .i64 0),.d (.int .i64 0),.d (.int .u64 0),.d (.int .u64 0),.d (.int .u32 0),.d (.str []),.d (.str [])]:=by kernel_rfl
@[go_sem] theorem ty242:ty Go.Proofs.Tryz.prog 242=⟨.struct [(0,4),(1,67)],2,8⟩:=by kernel_rfl
@[go_sem] theorem zk242:zD Go.Proofs.Tryz.prog 242=true:=by kernel_rfl
@[go_sem] theorem tt242:zI Go.Proofs.Tryz.prog 12 242=false:=by kernel_rfl
@[go_sem] theorem zc242:zx Go.Proofs.Tryz.prog 12 242= [.d (.bool false),.d (.int .u32 0)]:=by kernel_rfl
@[go_sem] theorem ty255:ty Go.Proofs.Tryz.prog 255=⟨.arr 8 147,8,64⟩:=by kernel_rfl
@[go_sem] theorem zk255:zD Go.Proofs.Tryz.prog 255=true:=by kernel_rfl
@[go_sem] theorem tt255:zI Go.Proofs.Tryz.prog 12 255=false:=by kernel_rfl
@[go_sem] theorem zc255:zx Go.Proofs.Tryz.prog 12 255= [.nilfn,.nilfn,.nilfn,.nilfn,.nilfn,.nilfn,.nilfn,.nilfn]:=by kernel_rfl
@[go_sem] theorem ty279:ty Go.Proofs.Tryz.prog 279=⟨.map 67 1,1,8⟩:=by kernel_rfl
@[go_sem] theorem ty310:ty Go.Proofs.Tryz.prog 310=⟨.arr 8 3,8,64⟩:=by kernel_rfl
@[go_sem] theorem zk310:zD Go.Proofs.Tryz.prog 310=true:=by kernel_rfl
@[go_sem] theorem tt310:zI Go.Proofs.Tryz.prog 12 310=false:=by kernel_rfl
@[go_sem] theorem zc310:zx Go.Proofs.Tryz.prog 12 310= [.d (.int .i64 0),.d (.int .i64 0),.d (.int .i64 0),.d (.int .i64 0),.d (.int .i64 0),.d (.int .i64 0),.d (.int .i64 0),.d (.int .i64 0)]:=by kernel_rfl
@[go_sem] theorem ty311:ty Go.Proofs.Tryz.prog 311=⟨.slice 242,1,24⟩:=by kernel_rfl
@[go_sem] theorem ty313:ty Go.Proofs.Tryz.prog 313=⟨.int .i64,1,8⟩:=by kernel_rfl
@[go_sem] theorem ty325:ty Go.Proofs.Tryz.prog 325=⟨.int .u16,1,2⟩:=by kernel_rfl
@[go_sem] theorem zk325:zD Go.Proofs.Tryz.prog 325=true:=by kernel_rfl
@[go_sem] theorem zc325:zx Go.Proofs.Tryz.prog 12 325= [.d (.int .u16 0)]:=by kernel_rfl
@[go_sem] theorem ty355:ty Go.Proofs.Tryz.prog 355=⟨.struct [(0,67),(1,67),(2,9)],3,24⟩:=by kernel_rfl
@[go_sem] theorem zk355:zD Go.Proofs.Tryz.prog 355=true:=by kernel_rfl
@[go_sem] theorem tt355:zI Go.Proofs.Tryz.prog 12 355=false:=by kernel_rfl
@[go_sem] theorem zc355:zx Go.Proofs.Tryz.prog 12 355= [.d (.int .u32 0),.d (.int .u32 0),.d (.str [])]:=by kernel_rfl
@[go_sem] theorem ty374:ty Go.Proofs.Tryz.prog 374=⟨.slice 20,1,24⟩:=by kernel_rfl
@[go_sem] theorem ty396:ty Go.Proofs.Tryz.prog 396=⟨.int .u64,1,8⟩:=by kernel_rfl
@[go_sem] theorem zk396:zD Go.Proofs.Tryz.prog 396=true:=by kernel_rfl
@[go_sem] theorem tt396:zI Go.Proofs.Tryz.prog 12 396=false:=by kernel_rfl
@[go_sem] theorem zc396:zx Go.Proofs.Tryz.prog 12 396= [.d (.int .u64 0)]:=by kernel_rfl
@[go_sem] theorem ty416:ty Go.Proofs.Tryz.prog 416=⟨.int .i64,1,8⟩:=by kernel_rfl
@[go_sem] theorem ty419:ty Go.Proofs.Tryz.prog 419=⟨.struct [(0,9)],1,16⟩:=by kernel_rfl
attribute [go_sem] Tryz.results0 Tryz.results1 Tryz.results2 Tryz.results3 Tryz.results4 Tryz.results5 Tryz.results6 Tryz.results7 Tryz.results8 Tryz.results9 Tryz.results10 Tryz.results11 Tryz.results12 Tryz.results13 Tryz.results14 Tryz.results15 Tryz.results16 Tryz.results17 Tryz.results18 Tryz.results19 Tryz.results20 Tryz.results21 Tryz.results22 Tryz.results23 Tryz.results24 Tryz.results25 Tryz.results26 Tryz.results27 Tryz.results28 Tryz.results29 Tryz.results30 Tryz.results31 Tryz.results32 Tryz.results33 Tryz.results34 Tryz.results35 Tryz.results36 Tryz.results37 Tryz.results38 Tryz.results39
attribute [go_sem] Tryz.results40 Tryz.results41 Tryz.results42 Tryz.results43 Tryz.results44 Tryz.results45 Tryz.results46 Tryz.results47 Tryz.results48 Tryz.results49 Tryz.results50 Tryz.results51 Tryz.results52 Tryz.results53 Tryz.results54 Tryz.results55 Tryz.results56 Tryz.results57 Tryz.results58 Tryz.results59 Tryz.results60 Tryz.results61 Tryz.results62 Tryz.results63 Tryz.results64 Tryz.results65 Tryz.results66 Tryz.results67 Tryz.results68 Tryz.results69 Tryz.results70 Tryz.results71 Tryz.results72 Tryz.results73 Tryz.results74 Tryz.results75 Tryz.results76 Tryz.results77 Tryz.results78 Tryz.results79
attribute [go_sem] Tryz.results80 Tryz.results81 Tryz.results82 Tryz.results83 Tryz.results84 Tryz.results85 Tryz.results86 Tryz.results87 Tryz.results88 Tryz.results89 Tryz.results90 Tryz.results91 Tryz.results92 Tryz.results93 Tryz.results94 Tryz.results95 Tryz.results96 Tryz.results97 Tryz.results98 Tryz.results99 Tryz.results100 Tryz.results101 Tryz.results102 Tryz.results103 Tryz.results104 Tryz.results105 Tryz.results106 Tryz.results107 Tryz.results108 Tryz.results109 Tryz.results110 Tryz.results111 Tryz.results112 Tryz.results113 Tryz.results114 Tryz.results115 Tryz.results116 Tryz.results117 Tryz.results118 Tryz.results119
attribute [go_sem] Tryz.results120 Tryz.results121 Tryz.results122 Tryz.results123 Tryz.results124 Tryz.results125 Tryz.results126 Tryz.results127 Tryz.results128 Tryz.results129 Tryz.results130 Tryz.results131 Tryz.results132 Tryz.results133 Tryz.results134 Tryz.results135 Tryz.results136 Tryz.results137 Tryz.results138 Tryz.results139 Tryz.results140 Tryz.results141 Tryz.results142 Tryz.results143 Tryz.results144 Tryz.results145 Tryz.results146 Tryz.results147 Tryz.results148 Tryz.results149 Tryz.results150 Tryz.results151 Tryz.results152 Tryz.results153 Tryz.results154 Tryz.results155 Tryz.results156 Tryz.results157 Tryz.results158 Tryz.results159
attribute [go_sem] Tryz.results160 Tryz.results161 Tryz.results162 Tryz.results163 Tryz.results164 Tryz.results165 Tryz.results166 Tryz.results167 Tryz.results168 Tryz.results169 Tryz.results170 Tryz.results171 Tryz.results172 Tryz.results173 Tryz.results174 Tryz.results175 Tryz.results176 Tryz.results177 Tryz.results178 Tryz.results179 Tryz.results180 Tryz.results181 Tryz.results182 Tryz.results183 Tryz.results184 Tryz.results185 Tryz.results186 Tryz.results187 Tryz.results188 Tryz.results189 Tryz.results190 Tryz.results191 Tryz.results192 Tryz.results193 Tryz.results194 Tryz.results195 Tryz.results196 Tryz.results197 Tryz.results198 Tryz.results199
attribute [go_sem] Tryz.results200 Tryz.results201 Tryz.results202 Tryz.results203 Tryz.results204 Tryz.results205 Tryz.results206 Tryz.results207 Tryz.results208 Tryz.results209 Tryz.results210 Tryz.results211 Tryz.results212 Tryz.results213 Tryz.results214 Tryz.results215 Tryz.results216 Tryz.results217 Tryz.results218 Tryz.results219 Tryz.results220 Tryz.results221 Tryz.results222 Tryz.results223 Tryz.results224 Tryz.results225 Tryz.results226 Tryz.results227 Tryz.results228 Tryz.results229 Tryz.results230 Tryz.results231 Tryz.results232 Tryz.results233 Tryz.results234 Tryz.results235 Tryz.results236 Tryz.results237 Tryz.results238 Tryz.results239
attribute [go_sem] Tryz.results240 Tryz.results241 Tryz.results242 Tryz.results243 Tryz.results244 Tryz.results245 Tryz.results246 Tryz.results247 Tryz.results248 Tryz.results249 Tryz.results250 Tryz.results251 Tryz.results252 Tryz.results253 Tryz.results254 Tryz.results255 Tryz.results256 Tryz.results257 Tryz.results258 Tryz.results259 Tryz.results260 Tryz.results261 Tryz.results262 Tryz.results263 Tryz.results264 Tryz.results265 Tryz.results266 Tryz.results267 Tryz.results268 Tryz.results269 Tryz.results270 Tryz.results271 Tryz.results272 Tryz.results273 Tryz.results274 Tryz.results275 Tryz.results276 Tryz.results277 Tryz.results278 Tryz.results279
attribute [go_sem] Tryz.results280 Tryz.results281 Tryz.results282 Tryz.results283 Tryz.results284 Tryz.results285 Tryz.results286 Tryz.results287 Tryz.results288 Tryz.results289 Tryz.results290 Tryz.results291 Tryz.results292 Tryz.results293 Tryz.results294 Tryz.results295 Tryz.results296 Tryz.results297 Tryz.results298 Tryz.results299 Tryz.results300 Tryz.results301 Tryz.results302 Tryz.results303 Tryz.results304 Tryz.results305 Tryz.results306 Tryz.results307 Tryz.results308 Tryz.results309 Tryz.results310 Tryz.results311 Tryz.results312 Tryz.results313 Tryz.results314 Tryz.results315 Tryz.results316 Tryz.results317 Tryz.results318 Tryz.results319
attribute [go_sem] Tryz.results320 Tryz.results321 Tryz.results322 Tryz.results323 Tryz.results324 Tryz.results325 Tryz.results326 Tryz.results327 Tryz.results328 Tryz.results329 Tryz.results330 Tryz.results331 Tryz.results332 Tryz.results333 Tryz.results334 Tryz.results335 Tryz.results336 Tryz.results337 Tryz.results338 Tryz.results339 Tryz.results340 Tryz.results341 Tryz.results342 Tryz.results343 Tryz.results344 Tryz.results345 Tryz.results346 Tryz.results347 Tryz.results348 Tryz.results349 Tryz.results350 Tryz.results351 Tryz.results352 Tryz.results353 Tryz.results354 Tryz.results355 Tryz.results356 Tryz.results357 Tryz.results358 Tryz.results359
attribute [go_sem] Tryz.results360 Tryz.results361 Tryz.results362 Tryz.results363 Tryz.results364 Tryz.results365 Tryz.results366 Tryz.results367 Tryz.results368 Tryz.results369 Tryz.results370 Tryz.results371 Tryz.results372 Tryz.results373 Tryz.results374 Tryz.results375 Tryz.results376 Tryz.results377 Tryz.results378 Tryz.results379 Tryz.results380 Tryz.results381 Tryz.results382 Tryz.results383 Tryz.results384 Tryz.results385 Tryz.results386 Tryz.results387 Tryz.results388 Tryz.results389 Tryz.results390 Tryz.results391 Tryz.results392 Tryz.results393 Tryz.results394 Tryz.results395 Tryz.results396 Tryz.results397 Tryz.results398 Tryz.results399
attribute [go_sem] Tryz.results400 Tryz.results401 Tryz.results402 Tryz.results403 Tryz.results404 Tryz.results405 Tryz.results406 Tryz.results407 Tryz.results408 Tryz.results409 Tryz.results410 Tryz.results411 Tryz.results412 Tryz.results413 Tryz.results414 Tryz.results415 Tryz.results416 Tryz.results417 Tryz.results418 Tryz.results419 Tryz.results420 Tryz.results421 Tryz.results422 Tryz.results423 Tryz.results424 Tryz.results425 Tryz.results426 Tryz.results427 Tryz.results428 Tryz.results429 Tryz.results430 Tryz.results431 Tryz.results432 Tryz.results433 Tryz.results434 Tryz.results435 Tryz.results436 Tryz.results437 Tryz.results438 Tryz.results439
attribute [go_sem] Tryz.results440 Tryz.results441 Tryz.results442 Tryz.results443 Tryz.results444 Tryz.results445 Tryz.results446 Tryz.results447 Tryz.results448 Tryz.results449 Tryz.results450 Tryz.results451 Tryz.results452 Tryz.results453 Tryz.results454 Tryz.results455 Tryz.results456 Tryz.results457 Tryz.results458 Tryz.results459 Tryz.results460 Tryz.results461 Tryz.results462 Tryz.results463 Tryz.results464 Tryz.results465 Tryz.results466 Tryz.results467 Tryz.results468 Tryz.results469 Tryz.results470 Tryz.results471 Tryz.results472 Tryz.results473 Tryz.results474 Tryz.results475 Tryz.results476 Tryz.results477 Tryz.results478 Tryz.results479
attribute [go_sem] Tryz.results480 Tryz.results481 Tryz.results482 Tryz.results483 Tryz.results484 Tryz.results485 Tryz.results486 Tryz.results487 Tryz.results488 Tryz.results489 Tryz.results490 Tryz.results491 Tryz.results492 Tryz.results493 Tryz.results494 Tryz.results495 Tryz.results496 Tryz.results497 Tryz.results498 Tryz.results499 Tryz.results500 Tryz.results501 Tryz.results502 Tryz.results503 Tryz.results504 Tryz.results505 Tryz.results506 Tryz.results507 Tryz.results508 Tryz.results509 Tryz.results510 Tryz.results511
abbrev AC (f:FuncId) (args:List AV) (r:AV):Prop:=ACall Go.Proofs.Tryz.prog f 0 args [] fun v _=>v=r
theorem mx:Go.Proofs.Tryz.prog.follows .mixedOrders=true:=by kernel_rfl
end Go.Aw
namespace Go.Proofs
open Go.Shelf
def Tryz.lays99_ren:Go.Shelf.Ren:=⟨fun|99=>218|206=>281|n=>n,fun|9=>9|4=>4|3=>3|n=>n,fun|n=>n⟩
theorem Tryz.lays99:Go.Proofs.Lays.n99 Tryz.prog Tryz.lays99_ren:= {
 mixed:=by kernel_rfl
 f99:=Tryz.func218.trans (congrArg some (by kernel_rfl))
 f206:=Tryz.func281.trans (congrArg some (by kernel_rfl))
 t3:=Tryz.underlying3
 a3:=Tryz.isAgg3
 z3:=Tryz.sizeOf3
 v3:=Tryz.zeroValue3
 t4:=Tryz.underlying4
 a4:=Tryz.isAgg4
 z4:=Tryz.sizeOf4
 v4:=Tryz.zeroValue4
 t9:=Tryz.underlying9
 a9:=Tryz.isAgg9
 z9:=Tryz.sizeOf9
 v9:=Tryz.zeroValue9 }
open Go.RowKit Go.Lib in
theorem Tryz.strings_HasPrefix (s p:ByteArray) (w:World):
  Calls Tryz.prog 218 #[.string s,.string p] w fun e w'=>e= .returned (.bool (Lib.hasPrefix s.data.toList p.data.toList))∧w'=w:=Any.strings_HasPrefix Tryz.lays99 s p w
def Tryz.lays105_ren:Go.Shelf.Ren:=⟨fun|105=>253|212=>116|99=>218|165=>324|166=>113|170=>325|169=>98|263=>189|264=>190|206=>281|240=>188|241=>369|276=>257|277=>405|n=>n,fun|9=>9|3=>3|4=>4|20=>20|0=>0|46=>214|109=>215|5=>5|72=>180|76=>210|51=>67|146=>292|53=>22|148=>294|70=>178|37=>60|75=>209|127=>282|164=>375|80=>84|n=>n,fun|n=>n⟩
theorem Tryz.lays105:Go.Proofs.Lays.n105 Tryz.prog Tryz.lays105_ren:= {
 mixed:=by kernel_rfl
 f99:=Tryz.func218.trans (congrArg some (by kernel_rfl))
 f105:=Tryz.func253.trans (congrArg some (by kernel_rfl))
 f165:=Tryz.func324.trans (congrArg some (by kernel_rfl))
 f166:=Tryz.func113.trans (congrArg some (by kernel_rfl))
 f169:=Tryz.func98.trans (congrArg some (by kernel_rfl))
 f170:=Tryz.func325.trans (congrArg some (by kernel_rfl))
 f206:=Tryz.func281.trans (congrArg some (by kernel_rfl))
 f212:=Tryz.func116.trans (congrArg some (by kernel_rfl))
 f240:=Tryz.func188.trans (congrArg some (by kernel_rfl))
 f241:=Tryz.func369.trans (congrArg some (by kernel_rfl))
 f263:=Tryz.func189.trans (congrArg some (by kernel_rfl))
 f264:=Tryz.func190.trans (congrArg some (by kernel_rfl))
 f276:=Tryz.func257.trans (congrArg some (by kernel_rfl))
 f277:=Tryz.func405.trans (congrArg some (by kernel_rfl))
 t0:=Tryz.underlying0
 a0:=Tryz.isAgg0
 z0:=Tryz.sizeOf0
 v0:=Tryz.zeroValue0
 t3:=Tryz.underlying3
 a3:=Tryz.isAgg3
 z3:=Tryz.sizeOf3
 v3:=Tryz.zeroValue3
 t4:=Tryz.underlying4
 a4:=Tryz.isAgg4
 z4:=Tryz.sizeOf4
 v4:=Tryz.zeroValue4
 t5:=Tryz.underlying5
 a5:=Tryz.isAgg5
 z5:=Tryz.sizeOf5
 v5:=Tryz.zeroValue5
 t9:=Tryz.underlying9
 a9:=Tryz.isAgg9
 z9:=Tryz.sizeOf9
 v9:=Tryz.zeroValue9
 t20:=Tryz.underlying20
 a20:=Tryz.isAgg20
 z20:=Tryz.sizeOf20
 v20:=Tryz.zeroValue20
 t37:=Tryz.underlying60
 a37:=Tryz.isAgg60
 z37:=Tryz.sizeOf60
 v37:=Tryz.zeroValue60
 t46:=Tryz.underlying214
 a46:=Tryz.isAgg214
 z46:=Tryz.sizeOf214
 v46:=Tryz.zeroValue214
 t51:=Tryz.underlying67
 a51:=Tryz.isAgg67
 z51:=Tryz.sizeOf67
 v51:=Tryz.zeroValue67
 t53:=Tryz.underlying22
 a53:=Tryz.isAgg22
 z53:=Tryz.sizeOf22
 v53:=Tryz.zeroValue22
 t70:=Tryz.underlying178
 a70:=Tryz.isAgg178
 z70:=Tryz.sizeOf178
 v70:=Tryz.zeroValue178
 t72:=Tryz.underlying180
 a72:=Tryz.isAgg180
 z72:=Tryz.sizeOf180
 v72:=Tryz.zeroValue180
 t75:=Tryz.underlying209
 a75:=Tryz.isAgg209
 z75:=Tryz.sizeOf209
 v75:=Tryz.zeroValue209
 t76:=Tryz.underlying210
 a76:=Tryz.isAgg210
 z76:=Tryz.sizeOf210
 v76:=Tryz.zeroValue210
 t109:=Tryz.underlying215
 a109:=Tryz.isAgg215
 z109:=Tryz.sizeOf215
 v109:=Tryz.zeroValue215
 t127:=Tryz.underlying282
 a127:=Tryz.isAgg282
 z127:=Tryz.sizeOf282
 v127:=Tryz.zeroValue282
 t146:=Tryz.underlying292
 a146:=Tryz.isAgg292
 z146:=Tryz.sizeOf292
 v146:=Tryz.zeroValue292
 t148:=Tryz.underlying294
 a148:=Tryz.isAgg294
 z148:=Tryz.sizeOf294
 v148:=Tryz.zeroValue294
 t164:=Tryz.underlying375
 a164:=Tryz.isAgg375
 z164:=Tryz.sizeOf375
 v164:=Tryz.zeroValue375 }
theorem Tryz.Builder_Extra_105:Builder.Extra Tryz.prog Tryz.lays105_ren:= {
 sizeBuilder:=by kernel_rfl
 liesBuilder:=by kernel_rfl
 t5:=Tryz.underlying5
 a5:=Tryz.isAgg5
 z5:=Tryz.sizeOf5
 v5:=Tryz.zeroValue5
 infoByte:=by kernel_rfl
 cellsByte:=by kernel_rfl
 sizeByte:=by kernel_rfl
 neB5:=by decide }
open Go.RowKit Go.Lib in
theorem Tryz.strings_Repeat (s:ByteArray) (c:Nat) (w:World) (hc:c≤9223372036854775807) (hlen:s.size*c≤140737488355328):
  Calls Tryz.prog 253 #[.string s,.int .i64 c] w fun e w'=>e= .returned (.string ⟨(Lib.repeatL s.data.toList c).toArray⟩)∧Below w.heap.size w w':=Any.strings_Repeat Tryz.lays105 Tryz.Builder_Extra_105 s c w hc hlen
end Go.Proofs
