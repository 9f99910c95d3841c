/-
  Parts of the proof: AwPeek, AwConv, Ty, Shelf, LibS (short names; the readable texts lie in the repo, under wip).
-/
import Derived.Test.YtbmlikkofegdeaaGreatDoorPiece17
import Derived.Test.YtbmlikkofegdeaaGreatDoorPiece14
import Derived.Test.YtbmlikkofegdeaaGreatDoorPiece8
import Derived.Test.YtbmlikkofegdeaaGreatDoorProg
import Derived.KernelRfl
import Derived.Shelf.Strings.Prefix
import Derived.Shelf.Strings.Repeat
import Derived.Test.YtbmlikkofegdeaaGreatDoorPiece15
set_option maxRecDepth 100000
set_option maxHeartbeats 2000000
set_option linter.unusedSimpArgs false
set_option linter.unusedVariables false
namespace Go.Aw
open Go
def zeU (v:AV):AV:=if v.scal=true then v else .any
def zstep (cx:Cx) (o:Oper) (s f:AS) (K:AS->AS->Prop):Prop:=
 dstOk cx.nt o.dst/\o.guard=none/\
 match o.op with
 | .move x=>known s x=true/\(s.ev x).1=true/\K (s.put o.dst true ((s.ev x).2.tag cx.P o.type)) (f.put o.dst true (zeU ((s.ev x).2.tag cx.P o.type)))
 | .assign x=>known s x=true/\(s.ev x).1=true/\K (s.put o.dst true ((s.ev x).2.tag cx.P o.type)) (f.put o.dst true (zeU ((s.ev x).2.tag cx.P o.type)))
 | .call c=>isVal cx.P (.call c)=true/\(aval cx.P f (.call c)).1/\K (s.put o.dst true (zeU (aval cx.P f (.call c)).2)) (f.put o.dst true (aval cx.P f (.call c)).2)
 | .load t x=>isVal cx.P (.load t x)=true/\(aval cx.P f (.load t x)).1/\K (s.put o.dst true .any) (f.put o.dst true (aval cx.P f (.load t x)).2)
 |op=>isVal cx.P op=true/\(aval cx.P f op).1/\K (s.put o.dst true (zeU (aval cx.P f op).2)) (f.put o.dst true (aval cx.P f op).2)
def zkj (cx:Cx):List Oper->AS->AS->(AS->Prop)->Prop
 | [],s,_,K=>K s
 |o::r,s,f,K=>zstep cx o s f (λs' f'=>zkj cx r s' f' K)
section
variable {cx : Cx} {tab : Tab} {E F : Env} {s f : AS} {a : Act} {w : World}
theorem zmw {W W':World} {E E':Env} {h h':AHeap} {v:AV} {x:Value} (hr:Rep W E h v x):Rep W' E' h' (zeU v) x:=by
 unfold zeU;split
 ·rename_i hs;exact Rep.scal v x hs hr
 ·simp only [Rep]
theorem zmx {d:Option Nat} {v:AV} {x:Value} (hs:Slots w F f a) (hsz:∀k,d=some k->k<a.tmps.size) (hv:Rep w F f.h v x):Slots w F (f.put d true v) (a.put d x):=by
 cases d with
 |none=>exact hs
 | some d=>
  intro k g u hk;have hd:=hsz d rfl;rw [zr0] at hk;have hh:(f.put (some d) true v).h=f.h:=rfl;rw [hh];split at hk
  ·rename_i e;simp only [Option.some.injEq] at e;subst e;simp only [Option.some.injEq,Prod.mk.injEq] at hk;obtain ⟨rfl,rfl⟩:=hk;refine ⟨x,?_,λ_=>hv,λe=>by cases e⟩;simp [Act.put,hd]
  ·rename_i e;have e:¬d=k:=λh=>e (by rw [h]);obtain ⟨y,h1,h2,h3⟩:=hs k g u hk;refine ⟨y,?_,h2,h3⟩;simpa [Act.put,Array.getElem?_setIfInBounds_ne e] using h1
theorem zuX {o:Oper} {K:AS->AS->Prop} {Q:Exit->Act->World->Prop} {next:Act->World->Prop} (hs:Sat cx E s a w) (hp:SatH F f.h w) (hf:Slots w F f a) (h:zstep cx o s f K)
  (hn:∀s' f' a',Sat cx E s' a' w->SatH F f'.h w->Slots w F f' a'->s'.h=s.h->K s' f'->next a' w):o.wpIn cx.F 0 cx.P a w next Q:=by
 obtain ⟨hd,hg,h⟩:=h;have hdst:∀k,o.dst=some k->k<cx.nt:=λk e=>by rw [e] at hd;exact hd
 have hdst':∀k,o.dst=some k->k<a.tmps.size:=λk e=>by rw [hs.nt];exact hdst k e
 have hputh:∀ (u:AS) (v:AV),(u.put o.dst true v).h=u.h:=λu v=>by unfold AS.put;cases o.dst<;>rfl
 have hval:∀u:AV,(u= .any\/u=zeU (aval cx.P f o.op).2)->isVal cx.P o.op=true->(aval cx.P f o.op).1->K (s.put o.dst true u) (f.put o.dst true (aval cx.P f o.op).2)->o.wpIn cx.F 0 cx.P a w next Q:=by
  intro u hu h0 h1 h2;obtain ⟨v,hv,hr⟩:=znt hp hf o h1;refine Does.wpIn (zik h0) (R:=λv' w'=>v'=v/\w'=w) (.inl ⟨v,w,hv,rfl,rfl⟩) ?_;rintro v' w' ⟨rfl,rfl⟩;refine hn _ _ _ (hs.put hdst (λ_=>?_) (λe=>by cases e)) (by rw [hputh];exact hp) (zmx hf hdst' hr) (hputh _ _) h2;rcases hu with rfl|rfl
  ·simp only [Rep]
  ·exact zmw hr
 have hmove:∀x,(execOp a.eval o=pure (.value (a.eval x)))->(∀c,o.op≠ .defer c)->(s.ev x).1=true->K (s.put o.dst true ((s.ev x).2.tag cx.P o.type)) (f.put o.dst true (zeU ((s.ev x).2.tag cx.P o.type)))->o.wpIn cx.F 0 cx.P a w next Q:=by intro x he h3 h1 h2;refine Does.wpIn h3 (R:=λv' w'=>v'=a.eval x/\w'=w) (.inl ⟨a.eval x,w,by rw [he];rfl,rfl,rfl⟩) ?_;rintro v' w' ⟨rfl,rfl⟩;have hr:=Rep.tag (P:=cx.P) (t:=o.type) (ev_ok hs.slots x h1);exact hn _ _ _ (hs.put hdst (λ_=>hr) (λe=>by cases e)) (by rw [hputh];exact hp) (zmx hf hdst' (zmw hr)) (hputh _ _) h2
 obtain ⟨dst,op,ot,pos,after,guard⟩:=o;dsimp only at h hval hmove;split at h
 ·exact hmove _ rfl (by simp) h.2.1 h.2.2
 ·exact hmove _ rfl (by simp) h.2.1 h.2.2
 ·exact hval _ (.inr rfl) h.1 h.2.1 h.2.2
 ·exact hval _ (.inl rfl) h.1 h.2.1 h.2.2
 ·exact hval _ (.inr rfl) h.1 h.2.1 h.2.2
theorem zmy (ht:TabOk cx.P tab) {all:Array Oper} :∀ (l:List Nat) (pre rest:List Oper) {K:AS->Prop} {s f:AS} {a:Act},l.map (all[·]?)=(pre++rest).map some->Sat cx E s a w->SatH F f.h w->Slots w F f a->zkj cx pre s f (λs'=>aopsY cx tab all rest K s')->
  wpOpsIn cx.F 0 cx.P all (λe a' w'=>e= .normal/\Reach cx E s.h w K a' w') l a w
 |l,[],rest,K,s,f,a,hl,hs,_,_,h=>zh1 ht l rest (by simpa using hl) hs h
 | [],o::pre,rest,K,s,f,a,hl,hs,_,_,h=>by simp at hl
 | i::l,o::pre,rest,K,s,f,a,hl,hs,hp,hf,h=>by
  simp only [List.cons_append,List.map_cons,List.cons.injEq] at hl;obtain ⟨hi,hl⟩:=hl;simp only [zkj] at h;simp only [wpOpsIn,hi]
  have hw:Region.wanted o (yielded all a.tmps)=true:=by unfold Region.wanted;rw [h.2.1]
  rw [if_pos hw];refine zuX hs hp hf h ?_;intro s' f' a' hs' hp' hf' he hK;have:=zmy ht l pre rest hl hs' hp' hf' hK;rw [he] at this;exact this
theorem zqt {β:Type} {id:Nat} {ops:Array Oper} {Q:Exit->AS->Prop} (tab:Tab) (ht:TabOk cx.P tab) (pre rest:List Oper) (hsp:ops.toList=pre++rest) (f:β->AS)
  (hS:∀g M N A w,cx.G g M N A w->∃F b,SatH F (f b).h w/\∀k g v,lk (f b).t k=some (g,v)->g=true/\∃u,lk s.t k=some (true,.raw u)/\Rep w F (f b).h v u)
  (h:∀b,zkj cx pre s (f b) (λs'=>aopsY cx tab ops rest (Q .normal) s')):AW cx (.region id ops false) Q s:=λE a w hs=>by obtain ⟨F,b,hp,hl⟩:=hS _ _ _ _ _ hs.ghost;refine wpIn_region (zaR _ (zmy (F:=F) ht _ pre rest (by rw [<-hsp];exact zim ops) hs hp (λk g v hk=>?_) (h b)) (by rintro e a' w' ⟨rfl,hr⟩;exact hr));obtain ⟨rfl,u,h1,h2⟩:=hl k g v hk;obtain ⟨x,h3,h4,_⟩:=hs.slots k true _ h1;have:=h4 rfl;simp only [Rep] at this;subst this;exact ⟨x,h3,λ_=>h2,λe=>by cases e⟩
theorem zge {β:Type} {id:Nat} {ops:Array Oper} {y:Code} {Q:Exit->AS->Prop} (tab:Tab) (ht:TabOk cx.P tab) (pre rest:List Oper) (hsp:ops.toList=pre++rest) (f:β->AS)
  (hS:∀g M N A w,cx.G g M N A w->∃F b,SatH F (f b).h w/\∀k g v,lk (f b).t k=some (g,v)->g=true/\∃u,lk s.t k=some (true,.raw u)/\Rep w F (f b).h v u)
  (h:∀K,(∀s',AW cx y Q s'->K s')->∀b,zkj cx pre s (f b) (λs'=>aopsY cx tab ops rest K s')):AW cx (.seq (.region id ops false) y) Q s:=
 zaM λK hK=>zqt tab ht pre rest hsp f hS (h K hK)
end
attribute [go_sem] zkj zstep zeU List.take_succ_cons List.take_zero List.drop_succ_cons List.drop_zero
theorem zqu {cx:Cx} {s:AS} {Q:Exit->AS->Prop} {g:Operand} {ps:Array Tmp} {assign body:Code} {f:FuncId} {q:Nat} (fl:Nat) {items:List (List AV)} (I:List (List AV)->AHeap×Option (List (List AV)))
  (hg:s.ev g=(true,.fn (.func f) [] [.vp q 0])) (hro:cx.ro=none) (hen:zgy cx.P f)
  (hrun:∀ (y:Yo cx.P items) (v0:Value),(∀g M N A w,y.G g M N A w->∃F xs,SatH F (I xs).1 w/\Rep w F (I xs).1 (.vp q 0) v0)->∀E w,SatH E [] w->y.G (some []) E.M E.N (Own E []) w->
   Calls cx.P f (#[]++ #[Value.func (.yield y.yl) #[] #[]]++ #[v0]) w (λe w'=>∃v E' h' g,e= .returned v/\((∀xs,g=some xs->xs=items)/\h'= [])/\SatH E' h' w'/\Evo fl E [] w E' h' w'/\y.G g E'.M E'.N (Own E' h') w'))
  (hfl:∀i,(hget s.h i).isSome->i<fl) (hfc:cx.fl<=fl) (hq:∃cs,hget s.h q=some (.var cs)) (hqI:∀xs,∃cs,hget (I xs).1 q=some (.var cs))
  (hI:leH s.h (I []).1) (hIn:inH (I []).1 (idsH (I []).1)) (hIg:(I []).2=s.g)
  (hlen:∀x∈items,x.length=ps.size) (hps:∀t∈ps.toList,t<cx.nt)
  (hround:∀xs x,(xs++ [x])<+:items->∀ (l:Nat) (r1:Rnd cx),AW (cx.inR l fl r1) assign (AsgK λs1=>∀r2:Rnd cx,AW (cx.inR l fl r2) body (zf (λh' g'=>leH h' (I (xs++ [x])).1/\inH (I (xs++ [x])).1 (idsH (I (xs++ [x])).1)/\g'=(I (xs++ [x])).2) (λ_ _ _=>False)) s1)
   { t:=zfd ps.toList x (keepT (I xs).1 s.t),h:=(I xs).1,g:=(I xs).2 })
  (hdone:Q .normal { t:=keepT (I items).1 s.t,h:=(I items).1,g:=(I items).2 }):
  AW cx (.rangeFunc g ps assign body) Q s:=by
 have hs0:hsel (λ_=>false) s.h= []:=by
  induction s.h with
  |nil=>rfl
  |cons a h ih=>simp only [hsel];rw [if_neg (by simp)];exact ih
 have hs1:hsel (λi=> !(λ_=>false) i) s.h=s.h:=zh0 (λq _=>rfl);refine zgA (Kit:=λg h'=>(∀xs,g=some xs->xs=items)/\h'= []) (items:=items) (fl:=fl) (caps':= [.any]) (λ_=>false) I (λ_ _ _=>False) hro hg (by simp [AV.leL,AV.le]) hen ?_ hfl hfc ?_ ?_ (by rw [hs1];exact hI) hIn hIg (λ_ _ _ _=>rfl) (λ_ _ _ h=>h.elim) ?_ hlen hps hround ?_ ?_
 ·intro E0 w0 pf qc h0 hpf hqc;have hpf':pf= #[]:=by simp only [Reps] at hpf;simpa using hpf
  subst hpf';simp only [Reps] at hqc;obtain ⟨v0,r,hv0,hr0,hr⟩:=hqc;subst hr
  have hqc':qc= #[v0]:=by apply Array.ext';simpa using hv0
  subst hqc';refine ⟨λw=>∃F xs,SatH F (I xs).1 w/\Rep w F (I xs).1 (.vp q 0) v0,?_,?_,λ_ _ _ h=>h.elim⟩
  ·intro y hy E w hsE _ _ hG;rw [hs0] at hsE hG ⊢;exact hrun y v0 hy E w hsE hG
  ·intro xs E w hsE hgo;refine ⟨E,xs,hsE,?_⟩;obtain ⟨cs,hc⟩:=hqI xs;obtain ⟨cs0,hc0⟩:=hq;have hgq:=hgo q (hfl q (by rw [hc0];rfl)) (by rw [hc];rfl);simp only [Rep] at hr0 ⊢;obtain ⟨b,cs',h1,h2,h3⟩:=hr0;unfold GoesOn at hgq;rw [hc0] at hgq;exact ⟨b,cs,hc,hgq.1.trans h2,h3⟩
 ·intro i o _ h;cases h
 ·intro j hj;simp [AV.idsL,AV.ids] at hj
 ·rintro g h' ⟨h1,rfl⟩;exact ⟨λi hi=>by simp [hget] at hi,h1⟩
 ·rintro h1 ⟨_,rfl⟩;exact hdone
 ·exact λ_ _ _ _ _ h=>h.elim
open Go
open Go Go.Proofs
@[go_sem] theorem ty3:ty Go.Proofs.Tryz.prog 3=⟨.int .i64,1,8⟩:=by kernel_rfl
@[go_sem] theorem zk3:zZ Go.Proofs.Tryz.prog 3=true:=by kernel_rfl
@[go_sem] theorem tt3:z6 Go.Proofs.Tryz.prog 12 3=false:=by kernel_rfl
@[go_sem] theorem zc3:zT Go.Proofs.Tryz.prog 12 3= [.d (.int .i64 0)]:=by kernel_rfl
@[go_sem] theorem ty4:ty Go.Proofs.Tryz.prog 4=⟨.bool,1,1⟩:=by kernel_rfl
@[go_sem] theorem zk4:zZ Go.Proofs.Tryz.prog 4=true:=by kernel_rfl
@[go_sem] theorem tt4:z6 Go.Proofs.Tryz.prog 12 4=false:=by kernel_rfl
@[go_sem] theorem zc4:zT Go.Proofs.Tryz.prog 12 4= [.d (.bool false)]:=by kernel_rfl
@[go_sem] theorem ty5:ty Go.Proofs.Tryz.prog 5=⟨.int .u8,1,1⟩:=by kernel_rfl
@[go_sem] theorem zk5:zZ Go.Proofs.Tryz.prog 5=true:=by kernel_rfl
@[go_sem] theorem zc5:zT Go.Proofs.Tryz.prog 12 5= [.d (.int .u8 0)]:=by kernel_rfl
@[go_sem] theorem ty9:ty Go.Proofs.Tryz.prog 9=⟨.str,1,16⟩:=by kernel_rfl
@[go_sem] theorem zk9:zZ Go.Proofs.Tryz.prog 9=true:=by kernel_rfl
@[go_sem] theorem tt9:z6 Go.Proofs.Tryz.prog 12 9=false:=by kernel_rfl
@[go_sem] theorem zc9:zT Go.Proofs.Tryz.prog 12 9= [.d (.str [])]:=by kernel_rfl
@[go_sem] theorem ty21:ty Go.Proofs.Tryz.prog 21=⟨.int .i32,1,4⟩:=by kernel_rfl
@[go_sem] theorem ty22:ty Go.Proofs.Tryz.prog 22=⟨.slice 198,1,24⟩:=by kernel_rfl
@[go_sem] theorem tt22:z6 Go.Proofs.Tryz.prog 12 22=false:=by kernel_rfl
@[go_sem] theorem ty23:ty Go.Proofs.Tryz.prog 23=⟨.slice 3,1,24⟩:=by kernel_rfl
@[go_sem] theorem zk23:zZ Go.Proofs.Tryz.prog 23=true:=by kernel_rfl
@[go_sem] theorem tt23:z6 Go.Proofs.Tryz.prog 12 23=false:=by kernel_rfl
@[go_sem] theorem zc23:zT Go.Proofs.Tryz.prog 12 23= [.nils 1]:=by kernel_rfl
@[go_sem] theorem ty25:ty Go.Proofs.Tryz.prog 25=⟨.struct [(0,9),(1,22),(2,3),(3,4),(4,23)],5,80⟩:=by kernel_rfl
@[go_sem] theorem zk25:zZ Go.Proofs.Tryz.prog 25=true:=by kernel_rfl
@[go_sem] theorem tt25:z6 Go.Proofs.Tryz.prog 12 25=false:=by kernel_rfl
@[go_sem] theorem zc25:zT Go.Proofs.Tryz.prog 12 25= [.d (.str []),.nils 2,.d (.int .i64 0),.d (.bool false),.nils 1]:=by kernel_rfl
@[go_sem] theorem ty27:ty Go.Proofs.Tryz.prog 27=⟨.struct [(0,3),(1,3)],2,16⟩:=by kernel_rfl
@[go_sem] theorem zk27:zZ Go.Proofs.Tryz.prog 27=true:=by kernel_rfl
@[go_sem] theorem tt27:z6 Go.Proofs.Tryz.prog 12 27=false:=by kernel_rfl
@[go_sem] theorem zc27:zT Go.Proofs.Tryz.prog 12 27= [.d (.int .i64 0),.d (.int .i64 0)]:=by kernel_rfl
@[go_sem] theorem ty28:ty Go.Proofs.Tryz.prog 28=⟨.int .u64,1,8⟩:=by kernel_rfl
@[go_sem] theorem tt28:z6 Go.Proofs.Tryz.prog 12 28=false:=by kernel_rfl
@[go_sem] theorem ty30:ty Go.Proofs.Tryz.prog 30=⟨.struct [(0,28),(1,3)],2,16⟩:=by kernel_rfl
@[go_sem] theorem zk30:zZ Go.Proofs.Tryz.prog 30=true:=by kernel_rfl
@[go_sem] theorem tt30:z6 Go.Proofs.Tryz.prog 12 30=false:=by kernel_rfl
@[go_sem] theorem zc30:zT Go.Proofs.Tryz.prog 12 30= [.d (.int .u64 0),.d (.int .i64 0)]:=by kernel_rfl
@[go_sem] theorem ty31:ty Go.Proofs.Tryz.prog 31=⟨.slice 150,1,24⟩:=by kernel_rfl
@[go_sem] theorem ty33:ty Go.Proofs.Tryz.prog 33=⟨.struct [(0,25),(5,27),(7,30),(9,31),(10,4)],11,144⟩:=by kernel_rfl
@[go_sem] theorem zk33:zZ Go.Proofs.Tryz.prog 33=true:=by kernel_rfl
@[go_sem] theorem tt33:z6 Go.Proofs.Tryz.prog 12 33=false:=by kernel_rfl
@[go_sem] theorem zc33:zT Go.Proofs.Tryz.prog 12 33= [.d (.str []),.nils 2,.d (.int .i64 0),.d (.bool false),.nils 1,.d (.int .i64 0),.d (.int .i64 0),.d (.int .u64 0),.d (.int .i64 0),.nils 66,.d (.bool false)]:=by kernel_rfl
@[go_sem] theorem ty34:ty Go.Proofs.Tryz.prog 34=⟨.int .u32,1,4⟩:=by kernel_rfl
@[go_sem] theorem zk34:zZ Go.Proofs.Tryz.prog 34=true:=by kernel_rfl
@[go_sem] theorem tt34:z6 Go.Proofs.Tryz.prog 12 34=false:=by kernel_rfl
@[go_sem] theorem zc34:zT Go.Proofs.Tryz.prog 12 34= [.d (.int .u32 0)]:=by kernel_rfl
@[go_sem] theorem ty37:ty Go.Proofs.Tryz.prog 37=⟨.slice 66,1,24⟩:=by kernel_rfl
@[go_sem] theorem ty38:ty Go.Proofs.Tryz.prog 38=⟨.int .i64,1,8⟩:=by kernel_rfl
@[go_sem] theorem zk38:zZ Go.Proofs.Tryz.prog 38=true:=by kernel_rfl
@[go_sem] theorem tt38:z6 Go.Proofs.Tryz.prog 12 38=false:=by kernel_rfl
@[go_sem] theorem zc38:zT Go.Proofs.Tryz.prog 12 38= [.d (.int .i64 0)]:=by kernel_rfl
@[go_sem] theorem ty59:ty Go.Proofs.Tryz.prog 59=⟨.struct [(0,3),(1,34)],2,16⟩:=by kernel_rfl
@[go_sem] theorem zk59:zZ Go.Proofs.Tryz.prog 59=true:=by kernel_rfl
@[go_sem] theorem tt59:z6 Go.Proofs.Tryz.prog 12 59=false:=by kernel_rfl
@[go_sem] theorem zc59:zT Go.Proofs.Tryz.prog 12 59= [.d (.int .i64 0),.d (.int .u32 0)]:=by kernel_rfl
@[go_sem] theorem ty62:ty Go.Proofs.Tryz.prog 62=⟨.slice 9,1,24⟩:=by kernel_rfl
@[go_sem] theorem zk62:zZ Go.Proofs.Tryz.prog 62=true:=by kernel_rfl
@[go_sem] theorem tt62:z6 Go.Proofs.Tryz.prog 12 62=false:=by kernel_rfl
@[go_sem] theorem zc62:zT Go.Proofs.Tryz.prog 12 62= [.nils 1]:=by kernel_rfl
@[go_sem] theorem ty64:ty Go.Proofs.Tryz.prog 64=⟨.struct [(0,23),(1,62)],2,48⟩:=by kernel_rfl
@[go_sem] theorem zk64:zZ Go.Proofs.Tryz.prog 64=true:=by kernel_rfl
@[go_sem] theorem tt64:z6 Go.Proofs.Tryz.prog 12 64=false:=by kernel_rfl
@[go_sem] theorem zc64:zT Go.Proofs.Tryz.prog 12 64= [.nils 1,.nils 1]:=by kernel_rfl
@[go_sem] theorem ty66:ty Go.Proofs.Tryz.prog 66=⟨.struct [(0,34),(1,3),(2,9)],3,32⟩:=by kernel_rfl
@[go_sem] theorem zk66:zZ Go.Proofs.Tryz.prog 66=true:=by kernel_rfl
@[go_sem] theorem tt66:z6 Go.Proofs.Tryz.prog 12 66=false:=by kernel_rfl
@[go_sem] theorem zc66:zT Go.Proofs.Tryz.prog 12 66= [.d (.int .u32 0),.d (.int .i64 0),.d (.str [])]:=by kernel_rfl
@[go_sem] theorem si66:(Go.Proofs.Tryz.prog.stoodInHeld 66)=false:=by kernel_rfl
@[go_sem] theorem eg66:(Go.Proofs.Tryz.prog.eqGuardType Go.Proofs.Tryz.prog.depth 66)=false:=by kernel_rfl
@[go_sem] theorem ty68:ty Go.Proofs.Tryz.prog 68=⟨.slice 74,1,24⟩:=by kernel_rfl
@[go_sem] theorem ty74:ty Go.Proofs.Tryz.prog 74=⟨.struct [(0,3),(1,3),(2,3)],3,24⟩:=by kernel_rfl
@[go_sem] theorem zk74:zZ Go.Proofs.Tryz.prog 74=true:=by kernel_rfl
@[go_sem] theorem tt74:z6 Go.Proofs.Tryz.prog 12 74=false:=by kernel_rfl
@[go_sem] theorem zc74:zT Go.Proofs.Tryz.prog 12 74= [.d (.int .i64 0),.d (.int .i64 0),.d (.int .i64 0)]:=by kernel_rfl
@[go_sem] theorem si74:(Go.Proofs.Tryz.prog.stoodInHeld 74)=false:=by kernel_rfl
@[go_sem] theorem eg74:(Go.Proofs.Tryz.prog.eqGuardType Go.Proofs.Tryz.prog.depth 74)=false:=by kernel_rfl
@[go_sem] theorem ty79:ty Go.Proofs.Tryz.prog 79=⟨.ptr 83,1,8⟩:=by kernel_rfl
@[go_sem] theorem zk79:zZ Go.Proofs.Tryz.prog 79=true:=by kernel_rfl
@[go_sem] theorem tt79:z6 Go.Proofs.Tryz.prog 12 79=false:=by kernel_rfl
@[go_sem] theorem zc79:zT Go.Proofs.Tryz.prog 12 79= [.d .nilp]:=by kernel_rfl
@[go_sem] theorem ty83:ty Go.Proofs.Tryz.prog 83=⟨.struct [(0,33),(11,59),(13,37),(14,64),(16,38)],17,240⟩:=by kernel_rfl
@[go_sem] theorem zk83:zZ Go.Proofs.Tryz.prog 83=true:=by kernel_rfl
@[go_sem] theorem tt83:z6 Go.Proofs.Tryz.prog 12 83=false:=by kernel_rfl
@[go_sem] theorem zc83:zT Go.Proofs.Tryz.prog 12 83= [.d (.str []),.nils 2,.d (.int .i64 0),.d (.bool false),.nils 1,.d (.int .i64 0),.d (.int .i64 0),.d (.int .u64 0),.d (.int .i64 0),.nils 66,.d (.bool false),.d (.int .i64 0),.d (.int .u32 0),.nils 3,.nils 1,.nils 1,.d (.int .i64 0)]:=by kernel_rfl
@[go_sem] theorem ty90:ty Go.Proofs.Tryz.prog 90=⟨.func,1,8⟩:=by kernel_rfl
@[go_sem] theorem zk90:zZ Go.Proofs.Tryz.prog 90=true:=by kernel_rfl
@[go_sem] theorem zc90:zT Go.Proofs.Tryz.prog 12 90= [.nilfn]:=by kernel_rfl
@[go_sem] theorem ty97:ty Go.Proofs.Tryz.prog 97=⟨.func,1,8⟩:=by kernel_rfl
@[go_sem] theorem tt97:z6 Go.Proofs.Tryz.prog 12 97=false:=by kernel_rfl
@[go_sem] theorem ty131:ty Go.Proofs.Tryz.prog 131=⟨.ptr 135,1,8⟩:=by kernel_rfl
@[go_sem] theorem tt131:z6 Go.Proofs.Tryz.prog 12 131=false:=by kernel_rfl
@[go_sem] theorem ty133:ty Go.Proofs.Tryz.prog 133=⟨.struct [(0,3),(1,3)],2,16⟩:=by kernel_rfl
@[go_sem] theorem zk133:zZ Go.Proofs.Tryz.prog 133=true:=by kernel_rfl
@[go_sem] theorem tt133:z6 Go.Proofs.Tryz.prog 12 133=false:=by kernel_rfl
@[go_sem] theorem zc133:zT Go.Proofs.Tryz.prog 12 133= [.d (.int .i64 0),.d (.int .i64 0)]:=by kernel_rfl
@[go_sem] theorem si133:(Go.Proofs.Tryz.prog.stoodInHeld 133)=false:=by kernel_rfl
@[go_sem] theorem eg133:(Go.Proofs.Tryz.prog.eqGuardType Go.Proofs.Tryz.prog.depth 133)=false:=by kernel_rfl
@[go_sem] theorem ty135:ty Go.Proofs.Tryz.prog 135=⟨.struct [(0,33),(11,3),(12,3),(13,9),(14,59),(16,133),(18,64),(20,3),(21,9)],22,280⟩:=by kernel_rfl
@[go_sem] theorem zk135:zZ Go.Proofs.Tryz.prog 135=true:=by kernel_rfl
@[go_sem] theorem tt135:z6 Go.Proofs.Tryz.prog 12 135=false:=by kernel_rfl
@[go_sem] theorem zc135:zT Go.Proofs.Tryz.prog 12 135= [.d (.str []),.nils 2,.d (.int .i64 0),.d (.bool false),.nils 1,.d (.int .i64 0),.d (.int .i64 0),.d (.int .u64 0),.d (.int .i64 0),.nils 66,.d (.bool false),.d (.int .i64 0),.d (.int .i64 0),.d (.str []),.d (.int .i64 0),.d (.int .u32 0),.d (.int .i64 0),.d (.int .i64 0),.nils 1,.nils 1,.d (.int .i64 0),.d (.str [])]:=by kernel_rfl
@[go_sem] theorem ty136:ty Go.Proofs.Tryz.prog 136=⟨.slice 90,1,24⟩:=by kernel_rfl
@[go_sem] theorem ty139:ty Go.Proofs.Tryz.prog 139=⟨.slice 141,1,24⟩:=by kernel_rfl
@[go_sem] theorem tt139:z6 Go.Proofs.Tryz.prog 12 139=false:=by kernel_rfl
@[go_sem] theorem ty141:ty Go.Proofs.Tryz.prog 141=⟨.arr 3 3,3,24⟩:=by kernel_rfl
@[go_sem] theorem zk141:zZ Go.Proofs.Tryz.prog 141=true:=by kernel_rfl
@[go_sem] theorem tt141:z6 Go.Proofs.Tryz.prog 12 141=false:=by kernel_rfl
@[go_sem] theorem zc141:zT Go.Proofs.Tryz.prog 12 141= [.d (.int .i64 0),.d (.int .i64 0),.d (.int .i64 0)]:=by kernel_rfl
@[go_sem] theorem ty148:ty Go.Proofs.Tryz.prog 148=⟨.arr 64 4,64,64⟩:=by kernel_rfl
@[go_sem] theorem ty150:ty Go.Proofs.Tryz.prog 150=⟨.struct [(0,9),(1,4),(2,148)],66,88⟩:=by kernel_rfl
@[go_sem] theorem zk150:zZ Go.Proofs.Tryz.prog 150=true:=by kernel_rfl
@[go_sem] theorem zc150:zT Go.Proofs.Tryz.prog 12 150= [.d (.str []),.d (.bool false)]++List.replicate 64 (.d (.bool false)):=by kernel_rfl
@[go_sem] theorem ty166:ty Go.Proofs.Tryz.prog 166=⟨.slice 5,1,24⟩:=by kernel_rfl
@[go_sem] theorem zk166:zZ Go.Proofs.Tryz.prog 166=true:=by kernel_rfl
@[go_sem] theorem tt166:z6 Go.Proofs.Tryz.prog 12 166=false:=by kernel_rfl
@[go_sem] theorem zc166:zT Go.Proofs.Tryz.prog 12 166= [.nils 1]:=by kernel_rfl
@[go_sem] theorem ty181:ty Go.Proofs.Tryz.prog 181=⟨.func,1,8⟩:=by kernel_rfl
@[go_sem] theorem ty198:ty Go.Proofs.Tryz.prog 198=⟨.struct [(0,3),(1,9)],2,24⟩:=by kernel_rfl
@[go_sem] theorem zk198:zZ Go.Proofs.Tryz.prog 198=true:=by kernel_rfl
@[go_sem] theorem tt198:z6 Go.Proofs.Tryz.prog 12 198=false:=by kernel_rfl
@[go_sem] theorem zc198:zT Go.Proofs.Tryz.prog 12 198= [.d (.int .i64 0),.d (.str [])]:=by kernel_rfl
@[go_sem] theorem ty205:ty Go.Proofs.Tryz.prog 205=⟨.arr 256 3,256,2048⟩:=by kernel_rfl
@[go_sem] theorem zk205:zZ Go.Proofs.Tryz.prog 205=true:=by kernel_rfl
@[go_sem] theorem tt205:z6 Go.Proofs.Tryz.prog 12 205=false:=by kernel_rfl
@[go_sem] theorem zc205:zT Go.Proofs.Tryz.prog 12 205=List.replicate 256 (.d (.int .i64 0)):=by kernel_rfl
@[go_sem] theorem ty216:ty Go.Proofs.Tryz.prog 216=⟨.func,1,8⟩:=by kernel_rfl
@[go_sem] theorem zk223:zZ Go.Proofs.Tryz.prog 223=true:=by kernel_rfl
@[go_sem] theorem tt223:z6 Go.Proofs.Tryz.prog 12 223=true:=by kernel_rfl
@[go_sem] theorem zc223:zT Go.Proofs.Tryz.prog 12 223= [.d .nilp,.nils 1]:=by kernel_rfl
@[go_sem] theorem ty245:ty Go.Proofs.Tryz.prog 245=⟨.ptr 247,1,8⟩:=by kernel_rfl
@[go_sem] theorem tt245:z6 Go.Proofs.Tryz.prog 12 245=false:=by kernel_rfl
@[go_sem] theorem ty247:ty Go.Proofs.Tryz.prog 247=⟨.struct [(0,64),(2,27),(4,25),(9,38)],10,152⟩:=by kernel_rfl
@[go_sem] theorem zk247:zZ Go.Proofs.Tryz.prog 247=true:=by kernel_rfl
@[go_sem] theorem tt247:z6 Go.Proofs.Tryz.prog 12 247=false:=by kernel_rfl
@[go_sem] theorem zc247:zT Go.Proofs.Tryz.prog 12 247= [.nils 1,.nils 1,.d (.int .i64 0),.d (.int .i64 0),.d (.str []),.nils 2,.d (.int .i64 0),.d (.bool false),.nils 1,.d (.int .i64 0)]:=by kernel_rfl
@[go_sem] theorem ty249:ty Go.Proofs.Tryz.prog 249=⟨.func,1,8⟩:=by kernel_rfl
@[go_sem] theorem ty251:ty Go.Proofs.Tryz.prog 251=⟨.struct [(0,3),(1,3),(2,3),(3,181),(4,249)],5,40⟩:=by kernel_rfl
@[go_sem] theorem zk251:zZ Go.Proofs.Tryz.prog 251=true:=by kernel_rfl
@[go_sem] theorem tt251:z6 Go.Proofs.Tryz.prog 12 251=false:=by kernel_rfl
@[go_sem] theorem zc251:zT Go.Proofs.Tryz.prog 12 251= [.d (.int .i64 0),.d (.int .i64 0),.d (.int .i64 0),.nilfn,.nilfn]:=by kernel_rfl
@[go_sem] theorem ty259:ty Go.Proofs.Tryz.prog 259=⟨.struct [(0,28),(1,64)],3,56⟩:=by kernel_rfl
@[go_sem] theorem zk259:zZ Go.Proofs.Tryz.prog 259=true:=by kernel_rfl
@[go_sem] theorem tt259:z6 Go.Proofs.Tryz.prog 12 259=false:=by kernel_rfl
@[go_sem] theorem zc259:zT Go.Proofs.Tryz.prog 12 259= [.d (.int .u64 0),.nils 1,.nils 1]:=by kernel_rfl
@[go_sem] theorem ty291:ty Go.Proofs.Tryz.prog 291=⟨.slice 4,1,24⟩:=by kernel_rfl
@[go_sem] theorem ty292:ty Go.Proofs.Tryz.prog 292=⟨.arr 4 5,4,4⟩:=by kernel_rfl
@[go_sem] theorem zk292:zZ Go.Proofs.Tryz.prog 292=true:=by kernel_rfl
@[go_sem] theorem tt292:z6 Go.Proofs.Tryz.prog 12 292=false:=by kernel_rfl
@[go_sem] theorem zc292:zT Go.Proofs.Tryz.prog 12 292= [.d (.int .u8 0),.d (.int .u8 0),.d (.int .u8 0),.d (.int .u8 0)]:=by kernel_rfl
@[go_sem] theorem ty297:ty Go.Proofs.Tryz.prog 297=⟨.slice 64,1,24⟩:=by kernel_rfl
@[go_sem] theorem ty305:ty Go.Proofs.Tryz.prog 305=⟨.struct [(0,25),(5,38)],6,88⟩:=by kernel_rfl
@[go_sem] theorem zk305:zZ Go.Proofs.Tryz.prog 305=true:=by kernel_rfl
@[go_sem] theorem tt305:z6 Go.Proofs.Tryz.prog 12 305=false:=by kernel_rfl
@[go_sem] theorem zc305:zT Go.Proofs.Tryz.prog 12 305= [.d (.str []),.nils 2,.d (.int .i64 0),.d (.bool false),.nils 1,.d (.int .i64 0)]:=by kernel_rfl
@[go_sem] theorem ty307:ty Go.Proofs.Tryz.prog 307=⟨.func,1,8⟩:=by kernel_rfl
@[go_sem] theorem zk307:zZ Go.Proofs.Tryz.prog 307=true:=by kernel_rfl
@[go_sem] theorem zc307:zT Go.Proofs.Tryz.prog 12 307= [.nilfn]:=by kernel_rfl
@[go_sem] theorem ty315:ty Go.Proofs.Tryz.prog 315=⟨.func,1,8⟩:=by kernel_rfl
@[go_sem] theorem tt315:z6 Go.Proofs.Tryz.prog 12 315=false:=by kernel_rfl
@[go_sem] theorem ty324:ty Go.Proofs.Tryz.prog 324=⟨.func,1,8⟩:=by kernel_rfl
@[go_sem] theorem tt324:z6 Go.Proofs.Tryz.prog 12 324=false:=by kernel_rfl
@[go_sem] theorem ty340:ty Go.Proofs.Tryz.prog 340=⟨.bst [(0,331),(0,334),(1,338)],3,12⟩:=by kernel_rfl
@[go_sem] theorem ty341:ty Go.Proofs.Tryz.prog 341=⟨.arr 256 34,256,1024⟩:=by kernel_rfl
@[go_sem] theorem ty343:ty Go.Proofs.Tryz.prog 343=⟨.struct [(0,340),(3,341)],259,1036⟩:=by kernel_rfl
@[go_sem] theorem zk343:zZ Go.Proofs.Tryz.prog 343=true:=by kernel_rfl
@[go_sem] theorem tt343:z6 Go.Proofs.Tryz.prog 12 343=false:=by kernel_rfl
@[go_sem] theorem zc343:zT Go.Proofs.Tryz.prog 12 343= [.d (.int .u32 0),.d (.int .i32 0),.d (.int .u32 0)]++List.replicate 256 (.d (.int .u32 0)):=by kernel_rfl
@[go_sem] theorem ty350:ty Go.Proofs.Tryz.prog 350=⟨.slice 307,1,24⟩:=by kernel_rfl
@[go_sem] theorem ty363:ty Go.Proofs.Tryz.prog 363=⟨.map 3 4,1,8⟩:=by kernel_rfl
@[go_sem] theorem zk363:zZ Go.Proofs.Tryz.prog 363=true:=by kernel_rfl
@[go_sem] theorem tt363:z6 Go.Proofs.Tryz.prog 12 363=false:=by kernel_rfl
@[go_sem] theorem zc363:zT Go.Proofs.Tryz.prog 12 363= [.nilmap]:=by kernel_rfl
attribute [go_sem] Tryz.results0 Tryz.results1 Tryz.results2 Tryz.results3 Tryz.results4 Tryz.results5 Tryz.results6 Tryz.results7 Tryz.results8 Tryz.results9 Tryz.results10 Tryz.results11 Tryz.results12 Tryz.results13 Tryz.results14 Tryz.results15 Tryz.results16 Tryz.results17 Tryz.results18 Tryz.results19 Tryz.results20 Tryz.results21 Tryz.results22 Tryz.results23 Tryz.results24 Tryz.results25 Tryz.results26 Tryz.results27 Tryz.results28 Tryz.results29 Tryz.results30 Tryz.results31 Tryz.results32 Tryz.results33 Tryz.results34 Tryz.results35 Tryz.results36 Tryz.results37 Tryz.results38 Tryz.results39
attribute [go_sem] Tryz.results40 Tryz.results41 Tryz.results42 Tryz.results43 Tryz.results44 Tryz.results45 Tryz.results46 Tryz.results47 Tryz.results48 Tryz.results49 Tryz.results50 Tryz.results51 Tryz.results52 Tryz.results53 Tryz.results54 Tryz.results55 Tryz.results56 Tryz.results57 Tryz.results58 Tryz.results59 Tryz.results60 Tryz.results61 Tryz.results62 Tryz.results63 Tryz.results64 Tryz.results65 Tryz.results66 Tryz.results67 Tryz.results68 Tryz.results69 Tryz.results70 Tryz.results71 Tryz.results72 Tryz.results73 Tryz.results74 Tryz.results75 Tryz.results76 Tryz.results77 Tryz.results78 Tryz.results79
attribute [go_sem] Tryz.results80 Tryz.results81 Tryz.results82 Tryz.results83 Tryz.results84 Tryz.results85 Tryz.results86 Tryz.results87 Tryz.results88 Tryz.results89 Tryz.results90 Tryz.results91 Tryz.results92 Tryz.results93 Tryz.results94 Tryz.results95 Tryz.results96 Tryz.results97 Tryz.results98 Tryz.results99 Tryz.results100 Tryz.results101 Tryz.results102 Tryz.results103 Tryz.results104 Tryz.results105 Tryz.results106 Tryz.results107 Tryz.results108 Tryz.results109 Tryz.results110 Tryz.results111 Tryz.results112 Tryz.results113 Tryz.results114 Tryz.results115 Tryz.results116 Tryz.results117 Tryz.results118 Tryz.results119
attribute [go_sem] Tryz.results120 Tryz.results121 Tryz.results122 Tryz.results123 Tryz.results124 Tryz.results125 Tryz.results126 Tryz.results127 Tryz.results128 Tryz.results129 Tryz.results130 Tryz.results131 Tryz.results132 Tryz.results133 Tryz.results134 Tryz.results135 Tryz.results136 Tryz.results137 Tryz.results138 Tryz.results139 Tryz.results140 Tryz.results141 Tryz.results142 Tryz.results143 Tryz.results144 Tryz.results145 Tryz.results146 Tryz.results147 Tryz.results148 Tryz.results149 Tryz.results150 Tryz.results151 Tryz.results152 Tryz.results153 Tryz.results154 Tryz.results155 Tryz.results156 Tryz.results157 Tryz.results158 Tryz.results159
attribute [go_sem] Tryz.results160 Tryz.results161 Tryz.results162 Tryz.results163 Tryz.results164 Tryz.results165 Tryz.results166 Tryz.results167 Tryz.results168 Tryz.results169 Tryz.results170 Tryz.results171 Tryz.results172 Tryz.results173 Tryz.results174 Tryz.results175 Tryz.results176 Tryz.results177 Tryz.results178 Tryz.results179 Tryz.results180 Tryz.results181 Tryz.results182 Tryz.results183 Tryz.results184 Tryz.results185 Tryz.results186 Tryz.results187 Tryz.results188 Tryz.results189 Tryz.results190 Tryz.results191 Tryz.results192 Tryz.results193 Tryz.results194 Tryz.results195 Tryz.results196 Tryz.results197 Tryz.results198 Tryz.results199
attribute [go_sem] Tryz.results200 Tryz.results201 Tryz.results202 Tryz.results203 Tryz.results204 Tryz.results205 Tryz.results206 Tryz.results207 Tryz.results208 Tryz.results209 Tryz.results210 Tryz.results211 Tryz.results212 Tryz.results213 Tryz.results214 Tryz.results215 Tryz.results216 Tryz.results217 Tryz.results218 Tryz.results219 Tryz.results220 Tryz.results221 Tryz.results222 Tryz.results223 Tryz.results224 Tryz.results225 Tryz.results226 Tryz.results227 Tryz.results228 Tryz.results229 Tryz.results230 Tryz.results231 Tryz.results232 Tryz.results233 Tryz.results234 Tryz.results235 Tryz.results236 Tryz.results237 Tryz.results238 Tryz.results239
attribute [go_sem] Tryz.results240 Tryz.results241 Tryz.results242 Tryz.results243 Tryz.results244 Tryz.results245 Tryz.results246 Tryz.results247 Tryz.results248 Tryz.results249 Tryz.results250 Tryz.results251 Tryz.results252 Tryz.results253 Tryz.results254 Tryz.results255 Tryz.results256 Tryz.results257 Tryz.results258 Tryz.results259 Tryz.results260 Tryz.results261 Tryz.results262 Tryz.results263 Tryz.results264 Tryz.results265 Tryz.results266 Tryz.results267 Tryz.results268 Tryz.results269 Tryz.results270 Tryz.results271 Tryz.results272 Tryz.results273 Tryz.results274 Tryz.results275 Tryz.results276 Tryz.results277 Tryz.results278 Tryz.results279
attribute [go_sem] Tryz.results280 Tryz.results281 Tryz.results282 Tryz.results283 Tryz.results284 Tryz.results285 Tryz.results286 Tryz.results287 Tryz.results288 Tryz.results289 Tryz.results290 Tryz.results291 Tryz.results292 Tryz.results293 Tryz.results294 Tryz.results295 Tryz.results296 Tryz.results297 Tryz.results298 Tryz.results299 Tryz.results300 Tryz.results301 Tryz.results302 Tryz.results303 Tryz.results304 Tryz.results305 Tryz.results306 Tryz.results307 Tryz.results308 Tryz.results309 Tryz.results310 Tryz.results311 Tryz.results312 Tryz.results313 Tryz.results314 Tryz.results315 Tryz.results316 Tryz.results317 Tryz.results318 Tryz.results319
attribute [go_sem] Tryz.results320 Tryz.results321 Tryz.results322 Tryz.results323 Tryz.results324 Tryz.results325 Tryz.results326 Tryz.results327 Tryz.results328 Tryz.results329 Tryz.results330 Tryz.results331 Tryz.results332 Tryz.results333 Tryz.results334 Tryz.results335 Tryz.results336 Tryz.results337 Tryz.results338 Tryz.results339 Tryz.results340 Tryz.results341 Tryz.results342 Tryz.results343 Tryz.results344 Tryz.results345 Tryz.results346 Tryz.results347 Tryz.results348 Tryz.results349 Tryz.results350 Tryz.results351 Tryz.results352 Tryz.results353 Tryz.results354 Tryz.results355 Tryz.results356 Tryz.results357 Tryz.results358 Tryz.results359
attribute [go_sem] Tryz.results360 Tryz.results361 Tryz.results362 Tryz.results363 Tryz.results364 Tryz.results365
abbrev AC (f:FuncId) (args:List AV) (r:AV):Prop:=ACall Go.Proofs.Tryz.prog f 0 args [] λv _=>v=r
theorem mx:Go.Proofs.Tryz.prog.follows .mixedOrders=true:=by kernel_rfl
end Go.Aw
namespace Go.Proofs
open Go.Shelf
def Tryz.lays99_ren:Go.Shelf.Ren:=⟨fun|99=>164|206=>221|n=>n,fun|9=>9|4=>4|3=>3|n=>n,fun|n=>n⟩
theorem Tryz.lays99:Go.Proofs.Lays.n99 Tryz.prog Tryz.lays99_ren:= {
 mixed:=by kernel_rfl
 f99:=Tryz.func164.trans (congrArg some (by kernel_rfl))
 f206:=Tryz.func221.trans (congrArg some (by kernel_rfl))
 t3:=Tryz.underlying3
 a3:=Tryz.isAgg3
 z3:=Tryz.sizeOf3
 v3:=Tryz.zeroValue3
 t4:=Tryz.underlying4
 a4:=Tryz.isAgg4
 z4:=Tryz.sizeOf4
 v4:=Tryz.zeroValue4
 t9:=Tryz.underlying9
 a9:=Tryz.isAgg9
 z9:=Tryz.sizeOf9
 v9:=Tryz.zeroValue9 }
open Go.RowKit Go.Lib in
theorem Tryz.strings_HasPrefix (s p:ByteArray) (w:World):
  Calls Tryz.prog 164 #[.string s,.string p] w λe w'=>e= .returned (.bool (Lib.hasPrefix s.data.toList p.data.toList))/\w'=w:=Any.strings_HasPrefix Tryz.lays99 s p w
def Tryz.lays105_ren:Go.Shelf.Ren:=⟨fun|105=>91|212=>163|99=>164|165=>165|166=>166|170=>167|169=>168|263=>219|264=>220|206=>221|240=>222|241=>223|276=>266|277=>267|n=>n,fun|9=>9|3=>3|4=>4|20=>20|0=>0|46=>200|109=>218|5=>5|72=>223|76=>227|51=>34|146=>282|53=>28|148=>284|70=>221|37=>166|75=>226|127=>286|164=>326|80=>230|n=>n,fun|n=>n⟩
theorem Tryz.lays105:Go.Proofs.Lays.n105 Tryz.prog Tryz.lays105_ren:= {
 mixed:=by kernel_rfl
 f99:=Tryz.func164.trans (congrArg some (by kernel_rfl))
 f105:=Tryz.func91.trans (congrArg some (by kernel_rfl))
 f165:=Tryz.func165.trans (congrArg some (by kernel_rfl))
 f166:=Tryz.func166.trans (congrArg some (by kernel_rfl))
 f169:=Tryz.func168.trans (congrArg some (by kernel_rfl))
 f170:=Tryz.func167.trans (congrArg some (by kernel_rfl))
 f206:=Tryz.func221.trans (congrArg some (by kernel_rfl))
 f212:=Tryz.func163.trans (congrArg some (by kernel_rfl))
 f240:=Tryz.func222.trans (congrArg some (by kernel_rfl))
 f241:=Tryz.func223.trans (congrArg some (by kernel_rfl))
 f263:=Tryz.func219.trans (congrArg some (by kernel_rfl))
 f264:=Tryz.func220.trans (congrArg some (by kernel_rfl))
 f276:=Tryz.func266.trans (congrArg some (by kernel_rfl))
 f277:=Tryz.func267.trans (congrArg some (by kernel_rfl))
 t0:=Tryz.underlying0
 a0:=Tryz.isAgg0
 z0:=Tryz.sizeOf0
 v0:=Tryz.zeroValue0
 t3:=Tryz.underlying3
 a3:=Tryz.isAgg3
 z3:=Tryz.sizeOf3
 v3:=Tryz.zeroValue3
 t4:=Tryz.underlying4
 a4:=Tryz.isAgg4
 z4:=Tryz.sizeOf4
 v4:=Tryz.zeroValue4
 t5:=Tryz.underlying5
 a5:=Tryz.isAgg5
 z5:=Tryz.sizeOf5
 v5:=Tryz.zeroValue5
 t9:=Tryz.underlying9
 a9:=Tryz.isAgg9
 z9:=Tryz.sizeOf9
 v9:=Tryz.zeroValue9
 t20:=Tryz.underlying20
 a20:=Tryz.isAgg20
 z20:=Tryz.sizeOf20
 v20:=Tryz.zeroValue20
 t37:=Tryz.underlying166
 a37:=Tryz.isAgg166
 z37:=Tryz.sizeOf166
 v37:=Tryz.zeroValue166
 t46:=Tryz.underlying200
 a46:=Tryz.isAgg200
 z46:=Tryz.sizeOf200
 v46:=Tryz.zeroValue200
 t51:=Tryz.underlying34
 a51:=Tryz.isAgg34
 z51:=Tryz.sizeOf34
 v51:=Tryz.zeroValue34
 t53:=Tryz.underlying28
 a53:=Tryz.isAgg28
 z53:=Tryz.sizeOf28
 v53:=Tryz.zeroValue28
 t70:=Tryz.underlying221
 a70:=Tryz.isAgg221
 z70:=Tryz.sizeOf221
 v70:=Tryz.zeroValue221
 t72:=Tryz.underlying223
 a72:=Tryz.isAgg223
 z72:=Tryz.sizeOf223
 v72:=Tryz.zeroValue223
 t75:=Tryz.underlying226
 a75:=Tryz.isAgg226
 z75:=Tryz.sizeOf226
 v75:=Tryz.zeroValue226
 t76:=Tryz.underlying227
 a76:=Tryz.isAgg227
 z76:=Tryz.sizeOf227
 v76:=Tryz.zeroValue227
 t109:=Tryz.underlying218
 a109:=Tryz.isAgg218
 z109:=Tryz.sizeOf218
 v109:=Tryz.zeroValue218
 t127:=Tryz.underlying286
 a127:=Tryz.isAgg286
 z127:=Tryz.sizeOf286
 v127:=Tryz.zeroValue286
 t146:=Tryz.underlying282
 a146:=Tryz.isAgg282
 z146:=Tryz.sizeOf282
 v146:=Tryz.zeroValue282
 t148:=Tryz.underlying284
 a148:=Tryz.isAgg284
 z148:=Tryz.sizeOf284
 v148:=Tryz.zeroValue284
 t164:=Tryz.underlying326
 a164:=Tryz.isAgg326
 z164:=Tryz.sizeOf326
 v164:=Tryz.zeroValue326 }
theorem Tryz.Builder_Extra_105:Builder.Extra Tryz.prog Tryz.lays105_ren:= {
 sizeBuilder:=by kernel_rfl
 liesBuilder:=by kernel_rfl
 t5:=Tryz.underlying5
 a5:=Tryz.isAgg5
 z5:=Tryz.sizeOf5
 v5:=Tryz.zeroValue5
 infoByte:=by kernel_rfl
 cellsByte:=by kernel_rfl
 sizeByte:=by kernel_rfl
 neB5:=by decide }
open Go.RowKit Go.Lib in
theorem Tryz.strings_Repeat (s:ByteArray) (c:Nat) (w:World) (hc:c<=9223372036854775807) (hlen:s.size*c<=140737488355328):
  Calls Tryz.prog 91 #[.string s,.int .i64 c] w λe w'=>e= .returned (.string ⟨(Lib.repeatL s.data.toList c).toArray⟩)/\Below w.heap.size w w':=Any.strings_Repeat Tryz.lays105 Tryz.Builder_Extra_105 s c w hc hlen
end Go.Proofs
namespace Go.Aw
open Go Go.Proofs Go.RowKit
theorem ziD {P:Program} {f:FuncId} {args:List AV} {r:AV} {v:Value} (hen:zgy P f) (h:∀E w (vs:Array Value),Reps w E [] args vs.toList->Calls P f vs w (λe w'=>e= .returned v/\Below w.heap.size w w')) (hr:∀w E,Rep w E [] r v):ACall P f 0 args [] (λr' _=>r'=r):=by
 refine ⟨hen,λE w vs hs hra=>(h E w vs hra).mono ?_⟩;rintro e w' ⟨rfl,hb⟩;have hno:∀b,¬Own E [] b:=λb ⟨i,hi,_⟩=>by simp [hget] at hi
 refine ⟨v,E,r,[],rfl,rfl,⟨λi o ho=>by simp [hget] at ho,λi j b h1=>by simp [hget] at h1,λb hb=>absurd hb (hno b),λb hm=>Nat.lt_of_lt_of_le (hs.mlt b hm) hb.size,λb hm=>Nat.lt_of_lt_of_le (hs.nlt b hm) hb.size⟩,hr w' E,?_⟩;exact ⟨hb.os,hb.tape,hb.output,hb.size,λk hk _=>hb.block k hk,λb ho=> .inl ho,rfl,rfl,λi _ hi=>by simp [hget] at hi⟩
theorem zuA (n:Nat) (hn:n<=140737488355328):ACall Tryz.prog 91 0 [.d (.str [0]),.d (.int .i64 n)] [] (λr _=>r= .d (.str (List.replicate n 0))):=by
 refine ziD (v:= .string ⟨(List.replicate n 0).toArray⟩) (zdn Tryz.func91 (by kernel_rfl) rfl) ?_ (λw E=>by simp [Rep,RepD]);intro E w vs hr;simp only [Reps,Rep,RepD] at hr;obtain ⟨v1,r1,e1,rfl,v2,r2,rfl,rfl,rfl⟩:=hr;have hvs:vs= #[.string ⟨#[0]⟩,.int .i64 n]:=by cases vs;simpa using e1
 subst hvs;have:=Tryz.strings_Repeat ⟨#[0]⟩ n w (by omega) (by simpa [ByteArray.size] using hn);refine this.mono ?_;rintro e w' ⟨rfl,hb⟩;refine ⟨?_,hb⟩;have:=Lib.repeatL_replicate 0 1 n;simp only [List.replicate_one,Nat.mul_one,Nat.one_mul] at this;show Ending.returned (.string ⟨(Lib.repeatL [0] n).toArray⟩)=_;rw [this]
theorem zmh (s p:List UInt8) (_:True):AC 164 [.d (.str s),.d (.str p)] (.d (.bool (p.isPrefixOf s))):=by
 refine ziD (v:= .bool (p.isPrefixOf s)) (zdn Tryz.func164 (by kernel_rfl) rfl) ?_ (λw E=>by simp [Rep,RepD]);intro E w vs hr;simp only [Reps,Rep,RepD] at hr;obtain ⟨v1,r1,e1,rfl,v2,r2,rfl,rfl,rfl⟩:=hr;have hvs:vs= #[.string ⟨s.toArray⟩,.string ⟨p.toArray⟩]:=by cases vs;simpa using e1
 subst hvs;have:=Tryz.strings_HasPrefix ⟨s.toArray⟩ ⟨p.toArray⟩ w;refine this.mono ?_;rintro e w' ⟨rfl,rfl⟩;exact ⟨by simp [Lib.hasPrefix],Below.refl _ _⟩
@[go_sem] noncomputable def zgc:Ent Tryz.prog 164:= .m2 strT strT zmh
end Go.Aw
