/-
  Parts of the proof: WipeB, SnapD, SnapE, SnapF, SnapG (short names; the readable texts lie in the repo, under wip).
-/
import Derived.Test.YtbmlikkofegdeaaGreatDoorPiece38
import Derived.Test.YtbmlikkofegdeaaGreatDoorPiece17
import Derived.Test.YtbmlikkofegdeaaGreatDoorPiece32
import Derived.Test.YtbmlikkofegdeaaGreatDoorPiece34
import Derived.Test.YtbmlikkofegdeaaGreatDoorPiece29
set_option maxRecDepth 100000
set_option maxHeartbeats 2000000
set_option linter.unusedSimpArgs false
set_option linter.unusedVariables false
namespace Go.Aw
open Go Go.Proofs
theorem zvQ (x:Img) (guest:Int) (isH:Bool) (hp:ImgF x/\x.maps.length<=5000):AC 90 [imgA x,.d (.int .i64 guest),.d (.bool isH)] (.tup [imgA (wipe x guest isH).1,.d (.int .i64 (wipe x guest isH).2)]):=by
 obtain ⟨h,hm⟩:=hp;refine fbod Tryz.func90 Tryz.ntmps90 (λbase=>?_);obtain ⟨Z,hZ⟩:∃Z,Z=wipe x guest isH:=⟨_,rfl⟩
 have hZ2:=hZ;rw [wipe] at hZ2;have hio:=h.ok;have hX:=h.mark guest;obtain ⟨X,hXe⟩:∃X,X=cmark x guest:=⟨_,rfl⟩
 rw [<-hXe] at hX hZ2;have hdp:DP X.disk p0:=⟨hX.disk,zaw⟩
 have hho:=hX.host;have hgu:=hX.guest;have hxo:=hX.ok;have hxd:=hX.disk;have hq0:=hX.seq0;have hq1:=hX.seq1;obtain ⟨k,hk⟩:∃k:Int,k=if isH then 0 else 2:=⟨_,rfl⟩
 rw [<-hk] at hZ2;obtain ⟨R,hR⟩:∃R,R=ze X.disk p0:=⟨_,rfl⟩
 obtain ⟨Y,hY⟩:∃Y,Y=elook X.disk p0 R.1.l1 guest:=⟨_,rfl⟩
 obtain ⟨P,hP⟩:∃P,P=ppoint X.disk p0 X.geom guest ⟨k,0⟩:=⟨_,rfl⟩
 have hpf:pfit P.1=true:=by rw [hP];exact (hdp.ppoint _ _ _).p
 obtain ⟨D,hD⟩:∃D,D=cdone X P.1:=⟨_,rfl⟩
 rw [wipe2,<-hR,<-hY,<-hP,<-hD] at hZ2;by_cases hr:guest<0\/x.geom.guest<=guest
 ·have hdec:(decide (guest<0)||decide (x.geom.guest<=guest))=true:=by simpa using hr
  rw [if_pos hr] at hZ2;refine' walkW (zn hdec hZ.symm) (za zaD <| za zo <| za zF <| za zR <| za zp <| zb _)
  ·rw [hZ2,if_pos hc]
  ·rw [hZ2,if_neg (by rw [hc];decide)]
 have hdec:(decide (guest<0)||decide (x.geom.guest<=guest))=false:=by simpa using hr
 rw [if_neg hr] at hZ2;refine' zgF (zav 5) (zn hdec hZ.symm) (za zaD <| za zo <| za zF <| za zR <| za zp <| zb _)
 ·rw [hZ2,if_pos hc]
 rw [if_neg (by rw [hc];decide)] at hZ2;clear hc;cases isH with
 |true=>
  have hk0:k=0:=hk;subst hk0;refine' walkW (zL hXe.symm hR.symm hY.symm hP.symm hD.symm hZ.symm) (za zaD <| za zo <| za zF <| za zR <| za zp <| zb _);all_goals first|omega|skip
  all_goals rw [hZ2]
  all_goals (refine (show (_:AV)=_ from ?_));(repeat (first|(rewrite [if_pos];rotate_left;(first|exact bneP (by assumption)|exact beqP (by assumption)|exact of_decide_eq_true (by assumption)|assumption))|(rewrite [if_neg];rotate_left;(first|exact bneN (by assumption)|exact beqN (by assumption)|exact of_decide_eq_false (by assumption)|assumption))))
  all_goals rfl
 |false=>
  have hk0:k=2:=hk;subst hk0;refine' walkW (zL hXe.symm hR.symm hY.symm hP.symm hD.symm hZ.symm) (za zaD <| za zo <| za zF <| za zR <| za zp <| zb _);all_goals first|omega|skip
  all_goals rw [hZ2]
  all_goals (refine (show (_:AV)=_ from ?_));(repeat (first|(rewrite [if_pos];rotate_left;(first|exact bneP (by assumption)|exact beqP (by assumption)|exact of_decide_eq_true (by assumption)|assumption))|(rewrite [if_neg];rotate_left;(first|exact bneN (by assumption)|exact beqN (by assumption)|exact of_decide_eq_false (by assumption)|assumption))))
  all_goals rfl
@[go_sem] noncomputable def zeI:Ent Tryz.prog 90:= .m3 zbG (intT .i64) boolT zvQ
theorem zxB (n:Nat):∀a,∀q∈cuts a n,q.2.2<=128:=by
 induction n using Nat.strongRecOn with
 | _ n ih=>
  intro a q hq;rcases Nat.eq_zero_or_pos n with rfl|h
  ·simp [zjr] at hq
  ·rw [zlD a n h,List.mem_cons] at hq;rcases hq with rfl|hq
   ·simp only;omega
   ·exact ih _ (by omega) _ q hq
theorem zvR (a n:Int):∀q∈cutsL a n,q.2.2<=128:=by
 unfold cutsL;split
 ·intro q hq;cases hq
 ·exact zxB _ _
theorem ztO (a n:Int):(cutsL a n).length<=65536:=by
 unfold cutsL;split
 ·exact Nat.zero_le _
 ·have:=zlE n.toNat a.toNat;omega
def zdm (hole:Bool) (q:Nat×Nat×Nat) (x:Img):Img×Int:=if q.2.2=128 then wipe x q.1 hole else zdo x q.1 q.2.1 (List.replicate q.2.2 0)
def ze8 (hole:Bool):List (Nat×Nat×Nat)->Img->Img×Int
 | [],x=>(x,0)
 |q::r,x=>if (zdm hole q x).2≠0 then zdm hole q x else ze8 hole r (zdm hole q x).1
def zgW (x:Img) (a n:Int) (hole:Bool):Img×Int:=
 if x.broken then (x,24) else if a<0\/n<0\/128*x.geom.guest<n\/128*x.geom.guest - n<a then (x,10) else ze8 hole (cutsL a n) x
theorem IF.clear1 {x:Img} (h:ImgF x) (hole:Bool) (q:Nat×Nat×Nat):IF x (zdm hole q x).1:=by
 unfold zdm;split
 ·exact IF.wipe h _ _
 ·exact IF.write h _ _ _
theorem ImgF.wipe {x:Img} (h:ImgF x) (g:Int) (hole:Bool):ImgF (wipe x g hole).1:=by
 have hm:=h.mark g;unfold Aw.wipe;split
 ·exact h
 split
 ·exact h
 obtain ⟨kd,hkd⟩:∃kd:Int,kd=if hole then 0 else 2:=⟨_,rfl⟩
 rw [<-hkd];unfold wipe2;repeat (split;exact hm)
 exact hm.done _
theorem ImgF.clear1 {x:Img} (h:ImgF x) (hole:Bool) (q:Nat×Nat×Nat):ImgF (zdm hole q x).1:=by
 unfold zdm;split
 ·exact h.wipe _ _
 ·exact h.write _ _ _
theorem ztP (x:Img) (a n:Int) (isH:Bool) (hp:ImgF x/\x.maps.length<=5000/\0<=x.geom.guest):AC 27 [imgA x,.d (.int .i64 a),.d (.int .i64 n),.d (.bool isH)] (.tup [imgA (zgW x a n isH).1,.d (.int .i64 (zgW x a n isH).2)]):=by
 obtain ⟨h,hm,hg⟩:=hp;refine fbod Tryz.func27 Tryz.ntmps27 (λbase=>?_);obtain ⟨Z,hZ⟩:∃Z,Z=zgW x a n isH:=⟨_,rfl⟩
 have hZ2:=hZ;rw [zgW] at hZ2;have hgu:=h.guest;have hw:IntKind.i64.wrap (128*x.geom.guest)=128*x.geom.guest:=zg (by omega) (by omega);obtain ⟨l,hl⟩:∃l,l=cutsL a n:=⟨_,rfl⟩
 have hll:l.length<=65536:=by rw [hl];exact ztO a n
 have hle:∀q∈l,q.2.2<=128:=by rw [hl];exact zvR a n
 rw [<-hl] at hZ2;rw [<-hZ];by_cases hr:a<0\/n<0\/128*x.geom.guest<n\/128*x.geom.guest - n<a
 ·rw [if_pos hr] at hZ2
  have hdec:(decide (a<0)||decide (n<0)||decide (128*x.geom.guest<n)||decide (IntKind.i64.wrap (128*x.geom.guest - n)<a))=true:=by
   by_cases h1:a<0
   ·simp [h1]
   by_cases h2:n<0
   ·simp [h2]
   by_cases h3:128*x.geom.guest<n
   ·simp [h3]
   rw [zg (by omega) (by omega)];simp;omega
  refine' walkW (zn hw hdec) (za zfC <| za zeI <| za zQ <| za zaj <| zb _)
  ·rw [hZ2,if_pos hc]
  ·rw [hZ2,if_neg (by rw [hc];decide)]
 rw [if_neg hr] at hZ2
 have hdec:(decide (a<0)||decide (n<0)||decide (128*x.geom.guest<n)||decide (IntKind.i64.wrap (128*x.geom.guest - n)<a))=false:=by rw [zg (by omega) (by omega)];simp;omega
 refine' walkW (zB hw hdec hl.symm) (za zfC <| za zeI <| za zQ <| za zaj <| zb _)
 ·rw [hZ2,if_pos hc]
 rw [if_neg (by rw [hc];decide)] at hZ2;clear hc;refine zq (λq: { q:Nat×Img // q.1<=l.length/\ImgF q.2/\q.2.maps.length<=5000/\Z=ze8 isH (l.drop q.1) q.2 } =>⟨[(3,true,.d (.bool isH)),(4,true,.vp 0 0),(8,true,.vp 1 0),(44,true,.d (.sl 3 (l.map cutD))),(45,true,.d (.int .i64 l.length)),(46,true,.d (.int .i64 q.1.1))],[(1,.var img0),(0,.var (imgV q.1.2))],some []⟩) (λq=>l.length - q.1.1) ⟨(0,x),Nat.zero_le _,h,hm,hZ2⟩ le1 (λq=>?_);obtain ⟨⟨i,X⟩,hi,hX,hXm,hf⟩:=q;simp only at hi hX hXm hf ⊢;have hXo:=hX.ok;rcases zP cutD l i hi with ⟨u,hq,hlt,hcmp,hrow,hdr,htk⟩|⟨hend,hcmp⟩
 ·obtain ⟨k,f,m⟩:=u;simp only [cutD] at hrow;have hm128:=hle _ (List.mem_of_getElem? hq);simp only at hm128;have hwi:=zr (i:=i) (by omega);rw [hdr,ze8] at hf;have hXn:=hX.clear1 isH (k,f,m);have hXl:=(IF.clear1 hX isH (k,f,m)).len;obtain ⟨W,hW⟩:∃W,W=zdm isH (k,f,m) X:=⟨_,rfl⟩
  rw [<-hW] at hf hXn hXl;by_cases he:m=128
  ·have hb:((m:Int)==128)=true:=by simp;omega
   have hWe:wipe X k isH=W:=by rw [hW,zdm,if_pos he]
   refine' walkW (zah hcmp hrow hb hWe) (za zfC <| za zeI <| za zQ <| za zaj <| zb _)
   ·rw [hf,if_pos (bneP hc)]
   ·rw [if_neg (bneN hc)] at hf;exact ⟨⟨(i+1,W.1),by show i+1<=l.length;omega,hXn,by show W.1.maps.length<=5000;omega,hf⟩,lev,by simp;omega⟩
  ·have hb:((m:Int)==128)=false:=by simp;omega
   have hWe:zdo X k f (List.replicate m 0)=W:=by rw [hW,zdm,if_neg he]
   refine' walkW (zL hcmp hrow hb hWe natC @List.length_replicate.{0}) (za zfC <| za zeI <| za zQ <| za zaj <| zb _);all_goals first|omega|skip
   ·rw [hf,if_pos (bneP hc)]
   ·rw [if_neg (bneN hc)] at hf;exact ⟨⟨(i+1,W.1),by show i+1<=l.length;omega,hXn,by show W.1.maps.length<=5000;omega,hf⟩,lev,by simp;omega⟩
 ·refine' walkW hcmp (za zfC <| za zeI <| za zQ <| za zaj <| zb _);rw [hf,hend,List.drop_length];rfl
@[go_sem] noncomputable def zaK:Ent Tryz.prog 27:= .m4 zbG (intT .i64) (intT .i64) boolT ztP
open Go Go.Proofs
structure Ws where
 x:Img
 R:Root
 L:List Snp
 q:Plan
 e:Int
def wkV (s:Ws) (v:AV):List AV:= [.d (.str s.x.disk.data),.d (.sl 2 (s.x.disk.cache.map putD)),.d (.int .i64 s.x.disk.fuse),.d (.bool s.x.disk.off),.d (.sl 1 (s.x.disk.bad.map intD)),.d (.int .i64 s.x.geom.guest),.d (.int .i64 s.x.geom.host),.d (.int .u64 s.x.jour.seq),.d (.int .i64 s.x.jour.pos),.d (.sl 66 (s.x.maps.map dmapD)),.d (.bool s.x.broken),.d (.int .i64 s.R.l1),.d (.int .u32 s.R.next),v,.d (.sl 1 (s.q.targets.map intD)),.d (.sl 1 (s.q.texts.map strD)),.d (.int .i64 s.e)]
attribute [go_sem] wkV
@[go_sem] abbrev wkS (s:Ws):List AV:=wkV s (.d (.sl 3 (s.L.map snpD)))
structure SStp where
 f:FuncId
 fs:List AV
 cs:List AV
def stR (s:SStp):List AV:= [.fn (.func s.f) s.fs s.cs]
structure SOk (fl:Nat) (l:List SStp) (h:AHeap):Prop where
 le:leH h h:=by simp only [leH,AV.le,AV.leL,AObj.le,hget,go_sem,simprocAttr]<;>and_intros<;>rfl
 ih:inH h (idsH h):=by simp only [inH,idsH,AV.ids,AV.idsL,AV.idsR,AObj.ids,hget,go_sem,simprocAttr]
 is:inH h (21::AV.idsR (l.map stR)):=by simp only [inH,AV.ids,AV.idsL,AV.idsR,List.map_cons,List.map_nil,stR,hget,go_sem,simprocAttr]
def Runs (fl:Nat) (all:List SStp) (K:AHeap->Prop):List SStp->AHeap->Prop
 | [],h=>SOk fl all h/\K h
 |s::r,h=>SOk fl all h/\∃ (a:Ws) (u:AV),hget h 21=some (.var (wkV a u))/\(a.e≠0->Runs fl all K r h)/\(a.e=0->ACallAt Tryz.prog fl s.f (s.fs++s.cs) h (λv h'=>∃ (b:Ws) (u:AV) (e:Int),v= .d (.int .i64 e)/\hget h' 21=some (.var (wkV b u))/\Runs fl all K r (hset h' 21 (.var (wkV { b with e:=e } u)))))
theorem Runs.ok {fl:Nat} {all:List SStp} {K:AHeap->Prop} :∀ {r:List SStp} {h:AHeap},Runs fl all K r h->SOk fl all h
 | [],_,h=>h.1
 |_::_,_,h=>h.1
theorem Runs.skip {fl:Nat} {all:List SStp} {K:AHeap->Prop} {h:AHeap} {a:Ws} (ho:SOk fl all h) (hg:hget h 21=some (.var (wkS a))) (he:a.e≠0) (hK:K h):∀r,Runs fl all K r h
 | []=>⟨ho,hK⟩
 |_::r=>⟨ho,a,_,hg,λ_=>Runs.skip ho hg he hK r,λh0=>absurd h0 he⟩
theorem zjt {fl fl':Nat} {h:AHeap} {K:AHeap->Prop} (l:List SStp) (hl:l.length<=100) (hle:fl'<=fl) (hR:Runs fl l K l h) (hk:∀h',K h'->∀i,(hget h i).isSome->(hget h' i).isSome) (hf:∀i,(hget h i).isSome->i<fl:=by exact zJ rfl):ACallAt Tryz.prog fl' 36 [.vp 21 0,.asl 1 (l.map stR)] h (λr h'=>r= .tup []/\K h'):=by
 have h0:=hR.ok;refine ACall.whole (fl:=fl) ?_ hf hle (λr h' hr=>hk h' hr.2);refine bod Tryz.func36 Tryz.ntmps36 (λbase=>?_);have hlm:(l.map stR).length=l.length:=List.length_map _;refine' zc hlm;have hle1:∀ (g:AHeap) (k:Nat) (t:List (Nat×(Bool×AV))),SOk fl l g->leT t [(0,true,.vp 21 0),(6,true,.asl 1 (l.map stR)),(7,true,.d (.int .i64 l.length)),(8,true,.d (.int .i64 k))]->AS.le ⟨t,g,some []⟩ ⟨[(0,true,.vp 21 0),(6,true,.asl 1 (l.map stR)),(7,true,.d (.int .i64 l.length)),(8,true,.d (.int .i64 k))],g,some []⟩:=λg k t hg ht=>⟨ht,hg.le,by simpa only [idsT,AV.ids,List.singleton_append,List.nil_append,List.append_nil] using hg.is,hg.ih,rfl⟩
 refine zq (λq: { q:Nat×AHeap // q.1<=l.length/\Runs fl l K (l.drop q.1) q.2 } =>⟨[(0,true,.vp 21 0),(6,true,.asl 1 (l.map stR)),(7,true,.d (.int .i64 l.length)),(8,true,.d (.int .i64 q.1.1))],q.1.2,some []⟩) (λq=>l.length - q.1.1) ⟨(0,h),Nat.zero_le _,hR⟩ (hle1 _ _ _ h0 le1) (λq=>?_);obtain ⟨⟨k,g⟩,hk1,hr⟩:=q;simp only at hk1 hr ⊢;rcases Nat.lt_or_ge k l.length with hlt|hge
 ·obtain ⟨s,hs⟩:=zas hlt;have hrow:=zco (g:=stR) hs;simp only [stR] at hrow;have hcmp:decide ((k:Int)<(l.length:Int))=true:=decide_eq_true (by omega);have hwi:=zr (i:=k) (by omega);rw [zcQ hs,Runs] at hr;obtain ⟨hS,a,u,hw,h1,h2⟩:=hr;by_cases he:a.e=0
  ·have hb:(a.e==0)=true:=by simpa using he
   simp only [wkV] at hw;refine' zc (zL hcmp hrow hw hb natC hlm);all_goals first|omega|skip
   refine (h2 he).mono ?_;rintro v h' ⟨b,u',e,rfl,hw',hR'⟩;have hS':=hR'.ok;simp only [wkV] at hw' hR' hS';simp only [go_sem,aeq,aeq.aeqF,simprocAttr,hw'];refine' zc hw';exact ⟨⟨(k+1,_),by omega,hR'⟩,hle1 _ _ _ hS' (lev),by simp;omega⟩
  ·have hb:(a.e==0)=false:=by simpa using he
   simp only [wkV] at hw;refine' zc (zL hcmp hrow hw hb natC hlm);all_goals first|omega|skip
   exact ⟨⟨(k+1,g),by omega,h1 he⟩,hle1 _ _ _ hS (lev),by simp;omega⟩
 ·have hcmp:decide ((k:Int)<(l.length:Int))=false:=decide_eq_false (by omega);refine' zc hcmp;rw [List.drop_of_length_le (by omega),Runs] at hr;exact hr.2
theorem ze9:∀ {H H':AHeap},H.map (·.1)=H'.map (·.1)->∀i,(hget H i).isSome->(hget H' i).isSome
  | [],_,_,i,h=>by simp [hget] at h
  |(k,o)::H,[],e,i,h=>by simp at e
  | (k,o)::H,(k',o')::H',e,i,h=>by
    simp only [List.map_cons,List.cons.injEq] at e;obtain ⟨rfl,e⟩:=e;simp only [hget] at h ⊢;split
    · rfl
    · rename_i hn
      rw [if_neg hn] at h;exact ze9 e i h
theorem zhz {f:FuncId} {args:List AV} {fl:Nat} {H H':AHeap} {v:AV} (hc:ACall Tryz.prog f 60 args H (λr h'=>r=v/\hsel (λi=>decide (i<60)) h'=H'/\(H'.all (λq=>q.2.ids.all λi=>decide (i<60))=true/\v.ids.all (λi=>decide (i<60))=true))) (hk:H.map (·.1)=H'.map (·.1):=by rfl) (hfl:∀i,(hget H i).isSome->i<60:=by exact zJ rfl) (hle:fl<=60:=by omega):ACallAt Tryz.prog fl f args H (λr h'=>r=v/\h'=H'):=by refine ACall.whole (fl:=60) ?_ hfl hle (λr h' hr=>by rw [hr.2];exact ze9 hk);refine zC (λi=>decide (i<60)) (hc.mono ?_);rintro r h' ⟨rfl,rfl,h1,h2⟩;exact ⟨h1,h2,rfl,rfl⟩
def sbw (x:Img) (ch:Bool):Ws:=if (ch&&x.broken)=true then ⟨x,⟨0,0⟩,[],p0,24⟩ else ⟨x,(sbeg x.disk).1,(sbeg x.disk).2.1,p0,(sbeg x.disk).2.2⟩
theorem zju (x:Img) (ch:Bool) (h:ImgF x):ACall Tryz.prog 32 20 [imgA x,.d (.bool ch)] [] (λr h'=>r= .vp 21 0/\h'= [(21,.var (wkS (sbw x ch)))]):=by
 have hdp:DP x.disk p0:=⟨h.disk,zaw⟩
 have hdo:=h.disk.ok;refine zC (λi=>decide (i=21)) ?_;refine bod Tryz.func32 Tryz.ntmps32 (λbase=>?_);obtain ⟨B,hB⟩:∃B:Ws->AHeap,B=λa=> [(22,.var [.vp 21 0]),(21,.var (wkS a)),(20,.var (imgV x))]:=⟨_,rfl⟩
 obtain ⟨l,hl⟩:∃l:List SStp,l= [⟨109,[],[.vp 20 0,.vp 22 0]⟩,⟨111,[],[.vp 20 0,.vp 22 0]⟩]:=⟨_,rfl⟩
 have hok:∀a,SOk 40 l (B a):=by intro a;rw [hB,hl];exact {}
 have hse:∀a e,hset (B a) 21 (.var (wkS { a with e:=e }))=B { a with e:=e } :=by intro a e;rw [hB];rfl
 have hge:∀a,hget (B a) 21=some (.var (wkS a)):=by intro a;rw [hB];rfl
 have fin:∀e0,e0=(if (ch&&x.broken)=true then 24 else 0)->Runs 40 l (λh'=>h'=B (sbw x ch)) l (B ⟨x,⟨0,0⟩,[],p0,e0⟩):=by
  intro e0 h0;cases hb:(ch&&x.broken) with
  |true=>
   rw [hb,if_pos rfl] at h0;exact Runs.skip (hok _) (hge _) (by rw [h0];show (24:Int)≠0;decide) (by rw [sbw,hb,if_pos rfl,h0]) _
  | false=>
   rw [hb,if_neg (by decide)] at h0;subst h0;have hs:sbw x ch=⟨x,(sbeg x.disk).1,(sbeg x.disk).2.1,p0,(sbeg x.disk).2.2⟩:=by rw [sbw,hb,if_neg (by decide)]
   rw [sbeg] at hs;conv=>arg 4;rw [hl]
   refine ⟨hok _,_,_,hge _,λh=>absurd rfl h,λ_=>(zhz (v:= .d (.int .i64 (ze x.disk p0).2)) (H':=B ⟨x,(ze x.disk p0).1,[],p0,0⟩) ?_ (by rw [hB];rfl) (by rw [hB];exact zJ rfl)).mono ?_⟩
   ·rw [hB];refine bod Tryz.func109 Tryz.ntmps109 (λbase=>?_);refine' walkW fx (za zo <| za zeK <| zb _)
   rintro v h' ⟨rfl,rfl⟩;refine ⟨_,_,_,rfl,hge _,?_⟩;rw [hse];by_cases he:(ze x.disk p0).2=0
   ·rw [if_neg (by simpa using he)] at hs;refine ⟨hok _,_,_,hge _,λh=>absurd he h,λ_=>(zhz (v:= .d (.int .i64 (snaps x.disk p0).2)) (H':=B ⟨x,(ze x.disk p0).1,(snaps x.disk p0).1,p0,(ze x.disk p0).2⟩) ?_ (by rw [hB];rfl) (by rw [hB];exact zJ rfl)).mono ?_⟩
    ·rw [hB];refine bod Tryz.func111 Tryz.ntmps111 (λbase=>?_);refine' walkW fx (za zo <| za zeK <| zb _)
    rintro v h' ⟨rfl,rfl⟩;refine ⟨_,_,_,rfl,hge _,?_⟩;rw [hse];exact ⟨hok _,by rw [hs]⟩
   ·rw [if_pos he] at hs;exact Runs.skip (hok _) (hge _) he (by rw [hs]) _
 rw [hl,hB] at fin;cases hb:(ch&&x.broken) with
 |true=>
  refine' zcj (zav 4) hb;refine aw_le ⟨[(2,true,.vp 20 0),(5,true,.vp 22 0)],[(22,.var [.vp 21 0]),(21,.var (wkS ⟨x,⟨0,0⟩,[],p0,24⟩)),(20,.var (imgV x))],some []⟩ le1 ?_;refine' zc fx;refine (zjt (fl:=40) _ (by decide) (by omega) (fin 24 (by rw [hb];rfl)) (by rintro h' rfl;exact ze9 rfl)).mono ?_;rintro r h' ⟨rfl,rfl⟩;refine' zc fx
 |false=>
  refine' zcj (zav 4) hb;refine aw_le ⟨[(2,true,.vp 20 0),(5,true,.vp 22 0)],[(22,.var [.vp 21 0]),(21,.var (wkS ⟨x,⟨0,0⟩,[],p0,0⟩)),(20,.var (imgV x))],some []⟩ le1 ?_;refine' zc fx;refine (zjt (fl:=40) _ (by decide) (by omega) (fin 0 (by rw [hb];rfl)) (by rintro h' rfl;exact ze9 rfl)).mono ?_;rintro r h' ⟨rfl,rfl⟩;refine' zc fx
open Go Go.Proofs
theorem zxE (s:Snp) (id:Int) (h0:0<=id):ACall Tryz.prog 201 0 [snpA s,.dp [.d (.int .u32 id)]] [] (λr _=>r= .d (.bool (id !=0&&s.id==id))):=by
 have hb:decide (0<id)=(id !=0):=by rw [Bool.eq_iff_iff,decide_eq_true_eq,bne_iff_ne];omega
 refine fbod Tryz.func201 Tryz.ntmps201 (λbase=>?_);cases hz:(id !=0) with
 |true=>
  rw [hz] at hb;refine' zc hb
 |false=>
  rw [hz] at hb;refine' zc hb
@[go_sem] noncomputable def ztW:Ent Tryz.prog 201:= .ofL (consL zhO (consL (dpT (consL (intT .u32) nilL) (λp=>p) (λp=>p) (λ_=>rfl)) nilL)) (λ(s,(id,_),_)=>0<=id) (λ(s,(id,_),_)=> .d (.bool (id !=0&&s.id==id))) (λ(s,(id,_),_) hp=>⟨rfl,zxE s id hp⟩)
theorem ztX (l:List Snp) (id:Int) (h0:0<=id) (hl:l.length<=9223372036854775807):ACall Tryz.prog 113 0 [.d (.sl 3 (l.map snpD)),.fn (.func 201) [] [.dp [.d (.int .u32 id)]]] [] (λr _=>r= .d (.int .i64 (idxP (λs=>id !=0&&s.id==id) l 0))):=by
 refine bod Tryz.func113 Tryz.ntmps113 (λbase=>?_);refine' zc fx;refine zq (λq:Idst (λs=>id !=0&&s.id==id) l=>⟨[(0,true,.d (.sl 3 (l.map snpD))),(1,true,.fn (.func 201) [] [.dp [.d (.int .u32 id)]]),(7,true,.d (.int .i64 l.length)),(8,true,.d (.int .i64 q.1))],[],some []⟩) (λq=>l.length - q.1) ⟨0,Nat.zero_le _,rfl⟩ le1 (λq=>?_);obtain ⟨i,hi,hf⟩:=q;simp only at hi hf ⊢;rcases zP snpD l i hi with ⟨⟨m,s,u⟩,hq,hlt,hcmp,hrow,hdr,htk⟩|⟨hend,hcmp⟩
 ·simp only [snpD] at hrow;have hwi:=zr (i:=i) (by omega);refine' walkW (zn hcmp hrow) (za ztW <| zb _)
  ·rw [hf,hdr,idxP,if_pos (by simpa using hc)]
  ·exact ⟨⟨i+1,by omega,by rw [hf,hdr,idxP,if_neg (by simpa using hc)]⟩,lew,by simp;omega⟩
 ·refine' zc hcmp;rw [hf,hend,List.drop_length];rfl
@[go_sem] noncomputable def zoS:Ent Tryz.prog 113:= .ofL (consL (slT 3 snpD zh8) (consL (fnT 201 (consL (dpT (consL (intT .u32) nilL) (λp=>p) (λp=>p) (λ_=>rfl)) nilL)) nilL)) (λ(l,((id,_),_),_)=>(0<=id)/\(l.length<=9223372036854775807)) (λ(l,((id,_),_),_)=> .d (.int .i64 (idxP (λs=>id !=0&&s.id==id) l 0))) (λ(l,((id,_),_),_) hp=>⟨rfl,ztX l id hp.1 hp.2⟩)
theorem znl (a:Ws) (id:Int) (hl:a.L.length<=9223372036854775807) (h0:0<=id):ACall Tryz.prog 137 60 [.vp 21 0,.d (.int .u32 id)] [(21,.var (wkS a))] (λr h'=>r= .d (.int .i64 (sfind a.L id))/\h'= [(21,.var (wkS a))]):=by
 refine zC (λi=>decide (i=21)) ?_;refine bod Tryz.func137 Tryz.ntmps137 (λbase=>?_);refine' walkW fx (za zoS <| zb _);all_goals first|omega|skip
 all_goals rfl
def ssn (a:Ws) (id:Int):Snp×Int×Ws:=if a.e≠0 then (snp0,0,a) else if sfind a.L id<0 then (snp0,sfind a.L id, { a with e:=21 }) else (snpAt a.L (sfind a.L id),sfind a.L id,a)
theorem zpZ (a:Ws) (id:Int) (hl:a.L.length<=8) (h0:0<=id):ACall Tryz.prog 54 40 [.vp 21 0,.d (.int .u32 id)] [(21,.var (wkS a))] (λr h'=>r= .tup [snpA (ssn a id).1,.d (.int .i64 (ssn a id).2.1)]/\h'= [(21,.var (wkS (ssn a id).2.2))]):=by
 refine zC (λi=>decide (i=21)) ?_;refine bod Tryz.func54 Tryz.ntmps54 (λbase=>?_);obtain ⟨B,hB⟩:∃B:Snp->Int->Ws->AHeap,B=λs k a=> [(43,.var [.d (.int .i64 k)]),(42,.var [.d (.int .u32 s.id),.d (.int .i64 s.l1),.d (.str s.name)]),(41,.var [.d (.int .u32 id)]),(40,.var [.vp 21 0]),(21,.var (wkS a))]:=⟨_,rfl⟩
 obtain ⟨l,hll⟩:∃l:List SStp,l= [⟨136,[],[.vp 40 0,.vp 41 0,.vp 43 0,.vp 42 0]⟩]:=⟨_,rfl⟩
 have hok:∀s k a,SOk 50 l (B s k a):=by intro s k a;rw [hB,hll];exact {}
 have hse:∀s k a e,hset (B s k a) 21 (.var (wkS { a with e:=e }))=B s k { a with e:=e } :=by intro s k a e;rw [hB];rfl
 have hge:∀s k a,hget (B s k a) 21=some (.var (wkS a)):=by intro s k a;rw [hB];rfl
 have fin:Runs 50 l (λh'=>h'=B (ssn a id).1 (ssn a id).2.1 (ssn a id).2.2) l (B snp0 0 a):=by
  conv=>arg 4;rw [hll]
  by_cases he:a.e=0
  ·have hat:=zlx (l:=a.L) (id:=id);obtain ⟨J,hJ⟩:∃J,J=sfind a.L id:=⟨_,rfl⟩
   by_cases hJ0:J<0
   ·have hs:ssn a id=(snp0,J, { a with e:=21 }):=by rw [ssn,if_neg (by simpa using he),if_pos (by rw [<-hJ];exact hJ0),hJ]
    refine ⟨hok _ _ _,_,_,hge _ _ _,λh=>absurd he h,λ_=>(zhz (v:= .d (.int .i64 21)) (H':=B snp0 J a) ?_ (by rw [hB];rfl) (by rw [hB];exact zJ rfl)).mono ?_⟩
    ·rw [hB];have hb:decide (J<0)=true:=decide_eq_true hJ0;refine bod Tryz.func136 Tryz.ntmps136 (λbase=>?_);refine' zc fx;refine (zdc (znl a id (by omega) h0) (by decide) rfl (by simp [AObj.ids,AV.idsL,AV.ids,wkV]) (by simp [AV.idsL,AV.ids])).mono ?_;rintro r h' ⟨rfl,rfl⟩;rw [<-hJ];simp only [go_sem,aeq,aeq.aeqF,simprocAttr,hset];refine' zc hb
    rintro v h' ⟨rfl,rfl⟩;exact ⟨_,_,_,rfl,hge _ _ _,by rw [hse];exact ⟨hok _ _ _,by rw [hs]⟩⟩
   ·rw [<-hJ] at hat;obtain ⟨u,hq,hu,hlt,hJn⟩:=hat (by omega);have hs:ssn a id=(u,J,a):=by rw [ssn,if_neg (by simpa using he),if_neg (by rw [<-hJ];exact hJ0),<-hJ,hu]
    refine ⟨hok _ _ _,_,_,hge _ _ _,λh=>absurd he h,λ_=>(zhz (v:= .d (.int .i64 0)) (H':=B u J a) ?_ (by rw [hB];rfl) (by rw [hB];exact zJ rfl)).mono ?_⟩
    ·rw [hB];have hb:decide (J<0)=false:=decide_eq_false hJ0;have hrow:=zco (g:=snpD) hq;simp only [snpD] at hrow;have hlt2:J<(a.L.length:Int):=by omega
     refine bod Tryz.func136 Tryz.ntmps136 (λbase=>?_);refine' zc fx;refine (zdc (znl a id (by omega) h0) (by decide) rfl (by simp [AObj.ids,AV.idsL,AV.ids,wkV]) (by simp [AV.idsL,AV.ids])).mono ?_;rintro r h' ⟨rfl,rfl⟩;rw [<-hJ];simp only [go_sem,aeq,aeq.aeqF,simprocAttr,hset];refine' zc (zn hb hrow);all_goals first|omega|skip
    rintro v h' ⟨rfl,rfl⟩;refine ⟨_,_,_,rfl,hge _ _ _,?_⟩;have:({ a with e:=0 } :Ws)=a:=by rw [<-he]
    rw [hse,this];exact ⟨hok _ _ _,by rw [hs]⟩
  ·exact Runs.skip (hok _ _ _) (hge _ _ _) he (by rw [ssn,if_pos he]) _
 rw [hll,hB] at fin;refine' zc fx;refine (zjt (fl:=50) _ (by decide) (by omega) fin (by rintro h' rfl;exact ze9 rfl)).mono ?_;rintro r h' ⟨rfl,rfl⟩;refine' zc fx
theorem zgX (a:Ws) (l1 by_:Int):ACall Tryz.prog 42 40 [.vp 21 0,.d (.int .i64 l1),.d (.int .i64 by_)] [(21,.var (wkS a))] (λr h'=>r= .fn (.func 122) [] [.dp [.vp 21 0],.dp [.d (.int .i64 l1)],.dp [.d (.int .i64 by_)]]/\h'= [(21,.var (wkS a))]):=by refine bod Tryz.func42 Tryz.ntmps42 (λbase=>?_);refine' zcj (zav 1) fx;refine zaN 40 rfl ?_;simp only [go_sem,aeq,aeq.aeqF,simprocAttr];refine zaN 41 rfl ?_;simp only [go_sem,aeq,aeq.aeqF,simprocAttr];refine zaN 42 rfl ?_;simp only [go_sem,aeq,aeq.aeqF,simprocAttr];refine' zc fx
theorem zp0 (a:Ws) (l1 by_:Int):ACall Tryz.prog 41 40 [.vp 21 0,.d (.int .i64 l1),.d (.int .i64 by_)] [(21,.var (wkS a))] (λr h'=>r= .fn (.func 120) [] [.dp [.vp 21 0],.dp [.d (.int .i64 l1)],.dp [.d (.int .i64 by_)]]/\h'= [(21,.var (wkS a))]):=by refine bod Tryz.func41 Tryz.ntmps41 (λbase=>?_);refine' zcj (zav 1) fx;refine zaN 40 rfl ?_;simp only [go_sem,aeq,aeq.aeqF,simprocAttr];refine zaN 41 rfl ?_;simp only [go_sem,aeq,aeq.aeqF,simprocAttr];refine zaN 42 rfl ?_;simp only [go_sem,aeq,aeq.aeqF,simprocAttr];refine' zc fx
theorem ztY (a:Ws) (i:Int) (s:Snp):ACall Tryz.prog 43 40 [.vp 21 0,.d (.int .i64 i),snpA s] [(21,.var (wkS a))] (λr h'=>r= .fn (.func 124) [] [.dp [.vp 21 0],.dp [.d (.int .i64 i)],.dp [.d (.int .u32 s.id),.d (.int .i64 s.l1),.d (.str s.name)]]/\h'= [(21,.var (wkS a))]):=by refine bod Tryz.func43 Tryz.ntmps43 (λbase=>?_);refine' zcj (zav 1) fx;refine zaN 40 rfl ?_;simp only [go_sem,aeq,aeq.aeqF,simprocAttr];refine zaN 41 rfl ?_;simp only [go_sem,aeq,aeq.aeqF,simprocAttr];refine zaN 42 rfl ?_;simp only [go_sem,aeq,aeq.aeqF,simprocAttr];refine' zc fx
def StepW (s:SStp) (a c:Ws):Prop:=∃ (b:Ws) (e:Int),c= { b with e:=e } /\ACall Tryz.prog s.f 60 (s.fs++s.cs) [(21,.var (wkS a))] (λr h'=>r= .d (.int .i64 e)/\h'= [(21,.var (wkS b))])/\∀j∈AV.idsL (s.fs++s.cs),j=21
def WI (a:Ws):Prop:=ImgF a.x/\pfit a.q=true
theorem WI.dp {a:Ws} (h:WI a):DP a.x.disk a.q:=⟨h.1.disk,h.2⟩
def wstep (F:Ws->Ws) (a:Ws):Ws:=if a.e≠0 then a else F a
def wrun:List (SStp×(Ws->Ws))->Ws->Ws
 | [],a=>a
 |p::r,a=>wrun r (wstep p.2 a)
def Good (p:SStp×(Ws->Ws)):Prop:=∀a,WI a->a.e=0->WI (p.2 a)/\StepW p.1 a (p.2 a)
theorem Runs.chain {fl:Nat} {all:List SStp} {K:AHeap->Prop} (B:Ws->AHeap) (hok:∀a,SOk fl all (B a)) (hse:∀a b,hset (B a) 21 (.var (wkS b))=B b) (hge:∀a,hget (B a) 21=some (.var (wkS a))):∀ (l:List (SStp×(Ws->Ws))) (a:Ws),WI a->(∀p∈l,Good p)->K (B (wrun l a))->Runs fl all K (l.map (·.1)) (B a)
 | [],a,_,_,hK=>⟨hok a,hK⟩
 | p::r,a,hw,hg,hK=>by
  refine ⟨hok a,a,_,hge a,λhe=>?_,λhe=>?_⟩
  ·rw [wrun,wstep,if_pos he] at hK;exact Runs.chain B hok hse hge r a hw (λq hq=>hg q (List.mem_cons_of_mem _ hq)) hK
  ·rw [wrun,wstep,if_neg (by simpa using he)] at hK;obtain ⟨h1,b,e,hc,h2,h3⟩:=hg p List.mem_cons_self a hw he;refine (zdc h2 (by decide) (hge a) (by simp [AObj.ids,AV.idsL,AV.ids,wkV]) h3).mono ?_;rintro v h' ⟨rfl,rfl⟩;rw [hse];refine ⟨b,_,e,rfl,hge b,?_⟩;rw [hse,<-hc];exact Runs.chain B hok hse hge r _ h1 (λq hq=>hg q (List.mem_cons_of_mem _ hq)) hK
def zfh (l1 by_:Int) (a:Ws):Ws:= { a with q:=(share a.x.disk a.q l1 by_).1,e:=(share a.x.disk a.q l1 by_).2 }
def fCopy (l1 k:Int) (a:Ws):Ws:= { a with q:=(ecopy a.x.disk a.q l1 k).1,e:=(ecopy a.x.disk a.q l1 k).2 }
def fPut (i:Int) (s:Snp) (a:Ws):Ws:= { a with q:=(setsnap a.x.disk a.q i s).1,e:=(setsnap a.x.disk a.q i s).2 }
def fAdd (k:Int) (a:Ws):Ws:= { a with q:=(radd a.x.disk a.q k (-1)).1,e:=(radd a.x.disk a.q k (-1)).2 }
def fDone (a:Ws):Ws:= { a with x:=(cdone a.x a.q).1,e:=(cdone a.x a.q).2 }
def zfD (l1 by_:Int):SStp:=⟨122,[],[.dp [.vp 21 0],.dp [.d (.int .i64 l1)],.dp [.d (.int .i64 by_)]]⟩
def cCopy (l1 k:Int):SStp:=⟨120,[],[.dp [.vp 21 0],.dp [.d (.int .i64 l1)],.dp [.d (.int .i64 k)]]⟩
def cPut (i:Int) (s:Snp):SStp:=⟨124,[],[.dp [.vp 21 0],.dp [.d (.int .i64 i)],.dp [.d (.int .u32 s.id),.d (.int .i64 s.l1),.d (.str s.name)]]⟩
def cAdd (s:Snp):SStp:=⟨55,[],[.dp [.vp 21 0],.dp [.d (.int .u32 s.id),.d (.int .i64 s.l1),.d (.str s.name)]]⟩
def cDone:SStp:=⟨46,[.vp 21 0],[]⟩
attribute [go_sem] zfD cCopy cPut cAdd cDone
theorem zf9 (l1 by_:Int):Good (zfD l1 by_,zfh l1 by_):=by intro a hw he;have hdp:=hw.dp;refine ⟨⟨hw.1,(hdp.share _ _).p⟩, { a with q:=(share a.x.disk a.q l1 by_).1 },_,rfl,?_,by simp [zfD,AV.idsL,AV.ids]⟩;simp only [zfD,List.nil_append];refine zC (λi=>decide (i<60)) ?_;refine bod Tryz.func122 Tryz.ntmps122 (λbase=>?_);refine' walkW fx (za zd7 <| za zaU <| za zdh <| za zW <| za zp <| zb _)
theorem znm (l1 k:Int):Good (cCopy l1 k,fCopy l1 k):=by intro a hw he;have hdp:=hw.dp;refine ⟨⟨hw.1,(hdp.ecopy _ _).p⟩, { a with q:=(ecopy a.x.disk a.q l1 k).1 },_,rfl,?_,by simp [cCopy,AV.idsL,AV.ids]⟩;simp only [cCopy,List.nil_append];refine zC (λi=>decide (i<60)) ?_;refine bod Tryz.func120 Tryz.ntmps120 (λbase=>?_);refine' walkW fx (za zd7 <| za zaU <| za zdh <| za zW <| za zp <| zb _)
theorem zp1 (i:Int) (s:Snp) (h0:0<=s.id) (h1:s.id<=4294967295) (hn:s.name.length<=9223372036854775807):Good (cPut i s,fPut i s):=by intro a hw he;have hdp:=hw.dp;refine ⟨⟨hw.1,(hdp.setsnap _ _).p⟩, { a with q:=(setsnap a.x.disk a.q i s).1 },_,rfl,?_,by simp [cPut,AV.idsL,AV.ids]⟩;simp only [cPut,List.nil_append];refine zC (λi=>decide (i<60)) ?_;refine bod Tryz.func124 Tryz.ntmps124 (λbase=>?_);refine' walkW fx (za zd7 <| za zaU <| za zdh <| za zW <| za zp <| zb _)
theorem zvV (s:Snp):Good (cAdd s,fAdd s.l1):=by intro a hw he;have hdp:=hw.dp;refine ⟨⟨hw.1,(hdp.radd _ _).p⟩, { a with q:=(radd a.x.disk a.q s.l1 (-1)).1 },_,rfl,?_,by simp [cAdd,AV.idsL,AV.ids]⟩;simp only [cAdd,List.nil_append];refine zC (λi=>decide (i<60)) ?_;refine bod Tryz.func55 Tryz.ntmps55 (λbase=>?_);refine' walkW fx (za zd7 <| za zaU <| za zdh <| za zW <| za zp <| zb _)
theorem zjv:Good (cDone,fDone):=by intro a hw he;have hiok:=hw.1.ok;have hdok:=hw.1.disk;have hq0:=hw.1.seq0;have hq1:=hw.1.seq1;have hq2:=hw.2;refine ⟨⟨hw.1.done _,hw.2⟩, { a with x:=(cdone a.x a.q).1 },_,rfl,?_,by simp [cDone,AV.idsL,AV.ids]⟩;simp only [cDone,List.append_nil];refine zC (λi=>decide (i<60)) ?_;refine bod Tryz.func46 Tryz.ntmps46 (λbase=>?_);refine' walkW fx (za zd7 <| za zaU <| za zdh <| za zW <| za zp <| zb _)
open Go Go.Proofs
theorem sbw_L (x:Img) (ch:Bool):(sbw x ch).L.length<=8:=by
 unfold sbw;split
 ·exact Nat.zero_le _
 ·exact zpK _
theorem zwu {x:Img} (h:ImgF x) (ch:Bool):WI (sbw x ch):=by
 unfold sbw;split
 ·exact ⟨h,zaw⟩
 ·exact ⟨h,zaw⟩
theorem zwv {x:Img} (h:ImgF x) (ch:Bool) (id:Int):WI (ssn (sbw x ch) id).2.2:=by
 have:=zwu h ch;unfold ssn;split
 ·exact this
 split
 ·exact this
 ·exact this
theorem zxF {x:Img} {id:Int} :zbB x id=((wrun [(zfD (ssn (sbw x true) id).1.l1 (-1),zfh (ssn (sbw x true) id).1.l1 (-1)),(cAdd (ssn (sbw x true) id).1,fAdd (ssn (sbw x true) id).1.l1),(cPut (ssn (sbw x true) id).2.1 snp0,fPut (ssn (sbw x true) id).2.1 snp0),(cDone,fDone)] (ssn (sbw x true) id).2.2).x,(wrun [(zfD (ssn (sbw x true) id).1.l1 (-1),zfh (ssn (sbw x true) id).1.l1 (-1)),(cAdd (ssn (sbw x true) id).1,fAdd (ssn (sbw x true) id).1.l1),(cPut (ssn (sbw x true) id).2.1 snp0,fPut (ssn (sbw x true) id).2.1 snp0),(cDone,fDone)] (ssn (sbw x true) id).2.2).e):=by
 have hsk:∀ (l:List (SStp×(Ws->Ws))) (a:Ws),a.e≠0->wrun l a=a:=by
  intro l;induction l with
  |nil=>intro a _;rfl
  |cons p r ih=>intro a he;rw [wrun,wstep,if_pos he];exact ih a he
 unfold zbB;cases hb:x.broken with
 |true=>
  have h1:sbw x true=⟨x,⟨0,0⟩,[],p0,24⟩:=by rw [sbw,hb];rfl
  have h2:(ssn (sbw x true) id)=(snp0,0,⟨x,⟨0,0⟩,[],p0,24⟩):=by rw [h1,ssn,if_pos (by show (24:Int)≠0;decide)]
  rw [h2,if_pos rfl,hsk _ _ (by show (24:Int)≠0;decide)]
 | false=>
  have h1:sbw x true=⟨x,(sbeg x.disk).1,(sbeg x.disk).2.1,p0,(sbeg x.disk).2.2⟩:=by rw [sbw,hb];rfl
  rw [h1,if_neg (by decide)];by_cases he:(sbeg x.disk).2.2=0
  ·rw [if_neg (by simpa using he)];by_cases hj:sfind (sbeg x.disk).2.1 id<0
   ·rw [if_pos hj,ssn,if_neg (by simpa using he),if_pos hj,hsk _ _ (by show (21:Int)≠0;decide)]
   ·rw [if_neg hj,ssn,if_neg (by simpa using he),if_neg hj];simp only [wrun,wstep,zfh,fAdd,fPut,fDone,sdelA,sdelB,sdelC,he,ne_eq,not_true_eq_false,if_false];repeat' split
    all_goals simp_all
  ·rw [if_pos he,ssn,if_pos he,hsk _ _ he]
theorem zxG (x:Img) (id:Int) (hp:ImgF x/\0<=id/\id<=4294967295):AC 12 [imgA x,.d (.int .u32 id)] (.tup [imgA (zbB x id).1,.d (.int .i64 (zbB x id).2)]):=by
 obtain ⟨h,h0,h1⟩:=hp;refine fbod Tryz.func12 Tryz.ntmps12 (λbase=>?_);refine' zc fx;refine (ACall.own (fl':=0) (zju x true h) rfl rfl (by omega) (by rintro r h' ⟨rfl,rfl⟩;rfl)).mono ?_;rintro r h' ⟨h1',⟨rfl,rfl⟩,rfl⟩;have hLl:=sbw_L x true;obtain ⟨a,ha⟩:∃a,a=sbw x true:=⟨_,rfl⟩
 rw [<-ha] at hLl ⊢;simp only [go_sem,aeq,aeq.aeqF,simprocAttr,List.singleton_append];refine' zc fx;refine (zdc (zpZ a id hLl h0) (by decide) rfl (by simp [AObj.ids,AV.idsL,AV.ids,wkV]) (by simp [AV.idsL,AV.ids])).mono ?_;rintro r h' ⟨rfl,rfl⟩;obtain ⟨s,hs⟩:∃s,s=ssn a id:=⟨_,rfl⟩
 rw [<-hs];simp only [go_sem,aeq,aeq.aeqF,simprocAttr,hset];refine' zcj (zav 3) fx;refine zaN 22 rfl ?_;simp only [go_sem,aeq,aeq.aeqF,simprocAttr];refine zaN 23 rfl ?_;simp only [go_sem,aeq,aeq.aeqF,simprocAttr];refine' zhd (ownsL [0,2000042,2000043]) fx;refine ⟨21,40,.var (wkS s.2.2),_,rfl,by decide,by simp [AObj.ids,AV.idsL,AV.ids,wkV],by simp [AV.idsL,AV.ids],zgX s.2.2 s.1.l1 (-1),?_⟩;refine ⟨21,40,.var (wkS s.2.2),_,rfl,by decide,by simp [AObj.ids,AV.idsL,AV.ids,wkV],by simp [AV.idsL,AV.ids],ztY s.2.2 s.2.1 snp0,?_⟩;simp only [go_sem,aeq,aeq.aeqF,simprocAttr];refine' zhd (ownsL [0,2000042,2000043]) fx;have hWI:WI s.2.2:=by rw [hs,ha];exact zwv h _ _
 have heq:=zxF (x:=x) (id:=id);rw [<-ha,<-hs] at heq;obtain ⟨W,hW⟩:∃W,W=wrun [(zfD s.1.l1 (-1),zfh s.1.l1 (-1)),(cAdd s.1,fAdd s.1.l1),(cPut s.2.1 snp0,fPut s.2.1 snp0),(cDone,fDone)] s.2.2:=⟨_,rfl⟩
 rw [<-hW] at heq;refine (zjt (fl:=50) (K:=λh'=>h'= [(21,.var (wkS W)),(1,.var img0),(0,.var (imgV x))]) ([(zfD s.1.l1 (-1),zfh s.1.l1 (-1)),(cAdd s.1,fAdd s.1.l1),(cPut s.2.1 snp0,fPut s.2.1 snp0),(cDone,fDone)].map (·.1)) (by simp) (Nat.zero_le _) (Runs.chain (λa=> [(21,.var (wkS a)),(1,.var img0),(0,.var (imgV x))]) (λa=> {}) (λ_ _=>rfl) (λ_=>rfl) _ _ hWI ?_ (by rw [hW])) (by rintro h' rfl;exact ze9 rfl)).mono ?_
 ·intro p hp;simp only [List.mem_cons,List.not_mem_nil,or_false] at hp;rcases hp with rfl|rfl|rfl|rfl
  ·exact zf9 _ _
  ·exact zvV _
  ·exact zp1 _ _ (by decide) (by decide) (by decide)
  ·exact zjv
 rintro r h' ⟨rfl,rfl⟩;simp only [go_sem,aeq,aeq.aeqF,simprocAttr];refine' zc fx;rw [heq]
@[go_sem] noncomputable def zbw:Ent Tryz.prog 12:= .m2 zbG (intT .u32) zxG
open Go Go.Proofs
theorem zyw {x:Img} {R:Root} {L:List Snp} {q:Plan} {e id:Int} (he:e=0):ssn ⟨x,R,L,q,e⟩ id=if sfind L id<0 then (snp0,sfind L id,⟨x,R,L,q,21⟩) else (snpAt L (sfind L id),sfind L id,⟨x,R,L,q,e⟩):=by rw [ssn,if_neg (by simpa using he)]
theorem zww {a:Ws} {id:Int} (he:a.e≠0):ssn a id=(snp0,0,a):=by rw [ssn,if_pos he]
theorem ztZ:∀ (l:List (SStp×(Ws->Ws))) (a:Ws),WI a->(∀p∈l,Good p)->WI (wrun l a)
 | [],_,h,_=>h
 | p::r,a,h,hg=>by
  rw [wrun];refine ztZ r _ ?_ (λq hq=>hg q (List.mem_cons_of_mem _ hq));rw [wstep];split
  ·exact h
  ·rename_i he;exact (hg p List.mem_cons_self a h (by simpa using he)).1
theorem zd8:∀ (l:List (SStp×(Ws->Ws))) (a:Ws),a.e≠0->wrun l a=a
 | [],_,_=>rfl
 |p::r,a,he=>by rw [wrun,wstep,if_pos he];exact zd8 r a he
def srevL (s:Snp×Int×Ws):List (SStp×(Ws->Ws)):= [(zfD s.1.l1 1,zfh s.1.l1 1),(zfD s.2.2.R.l1 (-1),zfh s.2.2.R.l1 (-1)),(cCopy s.1.l1 s.2.2.R.l1,fCopy s.1.l1 s.2.2.R.l1),(cDone,fDone)]
theorem zxH {x:Img} {id:Int} :zbC x id=if (wrun (srevL (ssn (sbw x true) id)) (ssn (sbw x true) id).2.2).e≠0 then ((wrun (srevL (ssn (sbw x true) id)) (ssn (sbw x true) id).2.2).x,(wrun (srevL (ssn (sbw x true) id)) (ssn (sbw x true) id).2.2).e) else (zcf (wrun (srevL (ssn (sbw x true) id)) (ssn (sbw x true) id).2.2).x 64,0):=by
 unfold zbC;cases hb:x.broken with
 |true=>
  have h1:sbw x true=⟨x,⟨0,0⟩,[],p0,24⟩:=by rw [sbw,hb];rfl
  rw [h1,zww (by show (24:Int)≠0;decide),if_pos rfl,zd8 _ _ (by show (24:Int)≠0;decide),if_pos (by show (24:Int)≠0;decide)]
 | false=>
  have h1:sbw x true=⟨x,(sbeg x.disk).1,(sbeg x.disk).2.1,p0,(sbeg x.disk).2.2⟩:=by rw [sbw,hb];rfl
  rw [h1,if_neg (by decide)];by_cases he:(sbeg x.disk).2.2=0
  ·rw [if_neg (by simpa using he),zyw he];by_cases hj:sfind (sbeg x.disk).2.1 id<0
   ·rw [if_pos hj,if_pos hj,zd8 _ _ (by show (21:Int)≠0;decide),if_pos (by show (21:Int)≠0;decide)]
   ·rw [if_neg hj,if_neg hj];simp only [srevL,wrun,wstep,zfh,fCopy,fDone,srev0,srevA,srevB,srevC,he,ne_eq,not_true_eq_false,if_false];repeat' split
    all_goals simp_all
  ·rw [if_pos he,zww he,zd8 _ _ he,if_pos he]
theorem zrq {x:Img} {p:Plan} :(cdone x p).1.maps=x.maps:=by unfold cdone;split<;>rfl
theorem zt0 {s:Snp×Int×Ws} :∀a,(wrun (srevL s) a).x.maps=a.x.maps:=by
 intro a;simp only [srevL,wrun,wstep,zfh,fCopy,fDone];repeat' split
 all_goals first|rfl|exact zrq
theorem ssn_x {x:Img} {ch:Bool} {id:Int} :(ssn (sbw x ch) id).2.2.x=x:=by
 unfold ssn sbw;repeat' split
 all_goals rfl
theorem zhA (x:Img):∀n,(zcf x n).maps.length=x.maps.length
 |0=>rfl
 |n+1=>by
  rw [zcf,cmark];split
  ·exact zhA x n
  ·simpa using zhA x n
theorem zvW (x:Img) (id:Int) (hp:ImgF x/\0<=id/\id<=4294967295/\x.maps.length<=5000):AC 14 [imgA x,.d (.int .u32 id)] (.tup [imgA (zbC x id).1,.d (.int .i64 (zbC x id).2)]):=by
 obtain ⟨h,h0,h1,hm⟩:=hp;refine fbod Tryz.func14 Tryz.ntmps14 (λbase=>?_);refine' zc fx;refine (ACall.own (fl':=0) (zju x true h) rfl rfl (by omega) (by rintro r h' ⟨rfl,rfl⟩;rfl)).mono ?_;rintro r h' ⟨h1',⟨rfl,rfl⟩,rfl⟩;have hLl:=sbw_L x true;obtain ⟨a,ha⟩:∃a,a=sbw x true:=⟨_,rfl⟩
 rw [<-ha] at hLl ⊢;simp only [go_sem,aeq,aeq.aeqF,simprocAttr,List.singleton_append];refine' zc fx;refine (zdc (zpZ a id hLl h0) (by decide) rfl (by simp [AObj.ids,AV.idsL,AV.ids,wkV]) (by simp [AV.idsL,AV.ids])).mono ?_;rintro r h' ⟨rfl,rfl⟩;obtain ⟨s,hs⟩:∃s,s=ssn a id:=⟨_,rfl⟩
 rw [<-hs];simp only [go_sem,aeq,aeq.aeqF,simprocAttr,hset];refine' zcj (zav 3) fx;refine' zhd (ownsL [0,2000042,2000041]) fx;refine ⟨21,40,.var (wkS s.2.2),_,rfl,by decide,by simp [AObj.ids,AV.idsL,AV.ids,wkV],by simp [AV.idsL,AV.ids],zgX s.2.2 s.1.l1 1,?_⟩;refine ⟨21,40,.var (wkS s.2.2),_,rfl,by decide,by simp [AObj.ids,AV.idsL,AV.ids,wkV],by simp [AV.idsL,AV.ids],zgX s.2.2 s.2.2.R.l1 (-1),?_⟩;refine ⟨21,40,.var (wkS s.2.2),_,rfl,by decide,by simp [AObj.ids,AV.idsL,AV.ids,wkV],by simp [AV.idsL,AV.ids],zp0 s.2.2 s.1.l1 s.2.2.R.l1,?_⟩;simp only [go_sem,aeq,aeq.aeqF,simprocAttr];refine' zhd (ownsL [0,2000042,2000041]) fx;have hWI:WI s.2.2:=by rw [hs,ha];exact zwv h _ _
 have heq:=zxH (x:=x) (id:=id);rw [<-ha,<-hs] at heq
 have hgood:∀p∈srevL s,Good p:=by
  intro p hp;simp only [srevL,List.mem_cons,List.not_mem_nil,or_false] at hp;rcases hp with rfl|rfl|rfl|rfl
  ·exact zf9 _ _
  ·exact zf9 _ _
  ·exact znm _ _
  ·exact zjv
 have hWW:=ztZ _ _ hWI hgood;obtain ⟨W,hW⟩:∃W,W=wrun (srevL s) s.2.2:=⟨_,rfl⟩
 have hml0:=zt0 (s:=s) s.2.2;rw [<-hW] at heq hWW hml0;rw [hs,ha,ssn_x] at hml0;refine (zjt (fl:=50) (K:=λh'=>h'= [(22,.var [.d (.int .u32 s.1.id),.d (.int .i64 s.1.l1),.d (.str s.1.name)]),(21,.var (wkS W)),(1,.var img0),(0,.var (imgV x))]) ((srevL s).map (·.1)) (by simp [srevL]) (Nat.zero_le _) (Runs.chain (λa=> [(22,.var [.d (.int .u32 s.1.id),.d (.int .i64 s.1.l1),.d (.str s.1.name)]),(21,.var (wkS a)),(1,.var img0),(0,.var (imgV x))]) (λa=> { is:=by simp only [srevL,inH,AV.ids,AV.idsL,AV.idsR,List.map_cons,List.map_nil,stR,hget,go_sem,simprocAttr] }) (λ_ _=>rfl) (λ_=>rfl) _ _ hWI hgood (by rw [hW])) (by rintro h' rfl;exact ze9 rfl)).mono ?_;rintro r h' ⟨rfl,rfl⟩;simp only [go_sem,aeq,aeq.aeqF,simprocAttr];refine' zc fx;refine zq (λq: { k:Nat // k<=64/\(W.e≠0->k=0) } =>⟨[(4,true,.vp 1 0),(6,true,.vp 21 0),(9,true,.d (.int .i64 q.1))],[(21,.var (wkS { W with x:=zcf W.x q.1 })),(1,.var img0)],some []⟩) (λq=>64 - q.1) ⟨0,Nat.zero_le _,λ_=>rfl⟩ le1 (λq=>?_);obtain ⟨k,hk,hk0⟩:=q;simp only at hk hk0 ⊢;have hmi:=hWW.1.marks k;have hmo:=hmi.ok;have hml:(zcf W.x k).maps.length<=5000:=by rw [zhA,hml0];exact hm
 by_cases he:W.e=0
 ·have hb:(W.e==0)=true:=by simpa using he
  rw [if_neg (by simpa using he)] at heq;rcases Nat.lt_or_ge k 64 with hlt|hge
  ·have hcmp:decide ((k:Int)<64)=true:=decide_eq_true (by omega);have hwi:=zr (i:=k) (by omega);have hms:zcf W.x (k+1)=cmark (zcf W.x k) k:=rfl;refine' walkW (zn hcmp hb) (za zE <| za zaD <| zb _);exact ⟨⟨k+1,by omega,λh=>absurd he h⟩,by simp only [hms];simp only [AS.le,leT,leH,zf,AsgK,AV.le,AV.leL,AObj.le,inH,idsT,idsH,AV.ids,AV.idsL,AV.idsR,AObj.ids,lk,hget,go_sem,aeq,aeq.aeqF,simprocAttr,hwi]<;>and_intros<;>rfl,by simp;omega⟩
  ·have hcmp:decide ((k:Int)<64)=false:=decide_eq_false (by omega);obtain rfl:k=64:=by omega
   refine' walkW hcmp (za zE <| za zaD <| zb _);rw [heq,he]
 ·have hb:(W.e==0)=false:=by simpa using he
  obtain rfl:=hk0 he;rw [if_pos he] at heq;refine' walkW hb (za zE <| za zaD <| zb _);rw [heq];rfl
@[go_sem] noncomputable def za4:Ent Tryz.prog 14:= .m2 zbG (intT .u32) zvW
end Go.Aw
