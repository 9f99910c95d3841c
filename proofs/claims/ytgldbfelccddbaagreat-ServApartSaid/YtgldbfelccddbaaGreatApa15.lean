/- Lemmas. -/
import Derived.Test.YtgldbfelccddbaaGreatApa14
import Derived.Test.YtgldbfelccddbaaGreatApa10
set_option linter.all false
set_option maxRecDepth 100000
set_option maxHeartbeats 2000000
namespace Go.Aw
noncomputable section
open Go Go.Proofs Go.Proofs.Tryz
def zwS {l:List Int} {i:Nat} {t:Int} :∀ {k:Nat},l[i]?=some t->(idxP (λx=>x==t) l k==((k+i:Nat):Int))= !(l.take i).contains t:=by
 induction l generalizing i with
 |nil=>intro k h;simp at h
 | cons a l ih=>
  intro k h;cases i with
  |zero=>
   simp only [eC,aB] at h;subst h;rw [idxP,aa fZ];simp
  | succ i=>
   rw [List.getElem?_cons_succ] at h;rw [idxP,dI,eS];by_cases J:a=t
   .rw [aa gQ,J,beq_self_eq_true,dD];rw [bb.2 fT];rfl
   .rw [U gQ,show k+(i+1)=k+1+i from fT,ih h,bb.2 (bx J),cB]
def zzO (p:Plan) (hp:PlanOk p):AC 388 [planA p] (.d (.bool (pfit p))):=by
 refine bod func388 ntmps388 (λbase=>?_);have h1:=hp.targets;have h2:=hp.texts;refine' Ds
 .have:pfit p=false:=by
   simp only [aH,bD,ax] at hc;rw [pfit];rcases hc with hc|hc
   .rw [ag (p:=p.targets.length=p.texts.length) fT];simp
   .rw [ag (p:=p.targets.length<=24) fT];simp
  rw [this]
 obtain ⟨hl,iQ⟩:p.targets.length=p.texts.length/\p.targets.length<=24:=by simp only [bn,bJ,bG] at hc;omega
 have ng:pfit p=pfitL [] p.targets p.texts:=by rw [pfit,af hl,af iQ];simp
 refine zk (λq: { i:Nat // i<=p.targets.length/\pfitL [] p.targets p.texts=pfitL (p.targets.take i) (p.targets.drop i) (p.texts.drop i) } =>⟨[(1,true,.vp 0 0),(3,true,.d (.int .i64 q.1))],[(0,.var [.d (.sl 1 (p.targets.map intD)),.d (.sl 1 (p.texts.map strD))])],some []⟩) (λq=>p.targets.length - q.1) ⟨0,ad _,rfl⟩ le1 (λq=>?_);refine' Di;rcases zw intD p.targets i hi with ⟨m,hq,a8,J,ab,b4,a7⟩|⟨ao,J⟩
 .refine' Ep;refine' CO;have hid:=zwS (k:=0) hq;rw [bL] at hid;rw [b4,zdO fV,pfitL] at hf
  have iy:(!secOk m||pfind p.targets m !=(i:Int)||((s.length:Int) !=64))= !(secOk m&& !(p.targets.take i).contains m&&((s.length:Int)==64)):=by rw [<-hid,cg,cg];rfl
  refine' walkW (zp J ab ij) (za zf3 <| za ze0 <| zb _)
  .rw [iy] at hc;simp only [bI] at hc;rw [ng,hf,hc,cD]
  .rw [iy] at hc;simp only [bK] at hc;rw [hc,bU,<-a7] at hf;refine' Gh
 .refine' zc J;rw [ng,hf,ao,aP];rfl
@[go_sem] def zeJ:Ent Tryz.prog 388:= .m1 z7 zzO
def zzP (d:Disk) (p:Plan) (hp:DiskOk d/\PlanOk p/\p.targets.length=p.texts.length):AC 90 [diskA d,planA p] (.tup [diskA (play d p).1,.d (.int .i64 (play d p).2)]):=by
 obtain ⟨hd,hp,hl⟩:=hp;refine fbod func90 ntmps90 (λbase=>?_);have h1:=hp.targets;have h2:=hp.texts;refine' Ds;refine zk (λq: { q:Nat×Disk // q.1<=p.targets.length/\DiskOk q.2/\play d p=layL q.2 ((p.targets.zip p.texts).drop q.1) } =>⟨[(2,true,.vp 0 0),(3,true,.vp 1 0),(4,true,.vp 2 0),(6,true,.d (.int .i64 q.1.1))],[(2,.var [.d (.str []),.nils 2,.d (.int .i64 0),.d (.bool false),.nils 1]),(1,.var [.d (.sl 1 (p.targets.map intD)),.d (.sl 1 (p.texts.map strD))]),(0,(.var [.d (.str q.1.2.data),.d (.sl 2 (q.1.2.cache.map putD)),.d (.int .i64 q.1.2.fuse),.d (.bool q.1.2.off),.d (.sl 1 (q.1.2.bad.map intD))]))],some []⟩) (λq=>p.targets.length - q.1.1) ⟨(0,d),ad _,hd,rfl⟩ le1 (λq=>?_);obtain ⟨⟨i,x⟩,hi,hx,hf⟩:=q;simp only at hi hx hf |-;rcases zw intD p.targets i hi with ⟨m,hq,br,J,ab,b4,a7⟩|⟨ao,J⟩
 .refine' Ep;refine' CO;refine' GH;rw [zdO hz,layL] at hf;have mw:=zkq hx m s;refine' walkW (zB J qi ab ij) (za zT <| zb _)
  .have hc:(zab x m s).2≠0:=by simpa using hc
   rw [hf,aa hc]
  .have hc:¬(zab x m s).2≠0:=by simpa using hc
   rw [U hc] at hf;exact ⟨⟨(i+1,(zab x m s).1),fT,mw,hf⟩,lew,gh⟩
 .refine' zc J;rw [hf,bQ (by rw [List.length_zip];omega)];rfl
@[go_sem] def zdT:Ent Tryz.prog 90:= .m2 zC z7 zzP
def pfitZ:List Int->List (Int×Txt)->Bool
 |_,[]=>true
 |seen,q::r=>secOk q.1&& !seen.contains q.1&&((q.2.length:Int)==64)&&pfitZ (seen++ [q.1]) r
def zkr:∀ (t:List Int) (s:List Txt) (seen:List Int),pfitL seen t s=pfitZ seen (t.zip s)
 | [],s,seen=>by simp [pfitL,pfitZ]
 |t::r,[],seen=>by simp [pfitL,pfitZ]
 |t::r,s::q,seen=>by simp only [pfitL,pfitZ,fm,zkr r q]
def ziO:∀ (l:List (Int×Txt)) (seen:List Int) (q:Int×Txt),pfitZ seen (l++ [q])=(pfitZ seen l&&(secOk q.1&& !(seen++l.map (·.1)).contains q.1&&((q.2.length:Int)==64)))
 | [],seen,q=>by simp [pfitZ]
 |a::l,seen,q=>by rw [bf,pfitZ,pfitZ,ziO l,au,aY,dv];simp only [eU]
def zwV:∀ (t:List Int) (s:List Txt) (k:Nat) (x:Txt) (y:Int),t[k]?=some y->t.zip (s.set k x)=(t.zip s).set k (y,x)
 | [],s,k,x,y,h=>by simp at h
 |t::r,[],k,x,y,h=>fZ
 |t::r,a::s,0,x,y,h=>by have:t=y:=lI;subst this;simp
 |t::r,a::s,k+1,x,y,h=>by simp only [cI,fm];rw [zwV r s k x y lI]
def zoV:∀ (l:List (Int×Txt)) (seen:List Int) (k:Nat) (y:Int) (x:Txt),(∃z,l[k]?=some (y,z))->(x.length:Int)=64->pfitZ seen l=true->pfitZ seen (l.set k (y,x))=true
 | [],seen,k,y,x,h,hx,J=>by obtain ⟨z,h⟩:=h;simp at h
 |a::l,seen,0,y,x,h,hx,J=>by obtain ⟨z,h⟩:=h;have:a=(y,z):=lI;subst this;simp only [dh,pfitZ,aq] at J |-;exact ⟨⟨J.1.1,by simpa using hx⟩,J.2⟩
 |a::l,seen,k+1,y,x,h,hx,J=>by simp only [cI,pfitZ,aq] at J |-;exact ⟨J.1,zoV l _ k y x lI hx J.2⟩
def pfit_iff {p:Plan} :pfit p=true↔p.targets.length=p.texts.length/\p.targets.length<=24/\pfitZ [] (p.targets.zip p.texts)=true:=by
 simp only [pfit,aq,ax,zkr,and_assoc]
def zwW {l:List Int} {a:Int} (h:pfind l a= -1):l.contains a=false:=by have:=zm1 (λx=>x==a) l 0;unfold pfind at h;rw [h] at this;rw [<-List.any_beq'];simpa using this.symm
def zfm {p:Plan} {at_:Int} {s:Txt} (hp:pfit p=true):pfit (pset p at_ s).1=true:=by
 obtain ⟨h1,h2,h3⟩:=pfit_iff.1 hp;unfold pset;split
 .exact hp
 rename_i hs;have hs:secOk at_=true:=oR;split
 .exact hp
 rename_i J;have J:(s.length:Int)=64:=gQ;rcases zdS p.targets at_ with hk|⟨k,hk,mn⟩
 .rw [U fT];split
  .exact hp
  .rename_i iQ;refine pfit_iff.2 ⟨by simp [h1],gh,?_⟩;rw [List.zip_append h1];show pfitZ [] (p.targets.zip p.texts++ [(at_,s)])=true;rw [ziO,h3,hs];have:(p.targets.zip p.texts).map (·.1)=p.targets:=by rw [List.map_fst_zip fT]
   rw [bh,this,zwW hk,J];rfl
 .rw [aa fT,hk,aw];obtain ⟨y,hy⟩:=zaD mn;obtain ⟨z,hz⟩:=zaD (l:=p.texts) (i:=k) fT;refine pfit_iff.2 ⟨by simp [h1],h2,?_⟩;show pfitZ [] (p.targets.zip (p.texts.set k s))=true;rw [zwV _ _ _ _ y hy];exact zoV _ _ _ _ _ ⟨z,eT.2 ⟨hy,hz⟩⟩ J h3
def zlR {d:Disk} {p:Plan} {at_ off:Int} {s:Txt} (hp:pfit p=true):pfit (zhy d p at_ off s).1=true:=by
 unfold zhy;split
 .exact hp
 split
 .exact hp
 .exact zfm hp
def zwX (d:Disk) (p:Plan) (at_ off:Int) (s:Txt) (hp:DiskOk d/\d.cache.all (putOk d)=true/\pfit p=true/\s.length<=9223372036854775807):AC 435 [diskA d,planA p,.d (.int .i64 at_),.d (.int .i64 off),.d (.str s)] (.tup [planA (zhy d p at_ off s).1,.d (.int .i64 (zhy d p at_ off s).2)]):=by obtain ⟨hd,J,hp,hs⟩:=hp;refine fbod func435 ntmps435 (λbase=>?_);refine' Hf;have hb:=zoO (at_:=at_) J hp;refine' walkW fx (za zbc <| za zaM <| za zec <| zb _);all_goals first|(simp_all [zhy];done)|skip
@[go_sem] def zcb:Ent Tryz.prog 435:= .m5 zC z7 (intT .i64) (intT .i64) strT zwX
def zqO (p:Plan) (_:True):AC 459 [planA p] (.fn (.func 471) [] [.dp (planC p)]):=by refine fbod func459 ntmps459 (λbase=>?_);refine' Ds
@[go_sem] def zeD:Ent Tryz.prog 459:= .m1 z7 zqO
def zdx (q:Int×Txt):List AV:= [.d (.int .i64 q.1),.d (.str q.2)]
def unI:List AV->Int×Txt
 | [.d (.int _ n),.d (.str s)]=>(n,s)
 |_=>(0,[])
def zf6 (ys:List (Int×Txt)):(ys.map zdx).map unI=ys:=by rw [bZ];exact List.map_id'' (λ_=>rfl) ys
abbrev Sst (p:Plan):= { q:Nat×List (List AV) // q.1<=p.targets.length/\q.2++((p.targets.zip p.texts).drop q.1).map zdx=(p.targets.zip p.texts).map zdx }
def zks (p:Plan) (hp:PlanOk p) (hl:p.targets.length=p.texts.length):AIter Tryz.prog 471 100 [] [.dp (planC p)] [] ((p.targets.zip p.texts).map zdx) (λg h'=>(∀xs,g=some xs->xs=(p.targets.zip p.texts).map zdx)/\h'= []):=by
 refine itr func471 ntmps471 (λbase y=>?_);refine' zaQ fx;have h1:=hp.targets;refine zk (λq:Sst p=>⟨[(0,true,.fn (.yield y.yl) [] []),(1,true,.dp [.d (.sl 1 (p.targets.map intD)),.d (.sl 1 (p.texts.map strD))]),(6,true,.d (.sl 1 (p.targets.map intD))),(7,true,.d (.int .i64 p.targets.length)),(8,true,.d (.int .i64 q.1.1))],[],some q.1.2⟩) (λq=>p.targets.length - q.1.1) ⟨(0,[]),ad _,rfl⟩ le1 (λq=>?_);obtain ⟨⟨i,xs⟩,hi,hf⟩:=q;simp only at hi hf |-;rcases zw intD p.targets i hi with ⟨m,hq,a8,J,ab,b4,a7⟩|⟨ao,J⟩
 .refine' Ep;refine' CO;refine' GH;rw [zdO hz,au] at hf;have bu:(xs++ [zdx (m,s)])<+:(p.targets.zip p.texts).map zdx:=jT;simp only [zdx] at bu;refine' zaQ (zat J qi ab ij natC);exact ⟨⟨(i+1,xs++ [zdx (m,s)]),fT,jT⟩,lxb (lan hwi @zdx.eq_1),gh⟩
 .refine' zaQ J;rintro zs rfl;rw [<-hf,bQ (by rw [List.length_zip];omega)];simp
def layF (d:Disk) (l:List (Int×Txt)):Disk:=l.foldl (λd q=>(zab d q.1 q.2).1) d
@[go_sem] def layF_nil (d:Disk):layF d []=d:=rfl
def zwY:∀ (l:List (Int×Txt)) {d:Disk},DiskOk d->DiskOk (layF d l)
 | [],_,h=>h
 |q::l,d,h=>zwY l (zkq h q.1 q.2)
def zwZ (d:Disk) (l:List (Int×Txt)) (q:Int×Txt):layF d (l++ [q])=(zab (layF d l) q.1 q.2).1:=by simp [layF]
def zjO:∀ (l r:List (Int×Txt)) (d:Disk),(layL d l).2=0->layL d (l++r)=layL (layF d l) r
 | [],r,d,_=>rfl
 | q::l,r,d,h=>by
  rw [layL] at h;rw [bf,layL];split
  .rename_i J;rw [aa J] at h;exact absurd h J
  .rename_i J;rw [U J] at h;exact zjO l r _ h
def zCz (d:Disk) (p:Plan) (hp:DiskOk d/\PlanOk p/\p.targets.length=p.texts.length):AC 452 [diskA d,planA p] (.tup [diskA (play d p).1,.d (.int .i64 (play d p).2)]):=by
 obtain ⟨hd,hp,hl⟩:=hp;refine fbod func452 ntmps452 (λbase=>?_);refine' walkR fx (za zeD <| za zy <| zb _);obtain ⟨I,hI⟩:∃I:List (List AV)->AHeap×Option (List (List AV)),I=λxs=>([(3,.var [.d (.int .i64 0)]),(2,.var [.d (.str []),.nils 2,.d (.int .i64 0),.d (.bool false),.nils 1]),(1,.var [.d (.sl 1 (p.targets.map intD)),.d (.sl 1 (p.texts.map strD))]),(0,(.var [.d (.str (layF d (xs.map unI)).data),.d (.sl 2 ((layF d (xs.map unI)).cache.map putD)),.d (.int .i64 (layF d (xs.map unI)).fuse),.d (.bool (layF d (xs.map unI)).off),.d (.sl 1 ((layF d (xs.map unI)).bad.map intD))]))],some []):=⟨_,rfl⟩
 obtain ⟨G,hG⟩:∃G:List (List AV)->Prop,G=λxs=>(layL d (xs.map unI)).2=0:=⟨_,rfl⟩
 obtain ⟨J,hJ⟩:∃J:Code->AHeap->Option (List (List AV))->Prop,J=λc h g=>c= .exit 0/\g=some []/\∃D e,play d p=(D,e)/\h= [(3,.var [.d (.int .i64 e)]),(2,.var [.d (.str []),.nils 2,.d (.int .i64 0),.d (.bool false),.nils 1]),(1,.var [.d (.sl 1 (p.targets.map intD)),.d (.sl 1 (p.texts.map strD))]),(0,(.var [.d (.str D.data),.d (.sl 2 (D.cache.map putD)),.d (.int .i64 D.fuse),.d (.bool D.off),.d (.sl 1 (D.bad.map intD))]))]:=⟨_,rfl⟩
 refine' I2
 .refine' Hr;have hx:=zwY ys hd;have iy:play d p=layL (layF d ys) ((n,s)::zs):=by rw [play,iR,zjO _ _ _ ab]
  rw [layL] at iy;simp only [zdx];refine aw_le ⟨[(11,true,.d (.int .i64 n)),(12,true,.d (.str s)),(2,true,.vp 0 0),(3,true,.vp 1 0),(4,true,.vp 2 0),(6,true,.vp 3 0)],[(3,.var [.d (.int .i64 0)]),(2,.var [.d (.str []),.nils 2,.d (.int .i64 0),.d (.bool false),.nils 1]),(1,.var [.d (.sl 1 (p.targets.map intD)),.d (.sl 1 (p.texts.map strD))]),(0,(.var [.d (.str (layF d ys).data),.d (.sl 2 ((layF d ys).cache.map putD)),.d (.int .i64 (layF d ys).fuse),.d (.bool (layF d ys).off),.d (.sl 1 ((layF d ys).bad.map intD))]))],some []⟩ BK ?_
  have e8:((ys.map zdx++ [[AV.d (.int .i64 n),AV.d (.str s)]]).map unI)=ys++ [(n,s)]:=by rw [aG,zf6];rfl
  have xB:layF d (ys++ [(n,s)])=(zab (layF d ys) n s).1:=zwZ _ _ _;refine' walkR (zp hI e8 xB) (za zeD <| za zy <| zb _);all_goals first|rfl|skip
  .have hc:(zab (layF d ys) n s).2≠0:=by simpa using hc
   rw [hJ];exact ⟨rfl,rfl,_,_,by rw [iy,aa hc],rfl⟩
  .have hc:(zab (layF d ys) n s).2=0:=by simpa using hc
   rw [hG];simp only [e8];rw [zjO _ _ _ ab,layL,U gA];rfl
  .have hc:(zab (layF d ys) n s).2=0:=by simpa using hc
   rw [hc]
 .intro ab;rw [hG] at ab;simp only [zf6] at ab
  have iy:play d p=(layF d (p.targets.zip p.texts),0):=by have:=zjO (p.targets.zip p.texts) [] d ab;rw [bm] at this;rw [play,this,layL]
  rw [hI];simp only [zf6];refine' G8;rw [iy]
 .rw [hJ];rintro c h3 g3 ⟨rfl,rfl,D,e,iy,rfl⟩;refine' G8;rw [iy]
@[go_sem] def zie:Ent Tryz.prog 452:= .m2 zC z7 zCz
def seenM (l:List Int):List (D×D):=l.map λn=>(.int .i64 n,.bool true)
@[go_sem] def zDZ:seenM []= []:=rfl
def zuj (l:List Int):((seenM l).all λp=>alike (.int .i64) p.1)=true:=by
 simp [seenM,alike]
def zCA (n m:Int) (v:D) (l:List (D×D)):mat (.int .i64 n) ((.int .i64 m,v)::l)=if n=m then some v else mat (.int .i64 n) l:=by
 by_cases h:n=m<;>simp [mat,sameS,h]
def zzT (n m:Int) (w v:D) (l:List (D×D)):mput (.int .i64 n) w ((.int .i64 m,v)::l)=if n=m then (.int .i64 n,w)::l else (.int .i64 m,v)::mput (.int .i64 n) w l:=by
 by_cases h:n=m<;>simp [mput,sameS,h]
def zsT (n:Int):∀l:List Int,((mat (.int .i64 n) (seenM l)).getD (.bool false))= .bool (l.contains n)
 | []=>rfl
 | m::l=>by
  have J:=zsT n l;have e:seenM (m::l)=(.int .i64 m,.bool true)::seenM l:=rfl;rw [e,zCA,eS];by_cases h:n=m
  .subst h;simp
  .rw [U h,J];simp [h]
def zsU (n:Int):∀l:List Int,l.contains n=false->mput (.int .i64 n) (.bool true) (seenM l)=seenM (l++ [n])
 | [],_=>rfl
 |m::l,h=>by simp only [eS,bn] at h;have J:=zsU n l h.2;have e:seenM (m::l)=(.int .i64 m,.bool true)::seenM l:=rfl;rw [e,zzT,U (by simpa using h.1),J];rfl
def zoW:∀ (l r:List (Int×Txt)) (seen:List Int),pfitZ seen (l++r)=(pfitZ seen l&&pfitZ (seen++l.map (·.1)) r)
 | [],r,seen=>by simp [pfitZ]
 |a::l,r,seen=>by rw [bf,pfitZ,pfitZ,zoW l,au,aY,dv];simp only [eU]
def zCB (p:Plan) (hp:PlanOk p):AC 444 [planA p] (.d (.bool (pfit p))):=by
 refine fbod func444 ntmps444 (λbase=>?_);have h1:=hp.targets;have h2:=hp.texts;refine' walkR fx (za zeD <| za zcF <| zb _)
 .have:pfit p=false:=by
   simp only [aH,bD,ax] at hc;rw [pfit];rcases hc with hc|hc
   .rw [ag (p:=p.targets.length=p.texts.length) fT];simp
   .rw [ag (p:=p.targets.length<=24) fT];simp
  rw [this]
 obtain ⟨hl,iQ⟩:p.targets.length=p.texts.length/\p.targets.length<=24:=by simp only [bn,bJ,bG] at hc;omega
 have ng:pfit p=pfitZ [] (p.targets.zip p.texts):=by rw [pfit,af hl,af iQ,zkr];simp
 obtain ⟨I,hI⟩:∃I:List (List AV)->AHeap×Option (List (List AV)),I=λxs=>([(3,.var [.map 2]),(2,.omap (seenM ((xs.map unI).map (·.1)))),(1,.var [.d (.bool false)]),(0,.var [.d (.sl 1 (p.targets.map intD)),.d (.sl 1 (p.texts.map strD))])],some []):=⟨_,rfl⟩
 obtain ⟨G,hG⟩:∃G:List (List AV)->Prop,G=λxs=>pfitZ [] (xs.map unI)=true:=⟨_,rfl⟩
 obtain ⟨J,hJ⟩:∃J:Code->AHeap->Option (List (List AV))->Prop,J=λc h g=>c= .ret/\g=some []/\pfit p=false/\∃m,h= [(3,.var [.map 2]),(2,.omap m),(1,.var [.d (.bool false)]),(0,.var [.d (.sl 1 (p.targets.map intD)),.d (.sl 1 (p.texts.map strD))])]:=⟨_,rfl⟩
 refine' I2
 .refine' Hr
  have iy:pfit p=pfitZ (ys.map (·.1)) ((n,s)::zs):=by rw [ng,iR,zoW,ab];rfl
  rw [pfitZ] at iy;simp only [zdx];refine aw_le ⟨[(22,true,.d (.int .i64 n)),(23,true,.d (.str s)),(1,true,.vp 0 0),(2,true,.vp 1 0),(3,true,.vp 3 0)],[(3,.var [.map 2]),(2,.omap (seenM (ys.map (·.1)))),(1,.var [.d (.bool false)]),(0,.var [.d (.sl 1 (p.targets.map intD)),.d (.sl 1 (p.texts.map strD))])],some []⟩ BK ?_;have vm:=zsT n (ys.map (·.1));have pD:=zuj (ys.map (·.1))
  have e8:((ys.map zdx++ [[AV.d (.int .i64 n),AV.d (.str s)]]).map unI)=ys++ [(n,s)]:=by rw [aG,zf6];rfl
  refine' walkR (zB hI e8 vm pD) (za zeD <| za zcF <| zb _)
  .rw [hJ];refine ⟨rfl,rfl,?_,_,rfl⟩
   have hh:(!secOk n||(ys.map (·.1)).contains n||((s.length:Int) !=64))= !(secOk n&& !(ys.map (·.1)).contains n&&((s.length:Int)==64)):=by rw [cg,cg,Bool.not_not];rfl
   rw [hh] at hc;simp only [bI] at hc;rw [iy,hc,cD]
  .rw [hG];simp only [e8];simp only [bn,bK,bJ] at hc;rw [ziO,ab,bh,hc.1.1,hc.1.2,hc.2];rfl
  .simp only [bn] at hc;rw [zsU _ _ hc.1.2,aG];rfl
 .intro ab;rw [hG] at ab;simp only [zf6] at ab;rw [hI];refine' G8;rw [ng,ab]
 .rw [hJ];rintro c h3 g3 ⟨rfl,rfl,jo,m,rfl⟩;refine' G8;rw [jo]
@[go_sem] def zkt:Ent Tryz.prog 444:= .m1 z7 zCB
structure DiskF (d:Disk):Prop where
 ok:DiskOk d
 puts:d.cache.all (putOk d)=true
def zoZ {d d':Disk} (h:d'.data.length=d.data.length):putOk d'=putOk d:=by funext q;unfold putOk there dsize;rw [h]
def ziP (d:Disk):(burnt d).data=d.data:=by unfold burnt;split<;>rfl
def zf7 (d:Disk):(burnt d).cache=d.cache:=by unfold burnt;split<;>rfl
def zkx (d:Disk) (a:Int) (s:Txt):(zab d a s).1.data=d.data:=by
 unfold zab;repeat' split
 all_goals first|rfl|(rw [ziP])
def DiskF.write {d:Disk} (h:DiskF d) (a:Int) (s:Txt):DiskF (zab d a s).1:=by
 refine ⟨zkq h.ok a s,?_⟩;have e:=zoZ (d:=d) (d':=(zab d a s).1) (by rw [zkx]);rw [e];unfold zab;split
 .exact h.puts
 split
 .exact h.puts
 split
 .exact h.puts
 split
 .exact h.puts
 split
 .exact h.puts
 split
 .exact h.puts
 .rename_i h1 h2 J h4 h5 h6;rw [zf7,ey,h.puts];have J:(s.length:Int)=64:=gQ;simp [putOk,J];simpa using h2
def zlT {d:Disk} (h:d.cache.all (putOk d)=true):(dflush d).1.data.length=d.data.length:=by
 unfold dflush;split
 .rfl
 split
 .rfl
 .rw [ziP];exact zlP h
def DiskF.flush {d:Disk} (h:DiskF d):DiskF (dflush d).1:=by
 have J:=zlT h.puts;refine ⟨?_,?_⟩
 .revert J;unfold dflush;split
  .intro _;exact h.ok
  split
  .intro _;exact ⟨h.ok.data,h.ok.cache,h.ok.bad,h.ok.fuse0,h.ok.fuse1⟩
  .intro J;rw [ziP] at J;exact zsK ⟨by rw [J];exact h.ok.data,fZ,h.ok.bad,h.ok.fuse0,h.ok.fuse1⟩
 .rw [zoZ J];unfold dflush;split
  .exact h.puts
  split
  .exact h.puts
  .rw [zf7];rfl
def DiskF.layL:∀ (l:List (Int×Txt)) {d:Disk},DiskF d->DiskF (layL d l).1
 | [],d,h=>h
 |q::l,d,h=>by
  rw [Aw.layL];split
  .exact h.write q.1 q.2
  .exact DiskF.layL l (h.write q.1 q.2)
def encT (l:List Int):Txt:=l.flatMap (λt=>putN t.toNat 4)
def padR (s:Txt):Txt:=(padS s 64).1
def trows (l:List Int):List Txt:=if l.length<=16 then [padR (encT l)] else [padR (encT (l.take 16)),padR (encT (l.drop 16))]
def tbody (p:Plan):List Txt:=trows p.targets++p.texts
def thead (seq:Int) (p:Plan):Txt:=putN seq.toNat 8++putN p.targets.length 2
def tsum (c:Int) (l:List Txt):Int:=l.foldl sumOf c
def zBR:Txt:= [67,79,70,74]
def ttop (seq:Int) (p:Plan):Txt:=padR (zBR++thead seq p++putN (65535 - p.targets.length) 2++zgM (tsum (sumOf 0 (thead seq p)) (tbody p)))
def zc0 (seq:Int) (p:Plan):List Txt:=ttop seq p::tbody p
def zsW {p:Plan} (hp:pfit p=true):∀t∈p.targets,0<=t/\t<1024:=by
 obtain ⟨h1,h2,h3⟩:=pfit_iff.1 hp
 have key:∀ (l:List (Int×Txt)) (seen:List Int),pfitZ seen l=true->∀q∈l,0<=q.1/\q.1<1024:=by
  intro l;induction l with
  |nil=>intro _ _ q J;simp at J
  | cons a l ih=>
   intro seen h q J;simp only [pfitZ,aq] at h;rcases bg.1 J with rfl|J
   .have:=h.1.1.1;simpa [secOk] using this
   .exact ih _ h.2 q J
 intro t ht;obtain ⟨i,hi,rfl⟩:=List.mem_iff_getElem.1 ht;have hz:(p.targets.zip p.texts)[i]?=some (p.targets[i],p.texts[i]' fT):=eT.2 ⟨nz,fZ⟩;exact key _ _ h3 _ (ay hz)
def zzX (s:Txt) (J:s.length<=9223372036854775807):AC 389 [.d (.str s)] (.d (.str (padR s))):=by refine bod func389 ntmps389 (λbase=>?_);refine' walkW fx (za ziN <| zb _);rfl
@[go_sem] def zeL:Ent Tryz.prog 389:= .m1 strT zzX
structure Tx where
 seq:Int
 plan:Plan
 deriving DecidableEq
def txA (t:Tx):AV:= .agg [.d (.int .u64 t.seq),.d (.sl 1 (t.plan.targets.map intD)),.d (.sl 1 (t.plan.texts.map strD))]
attribute [go_sem] txA
def zD2 (t:Tx):Tx.mk t.seq t.plan=t:=rfl
def txA_T:PT Tx:=aggT (consL (intT .u64) (consL (slT 1 intD zdu) (consL (slT 1 strD zd7) nilL))) (λp=>⟨p.1,⟨p.2.1,p.2.2.1⟩⟩) (λx=>(x.seq,x.plan.targets,x.plan.texts,())) (λ_=>rfl)
attribute [go_sem] txA_T
attribute [go_sem] zD2
def trest (l:List Int) (i:Nat):List Txt×Txt:=
 if i=l.length then (trows l,[]) else if i<16 then ([],encT (l.take i)) else ([padR (encT (l.take 16))],encT ((l.take i).drop 16))
def zky (l:List Int) (t:Int):encT (l++ [t])=encT l++putN t.toNat 4:=by simp [encT]
def zf8 (l:List Int):(encT l).length=4*l.length:=by
 induction l with
 |nil=>rfl
 |cons a l J=>simp only [encT,eV,ae,zu,aC] at J |-;omega
def zxa {n:Nat} (h:n<18446744073709551616):IntKind.u64.wrap (n:Int)=n:=zA fT fT
def zCL (l:List Int) (h:0<l.length):trest l 0=([],[]):=by
 rw [trest,U fT,aa fT];rfl
def zuq {l:List Int} {i:Nat} {t:Int} (J:l[i]?=some t) (iQ:l.length<=24):
  trest l (i+1)=if i+1=l.length\/i % 16=15 then ((trest l i).1++ [padR ((trest l i).2++putN t.toNat 4)],[]) else ((trest l i).1,(trest l i).2++putN t.toNat 4):=by
 have ab:i<l.length:=(bP.1 J).1;have a7:l.take (i+1)=l.take i++ [t]:=zcT J
 have e0:trest l i=if i<16 then ([],encT (l.take i)) else ([padR (encT (l.take 16))],encT ((l.take i).drop 16)):=by rw [trest,U fT]
 rw [e0];by_cases jC:i<16
 .simp only [aa jC];rw [bh,<-zky,<-a7];by_cases he:i+1=l.length
  .rw [aa (.inl he),trest,aa he,trows,aa fT,he,aL]
  .by_cases xC:i % 16=15
   .rw [aa (.inr xC),trest,U he,U fT];have:i+1=16:=fT;rw [this,bQ hU];rfl
   .rw [U fT,trest,U he,aa fT]
 .simp only [U jC]
  have hd:(l.take (i+1)).drop 16=(l.take i).drop 16++ [t]:=by rw [a7,en hU]
  rw [<-zky,<-hd];by_cases he:i+1=l.length
  .rw [aa (.inl he),trest,aa he,trows,U fT,he,aL];rfl
  .rw [U fT,trest,U he,U fT]
def zm7:∀ (l:List Txt) (c:Int),0<=c->c<=4294967295->0<=tsum c l/\tsum c l<=4294967295
 | [],c,h0,h1=>⟨h0,h1⟩
 |s::l,c,h0,h1=>zm7 l _ (zgO c s h0 h1).1 (zgO c s h0 h1).2
def zo3 (l:List Txt) (c:Int) (s:Txt):tsum c (l++ [s])=sumOf (tsum c l) s:=by simp [tsum]
def zjR {s:Txt} (h:s.length<=64):(padR s).length=64:=by rw [padR,padS,U fT];simp;omega
def zxb (l:List Int) (h:l.length<=24):∀s∈trows l,s.length=64:=by
 intro s J;unfold trows at J;split at J
 .simp only [bp] at J;subst J;exact zjR (by rw [zf8];omega)
 .simp only [bg,dU,or_false] at J;rcases J with rfl|rfl
  .exact zjR (by rw [zf8,az];omega)
  .exact zjR (by rw [zf8,ak];omega)
def zkz {p:Plan} (J:pfit p=true):∀s∈tbody p,s.length=64:=by
 obtain ⟨hl,iQ,gV⟩:=zbk J;intro s hs;rcases aS.1 hs with h|h
 .exact zxb _ iQ s h
 .exact gV s h
def zeM (c:Int):(zgM c).length=4:=rfl
def zur (t:Tx) (hp:PlanOk t.plan/\pfit t.plan=true/\t.plan.targets.length≠0/\0<=t.seq/\t.seq<18446744073709551616):AC 346 [txA t] (.tup [.d (.sl 1 ((zc0 t.seq t.plan).map strD)),.d (.int .i64 0)]):=by
 obtain ⟨hp,hf,hn,h0,h1⟩:=hp;refine fbod func346 ntmps346 (λbase=>?_);refine' H2;refine' walkW (zg hf kX) (za zeJ <| za zH <| za zeL <| za zbV <| za zcc <| za zaV <| zb _);refine zaI 5 1 rfl ?_;refine' Ev;refine zk (λq: { i:Nat // i<=t.plan.targets.length } =>⟨[(1,true,.vp 0 0),(4,true,.d (.int .i64 t.plan.targets.length)),(5,true,.osl 1 1 (trest t.plan.targets q.1).1.length 0 (trest t.plan.targets q.1).1.length),(6,true,.d (.str (trest t.plan.targets q.1).2)),(7,true,.d (.int .i64 q.1))],[(1,.arr 1 ((trest t.plan.targets q.1).1.map strD)),(0,.var [.d (.int .u64 t.seq),.d (.sl 1 (t.plan.targets.map intD)),.d (.sl 1 (t.plan.texts.map strD))])],some []⟩) (λq=>t.plan.targets.length - q.1) ⟨0,ad _⟩ (by simp only [zCL _ (Nat.pos_of_ne_zero hn)];exact lxa) (λq=>?_);refine' Dl;rcases zw intD t.plan.targets i hi with ⟨m,hq,bo,J,ab,b4,a7⟩|⟨ao,J⟩
 .simp only [intD] at ab;refine' CO;obtain ⟨lX,j4⟩:=sP m (ay hq);have pq:IntKind.u64.wrap m=m:=zA fT fT;have vn:putS8 m 4=putN m.toNat 4:=j8;have gW:=zuq hq iQ
  have xD:(trest t.plan.targets i).2.length<=96:=by
   have e0:trest t.plan.targets i=if i<16 then ([],encT (t.plan.targets.take i)) else ([padR (encT (t.plan.targets.take 16))],encT ((t.plan.targets.take i).drop 16)):=by rw [trest,U fT]
   rw [e0];split
   .simp only [zf8,az];omega
   .simp only [zf8,az,ak];omega
  have jr:IntKind.i64.wrap ((t.plan.targets.length:Int) - 1)=(t.plan.targets.length:Int) - 1:=zf fT fT;have iA:(putN m.toNat 4).length=4:=zu _ _
  have c6:(trest t.plan.targets i).1.length<=1:=by
   have e0:trest t.plan.targets i=if i<16 then ([],encT (t.plan.targets.take i)) else ([padR (encT (t.plan.targets.take 16))],encT ((t.plan.targets.take i).drop 16)):=by rw [trest,U fT]
   rw [e0];split<;>simp
  by_cases hc:i+1=t.plan.targets.length\/i % 16=15
  .have an:(((i:Int)==(t.plan.targets.length:Int) - 1)||((i:Int).tmod 16==15))=true:=by rw [aH,aF,aF,bX fT];omega
   rw [aa hc] at gW;refine' F4;all_goals first|omega|(simp only [ae,iA];omega)|skip
   exact ⟨⟨i+1,fT⟩,by simp only [gW,aG,ae,bl];exact lxb hwi,gh⟩
  .have an:(((i:Int)==(t.plan.targets.length:Int) - 1)||((i:Int).tmod 16==15))=false:=by rw [bn,bb,bb,bX fT];omega
   rw [U hc] at gW;refine' F4;all_goals first|omega|(simp only [ae,iA];omega)|skip
   exact ⟨⟨i+1,fT⟩,by simp only [gW];exact lxb hwi,gh⟩
 .subst ao;have he:trest t.plan.targets t.plan.targets.length=(trows t.plan.targets,[]):=by rw [trest,aa rfl]
  have htr:(trows t.plan.targets).length<=2:=vF;have hu:IntKind.u64.wrap (t.plan.targets.length:Int)=(t.plan.targets.length:Int):=zxa fT;refine' Ek;have rr:IntKind.u64.wrap ((65535 - t.plan.targets.length:Nat):Int)=((65535 - t.plan.targets.length:Nat):Int):=zxa fT;refine' Ez;simp only [he];refine' walkW (zr J he hu sQ kY (zp @List.length_append.{0} kC js)) (za zeJ <| za zH <| za zeL <| za zbV <| za zcc <| za zaV <| zb _);have hB:(tbody t.plan).map strD=(trows t.plan.targets).map strD++t.plan.texts.map strD:=by rw [tbody,aG]
  have nR:(tbody t.plan).length=(trows t.plan.targets).length+t.plan.texts.length:=by rw [tbody,ae]
  rw [<-hB,<-nR];obtain ⟨B,sS⟩:∃B,B=tbody t.plan:=⟨_,rfl⟩
  have sT:∀s∈B,s.length=64:=by rw [sS];exact zkz hf
  rw [<-sS] at hB nR |-;refine' FX;have aZ:0<=sumOf 0 H/\sumOf 0 H<=4294967295:=zgO 0 H fT fT;refine zk (λq: { k:Nat // k<=B.length } =>⟨[(1,true,.vp 0 0),(4,true,.d (.int .i64 t.plan.targets.length)),(5,true,.osl 1 1 B.length 0 B.length),(8,true,.d (.str H)),(9,true,.d (.int .u32 (tsum (sumOf 0 H) (B.take q.1)))),(10,true,.d (.int .i64 q.1))],[(1,.arr 1 (B.map strD)),(0,.var [.d (.int .u64 t.seq),.d (.sl 1 (t.plan.targets.map intD)),.d (.sl 1 (t.plan.texts.map strD))])],some []⟩) (λq=>B.length - q.1) ⟨0,ad _⟩ le1 (λq=>?_);obtain ⟨k,hk⟩:=q;simp only at hk |-;rcases zw strD B k hk with ⟨s,hq,bo,J,ab,b4,a7⟩|⟨ao,J⟩
  .simp only [strD] at ab;have hwi:=zo (i:=k) fT;have jU:=sT s (ay hq);have kE:=zm7 (B.take k) _ aZ.1 aZ.2;have e8:tsum (sumOf 0 H) (B.take (k+1))=sumOf (tsum (sumOf 0 H) (B.take k)) s:=by rw [a7,zo3]
   refine' walkW (zp J ab natC) (za zeJ <| za zH <| za zeL <| za zbV <| za zcc <| za zaV <| zb _);exact ⟨⟨k+1,fT⟩,lxb (lan hwi e8),gh⟩
  .subst ao;have kE:=zm7 B _ aZ.1 aZ.2;have sU:B.take B.length=B:=aL;have c8:=zeM (tsum (sumOf 0 H) B);refine' walkW (zr J lC rr sR @List.length_append.{0} (zr kD qj c8 @List.length_cons.{0} @List.length_nil.{0} sU)) (za zeJ <| za zH <| za zeL <| za zbV <| za zcc <| za zaV <| zb _);rw [aa fT,aA gh,zc0,ttop,au,thead,<-hH,<-sS];rfl
@[go_sem] def zdk:Ent Tryz.prog 346:= .m1 txA_T zur
structure Geom where
 guest:Int
 host:Int
 deriving DecidableEq
def geomA (g:Geom):AV:= .agg [.d (.int .i64 g.guest),.d (.int .i64 g.host)]
attribute [go_sem] geomA
def zz7 (g:Geom):Geom.mk g.guest g.host=g:=rfl
def zet:PT Geom:=aggT (consL (intT .i64) (consL (intT .i64) nilL)) (λp=>⟨p.1,p.2.1⟩) (λx=>(x.guest,x.host,())) (λ_=>rfl)
attribute [go_sem] zet
attribute [go_sem] zz7
structure DP (d:Disk) (p:Plan):Prop where
 d:DiskF d
 p:pfit p=true
def p0:Plan:=⟨[],[]⟩
def zch:pfit p0=true:=rfl
def DP.zero {d:Disk} {p:Plan} (h:DP d p):DP d p0:=⟨h.d,zch⟩
def DP.dok {d:Disk} {p:Plan} (h:DP d p):DiskOk d:=h.d.ok
def DP.puts {d:Disk} {p:Plan} (h:DP d p):d.cache.all (putOk d)=true:=h.d.puts
def DP.pok {d:Disk} {p:Plan} (h:DP d p):PlanOk p:=by obtain ⟨J,iQ,_⟩:=zbk h.p;exact ⟨fT,fT⟩
def DP.plen {d:Disk} {p:Plan} (h:DP d p):p.targets.length=p.texts.length:=(zbk h.p).1
def znb {d:Disk} {at_:Int} (J:d.cache.all (putOk d)=true) (he:(dread d at_).2=0):(dread d at_).1.length=64:=by
 unfold dread at he |-;repeat' split
 all_goals first|(simp_all;done)|skip
 exact zsQ J ig
def zf9 {d:Disk} {p:Plan} {at_:Int} (h:DP d p) (he:(plook d p at_).2=0):(plook d p at_).1.length=64:=by
 unfold plook at he |-;rcases zdS p.targets at_ with J|⟨k,J,mn⟩
 .rw [U fT] at he |-;exact znb h.puts he
 .rw [aa fT,J,aw];obtain ⟨s,hq⟩:=zaD (l:=p.texts) (i:=k) (by have:=h.plen;omega);rw [aN,hq];exact (zbk h.p).2.2 s (ay hq)
def zac (k:Int):Bool:=decide (0<=k)&&decide (k<256)
def rget (d:Disk) (p:Plan) (k:Int):Int×Int:=
 if !zac k then (0,10) else if (plook d p (87+k / 32)).2≠0 then (0,(plook d p (87+k / 32)).2)
 else (((takeN (((plook d p (87+k / 32)).1.drop (2*(k % 32)).toNat).take 2):Nat):Int),0)
def radd (d:Disk) (p:Plan) (k dt:Int):Plan×Int:=
 if (rget d p k).2≠0 then (p,(rget d p k).2) else if dt< -(rget d p k).1\/65535 - (rget d p k).1<dt then (p,18)
 else zhy d p (87+k / 32) (2*(k % 32)) (putN ((rget d p k).1+dt).toNat 2)
def zgP (d:Disk) (p:Plan):Nat->Int->Int×Int
 |0,_=>(0,17)
 |m+1,k=>if (rget d p k).2≠0 then (0,(rget d p k).2) else if (rget d p0 k).2≠0 then (0,(rget d p0 k).2)
  else if (rget d p k).1=0/\(rget d p0 k).1=0 then (k,0) else zgP d p m (k+1)
def rfind (d:Disk) (p:Plan) (g:Geom):Int×Int:=zgP d p g.host.toNat 0
def rtake (d:Disk) (p:Plan) (g:Geom):Plan×Int×Int:=
 if (rfind d p g).2≠0 then (p,0,(rfind d p g).2) else if (radd d p (rfind d p g).1 1).2≠0 then (p,0,(radd d p (rfind d p g).1 1).2)
 else ((radd d p (rfind d p g).1 1).1,(rfind d p g).1,0)
def zhj (d:Disk) (p:Plan) (k:Int):0<=(rget d p k).1/\(rget d p k).1<=65535:=by
 unfold rget;split
 .exact ⟨db 0,show (0:Int)<=65535 by decide⟩
 split
 .exact ⟨db 0,show (0:Int)<=65535 by decide⟩
 .have:=zdw (l:=((plook d p (87+k / 32)).1.drop (2*(k % 32)).toNat).take 2) (i:=2) hU;simp only;omega
def zsZ {d:Disk} {p:Plan} {k dt:Int} (h:pfit p=true):pfit (radd d p k dt).1=true:=by
 unfold radd;split
 .exact h
 split
 .exact h
 .exact zlR h
def DP.radd {d:Disk} {p:Plan} (h:DP d p) (k dt:Int):DP d (radd d p k dt).1:=⟨h.d,zsZ h.p⟩
def DP.rtake {d:Disk} {p:Plan} (h:DP d p) (g:Geom):DP d (rtake d p g).1:=by
 unfold Aw.rtake;split
 .exact h
 split
 .exact h
 .exact h.radd _ _
def hostOk_iff {k:Int} :zac k=true↔0<=k/\k<256:=by simp [zac]
def zdm (k:Int):(decide (k<0)||decide (256<=k))= !zac k:=by
 rw [zac,cg];congr 1
 .by_cases h:k<0
  .rw [af h,ag fT];rfl
  .rw [ag h,af fT];rfl
 .by_cases h:k<256
  .rw [af h,ag fT];rfl
  .rw [ag h,af fT];rfl
def zga {s:Txt} {z:Int} (n:Nat) (J:z=n) (h0:0<n) (h8:n<=8) (h:n<=s.length):takeS s z=(((takeN (s.take n):Nat):Int),s.drop n,0):=by subst J;rw [takeS,U fT,U fT];simp
def zz8 (d:Disk) (p:Plan) (k:Int) (h:DP d p):AC 161 [diskA d,planA p,.d (.int .i64 k)] (.tup [.d (.int .i64 (rget d p k).1),.d (.int .i64 (rget d p k).2)]):=by
 refine bod func161 ntmps161 (λbase=>?_);refine' EN;by_cases hk:zac k=true
 .refine' GX
  .refine' EH
   have ir:rget d p k=(((takeN (((plook d p (87+k / 32)).1.drop (2*(k % 32)).toNat).take 2):Nat):Int),0):=by rw [rget,U jH,U gp]
   refine' D0;refine' walkW (zr @zdm J hb gW ou a7) (za zeI <| za zae <| za zx <| zb _);rw [ir]
  .have hb:((plook d p (87+k / 32)).2 !=0)=true:=by simpa using he
   refine' walkW (zp @zdm J hb) (za zeI <| za zae <| za zx <| zb _);rw [rget,U jH,aa he]
 .have J:(!zac k)=true:=by simpa using hk
  refine' walkW (zg @zdm J) (za zeI <| za zae <| za zx <| zb _);rw [rget,aa J]
@[go_sem] def zaw:Ent Tryz.prog 161:= .m3 zC z7 (intT .i64) zz8
def zjo {x:Int} :putS8 x 2=putN x.toNat 2:=j8
def zgv {x:Int} :putS8 x 4=putN x.toNat 4:=j8
def zgw {x:Int} :putS8 x 8=putN x.toNat 8:=j8
def zqV {d:Disk} {p:Plan} {k:Int} (h:(rget d p k).2=0):0<=k/\k<256:=by
 unfold rget at h;by_cases J:zac k=true
 .exact hostOk_iff.1 J
 .rw [aa gQ] at h;cases h
def zz9 (d:Disk) (p:Plan) (k dt:Int) (h:DP d p):AC 89 [diskA d,planA p,.d (.int .i64 k),.d (.int .i64 dt)] (.tup [planA (radd d p k dt).1,.d (.int .i64 (radd d p k dt).2)]):=by
 refine fbod func89 ntmps89 (λbase=>?_);refine' Hk;have hr:=zhj d p k;by_cases he:(rget d p k).2=0
 .refine' DT
  .refine' HN;refine' walkW (zB hb ab a6 J) (za zaw <| za zeI <| za zH <| za zbI <| zb _);rw [radd,U gp,aa hc]
  .refine' DZ;refine' walkW (zr hb ab a6 gO gX (zg J @zjo)) (za zaw <| za zeI <| za zH <| za zbI <| zb _);all_goals first|(rw [gB];decide)|skip
   rw [radd,U gp,U hc]
 .have hb:((rget d p k).2 !=0)=true:=by simpa using he
  refine' walkW hb (za zaw <| za zeI <| za zH <| za zbI <| zb _);rw [radd,aa he]
@[go_sem] def zcH:Ent Tryz.prog 89:= .m4 zC z7 (intT .i64) (intT .i64) zz9
def zlV:∀ (d:Disk) (p:Plan) (m:Nat) (k:Int),(zgP d p m k).2=0->(0<=(zgP d p m k).1/\(zgP d p m k).1<256)
 |d,p,0,k,h=>by simp [zgP] at h
 | d,p,m+1,k,h=>by
  rw [zgP] at h |-;split at h
  .rename_i hc;exact absurd h hc
  rename_i J;rw [U J];split at h
  .rename_i hc;exact absurd h hc
  rename_i bo;rw [U bo];split at h
  .rename_i hc;rw [aa hc];exact zqV gQ
  .rename_i hc;rw [U hc];exact zlV d p m (k+1) h
def zxc (d:Disk) (p:Plan) (g:Geom) (hp:DP d p/\g.host<=1000000):AC 339 [diskA d,planA p,geomA g] (.tup [.d (.int .i64 (rfind d p g).1),.d (.int .i64 (rfind d p g).2)]):=by
 obtain ⟨h,hg⟩:=hp;refine fbod func339 ntmps339 (λbase=>?_);have hz:=h.zero;have jA:p0=Plan.mk [] []:=rfl;rw [jA] at hz;refine' walkW fx (za zaw <| za zcH <| zb _);refine zk (λq: { i:Nat // (i:Int)<=max g.host 0/\rfind d p g=zgP d p (g.host.toNat - i) i } =>⟨[(3,true,.vp 0 0),(4,true,.vp 1 0),(5,true,.vp 2 0),(8,true,.d (.int .i64 q.1))],[(2,.var [.d (.int .i64 g.guest),.d (.int .i64 g.host)]),(1,.var [.d (.sl 1 (p.targets.map intD)),.d (.sl 1 (p.texts.map strD))]),(0,(.var [.d (.str d.data),.d (.sl 2 (d.cache.map putD)),.d (.int .i64 d.fuse),.d (.bool d.off),.d (.sl 1 (d.bad.map intD))]))],some []⟩) (λq=>g.host.toNat - q.1) ⟨0,fT,rfl⟩ le1 (λq=>?_);refine' Di;by_cases an:(i:Int)<g.host
 .have J:decide ((i:Int)<g.host)=true:=af an;refine' CO;rw [show g.host.toNat - i=(g.host.toNat - (i+1))+1 by omega,zgP,jA] at hf;refine' walkW J (za zaw <| za zcH <| zb _);all_goals first|(simp_all;done)|skip
  rename_i c0 c1;have c0:¬(rget d p i).2≠0:=by simpa using c0
  have c1:¬(rget d ⟨[],[]⟩ i).2≠0:=by simpa using c1
  have c2:¬((rget d p i).1=0/\(rget d ⟨[],[]⟩ i).1=0):=gA;rw [U c0,U c1,U c2] at hf;refine' Gh
 .have J:decide ((i:Int)<g.host)=false:=ag an;refine' walkW J (za zaw <| za zcH <| zb _);rw [hf,show g.host.toNat - i=0 by omega];rfl
@[go_sem] def zqW:Ent Tryz.prog 339:= .m3 zC z7 zet zxc
def zxd (d:Disk) (p:Plan) (g:Geom) (hp:DP d p/\g.host<=1000000):AC 270 [diskA d,planA p,geomA g] (.tup [planA (rtake d p g).1,.d (.int .i64 (rtake d p g).2.1),.d (.int .i64 (rtake d p g).2.2)]):=by obtain ⟨h,J⟩:=hp;refine fbod func270 ntmps270 (λbase=>?_);refine' walkW fx (za zqW <| za zcH <| zb _);all_goals simp_all [rtake]
@[go_sem] def zaW:Ent Tryz.prog 270:= .m3 zC z7 zet zxd
end
end Go.Aw
