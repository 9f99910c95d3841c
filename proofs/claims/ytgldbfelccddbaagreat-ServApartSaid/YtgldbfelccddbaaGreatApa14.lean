/- Lemmas. -/
import Derived.Test.YtgldbfelccddbaaGreatApa13
set_option linter.all false
set_option maxRecDepth 100000
set_option maxHeartbeats 2000000
namespace Go.Aw
noncomputable section
open Go Go.Proofs Go.Proofs.Tryz
def zub (rows:List (List D)):ACall Tryz.prog 400 0 [.d (.sl 2 rows)] [] (λr _=>r= .fn (.func 433) [] [.dp [.d (.sl 2 rows)]]):=by refine fbod func400 ntmps400 (λbase=>?_);refine' Ds
def zjk:Ent Tryz.prog 400:=Ent.of 400 (λx:(List (List D))=>(λ(rows:List (List D))=>([.d (.sl 2 rows)]:List AV)) x) (λx:(List (List D))=>(λ(rows:List (List D))=>(True:Prop)) x) (λx:(List (List D))=>(λ(rows:List (List D))=>(.fn (.func 433) [] [.dp [.d (.sl 2 rows)]]:AV)) x) (λx hp=>⟨rfl,zub x⟩)
def zoG:∀x y:(List (List D)),(λx:(List (List D))=>(λ(rows:List (List D))=>([.d (.sl 2 rows)]:List AV)) x) x=(λx:(List (List D))=>(λ(rows:List (List D))=>([.d (.sl 2 rows)]:List AV)) x) y->x=y:=by
 intro x y h
 skip
 simpa only [aX,AV.d.injEq,AV.agg.injEq,AV.dp.injEq,AV.fn.injEq,AV.tup.injEq,AV.asl.injEq,Int.natCast_inj,D.int.injEq,D.str.injEq,D.bool.injEq,D.sl.injEq,aJ,bW,bt,and_assoc] using h
@[go_sem] def zzC (rows:List (List D)):(zjk).e [.d (.sl 2 rows)]=some (True,.fn (.func 433) [] [.dp [.d (.sl 2 rows)]]):=Ent.of_app zoG (rows)
def zCr (d:Disk) (_:True):AC 363 [diskA d] (.fn (.func 399) [] [.dp (diskC d)]):=by refine fbod func363 ntmps363 (λbase=>?_);refine' Ds
@[go_sem] def zoH:Ent Tryz.prog 363:= .m1 zC zCr
def putAV (q:PutR):AV:= .agg [.d (.int .i64 q.1),.d (.str q.2)]
def backs:List PutR->List (Nat×PutR)
 | []=> []
 |q::r=>(r.length,q)::backs r
def zcr (x:Nat×PutR):List AV:= [.d (.int .i64 x.1),putAV x.2]
abbrev Bst (l:List PutR):= { q:Nat×List (List AV) // q.1<=l.length/\q.2++(backs (l.take q.1).reverse).map zcr=(backs l.reverse).map zcr }
def zqJ (l:List PutR) (hl:l.length<=9223372036854775807) (fl:Nat):AIter Tryz.prog 433 fl [] [.dp [.d (.sl 2 (l.map putD))]] [] ((backs l.reverse).map zcr) (λg h'=>(∀xs,g=some xs->xs=(backs l.reverse).map zcr)/\h'= []):=by
 refine itr func433 ntmps433 (λbase y=>?_);refine' zaQ fx;have jS:IntKind.i64.wrap ((l.length:Int) - 1)=(l.length:Int) - 1:=zf fT fT;refine zk (λq:Bst l=>⟨[(0,true,.fn (.yield y.yl) [] []),(1,true,.dp [.d (.sl 2 (l.map putD))]),(3,true,.d (.int .i64 ((q.1.1:Int) - 1)))],[],some q.1.2⟩) (λq=>q.1.1) ⟨(l.length,[]),aj _,by rw [zf0];rfl⟩ (lxb jS) (λq=>?_);obtain ⟨⟨i,xs⟩,hi,hf⟩:=q;simp only at hi hf |-;cases i with
 |zero=>
  have hz:decide ((0:Int)<=((0:Nat):Int) - 1)=false:=gb;refine' zaQ hz;rintro zs rfl;rw [<-hf];simp [backs]
 |succ i=>
  refine' Fk;obtain ⟨⟨n,s⟩,hq⟩:=zaD (l:=l) (i:=i) fT;have J:=zbB (g:=putD) hq;simp only [putD] at J;have iX:(l.take i).length=i:=hU;rw [zcT hq,List.reverse_append,List.reverse_singleton,dv,backs,List.length_reverse,iX] at hf;have hp:(xs++ [zcr (i,n,s)])<+:(backs l.reverse).map zcr:=jT;simp only [zcr,putAV] at hp;refine' zaQ (zB hz ia J natC);exact ⟨⟨(i,xs++ [zcr (i,n,s)]),fT,jT⟩,lxb (lan hwi (lan @zcr.eq_1 @putAV.eq_1)),fZ⟩
def zeY (q:PutR):List AV:= [putAV q]
def zoI:∀l:List PutR,(backs l).map (λx=>x.2)=l
 | []=>rfl
 |q::l=>by rw [backs,au,zoI l]
def zsN (l:List PutR):((backs l).map zcr).map (λx=>x.drop 1)=l.map zeY:=by have:(backs l).map zcr=(backs l).map (λx=> .d (.int .i64 x.1)::zeY x.2):=rfl;rw [this,bZ];have h2:(λx:List AV=>x.drop 1) ∘ (λx:Nat×PutR=>AV.d (.int .i64 x.1)::zeY x.2)=zeY ∘ (λx=>x.2):=rfl;rw [h2,<-bZ,zoI]
def zzD {l:List PutR} {xs:List (List AV)} {x:Nat×PutR} (h:(xs++ [zcr x])<+:(backs l).map zcr):(xs.map (λx=>x.drop 1)++ [zeY x.2])<+:l.map zeY:=by have:=h.map (λx=>x.drop 1);rw [zsN,aG] at this;exact this
def zqK (d:Disk) (hd:DiskOk d):AIter Tryz.prog 399 100 [] [.dp (diskC d)] [] (d.cache.reverse.map zeY) (λg h'=>(∀xs,g=some xs->xs=d.cache.reverse.map zeY)/\h'= []):=by
 refine itr func399 ntmps399 (λbase y=>?_);refine zfI ?_;refine' walkX fx (za zjk <| zb _);obtain ⟨I,hI⟩:∃I:List (List AV)->AHeap×Option (List (List AV)),I=λxs=>([(100,.var [.fn (.yield y.yl) [] []])],some (xs.map (λx=>x.drop 1))):=⟨_,rfl⟩
 refine' Ec;refine' Ft;refine zbU 200 G I J (zqJ d.cache hd.cache 200) jf rfl (zV rfl) ju rfl jh iV iW jE iK ja ?_ ?_ ?_
 .intro xs x bu a7 l1 r1;obtain ⟨⟨i,n,s⟩,hq,rfl⟩:=ba.1 (bu.subset (fv _ (bp.2 rfl)));have hp:=zzD bu;simp only [zcr,putAV,zeY] at hp |-;refine aw_le ⟨[(9,true,.agg [.d (.int .i64 n),.d (.str s)]),(2,true,.vp 100 0)],[(100,.var [.fn (.yield y.yl) [] []])],some (xs.map (λx=>x.drop 1))⟩ om ?_;refine' zaQ hI
  .rw [hG];trivial
  .simp
  .rw [hJ];exact ⟨rfl,rfl,rfl⟩
 .intro _;rw [hI];refine' Cl;rintro zs rfl;exact zsN _
 .refine' Ge;refine' zaQ fx
def hitI (at_:Int):List AV->Bool
 | [.agg [.d (.int .i64 n),_]]=>n==at_
 |_=>false
def zm3 (at_:Int):∀l:List PutR,(l.map zeY).any (hitI at_)=l.any (isPut at_)
 | []=>rfl
 |q::l=>by rw [au,eO,eO,zm3 at_ l];rfl
def zuc (d:Disk) (at_:Int) (hd:DiskOk d):AC 314 [diskA d,.d (.int .i64 at_)] (.tup [.d (.str (dread d at_).1),.d (.int .i64 (dread d at_).2)]):=by
 refine bod func314 ntmps314 (λbase=>?_);have c8:=hd.bad;have gw:=hd.data;refine' zfH (zL 7) fx (za zm2 <| za zer <| za zoH <| zb _);all_goals first|(simp_all [dread];done)|skip
 have ht:there d at_=true:=ig;refine' IV;have hr:dread d at_=(sees d at_,0):=by simp_all [dread]
 refine' walkR hm (za zm2 <| za zer <| za zoH <| zb _)
 .rw [ak];omega
 obtain ⟨S0,kl⟩:∃S0,S0=(d.data.drop (at_*64).toNat).take 64:=⟨_,rfl⟩
 rw [<-kl];obtain ⟨I,hI⟩:∃I:List (List AV)->AHeap×Option (List (List AV)),I=λxs=>([(2,.var [.d (.str S0)]),(1,.var [.d (.int .i64 at_)]),(0,(.var [.d (.str d.data),.d (.sl 2 (d.cache.map putD)),.d (.int .i64 d.fuse),.d (.bool d.off),.d (.sl 1 (d.bad.map intD))]))],some []):=⟨_,rfl⟩
 obtain ⟨G,hG⟩:∃G:List (List AV)->Prop,G=λxs=>xs.any (hitI at_)=false:=⟨_,rfl⟩
 obtain ⟨J,hJ⟩:∃J:Code->AHeap->Option (List (List AV))->Prop,J=λc h g=>c= .exit 1/\g=some []/\∃q,d.cache.reverse.find? (isPut at_)=some q/\h= [(100,.var [.d (.int .i64 q.1),.d (.str q.2)]),(2,.var [.d (.str q.2)]),(1,.var [.d (.int .i64 at_)]),(0,(.var [.d (.str d.data),.d (.sl 2 (d.cache.map putD)),.d (.int .i64 d.fuse),.d (.bool d.off),.d (.sl 1 (d.bad.map intD))]))]:=⟨_,rfl⟩
 refine zbU 100 G I J (zqK d hd) jf rfl (zV rfl) ju rfl jh iV iW jE iK ja ?_ ?_ ?_
 .intro xs x bu ab l1 r1;obtain ⟨ys,⟨n,s⟩,zs,rfl,rfl,hl⟩:=zes bu;rw [hG,zm3] at ab;simp only [zeY,putAV];refine aw_le ⟨[(28,true,.agg [.d (.int .i64 n),.d (.str s)]),(3,true,.vp 1 0),(6,true,.vp 2 0)],[(2,.var [.d (.str S0)]),(1,.var [.d (.int .i64 at_)]),(0,(.var [.d (.str d.data),.d (.sl 2 (d.cache.map putD)),.d (.int .i64 d.fuse),.d (.bool d.off),.d (.sl 1 (d.bad.map intD))]))],some []⟩ om ?_;refine' zau hI
  .rw [hJ];exact ⟨rfl,rfl,(n,s),by rw [hl];exact zua ab hc,rfl⟩
  .rw [hG];show List.any (_++_) _=false;rw [List.any_append,zm3,ab];simpa [hitI] using hc
 .intro ab;rw [hG,zm3] at ab;rw [hI];refine' G8;rw [hr,sees,List.find?_eq_none.2 (λx hx=>by simpa using List.any_eq_false.1 ab x hx),kl]
 .rw [hJ];rintro c h3 g3 ⟨rfl,rfl,⟨n,s⟩,hq,rfl⟩;refine' G8;rw [hr,sees,hq]
@[go_sem] def zG:Ent Tryz.prog 314:= .m2 zC (intT .i64) zuc
structure Plan where
 targets:List Int
 texts:List Txt
 deriving DecidableEq
def planA (p:Plan):AV:= .agg [.d (.sl 1 (p.targets.map intD)),.d (.sl 1 (p.texts.map strD))]
def planC (p:Plan):List AV:= [.d (.sl 1 (p.targets.map intD)),.d (.sl 1 (p.texts.map strD))]
attribute [go_sem] planA planC
def zzL (p:Plan):Plan.mk p.targets p.texts=p:=rfl
def z7:PT Plan:=aggT (consL (slT 1 intD zdu) (consL (slT 1 strD zd7) nilL)) (λp=>⟨p.1,p.2.1⟩) (λx=>(x.targets,x.texts,())) (λ_=>rfl)
attribute [go_sem] z7
def zwO:PT Plan:=dpT (consL (slT 1 intD zdu) (consL (slT 1 strD zd7) nilL)) (λp=>⟨p.1,p.2.1⟩) (λx=>(x.targets,x.texts,())) (λ_=>rfl)
attribute [go_sem] zwO
attribute [go_sem] zzL
structure PlanOk (p:Plan):Prop where
 targets:p.targets.length<=9223372036854775807
 texts:p.texts.length<=9223372036854775807
def secOk (at_:Int):Bool:=decide (0<=at_)&&decide (at_<1024)
def pfind (l:List Int) (at_:Int):Int:=idxP (λx=>x==at_) l 0
def pfitL:List Int->List Int->List Txt->Bool
 |_,[],_=>true
 |seen,t::r,s::q=>secOk t&& !seen.contains t&&((s.length:Int)==64)&&pfitL (seen++ [t]) r q
 |_,_::_,[]=>true
def pfit (p:Plan):Bool:=decide (p.targets.length=p.texts.length)&&decide (p.targets.length<=24)&&pfitL [] p.targets p.texts
def plook (d:Disk) (p:Plan) (at_:Int):Txt×Int:=
 if 0<=pfind p.targets at_ then (p.texts.getD (pfind p.targets at_).toNat [],0) else dread d at_
def pset (p:Plan) (at_:Int) (s:Txt):Plan×Int:=
 if !secOk at_ then (p,10) else if (s.length:Int)≠64 then (p,11)
 else if 0<=pfind p.targets at_ then (⟨p.targets,p.texts.set (pfind p.targets at_).toNat s⟩,0)
 else if 24<=(p.targets.length:Int) then (p,16) else (⟨p.targets++ [at_],p.texts++ [s]⟩,0)
def zhy (d:Disk) (p:Plan) (at_:Int) (off:Int) (s:Txt):Plan×Int:=
 if (plook d p at_).2≠0 then (p,(plook d p at_).2)
 else if (overS (plook d p at_).1 off s).2≠0 then (p,(overS (plook d p at_).1 off s).2)
 else pset p at_ (overS (plook d p at_).1 off s).1
def layL (d:Disk):List (Int×Txt)->Disk×Int
 | []=>(d,0)
 |q::r=>if (zab d q.1 q.2).2≠0 then zab d q.1 q.2 else layL (zab d q.1 q.2).1 r
def play (d:Disk) (p:Plan):Disk×Int:=layL d (p.targets.zip p.texts)
def zkq {d:Disk} (h:DiskOk d) (at_:Int) (s:Txt):DiskOk (zab d at_ s).1:=by
 unfold zab;repeat' split
 all_goals first|exact h|skip
 .exact ⟨h.data,h.cache,h.bad,h.fuse0,h.fuse1⟩
 .rename_i J;exact zsK ⟨h.data,by simp only [ae,bl];omega,h.bad,h.fuse0,h.fuse1⟩
def zsQ {d:Disk} {at_:Int} (J:d.cache.all (putOk d)=true) (ht:there d at_=true):(sees d at_).length=64:=by
 obtain ⟨h0,h1⟩:=there_iff.1 ht;unfold sees;split
 .rename_i q hq;have hm:=List.mem_of_find?_eq_some hq;have:=bw.1 J q (List.mem_reverse.1 hm);rw [putOk,aq] at this;have:=eq_of_beq this.2;omega
 .rw [az,ak];omega
def zeZ {d:Disk} {at_:Int} (J:d.cache.all (putOk d)=true):(dread d at_).1.length<=64:=by
 unfold dread;repeat' split
 all_goals first|(simp;done)|skip
 rw [zsQ J ig];omega
def zoN:∀ (t:List Int) (s:List Txt) (seen:List Int),pfitL seen t s=true->t.length=s.length->∀x∈s,x.length=64
 | [],s,seen,_,J=>by have:s= []:=du.1 J.symm;subst this;simp
 |t::r,[],seen,_,J=>by simp at J
 |t::r,s::q,seen,h,J=>by
  rw [pfitL] at h;simp only [aq] at h;intro x hx;rcases bg.1 hx with rfl|hx
  .have:=eq_of_beq h.1.2;omega
  .exact zoN r q _ h.2 gQ x hx
def zbk {p:Plan} (h:pfit p=true):p.targets.length=p.texts.length/\p.targets.length<=24/\∀x∈p.texts,x.length=64:=by simp only [pfit,aq,ax] at h;exact ⟨h.1.1,h.1.2,zoN _ _ _ h.2 h.1.1⟩
def zzM {l:List Txt} {n k:Nat} (h:∀x∈l,x.length=n):(l.getD k []).length<=n:=by
 rw [aN];rcases J:l[k]? with _|x
 .simp
 .rw [eu,h x (ay J)];exact aj _
def zoO {d:Disk} {p:Plan} {at_:Int} (J:d.cache.all (putOk d)=true) (hp:pfit p=true):(plook d p at_).1.length<=64:=by
 unfold plook;split
 .exact zzM (zbk hp).2.2
 .exact zeZ J
def zoP {α:Type} (p:α->Bool):∀ (l:List α) (k:Nat),idxP p l k= -1\/((k:Int)<=idxP p l k/\idxP p l k<((k+l.length:Nat):Int))
 | [],k=> .inl rfl
 | q::l,k=>by
  rw [idxP];split
  .exact .inr ⟨db _,gh⟩
  .rcases zoP p l (k+1) with h|⟨h1,h2⟩
   .exact .inl h
   .exact .inr ⟨fT,w8⟩
def zdS (l:List Int) (at_:Int):pfind l at_= -1\/∃k:Nat,pfind l at_=k/\k<l.length:=by
 rcases zoP (λx=>x==at_) l 0 with h|⟨h1,h2⟩
 .exact .inl h
 .exact .inr ⟨(pfind l at_).toNat,by unfold pfind;omega,by unfold pfind;omega⟩
def zqM (at_:Int) (_:True):AC 157 [.d (.int .i64 at_)] (.d (.bool (secOk at_))):=by refine bod func157 ntmps157 (λbase=>?_);refine' Ds;rfl
@[go_sem] def zf3:Ent Tryz.prog 157:= .m1 (intT .i64) zqM
def zwP (p:Plan) (at_:Int) (hp:PlanOk p):AC 158 [planA p,.d (.int .i64 at_)] (.d (.int .i64 (pfind p.targets at_))):=by
 refine bod func158 ntmps158 (λbase=>?_);refine' Ds;have ht:=hp.targets;refine zk (λq:Idst (λx=>x==at_) p.targets=>⟨[(1,true,.d (.int .i64 at_)),(2,true,.vp 0 0),(5,true,.d (.int .i64 q.1))],[(0,.var [.d (.sl 1 (p.targets.map intD)),.d (.sl 1 (p.texts.map strD))])],some []⟩) (λq=>p.targets.length - q.1) ⟨0,ad _,rfl⟩ le1 (λq=>?_);refine' Di;rcases zw intD p.targets i hi with ⟨m,hq,aZ,J,ab,b4,a7⟩|⟨ao,J⟩
 .simp only [intD] at ab;refine' CO;refine' zc (zg J ab)
  .rw [pfind,hf,b4,idxP,aa hc]
  .exact ⟨⟨i+1,fT,by rw [hf,b4,idxP,U (by rw [hc];exact bS)]⟩,lew,gh⟩
 .refine' zc J;rw [pfind,hf,ao,aP];rfl
@[go_sem] def ze0:Ent Tryz.prog 158:= .m2 z7 (intT .i64) zwP
def zwQ (d:Disk) (p:Plan) (at_:Int) (hp:DiskOk d/\PlanOk p/\p.targets.length=p.texts.length):AC 222 [diskA d,planA p,.d (.int .i64 at_)] (.tup [.d (.str (plook d p at_).1),.d (.int .i64 (plook d p at_).2)]):=by
 obtain ⟨hd,hp,hl⟩:=hp;refine bod func222 ntmps222 (λbase=>?_);rcases zdS p.targets at_ with hk|⟨k,hk,mn⟩
 .refine' walkW hk (za ze0 <| za zbN <| zb _);rw [plook,hk,U fT]
 .refine' F0;have h2:decide ((k:Int)<(p.texts.length:Int))=true:=af fT;refine' walkW (zat hk J natC h1 h2) (za ze0 <| za zbN <| zb _);rw [plook,hk,aa fT,aw,aN,hq];rfl
@[go_sem] def zae:Ent Tryz.prog 222:= .m3 zC z7 (intT .i64) zwQ
def zhh {α:Type} (g:α->List D) (l:List α) (x:α) (r:List D) (J:r=g x) {k:Nat} :(if l.length+1=(l.map g++ [r]).length then AV.d (D.sl k (List.take (l.length+1) (l.map g++ [r]))) else AV.any)=AV.d (.sl k ((l++ [x]).map g)):=by have h1:l.length+1=(l.map g++ [r]).length:=fZ;rw [aa h1,aA (cH h1.symm),J,aG];rfl
def zsR {k n:Nat} {X:List (List D)} (h:X.length=n):(if n=X.length then AV.d (D.sl k (List.take n X)) else AV.any)=AV.d (.sl k X):=by
 rw [aa h.symm,aA (cH h)]
def zwR {l:List Txt} {k:Nat} {s:Txt} (J:k<l.length):(l.map strD).set k (((l.map strD).getD k []).set 0 (D.str s))=(l.set k s).map strD:=by obtain ⟨x,hq⟩:=zaD J;rw [zbB (g:=strD) hq,cK];rfl
def zzN (p:Plan) (at_:Int) (s:Txt) (hp:PlanOk p/\p.targets.length=p.texts.length/\p.targets.length<=24):AC 87 [planA p,.d (.int .i64 at_),.d (.str s)] (.tup [planA (pset p at_ s).1,.d (.int .i64 (pset p at_ s).2)]):=by
 obtain ⟨hp,hl,iQ⟩:=hp;refine fbod func87 ntmps87 (λbase=>?_);rcases zdS p.targets at_ with J|⟨k,J,mn⟩
 .refine' walkW J (za zf3 <| za ze0 <| zb _);all_goals first|(simp_all [pset];done)|skip
  refine' Gw
  .exfalso;simp_all;omega
  .simp_all [pset];simp only [U (show ¬(24:Int)<=p.texts.length by omega)];simp
 .have h1:decide ((0:Int)<=(k:Int))=true:=af fT;refine' walkW (zp J natC h1) (za zf3 <| za ze0 <| zb _);all_goals first|(simp_all [pset];done)|skip
  rw [zwR fT,zsR fZ];simp_all [pset]
@[go_sem] def zbF:Ent Tryz.prog 87:= .m3 z7 (intT .i64) strT zzN
def zug (d:Disk) (p:Plan) (at_ off:Int) (s:Txt) (hp:DiskOk d/\d.cache.all (putOk d)=true/\pfit p=true/\s.length<=9223372036854775807):AC 163 [diskA d,planA p,.d (.int .i64 at_),.d (.int .i64 off),.d (.str s)] (.tup [planA (zhy d p at_ off s).1,.d (.int .i64 (zhy d p at_ off s).2)]):=by obtain ⟨hd,J,hp,hs⟩:=hp;refine fbod func163 ntmps163 (λbase=>?_);refine' Hf;have hb:=zoO (at_:=at_) J hp;refine' walkW fx (za zae <| za zay <| za zbF <| zb _);all_goals first|(simp_all [zhy];done)|skip
@[go_sem] def zbI:Ent Tryz.prog 163:= .m5 zC z7 (intT .i64) (intT .i64) strT zug
def zqN (at_:Int) (_:True):AC 460 [.d (.int .i64 at_)] (.d (.bool (!secOk at_))):=by
 refine bod func460 ntmps460 (λbase=>?_);refine' Ds;congr 2;rw [secOk,cg];congr 1
 .by_cases h:at_<0
  .rw [af h,ag fT];rfl
  .rw [ag h,af fT];rfl
 .by_cases h:at_<1024
  .rw [af h,ag fT];rfl
  .rw [ag h,af fT];rfl
@[go_sem] def zcF:Ent Tryz.prog 460:= .m1 (intT .i64) zqN
def zsS (l:List Int) (x:Int) (k:Nat):idxP (λq=>x==q) l k=idxP (λq=>q==x) l k:=by
 have:(λq:Int=>x==q)=(λq=>q==x):=by funext q;exact BEq.comm
 rw [this]
def zzQ (d:Disk) (p:Plan) (at_:Int) (hp:DiskOk d/\PlanOk p/\p.targets.length=p.texts.length):AC 305 [diskA d,planA p,.d (.int .i64 at_)] (.tup [.d (.str (plook d p at_).1),.d (.int .i64 (plook d p at_).2)]):=by
 obtain ⟨hd,hp,hl⟩:=hp;refine bod func305 ntmps305 (λbase=>?_);have ht:=hp.targets;have ot:=zsS p.targets at_ 0;rcases zdS p.targets at_ with hk|⟨k,hk,mn⟩
 .have gR:=hk;unfold pfind at gR;refine' walkW (zg ot gR) (za zca <| za zG <| zb _);rw [plook,hk,U fT]
 .have gR:=hk;unfold pfind at gR;refine' F0;refine' walkW (zat ot gR J natC h1) (za zca <| za zG <| zb _);rw [plook,hk,aa fT,aw,aN,hq];rfl
@[go_sem] def zbc:Ent Tryz.prog 305:= .m3 zC z7 (intT .i64) zzQ
def zlo (l:List Int) (fl:Nat) (J:l.length<=5000):ACall Tryz.prog 469 fl [.d (.sl 1 (l.map intD))] [] (λr h'=>r= .osl fl 1 l.length 0 l.length/\h'= [(fl,.arr 1 (l.map intD))]):=by
 refine bod func469 ntmps469 (λbase=>?_);refine' Ii
 .refine' Cw;refine zaI 2 1 rfl ?_;refine' FR;refine' Ds;all_goals rfl
def zlp (l:List Txt) (fl:Nat) (J:l.length<=5000):ACall Tryz.prog 470 fl [.d (.sl 1 (l.map strD))] [] (λr h'=>r= .osl fl 1 l.length 0 l.length/\h'= [(fl,.arr 1 (l.map strD))]):=by
 refine bod func470 ntmps470 (λbase=>?_);refine' Ii
 .refine' Cw;refine zaI 2 1 rfl ?_;refine' FR;refine' Ds;all_goals rfl
def zBP (l:List Int) (h:l.length<=5000) (fl:Nat):ACall Tryz.prog 469 fl [.d (.sl 1 (l.map intD))] [] (λr h'=>r= .osl fl 1 (l.map intD).length 0 (l.map intD).length/\h'= [(fl,.arr 1 (l.map intD))]):=by
 rw [al];exact zlo l fl h
def zBQ (l:List Txt) (h:l.length<=5000) (fl:Nat):ACall Tryz.prog 470 fl [.d (.sl 1 (l.map strD))] [] (λr h'=>r= .osl fl 1 (l.map strD).length 0 (l.map strD).length/\h'= [(fl,.arr 1 (l.map strD))]):=by
 rw [al];exact zlp l fl h
def zCy (p:Plan) (at_:Int) (s:Txt) (hp:PlanOk p/\p.targets.length=p.texts.length/\p.targets.length<=24):AC 458 [planA p,.d (.int .i64 at_),.d (.str s)] (.tup [planA (pset p at_ s).1,.d (.int .i64 (pset p at_ s).2)]):=by
 obtain ⟨hp,hl,iQ⟩:=hp;refine fbod func458 ntmps458 (λbase=>?_);have ot:=zsS p.targets at_ 0;rcases zdS p.targets at_ with J|⟨k,J,mn⟩
 .have gR:=J;unfold pfind at gR;refine' zgu (ownsL [469,470]) (zg ot gR) (za zcF <| za zca <| zb _);all_goals first|(simp_all [pset];done)|skip
  refine' IH;refine' walkW (zg ot gR) (za zcF <| za zca <| zb _);all_goals first|(simp_all [pset];done)|skip
  refine' Gw
  .exfalso;simp_all;omega
  .simp_all [pset];simp only [U (show ¬(24:Int)<=p.texts.length by omega)];simp
 .have gR:=J;unfold pfind at gR;have h1:decide ((0:Int)<=(k:Int))=true:=af fT;refine' zgu (ownsL [469,470]) (zg ot gR) (za zcF <| za zca <| zb _);all_goals first|(simp_all [pset];done)|skip
  refine' IH;refine' walkW (zB ot gR h1 natC) (za zcF <| za zca <| zb _);all_goals first|(simp_all [pset];done)|skip
  rw [zwR fT,zsR fZ];simp_all [pset]
@[go_sem] def zec:Ent Tryz.prog 458:= .m3 z7 (intT .i64) strT zCy
end
end Go.Aw
