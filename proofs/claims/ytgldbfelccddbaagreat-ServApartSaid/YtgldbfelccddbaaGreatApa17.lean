/-
 Counts and what is free: the program's functions.
-/
import Derived.Test.YtgldbfelccddbaaGreatApa15
set_option linter.all false
set_option maxRecDepth 100000
set_option maxHeartbeats 2000000
namespace Go.Aw
noncomputable section
open Go Go.Proofs Go.Proofs.Tryz
def zxk (d:Disk) (p:Plan) (k:Int) (h:DP d p):AC 368 [diskA d,planA p,.d (.int .i64 k)] (.tup [.d (.int .i64 (rget d p k).1),.d (.int .i64 (rget d p k).2)]):=by
 refine bod func368 ntmps368 (λbase=>?_);refine' EN;by_cases hk:zac k=true
 .refine' GX
  .refine' EH
   have ir:rget d p k=(((takeN (((plook d p (87+k / 32)).1.drop (2*(k % 32)).toNat).take 2):Nat):Int),0):=by rw [rget,U jH,U gp]
   refine' D0;refine' walkW (zr @zdm J hb gW ou a7) (za zhg <| za zbc <| za zaN <| zb _);rw [ir]
  .have hb:((plook d p (87+k / 32)).2 !=0)=true:=by simpa using he
   refine' walkW (zp @zdm J hb) (za zhg <| za zbc <| za zaN <| zb _);rw [rget,U jH,aa he]
 .have J:(!zac k)=true:=by simpa using hk
  refine' walkW (zg @zdm J) (za zhg <| za zbc <| za zaN <| zb _);rw [rget,aa J]
@[go_sem] def zt:Ent Tryz.prog 368:= .m3 zC z7 (intT .i64) zxk
def zxl (d:Disk) (p:Plan) (k dt:Int) (h:DP d p):AC 402 [diskA d,planA p,.d (.int .i64 k),.d (.int .i64 dt)] (.tup [planA (radd d p k dt).1,.d (.int .i64 (radd d p k dt).2)]):=by
 refine fbod func402 ntmps402 (λbase=>?_);refine' Hk;have hr:=zhj d p k;by_cases he:(rget d p k).2=0
 .refine' DT
  .refine' HN;refine' walkW (zB hb ab a6 J) (za zt <| za zhg <| za zaJ <| za zcb <| zb _);rw [radd,U gp,aa hc]
  .refine' DZ;refine' walkW (zr hb ab a6 gO gX (zg J @zjo)) (za zt <| za zhg <| za zaJ <| za zcb <| zb _);all_goals first|(rw [gB];decide)|skip
   rw [radd,U gp,U hc]
 .have hb:((rget d p k).2 !=0)=true:=by simpa using he
  refine' walkW hb (za zt <| za zhg <| za zaJ <| za zcb <| zb _);rw [radd,aa he]
@[go_sem] def zcd:Ent Tryz.prog 402:= .m4 zC z7 (intT .i64) (intT .i64) zxl
def freeL (d:Disk) (p:Plan):Nat->Int->List (Int×Int)
 |0,_=> []
 |m+1,k=>if (rget d p k).2≠0 then [(0,(rget d p k).2)] else if (rget d p0 k).2≠0 then [(0,(rget d p0 k).2)]
  else if (rget d p k).1=0/\(rget d p0 k).1=0 then (k,0)::freeL d p m (k+1) else freeL d p m (k+1)
def zkC (d:Disk) (p:Plan):∀ (m:Nat) (k:Int),zgP d p m k=(freeL d p m k).headD (0,17)
 |0,k=>rfl
 |m+1,k=>by
  rw [zgP,freeL];repeat' split
  all_goals first|rfl|exact zkC d p m (k+1)
def freeI (q:Int×Int):List AV:= [.d (.int .i64 q.1),.d (.int .i64 q.2)]
def geomC (g:Geom):List AV:= [.d (.int .i64 g.guest),.d (.int .i64 g.host)]
attribute [go_sem] geomC
def zAd (d:Disk) (p:Plan) (g:Geom) (_:True):AC 434 [diskA d,planA p,geomA g] (.fn (.func 457) [] [.dp (geomC g),.dp (planC p),.dp (diskC d)]):=by refine fbod func434 ntmps434 (λbase=>?_);refine' Ds
@[go_sem] def zhl:Ent Tryz.prog 434:= .m3 zC z7 zet zAd
abbrev Fst (d:Disk) (p:Plan) (g:Geom):= { q:Nat×List (List AV) // (q.1:Int)<=max g.host 0/\q.2++(freeL d p (g.host.toNat - q.1) q.1).map freeI=(freeL d p g.host.toNat 0).map freeI }
def zq4 (d:Disk) (p:Plan) (g:Geom) (h:DP d p) (hg:g.host<=1000000):AIter Tryz.prog 457 100 [] [.dp [.d (.int .i64 g.guest),.d (.int .i64 g.host)],.dp [.d (.sl 1 (p.targets.map intD)),.d (.sl 1 (p.texts.map strD))],.dp [.d (.str d.data),.d (.sl 2 (d.cache.map putD)),.d (.int .i64 d.fuse),.d (.bool d.off),.d (.sl 1 (d.bad.map intD))]] [] ((freeL d p g.host.toNat 0).map freeI) (λgg h'=>(∀xs,gg=some xs->xs=(freeL d p g.host.toNat 0).map freeI)/\h'= []):=by
 refine itr func457 ntmps457 (λbase y=>?_);refine zfI ?_;refine' zaQ fx;have hz:=h.zero;have jA:p0=Plan.mk [] []:=rfl;rw [jA] at hz;refine zk (λq:Fst d p g=>⟨[(0,true,.fn (.yield y.yl) [] []),(1,true,.dp [.d (.int .i64 g.guest),.d (.int .i64 g.host)]),(2,true,.dp [.d (.sl 1 (p.targets.map intD)),.d (.sl 1 (p.texts.map strD))]),(3,true,.dp [.d (.str d.data),.d (.sl 2 (d.cache.map putD)),.d (.int .i64 d.fuse),.d (.bool d.off),.d (.sl 1 (d.bad.map intD))]),(12,true,.d (.int .i64 g.host)),(13,true,.d (.int .i64 q.1.1))],[],some q.1.2⟩) (λq=>g.host.toNat - q.1.1) ⟨(0,[]),by show (_:Int)<=_;omega,rfl⟩ le1 (λq=>?_);obtain ⟨⟨i,xs⟩,hi,J⟩:=q;simp only at hi J |-;by_cases aZ:(i:Int)<g.host
 .have an:decide ((i:Int)<g.host)=true:=af aZ;refine' CO;rw [show g.host.toNat - i=(g.host.toNat - (i+1))+1 by omega,freeL,jA] at J;have ka:=zhj d p i;have jj:=zhj d ⟨[],[]⟩ i;refine' walkX an (za zt <| zb _);refine zk (λr: { r:Nat×Int // (r.1=0/\r.2=0)\/(r.1=1/\(rget d p i).2=0/\r.2=(rget d p i).1)\/(r.1=2/\(rget d p i).2=0/\(rget d ⟨[],[]⟩ i).2=0/\r.2=(rget d p i).1+(rget d ⟨[],[]⟩ i).1) } =>⟨[(0,true,.fn (.yield y.yl) [] []),(1,true,.dp [.d (.int .i64 g.guest),.d (.int .i64 g.host)]),(2,true,.dp [.d (.sl 1 (p.targets.map intD)),.d (.sl 1 (p.texts.map strD))]),(3,true,.dp [.d (.str d.data),.d (.sl 2 (d.cache.map putD)),.d (.int .i64 d.fuse),.d (.bool d.off),.d (.sl 1 (d.bad.map intD))]),(5,true,.d (.int .i64 i)),(6,true,.d (.int .i64 r.1.2)),(12,true,.d (.int .i64 g.host)),(13,true,.d (.int .i64 i)),(18,true,.osl 100 2 2 0 2),(19,true,.d (.int .i64 2)),(20,true,.d (.int .i64 r.1.1))],[(100,.arr 2 [[.sl 1 (p.targets.map intD),.sl 1 (p.texts.map strD)],[.sl 1 [],.sl 1 []]])],some xs⟩) (λr=>2 - r.1.1) ⟨(0,0),.inl ⟨rfl,rfl⟩⟩ le1 (λr=>?_);obtain ⟨⟨j,n⟩,hj⟩:=r;simp only at hj |-;have a7:((0:Nat):Int)=0:=rfl;refine' FD;have iG:Int.toNat 1=1:=rfl;refine' ES;rcases hj with ⟨rfl,rfl⟩|⟨rfl,et,rfl⟩|⟨rfl,et,e9,rfl⟩
  .by_cases he:(rget d p i).2=0
   .have hb:((rget d p i).2 !=0)=false:=by simpa using he
    have lY:IntKind.i64.wrap (0+(rget d p i).1)=(rget d p i).1:=yL;refine' walkX (zp a7 hb lY) (za zt <| zb _);exact ⟨⟨(1,(rget d p i).1),.inr (.inl ⟨rfl,he,rfl⟩)⟩,lxb ab,fZ⟩
   .have hb:((rget d p i).2 !=0)=true:=by simpa using he
    rw [aa gp] at J;have sX:(xs++ [[.d (.int .i64 0),.d (.int .i64 (rget d p i).2)]])<+:(freeL d p g.host.toNat 0).map freeI:=⟨[],rp⟩
    refine' walkX (zg a7 hb) (za zt <| zb _);rintro zs rfl;rw [<-J];simp [freeI]
  .by_cases he:(rget d ⟨[],[]⟩ i).2=0
   .have hb:((rget d ⟨[],[]⟩ i).2 !=0)=false:=by simpa using he
    have lY:IntKind.i64.wrap ((rget d p i).1+(rget d ⟨[],[]⟩ i).1)=(rget d p i).1+(rget d ⟨[],[]⟩ i).1:=zf fT fT;refine' walkX (zB bo iG hb lY) (za zt <| zb _);exact ⟨⟨(2,(rget d p i).1+(rget d ⟨[],[]⟩ i).1),.inr (.inr ⟨rfl,et,he,rfl⟩)⟩,lxb a6,fZ⟩
   .have hb:((rget d ⟨[],[]⟩ i).2 !=0)=true:=by simpa using he
    rw [U (by rw [et];decide),aa gp] at J;have sX:(xs++ [[.d (.int .i64 0),.d (.int .i64 (rget d ⟨[],[]⟩ i).2)]])<+:(freeL d p g.host.toNat 0).map freeI:=⟨[],rp⟩
    refine' walkX (zp bo iG hb) (za zt <| zb _);rintro zs rfl;rw [<-J];simp [freeI]
  .rw [U (by rw [et];decide),U (by rw [e9];decide)] at J;by_cases lR:(rget d p i).1=0/\(rget d ⟨[],[]⟩ i).1=0
   .have hb:((rget d p i).1+(rget d ⟨[],[]⟩ i).1==0)=true:=by rw [aF];omega
    rw [aa lR] at J;have sX:(xs++ [[.d (.int .i64 i),.d (.int .i64 0)]])<+:(freeL d p g.host.toNat 0).map freeI:=⟨(freeL d p (g.host.toNat - (i+1)) (i+1)).map freeI,rp⟩
    refine' walkX (zg fY hb) (za zt <| zb _);exact ⟨⟨(i+1,xs++ [freeI (i,0)]),by show ((i+1:Nat):Int)<=_;omega,rp⟩,lxb (lan hwi @freeI.eq_1),gh⟩
   .have hb:((rget d p i).1+(rget d ⟨[],[]⟩ i).1==0)=false:=by rw [bb];omega
    rw [U lR] at J;refine' walkX (zg fY hb) (za zt <| zb _);exact ⟨⟨(i+1,xs),by show ((i+1:Nat):Int)<=_;omega,by rw [<-J];simp⟩,lew,gh⟩
 .have an:decide ((i:Int)<g.host)=false:=ag aZ;refine' walkX an (za zt <| zb _);rintro zs rfl;rw [<-J,show g.host.toNat - i=0 by omega];simp [freeL]
def zAe (d:Disk) (p:Plan) (g:Geom) (hp:DP d p/\g.host<=1000000):AC 401 [diskA d,planA p,geomA g] (.tup [.d (.int .i64 (rfind d p g).1),.d (.int .i64 (rfind d p g).2)]):=by
 obtain ⟨h,hg⟩:=hp;refine fbod func401 ntmps401 (λbase=>?_);refine' walkR fx (za zhl <| zb _);have vo:rfind d p g=(freeL d p g.host.toNat 0).headD (0,17):=zkC d p _ _;obtain ⟨I,hI⟩:∃I:List (List AV)->AHeap×Option (List (List AV)),I=λxs=>([(4,.var [.d (.int .i64 17)]),(3,.var [.d (.int .i64 0)]),(2,.var [.d (.int .i64 g.guest),.d (.int .i64 g.host)]),(1,(.var [.d (.sl 1 (p.targets.map intD)),.d (.sl 1 (p.texts.map strD))])),(0,(.var [.d (.str d.data),.d (.sl 2 (d.cache.map putD)),.d (.int .i64 d.fuse),.d (.bool d.off),.d (.sl 1 (d.bad.map intD))]))],some []):=⟨_,rfl⟩
 obtain ⟨G,hG⟩:∃G:List (List AV)->Prop,G=λxs=>(xs≠ []->False):=⟨_,rfl⟩
 obtain ⟨J,hJ⟩:∃J:Code->AHeap->Option (List (List AV))->Prop,J=λc h gg=>c= .exit 0/\gg=some []/\h= [(4,.var [.d (.int .i64 (rfind d p g).2)]),(3,.var [.d (.int .i64 (rfind d p g).1)]),(2,.var [.d (.int .i64 g.guest),.d (.int .i64 g.host)]),(1,(.var [.d (.sl 1 (p.targets.map intD)),.d (.sl 1 (p.texts.map strD))])),(0,(.var [.d (.str d.data),.d (.sl 2 (d.cache.map putD)),.d (.int .i64 d.fuse),.d (.bool d.off),.d (.sl 1 (d.bad.map intD))]))]:=⟨_,rfl⟩
 refine zbU 100 G I J (zq4 d p g h hg) jf rfl (zV rfl) ju rfl jh iV iW jE iK ja ?_ ?_ ?_
 .intro xs x bu ab l1 r1;rw [hG] at ab;obtain rfl:xs= []:=cN ab;obtain ⟨ys,⟨a,e⟩,zs,kb,rfl,iR⟩:=zes bu;have xJ:ys= []:=by cases ys with|nil=>rfl|cons q r=>simp at kb
  subst xJ;have xL:rfind d p g=(a,e):=by rw [vo,iR];rfl
  simp only [freeI];refine aw_le ⟨[(14,true,.d (.int .i64 a)),(15,true,.d (.int .i64 e)),(8,true,.vp 3 0),(9,true,.vp 4 0)],[(4,.var [.d (.int .i64 17)]),(3,.var [.d (.int .i64 0)]),(2,.var [.d (.int .i64 g.guest),.d (.int .i64 g.host)]),(1,(.var [.d (.sl 1 (p.targets.map intD)),.d (.sl 1 (p.texts.map strD))])),(0,(.var [.d (.str d.data),.d (.sl 2 (d.cache.map putD)),.d (.int .i64 d.fuse),.d (.bool d.off),.d (.sl 1 (d.bad.map intD))]))],some []⟩ om ?_;refine' walkR hI (za zhl <| zb _);rw [hJ,xL];exact ⟨rfl,rfl,rfl⟩
 .intro ab;rw [hG] at ab;have ab:=cN ab;rw [hI];refine' walkR fx (za zhl <| zb _);have gy:freeL d p g.host.toNat 0= []:=by simpa using ab
  rw [vo,gy];rfl
 .refine' Ge;refine' walkR fx (za zhl <| zb _)
@[go_sem] def zuB:Ent Tryz.prog 401:= .m3 zC z7 zet zAe
def zAf (d:Disk) (p:Plan) (g:Geom) (hp:DP d p/\g.host<=1000000):AC 365 [diskA d,planA p,geomA g] (.tup [planA (rtake d p g).1,.d (.int .i64 (rtake d p g).2.1),.d (.int .i64 (rtake d p g).2.2)]):=by obtain ⟨h,J⟩:=hp;refine fbod func365 ntmps365 (λbase=>?_);refine' walkW fx (za zuB <| za zcd <| zb _);all_goals simp_all [rtake]
@[go_sem] def zZ:Ent Tryz.prog 365:= .m3 zC z7 zet zAf
end
end Go.Aw
