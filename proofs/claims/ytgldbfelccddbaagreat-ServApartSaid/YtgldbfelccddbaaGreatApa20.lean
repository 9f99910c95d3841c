/- Lemmas. -/
import Derived.Test.YtgldbfelccddbaaGreatApa18
import Derived.Test.YtgldbfelccddbaaGreatApa17
set_option linter.all false
set_option maxRecDepth 100000
set_option maxHeartbeats 2000000
namespace Go.Aw
noncomputable section
open Go Go.Proofs Go.Proofs.Tryz
structure Root where
 l1:Int
 next:Int
 deriving DecidableEq
def rootA (r:Root):AV:= .agg [.d (.int .i64 r.l1),.d (.int .u32 r.next)]
attribute [go_sem] rootA
def zAa (r:Root):Root.mk r.l1 r.next=r:=rfl
def znc:PT Root:=aggT (consL (intT .i64) (consL (intT .u32) nilL)) (λp=>⟨p.1,p.2.1⟩) (λx=>(x.l1,x.next,())) (λ_=>rfl)
attribute [go_sem] znc
attribute [go_sem] zAa
def zs0:Txt:= [67,79,70,82]
def zeE (r:Root):Txt:=zs0++putN r.l1.toNat 2++putN r.next.toNat 4
def znd (r:Root):Txt:=padR (zeE r++zgM (sumOf 0 (zeE r)))
def zdn (s:Txt):Root:=⟨((takeN ((s.drop 4).take 2):Nat):Int),((takeN ((s.drop 6).take 4):Nat):Int)⟩
def rootT (s:Txt):Root×Int:=
 if s.take 4≠zs0 then (⟨0,0⟩,14)
 else if zgM (sumOf 0 (s.take 10))≠(s.take 14).drop 10 then (⟨0,0⟩,15)
 else if zac (zdn s).l1=false\/znd (zdn s)≠s then (⟨0,0⟩,14)
 else (zdn s,0)
def zF (d:Disk) (p:Plan):Root×Int:=if (plook d p 1).2≠0 then (⟨0,0⟩,(plook d p 1).2) else rootT (plook d p 1).1
def zgb (p:Plan) (r:Root):Plan×Int:=if zac r.l1=false then (p,10) else pset p 1 (znd r)
def zjp (r:Root):(zeE r).length=10:=by
 rw [zeE,ae,ae,zu,zu];rfl
def zlW (s:Txt):0<=(zdn s).l1/\(zdn s).l1<=65535/\0<=(zdn s).next/\(zdn s).next<=4294967295:=by have h1:=zdw (l:=(s.drop 4).take 2) (i:=2) hU;have h2:=zdw (l:=(s.drop 6).take 4) (i:=4) hU;simp only [zdn];omega
def zne (k:Int) (_:True):AC 159 [.d (.int .i64 k)] (.d (.bool (zac k))):=by refine bod func159 ntmps159 (λbase=>?_);refine' Ds;rfl
@[go_sem] def zdz:Ent Tryz.prog 159:= .m1 (intT .i64) zne
def zbT {x:Int} (h0:0<=x) (h1:x<=4294967295):IntKind.u32.wrap x=x:=by rw [ed];omega
def zuu (t:Root) (hp:0<=t.l1/\t.l1<=65535/\0<=t.next/\t.next<=4294967295):AC 160 [rootA t] (.d (.str (znd t))):=by obtain ⟨h0,h1,h2,J⟩:=hp;refine fbod func160 ntmps160 (λbase=>?_);refine' Ei;have hs:=zgO 0 (zeE t) fT fT;have c8:=zeM (sumOf 0 (zeE t));refine' walkW (zr ab a6 @zjo @zgv @List.length_cons.{0} (zr @List.length_nil.{0} jv js qt qu (zg c8 @List.length_append.{0}))) (za zH <| za zbV <| za zaV <| za ziN <| zb _);rfl
@[go_sem] def zfn:Ent Tryz.prog 160:= .m1 znc zuu
def zo4 (d:Disk) (p:Plan) (h:DP d p):ACall Tryz.prog 170 0 [diskA d,planA p] [] (λr _=>r= .tup [rootA (zF d p).1,.d (.int .i64 (zF d p).2)]):=by
 refine fbod func170 ntmps170 (λbase=>?_);refine' EN;by_cases he:(plook d p 1).2=0
 .refine' Dn;have vq:(List.drop 4 S).length<=64:=gG;have BQ:(List.drop 6 S).length<=64:=gG;have BR:=zgO 0 (S.take 10) fT fT;refine' walkW (zr hS.symm J a7 nj lD (zg iu lY)) (za zae <| za zbV <| za zaV <| za zx <| za zdz <| za zfn <| zb _);all_goals (rw [ir,rootT];clear nj lD iu lY a7;simp_all [zdn,zs0];done)
 .have J:((plook d p 1).2 !=0)=true:=by simpa using he
  refine' walkW J (za zae <| za zbV <| za zaV <| za zx <| za zdz <| za zfn <| zb _);rw [zF,aa he]
@[go_sem] def zJ:Ent Tryz.prog 170:= .ofL (consL zC (consL z7 nilL)) (λ(d,p,_)=>DP d p) (λ(d,p,_)=> .tup [rootA (zF d p).1,.d (.int .i64 (zF d p).2)]) (λ(d,p,_) hp=>⟨rfl,zo4 d p hp⟩)
def zxe (p:Plan) (t:Root) (hp:pfit p=true/\0<=t.next/\t.next<=4294967295):AC 88 [planA p,rootA t] (.tup [planA (zgb p t).1,.d (.int .i64 (zgb p t).2)]):=by
 obtain ⟨hp,h2,h3⟩:=hp;refine fbod func88 ntmps88 (λbase=>?_);refine' Hf;by_cases J:zac t.l1=true
 .obtain ⟨gk,gx⟩:=hostOk_iff.1 J;refine' walkW J (za zdz <| za zfn <| za zbF <| zb _);rw [zgb,U Ck]
 .have J:zac t.l1=false:=by simpa using J
  refine' walkW J (za zdz <| za zfn <| za zbF <| zb _);rw [zgb,aa J]
@[go_sem] def zqX:Ent Tryz.prog 88:= .m2 z7 znc zxe
def zuv (k:Int) (_:True):AC 309 [.d (.int .i64 k)] (.d (.bool (!zac k))):=by refine bod func309 ntmps309 (λbase=>?_);refine' Ds;rw [zdm]
@[go_sem] def zjq:Ent Tryz.prog 309:= .m1 (intT .i64) zuv
def zuw (t:Root) (hp:0<=t.l1/\t.l1<=65535/\0<=t.next/\t.next<=4294967295):AC 310 [rootA t] (.d (.str (znd t))):=by obtain ⟨h0,h1,h2,J⟩:=hp;refine fbod func310 ntmps310 (λbase=>?_);refine' Ei;have c8:=zeM (sumOf 0 (zeE t));refine' walkW (zr ab a6 @zjo @zgv @List.length_cons.{0} (zr @List.length_nil.{0} jv js qt qu (zg c8 @List.length_append.{0}))) (za zaJ <| za zeK <| za zcG <| za zjN <| zb _);rfl
@[go_sem] def zjr:Ent Tryz.prog 310:= .m1 znc zuw
def zux (s:Txt) (at_ size:Int) (hp:0<=at_/\at_<=s.length/\s.length<=9223372036854775807):AC 308 [.d (.str s),.d (.int .i64 at_),.d (.int .i64 size)] (.d (.int .u64 (takeS (s.drop at_.toNat) size).1)):=by obtain ⟨h0,h1,J⟩:=hp;refine fbod func308 ntmps308 (λbase=>?_);have a7:List.take s.length s=s:=aL;have vq:(List.drop at_.toNat s).length<=9223372036854775807:=gG;refine' walkW a7 (za zaN <| zb _)
@[go_sem] def zjs:Ent Tryz.prog 308:= .m3 strT (intT .i64) (intT .i64) zux
def zuy (d:Disk) (p:Plan) (h:DP d p):AC 249 [diskA d,planA p] (.tup [rootA (zF d p).1,.d (.int .i64 (zF d p).2)]):=by
 refine fbod func249 ntmps249 (λbase=>?_);refine' EN;by_cases he:(plook d p 1).2=0
 .refine' Dn
  have vL:List.isPrefixOf [67,79,70,82] S=(S.take 4== [67,79,70,82]):=by rw [bV,fJ,fK,aF];exact ⟨λh=>h.symm,λh=>h.symm⟩
  refine' walkW (zr hS.symm J a7 nj lD (zp iu lY vL)) (za zbc <| za zeK <| za zcG <| za zjs <| za zjq <| za zjr <| za zhw <| zb _);all_goals (rw [ir,rootT];clear nj lD iu lY a7 vL;simp_all [zdn,zs0];done)
 .have J:((plook d p 1).2 !=0)=true:=by simpa using he
  refine' walkW J (za zbc <| za zeK <| za zcG <| za zjs <| za zjq <| za zjr <| za zhw <| zb _);rw [zF,aa he]
@[go_sem] def zq:Ent Tryz.prog 249:= .m2 zC z7 zuy
def pfill (d:Disk) (p:Plan) (fr k:Int):Plan×Int:=if fr<0 then eblank p k else ecopy d p fr k
def pless (d:Disk) (p:Plan) (fr:Int):Plan×Int:=if fr<0 then (p,0) else radd d p fr (-1)
def pfresh (d:Disk) (p:Plan) (g:Geom) (l1 i fr:Int):Plan×Int×Int:=
 if (rtake d p g).2.2≠0 then (p,0,(rtake d p g).2.2)
 else if (pfill d (rtake d p g).1 fr (rtake d p g).2.1).2≠0 then (p,0,(pfill d (rtake d p g).1 fr (rtake d p g).2.1).2)
 else if (pless d (pfill d (rtake d p g).1 fr (rtake d p g).2.1).1 fr).2≠0 then (p,0,(pless d (pfill d (rtake d p g).1 fr (rtake d p g).2.1).1 fr).2)
 else if (eset d (pless d (pfill d (rtake d p g).1 fr (rtake d p g).2.1).1 fr).1 l1 i ⟨1,(rtake d p g).2.1⟩).2≠0 then (p,0,(eset d (pless d (pfill d (rtake d p g).1 fr (rtake d p g).2.1).1 fr).1 l1 i ⟨1,(rtake d p g).2.1⟩).2)
 else ((eset d (pless d (pfill d (rtake d p g).1 fr (rtake d p g).2.1).1 fr).1 l1 i ⟨1,(rtake d p g).2.1⟩).1,(rtake d p g).2.1,0)
def pown2 (d:Disk) (p:Plan) (g:Geom) (l1 i:Int):Plan×Int×Int:=
 if (eget d p l1 i).2≠0 then (p,0,(eget d p l1 i).2) else if (eget d p l1 i).1.kind=2 then (p,0,14)
 else if (eget d p l1 i).1.kind=0 then pfresh d p g l1 i (-1) else if (rget d p (eget d p l1 i).1.loc).2≠0 then (p,0,(rget d p (eget d p l1 i).1.loc).2)
 else if (rget d p (eget d p l1 i).1.loc).1<=1 then (p,(eget d p l1 i).1.loc,0) else pfresh d p g l1 i (eget d p l1 i).1.loc
def pown (d:Disk) (p:Plan) (g:Geom) (guest:Int):Plan×Int×Int:=
 if guest<0\/g.guest<=guest then (p,0,10) else if (zF d p).2≠0 then (p,0,(zF d p).2) else pown2 d p g (zF d p).1.l1 (guest / 16)
def ziT (d:Disk) (p q:Plan) (t i:Int) (x:Ent2):Plan×Int:=
  if (eget d q t i).2≠0 then (p,(eget d q t i).2)
  else if (eget d q t i).1.kind=1 then
    (if (radd d q (eget d q t i).1.loc (-1)).2≠0 then (p,(radd d q (eget d q t i).1.loc (-1)).2)
     else if (eset d (radd d q (eget d q t i).1.loc (-1)).1 t i x).2≠0 then (p,(eset d (radd d q (eget d q t i).1.loc (-1)).1 t i x).2) else ((eset d (radd d q (eget d q t i).1.loc (-1)).1 t i x).1,0))
  else if (eset d q t i x).2≠0 then (p,(eset d q t i x).2) else ((eset d q t i x).1,0)
def ppoint (d:Disk) (p:Plan) (g:Geom) (guest:Int) (x:Ent2):Plan×Int:=
 if (pown d p g guest).2.2≠0 then (p,(pown d p g guest).2.2) else ziT d p (pown d p g guest).1 (pown d p g guest).2.1 (guest % 16) x
def DP.pfill {d:Disk} {p:Plan} (h:DP d p) (a b:Int):DP d (pfill d p a b).1:=by unfold Aw.pfill;split;exact h.eblank _;exact h.ecopy _ _
def DP.pless {d:Disk} {p:Plan} (h:DP d p) (a:Int):DP d (pless d p a).1:=by unfold Aw.pless;split;exact h;exact h.radd _ _
def DP.pfresh {d:Disk} {p:Plan} (h:DP d p) (g:Geom) (l1 i fr:Int):DP d (pfresh d p g l1 i fr).1:=by
 unfold Aw.pfresh;split
 .exact h
 split
 .exact h
 split
 .exact h
 split
 .exact h
 .exact (((h.rtake g).pfill _ _).pless _).eset _ _ _
def DP.pown {d:Disk} {p:Plan} (h:DP d p) (g:Geom) (guest:Int):DP d (pown d p g guest).1:=by
 unfold Aw.pown;split
 .exact h
 split
 .exact h
 unfold Aw.pown2;split
 .exact h
 split
 .exact h
 split
 .exact h.pfresh _ _ _ _
 split
 .exact h
 split
 .exact h
 .exact h.pfresh _ _ _ _
def DP.ppoint {d:Disk} {p:Plan} (h:DP d p) (g:Geom) (guest:Int) (x:Ent2):DP d (ppoint d p g guest x).1:=by
 have J:=h.pown g guest;unfold Aw.ppoint;split
 .exact h
 unfold ziT;split
 .exact h
 split
 .split
  .exact h
  split
  .exact h
  .exact (J.radd _ _).eset _ _ _
 .split
  .exact h
  .exact J.eset _ _ _
def zq2 (d:Disk) (p:Plan) (g:Geom) (l1 i fr:Int) (hp:DP d p/\g.host<=1000000):AC 387 [diskA d,planA p,geomA g,.d (.int .i64 l1),.d (.int .i64 i),.d (.int .i64 fr)] (.tup [planA (pfresh d p g l1 i fr).1,.d (.int .i64 (pfresh d p g l1 i fr).2.1),.d (.int .i64 (pfresh d p g l1 i fr).2.2)]):=by
 obtain ⟨h,hg⟩:=hp;refine fbod func387 ntmps387 (λbase=>?_);have h1:=h.rtake g;have h2:=h1.p;rw [pfresh];obtain ⟨T,hT⟩:∃T,T=rtake d p g:=⟨_,rfl⟩
 rw [<-hT] at h1 h2 |-;by_cases k3:fr<0
 .have jt:decide (fr<0)=true:=af k3;have jk:decide (0<=fr)=false:=ag fT;have e1:∀q k,pfill d q fr k=eblank q k:=λq k=>by rw [pfill,aa k3]
  have e2:∀q,pless d q fr=(q,0):=λq=>by rw [pless,aa k3]
  simp only [e1,e2];have J:=h1.eblank T.2.1;obtain ⟨B,hB⟩:∃B,B=eblank T.1 T.2.1:=⟨_,rfl⟩
  rw [<-hB] at J |-;obtain ⟨C,hC⟩:∃C,C=eset d B.1 l1 i ⟨1,T.2.1⟩:=⟨_,rfl⟩
  rw [<-hC];refine' walkW (zat jt jk hT.symm hB.symm hC.symm) (za zaW <| za zif <| za zju <| za zcH <| za zgc <| zb _);all_goals (clear h1 h2 J hT hB hC e1 e2 jt jk;simp_all;done)
 .have jt:decide (fr<0)=false:=ag k3;have jk:decide (0<=fr)=true:=af fT;have e1:∀q k,pfill d q fr k=ecopy d q fr k:=λq k=>by rw [pfill,U k3]
  have e2:∀q,pless d q fr=radd d q fr (-1):=λq=>by rw [pless,U k3]
  simp only [e1,e2];have J:=h1.ecopy fr T.2.1;obtain ⟨B,hB⟩:∃B,B=ecopy d T.1 fr T.2.1:=⟨_,rfl⟩
  rw [<-hB] at J |-;have h4:=J.radd fr (-1);obtain ⟨N,hN⟩:∃N,N=radd d B.1 fr (-1):=⟨_,rfl⟩
  rw [<-hN] at h4 |-;obtain ⟨C,hC⟩:∃C,C=eset d N.1 l1 i ⟨1,T.2.1⟩:=⟨_,rfl⟩
  rw [<-hC];refine' walkW (zr jt jk hT.symm hB.symm hN.symm hC.symm) (za zaW <| za zif <| za zju <| za zcH <| za zgc <| zb _);all_goals (clear h1 h2 J h4 hT hB hC hN e1 e2 jt jk;simp_all;done)
@[go_sem] def zig:Ent Tryz.prog 387:= .m6 zC z7 zet (intT .i64) (intT .i64) (intT .i64) zq2
def zxi (d:Disk) (p:Plan) (g:Geom) (k:Int) (hp:DP d p/\g.host<=1000000/\g.guest<=1000000):AC 340 [diskA d,planA p,geomA g,.d (.int .i64 k)] (.tup [planA (pown d p g k).1,.d (.int .i64 (pown d p g k).2.1),.d (.int .i64 (pown d p g k).2.2)]):=by
 obtain ⟨h,hg,hh⟩:=hp;refine fbod func340 ntmps340 (λbase=>?_);by_cases hk:k<0\/g.guest<=k
 .have J:(decide (k<0)||decide (g.guest<=k))=true:=by simpa using hk
  refine' walkW J (za zJ <| za zdU <| za zaw <| za zig <| zb _);rw [pown,aa hk]
 have J:(decide (k<0)||decide (g.guest<=k))=false:=pd;rw [pown,U hk];obtain ⟨R,hR⟩:∃R,R=zF d p:=⟨_,rfl⟩
 rw [<-hR];have ab:IntKind.i64.wrap (k.tdiv 16)=k / 16:=uv;obtain ⟨I,hI⟩:∃I,I=k / 16:=⟨_,rfl⟩
 rw [<-hI];obtain ⟨X,hX⟩:∃X,X=eget d p R.1.l1 I:=⟨_,rfl⟩
 obtain ⟨N,hN⟩:∃N,N=rget d p X.1.loc:=⟨_,rfl⟩
 rw [pown2,<-hX,<-hN];refine' walkW (zr J ab hR.symm hI.symm hX.symm hN.symm) (za zJ <| za zdU <| za zaw <| za zig <| zb _);all_goals (clear hR hI hX hN ab J;first|(simp_all;done)|(simp_all;simp only [U (show ¬N.1<=1 by omega)];simp;done))
@[go_sem] def zkB:Ent Tryz.prog 340:= .m4 zC z7 zet (intT .i64) zxi
def zq3 (d:Disk) (p:Plan) (g:Geom) (k:Int) (x:Ent2) (hp:DP d p/\g.host<=1000000/\g.guest<=1000000):AC 272 [diskA d,planA p,geomA g,.d (.int .i64 k),entA x] (.tup [planA (ppoint d p g k x).1,.d (.int .i64 (ppoint d p g k x).2)]):=by
 obtain ⟨h,hg,hh⟩:=hp;refine fbod func272 ntmps272 (λbase=>?_);have h1:=h.pown g k;by_cases he:(pown d p g k).2.2=0
 .have J:((pown d p g k).2.2 !=0)=false:=by simpa using he
  have gk:0<=k/\k<g.guest:=by
   unfold pown at he;by_cases hk:k<0\/g.guest<=k
   .rw [aa hk] at he;cases he
   .omega
  rw [ppoint,U gp];obtain ⟨O,hO⟩:∃O,O=pown d p g k:=⟨_,rfl⟩
  rw [<-hO] at h1 |-;have a6:k.tmod 16=k % 16:=bX fT;obtain ⟨I,hI⟩:∃I,I=k % 16:=⟨_,rfl⟩
  obtain ⟨X,hX⟩:∃X,X=eget d O.1 O.2.1 I:=⟨_,rfl⟩
  have h2:=h1.radd X.1.loc (-1);obtain ⟨N,hN⟩:∃N,N=radd d O.1 X.1.loc (-1):=⟨_,rfl⟩
  rw [<-hN] at h2;obtain ⟨S,hS⟩:∃S,S=eset d N.1 O.2.1 I x:=⟨_,rfl⟩
  obtain ⟨S',pA⟩:∃S',S'=eset d O.1 O.2.1 I x:=⟨_,rfl⟩
  rw [ziT,<-hI,<-hX,<-hN,<-hS,<-pA];rw [<-hO] at J;have mB:eset d N.1 O.2.1 I ⟨x.kind,x.loc⟩=S:=hS.symm;have kZ:eset d O.1 O.2.1 I ⟨x.kind,x.loc⟩=S':=pA.symm;refine' walkW (zr a6 hO.symm hI.symm hX.symm hN.symm (zp J mB kZ)) (za zkB <| za zdU <| za zcH <| za zgc <| zb _);all_goals (clear hO hI hX hN hS pA mB kZ a6 h1 h2 J;simp_all;done)
 .have J:((pown d p g k).2.2 !=0)=true:=by simpa using he
  refine' walkW J (za zkB <| za zdU <| za zcH <| za zgc <| zb _);rw [ppoint,aa he]
@[go_sem] def zah:Ent Tryz.prog 272:= .m5 zC z7 zet (intT .i64) zhA zq3
def wkP (q:Plan) (g:Geom) (d:Disk) (e:Int):List AV:= [.d (.sl 1 (q.targets.map intD)),.d (.sl 1 (q.texts.map strD)),.d (.int .i64 g.guest),.d (.int .i64 g.host),.d (.str d.data),.d (.sl 2 (d.cache.map putD)),.d (.int .i64 d.fuse),.d (.bool d.off),.d (.sl 1 (d.bad.map intD)),.d (.int .i64 e)]
attribute [go_sem] wkP
def zkE {fl fl':Nat} {f:FuncId} {caps:List AV} {h:AHeap} {K:AHeap->Prop} {q:Plan} {g:Geom} {d:Disk} {e:Int} (gy:∀i,(hget h i).isSome->i<fl) (hle:fl'<=fl) (hw:hget h 5=some (.var (wkP q g d e)))
  (hk:∀h',K h'->∀i,(hget h i).isSome->(hget h' i).isSome)
  (h1:e≠0->K h)
  (h2:e=0->ACallAt Tryz.prog fl f caps h (λr h'=>∃q' e',r= .tup [planA q',.d (.int .i64 e')]/\hget h' 5=some (.var (wkP q g d e))/\K (hset h' 5 (.var (wkP q' g d e'))))):
  ACallAt Tryz.prog fl' 406 [.vp 5 0,.fn (.func f) [] caps] h (λr h'=>r= .tup []/\K h'):=by
 refine ACall.whole (fl:=fl) ?_ gy hle (λr h' hr=>hk h' hr.2);refine bod func406 ntmps406 (λbase=>?_);cases he:(e==0) with
 |false=>
  have tg:e≠0:=gp;simp only [wkP] at hw;refine' zc (zg hw he);exact h1 tg
 |true=>
  have tg:e=0:=gp;have h2:=h2 tg;simp only [wkP] at hw;refine' zc (zg hw he);refine h2.mono ?_;rintro r h' ⟨q',e',rfl,rJ,hK⟩;simp only [wkP] at rJ;have J:∀o,hget (hset h' 5 o) 5=some o:=λo=>zi rJ;have eg:∀a b,hset (hset h' 5 a) 5 b=hset h' 5 b:=λa b=>ziK h' 5 a b;simp only [go_sem,rJ,J,eg];refine' zc (zp rJ J eg)
structure Wk where
 q:Plan
 e:Int
def wcount (d:Disk) (s:Wk) (k dt:Int):Wk:=if s.e≠0 then s else ⟨(radd d s.q k dt).1,(radd d s.q k dt).2⟩
def wset (d:Disk) (s:Wk) (t i:Int) (x:Ent2):Wk:=if s.e≠0 then s else ⟨(eset d s.q t i x).1,(eset d s.q t i x).2⟩
def wget (d:Disk) (s:Wk) (t i:Int):Ent2×Wk:=if s.e≠0 then (⟨0,0⟩,s) else ((eget d s.q t i).1,⟨s.q,(eget d s.q t i).2⟩)
def zeF (d:Disk) (s:Wk) (k:Int):Int×Wk:=if s.e≠0 then (0,s) else ((rget d s.q k).1,⟨s.q,(rget d s.q k).2⟩)
@[go_sem] abbrev zs2 (g:Geom) (d:Disk) (s:Wk) (k dt:Int):AHeap:= [(42,.var [.d (.int .i64 dt)]),(41,.var [.d (.int .i64 k)]),(40,.var [.vp 5 0]),(5,.var (wkP s.q g d s.e))]
def zxt (g:Geom) (d:Disk) (s:Wk) (k dt:Int) (h:DP d s.q):ACall Tryz.prog 415 80 [.vp 40 0,.vp 41 0,.vp 42 0] (zs2 g d s k dt) (λr h'=>r= .tup [planA (radd d s.q k dt).1,.d (.int .i64 (radd d s.q k dt).2)]/\h'=zs2 g d s k dt):=by refine' Fs;refine bod func415 ntmps415 (λbase=>?_);refine' Dh
def zs3 (g:Geom) (d:Disk) (s:Wk) (k dt:Int) (h:DP d s.q):ACall Tryz.prog 372 40 [.vp 5 0,.d (.int .i64 k),.d (.int .i64 dt)] [(5,.var (wkP s.q g d s.e))] (λr h'=>∃aZ,h'= [(5,aZ)]/\r= .tup []/\aZ= .var (wkP (wcount d s k dt).q g d (wcount d s k dt).e)):=by
 refine' Ea;refine bod func372 ntmps372 (λbase=>?_);refine' Ds;refine (zkE (fl:=60) (K:=λh'=>(s.e≠0/\h'=zs2 g d s k dt)\/(s.e=0/\h'=hset (zs2 g d s k dt) 5 (.var (wkP (radd d s.q k dt).1 g d (radd d s.q k dt).2)))) (zV rfl) fT rfl ?_ ?_ ?_).mono ?_
 .refine' HI
  .exact hi
  .rw [zbr iz];refine' Dp;all_goals simp
 .intro he;exact .inl ⟨he,rfl⟩
 .intro he
  refine ((zxt g d s k dt h).whole (zV rfl) fT (by refine' Dm;all_goals simp)).mono ?_
  refine' Cp;refine' Hy
 .refine' Gi
  .have hm:wcount d s k dt=s:=by rw [wcount,aa he]
   rw [hm];refine' Ds;all_goals first|rfl|exact ⟨_,rfl,rfl⟩|exact ⟨_,rfl,kP⟩|skip
  .have hm:wcount d s k dt=⟨(radd d s.q k dt).1,(radd d s.q k dt).2⟩:=by rw [wcount,U lz]
   rw [hm];refine' Ds;all_goals first|rfl|exact ⟨_,rfl,rfl⟩|exact ⟨_,rfl,kP⟩|skip
@[go_sem] abbrev hSet (g:Geom) (d:Disk) (s:Wk) (t i:Int) (x:Ent2):AHeap:= [(43,.var [.d (.int .i64 x.kind),.d (.int .i64 x.loc)]),(42,.var [.d (.int .i64 i)]),(41,.var [.d (.int .i64 t)]),(40,.var [.vp 5 0]),(5,.var (wkP s.q g d s.e))]
def zCQ (g:Geom) (d:Disk) (s:Wk) (t i:Int) (x:Ent2) (h:DP d s.q):ACall Tryz.prog 416 80 [.vp 40 0,.vp 41 0,.vp 42 0,.vp 43 0] (hSet g d s t i x) (λr h'=>r= .tup [planA (eset d s.q t i x).1,.d (.int .i64 (eset d s.q t i x).2)]/\h'=hSet g d s t i x):=by refine' Fs;refine bod func416 ntmps416 (λbase=>?_);refine' Dh
def zs4 (g:Geom) (d:Disk) (s:Wk) (t i:Int) (x:Ent2) (h:DP d s.q):ACall Tryz.prog 373 40 [.vp 5 0,.d (.int .i64 t),.d (.int .i64 i),entA x] [(5,.var (wkP s.q g d s.e))] (λr h'=>∃aZ,h'= [(5,aZ)]/\r= .tup []/\aZ= .var (wkP (wset d s t i x).q g d (wset d s t i x).e)):=by
 refine' Ea;refine bod func373 ntmps373 (λbase=>?_);refine' Ds;refine (zkE (fl:=60) (K:=λh'=>(s.e≠0/\h'=hSet g d s t i x)\/(s.e=0/\h'=hset (hSet g d s t i x) 5 (.var (wkP (eset d s.q t i x).1 g d (eset d s.q t i x).2)))) (zV rfl) fT rfl ?_ ?_ ?_).mono ?_
 .refine' HI
  .exact hi
  .rw [zbr iz];refine' Dp;all_goals simp
 .intro he;exact .inl ⟨he,rfl⟩
 .intro he
  refine ((zCQ g d s t i x h).whole (zV rfl) fT (by refine' Dm;all_goals simp)).mono ?_
  refine' Cp;refine' Hy
 .refine' Gi
  .have hm:wset d s t i x=s:=by rw [wset,aa he]
   rw [hm];refine' Ds;all_goals first|rfl|exact ⟨_,rfl,rfl⟩|exact ⟨_,rfl,kP⟩|skip
  .have hm:wset d s t i x=⟨(eset d s.q t i x).1,(eset d s.q t i x).2⟩:=by rw [wset,U lz]
   rw [hm];refine' Ds;all_goals first|rfl|exact ⟨_,rfl,rfl⟩|exact ⟨_,rfl,kP⟩|skip
@[go_sem] abbrev hGet (g:Geom) (d:Disk) (s:Wk) (t i:Int):AHeap:= [(43,.var [.d (.int .i64 0),.d (.int .i64 0)]),(42,.var [.d (.int .i64 i)]),(41,.var [.d (.int .i64 t)]),(40,.var [.vp 5 0]),(5,.var (wkP s.q g d s.e))]
@[go_sem] abbrev hGet2 (g:Geom) (d:Disk) (s:Wk) (t i:Int):AHeap:= [(43,.var [.d (.int .i64 (eget d s.q t i).1.kind),.d (.int .i64 (eget d s.q t i).1.loc)]),(42,.var [.d (.int .i64 i)]),(41,.var [.d (.int .i64 t)]),(40,.var [.vp 5 0]),(5,.var (wkP s.q g d s.e))]
def zCR (g:Geom) (d:Disk) (s:Wk) (t i:Int) (h:DP d s.q):ACall Tryz.prog 414 80 [.vp 40 0,.vp 41 0,.vp 42 0,.vp 43 0] (hGet g d s t i) (λr h'=>r= .tup [planA s.q,.d (.int .i64 (eget d s.q t i).2)]/\h'=hGet2 g d s t i):=by refine' Fs;refine bod func414 ntmps414 (λbase=>?_);refine' Dh
def zBS (g:Geom) (d:Disk) (s:Wk) (t i:Int) (h:DP d s.q):ACall Tryz.prog 371 40 [.vp 5 0,.d (.int .i64 t),.d (.int .i64 i)] [(5,.var (wkP s.q g d s.e))] (λr h'=>∃aZ,h'= [(5,aZ)]/\r=entA (wget d s t i).1/\aZ= .var (wkP ((wget d s t i).2).q g d ((wget d s t i).2).e)):=by
 refine' Ea;refine bod func371 ntmps371 (λbase=>?_);refine' Ds;refine (zkE (fl:=60) (K:=λh'=>(s.e≠0/\h'=hGet g d s t i)\/(s.e=0/\h'=hset (hGet2 g d s t i) 5 (.var (wkP s.q g d (eget d s.q t i).2)))) (zV rfl) fT rfl ?_ ?_ ?_).mono ?_
 .refine' HI
  .exact hi
  .rw [zbr iz];refine' Dp;all_goals simp
 .intro he;exact .inl ⟨he,rfl⟩
 .intro he
  refine ((zCR g d s t i h).whole (zV rfl) fT (by refine' Dm;all_goals simp)).mono ?_
  refine' Cp;refine' Hy
 .refine' Gi
  .have hm:wget d s t i=(⟨0,0⟩,s):=by rw [wget,aa he]
   refine' zc hm;all_goals first|rfl|exact ⟨_,rfl,rfl⟩|exact ⟨_,rfl,kP⟩|skip
  .have hm:wget d s t i=((eget d s.q t i).1,⟨s.q,(eget d s.q t i).2⟩):=by rw [wget,U lz]
   refine' zc hm;all_goals first|rfl|exact ⟨_,rfl,rfl⟩|exact ⟨_,rfl,kP⟩|skip
@[go_sem] abbrev zs5 (g:Geom) (d:Disk) (s:Wk) (k:Int):AHeap:= [(42,.var [.d (.int .i64 0)]),(41,.var [.d (.int .i64 k)]),(40,.var [.vp 5 0]),(5,.var (wkP s.q g d s.e))]
@[go_sem] abbrev zo6 (g:Geom) (d:Disk) (s:Wk) (k:Int):AHeap:= [(42,.var [.d (.int .i64 (rget d s.q k).1)]),(41,.var [.d (.int .i64 k)]),(40,.var [.vp 5 0]),(5,.var (wkP s.q g d s.e))]
def zq6 (g:Geom) (d:Disk) (s:Wk) (k:Int) (h:DP d s.q):ACall Tryz.prog 441 80 [.vp 40 0,.vp 41 0,.vp 42 0] (zs5 g d s k) (λr h'=>r= .tup [planA s.q,.d (.int .i64 (rget d s.q k).2)]/\h'=zo6 g d s k):=by refine' Fs;refine bod func441 ntmps441 (λbase=>?_);refine' Dh
def zuE (g:Geom) (d:Disk) (s:Wk) (k:Int) (h:DP d s.q):ACall Tryz.prog 411 40 [.vp 5 0,.d (.int .i64 k)] [(5,.var (wkP s.q g d s.e))] (λr h'=>∃aZ,h'= [(5,aZ)]/\r= .d (.int .i64 (zeF d s k).1)/\aZ= .var (wkP ((zeF d s k).2).q g d ((zeF d s k).2).e)):=by
 refine' Ea;refine bod func411 ntmps411 (λbase=>?_);refine' Ds;refine (zkE (fl:=60) (K:=λh'=>(s.e≠0/\h'=zs5 g d s k)\/(s.e=0/\h'=hset (zo6 g d s k) 5 (.var (wkP s.q g d (rget d s.q k).2)))) (zV rfl) fT rfl ?_ ?_ ?_).mono ?_
 .refine' HI
  .exact hi
  .rw [zbr iz];refine' Dp;all_goals simp
 .intro he;exact .inl ⟨he,rfl⟩
 .intro he
  refine ((zq6 g d s k h).whole (zV rfl) fT (by refine' Dm;all_goals simp)).mono ?_
  refine' Cp;refine' Hy
 .refine' Gi
  .have hm:zeF d s k=(0,s):=by rw [zeF,aa he]
   refine' zc hm;all_goals first|rfl|exact ⟨_,rfl,rfl⟩|exact ⟨_,rfl,kP⟩|skip
  .have hm:zeF d s k=((rget d s.q k).1,⟨s.q,(rget d s.q k).2⟩):=by rw [zeF,U lz]
   refine' zc hm;all_goals first|rfl|exact ⟨_,rfl,rfl⟩|exact ⟨_,rfl,kP⟩|skip
def zrm {p:Plan} {r:Root} (hp:pfit p=true):pfit (zgb p r).1=true:=by
 unfold zgb;split
 .exact hp
 .exact zfm hp
end
end Go.Aw
