/- Lemmas. -/
import Derived.Test.YtgldbfelccddbaaGreatApa42
import Derived.Test.YtgldbfelccddbaaGreatApa38
set_option linter.all false
set_option maxRecDepth 100000
set_option maxHeartbeats 2000000
namespace Go.Aw
noncomputable section
open Go Go.Proofs Go.Proofs.YtgldbfelccddbaaGreat Go.Proofs.Tryz
def optFs:List FuncId:= [238,239,240,241,241,242,243,243]
def optKs:List D:= [.int .u32 1,.int .u32 2,.int .u32 3,.int .u32 6,.int .u32 7,.int .u32 8,.int .u32 9,.int .u32 10]
def optA (i:Nat):AV:= .amap optKs (optFs.map λf=> .fn (.func f) [.tp i 0] [])
def zyf {W:World} {E:Env} {h:AHeap} {i:Nat} {v:Value} (J:Rep W E h (.tp i 0) v):∀l:List FuncId,Reps W E h (l.map λf=> .fn (.func f) [.tp i 0] []) (l.map λf=>Value.func (.func f) #[v] #[])
 | []=>nr
 |f::l=>by simp only [au,Reps];refine ⟨_,_,rfl,?_,zyf J l⟩;simp only [Rep,Reps];exact ⟨_,_,rfl,⟨_,_,rfl,J,rfl⟩,rfl⟩
def zva {fl i:Nat} {h:AHeap} {T:TypeId} {cs:List AV} (hi:hget h i=some (.tvar T cs)):ACallAt Tryz.prog fl 174 [.tp i 0] h (λr h'=>r=optA i/\h'=h):=by
  refine ⟨zcR func174 fX rfl,λE w vs hs hr=>?_⟩;refine' Gt;have iY:vs= #[.pointer (some ⟨b,0,none⟩)]:=od;subst iY;refine (zny ⟨b,0,none⟩ w).mono ?_;rintro e w3 ⟨rfl,mes,c,rfl,rm,iY⟩;have k3:=zcj fl h
  have ch:Chg E h w E h (w.alloc (.map mes c)) (fresh fl h):=
    { os:=rfl,tape:=rfl,output:=rfl,size:=fZ,envO:=λ_ _=>rfl,envC:=λ_ _=>rfl,M:=rfl,N:=rfl,hh:=λ_ _=>rfl,
      gi:=by simp [GoesOn,k3]
      blk:=λk hk _=>zdF w _ hk
      new:=λk ga _=>by rw [k3] at ga;cases ga }
  have eg:=ch.satH hs (λob ec=>by rw [k3] at ec;cases ec);refine ⟨_,_,_,_,rfl,⟨rfl,rfl⟩,eg,?_,ch.evoC (.inr (zbg _ _)),λx y jI=>ch.rep jI⟩;simp only [optA,Rep];refine ⟨w.heap.size,mes,c,rfl,?_,by rw [dB],by rw [rm];rfl,?_⟩
  · rintro (J|J|J)
    · exact Nat.lt_irrefl _ (hs.own _ J).1
    · exact Nat.lt_irrefl _ (hs.mlt _ J)
    · exact Nat.lt_irrefl _ (hs.nlt _ J)
  · rw [iY]
    exact zyf (ch.rep px) optFs
def ACallAt.below {P:Program} {f:FuncId} {args:List AV} {fl:Nat} {h:AHeap} {K:AV->AHeap->Prop} (hc:ACallAt P fl f args h K):ACall P f fl args h K:=by refine ⟨hc.1,λE w vs J hr=>(hc.2 E w vs J hr).mono ?_⟩;rintro e w' ⟨v,E',r,h',h1,h2,h3,h4,h5,_⟩;exact ⟨v,E',r,h',h1,h2,h3,h4,h5⟩
def zma (s:NW):ACall Tryz.prog 174 6 [.tp 3 0] (nwH s) (λr h'=>r=optA 3/\h'=nwH s):=(zva (T:=182) (cs:=nwC s) rfl).below
def zDb (s:NW) (h:NwOk s):ACall Tryz.prog 175 7 [.vp 6 0] ((6,.var [.tp 3 0])::nwH s) (λr h'=>r= .tup []/\h'=(6,.var [.tp 3 0])::nwH (nwSay s 2147483649 [])):=by refine bod func175 ntmps175 (λbase=>?_);refine' Ds;refine (zcU (zdK s 2147483649 [] h gb gb) rfl ⟨rfl,rfl,trivial⟩ (nw_cl h) ⟨rfl,trivial⟩ rfl).mono ?_;refine' Cp;rfl
def zDc (s:NW) (h:NwOk s) (J:s.out.length<=10000000000000) (hp:s.n.phase=1):
  (∃j f,aix (.int .u32 s.k) optKs=some j/\(optFs.map λf=>AV.fn (.func f) [.tp 3 0] []).getD j .any= .fn (.func f) [.tp 3 0] []/\ACall Tryz.prog f 6 [.tp 3 0] (nwH s) (λr h'=>r= .tup []/\h'=nwH (nwOpt s)))\/(aix (.int .u32 s.k) optKs=none/\nwOpt s=nwSay s 2147483649 []):=by
 by_cases k1:s.k=1
 .exact .inl ⟨_,_,by rw [k1];rfl,rfl,zAX s h J k1⟩
 by_cases k2:s.k=2
 .exact .inl ⟨_,_,by rw [k2];rfl,rfl,zx9 s h k2⟩
 by_cases k3:s.k=3
 .exact .inl ⟨_,_,by rw [k3];rfl,rfl,zAY s h J hp k3⟩
 by_cases k6:s.k=6
 .exact .inl ⟨_,_,by rw [k6];rfl,rfl,ztv s h J hp (.inl k6)⟩
 by_cases k7:s.k=7
 .exact .inl ⟨_,_,by rw [k7];rfl,rfl,ztv s h J hp (.inr k7)⟩
 by_cases k8:s.k=8
 .exact .inl ⟨_,_,by rw [k8];rfl,rfl,zu7 s h J hp k8⟩
 by_cases k9:s.k=9
 .exact .inl ⟨_,_,by rw [k9];rfl,rfl,zu9 s h J hp k9⟩
 by_cases uw:s.k=10
 .exact .inl ⟨_,_,by rw [uw];rfl,rfl,zrD s h J hp uw⟩
 refine .inr ⟨?_,?_⟩
 .simp [optKs,aix,sameS,k1,k2,k3,k6,k7,k8,k9,uw]
 .rw [zdc (m:=s.n) (t:=sayS s.k 2147483649 []) k1 (by unfold ngOpt;rw [U k1,U k2,U k3,U fT,U k8,U fT])];rw [show ngClr s.n=s.n from U fT];rfl
def ngFlg (n:Ng):Ng:= { n with buf:=n.buf.drop 4,phase:=if numAt n.buf 0 4=1\/numAt n.buf 0 4=3 then 1 else 3,brief:=numAt n.buf 0 4==3 }
def nwFlg (s:NW):NW:=if s.n.buf.length<4 then s else { s with n:=ngClr (ngFlg s.n) }
def zA0 (s:NW) (hb:s.n.buf.length<=100000000000000):ACall Tryz.prog 96 6 [.tp 3 0] (nwH s) (λr h'=>r= .d (.bool (decide (4<=s.n.buf.length)))/\h'=nwH (nwFlg s)):=by
 have ic:takeS s.n.buf 4=if s.n.buf.length<4 then (0,[],22) else (((numAt s.n.buf 0 4:Nat):Int),s.n.buf.drop 4,0):=by
  rw [takeS,U gb];by_cases J:s.n.buf.length<4
  .rw [aa J,aa fT]
  .rw [U J,U fT];rfl
 by_cases J:s.n.buf.length<4
 .rw [aa J] at ic;have hd:decide (4<=s.n.buf.length)=false:=ag fT;have e:nwFlg s=s:=aa J;rw [e];refine bod func96 ntmps96 (λbase=>?_);refine' walkW ic (za zaN <| zb _);rw [hd]
 .rw [U J] at ic;have hd:decide (4<=s.n.buf.length)=true:=af fT;have e:nwFlg s= { s with n:=ngClr (ngFlg s.n) } :=U J;rw [e];obtain ⟨N,hN⟩:∃N,N=numAt s.n.buf 0 4:=⟨_,rfl⟩
  have eg:ngClr (ngFlg s.n)=ngClr { s.n with buf:=s.n.buf.drop 4,phase:=if N=1\/N=3 then 1 else 3,brief:=N==3 } :=by rw [hN];rfl
  rw [<-hN] at ic;rw [eg]
  have e3:((N:Int)==3)=(N==3):=by
   by_cases e:N=3
   .rw [e];rfl
   .rw [ej e,ej (show (N:Int)≠3 by omega)]
  by_cases hk:N=1\/N=3
  .rw [aa hk];have iB:((N:Int) !=1&&(N:Int) !=3)=false:=by rcases hk with rfl|rfl<;>rfl
   rw [ngClr,U (by show ¬(1:Int)=3;decide)];refine' I3;all_goals first|rw [hd]|rfl
  .rw [U hk];have iB:((N:Int) !=1&&(N:Int) !=3)=true:=gh;rw [ngClr,aa rfl];refine' I3;refine (zaH (ztu { s with n:= { s.n with buf:=s.n.buf.drop 4,phase:=1,brief:=N==3 } })).mono ?_;refine' Cp;refine' walkW (zp ic e3 iB) (za zaN <| zb _);all_goals first|rw [hd]|rfl
open Go Go.Proofs Go.Proofs.Tryz
def nwGot (s:NW):NW:= { s with n:= { s.n with buf:=(optRd s.n.buf).2.1 },k:=(optRd s.n.buf).1.1,d:=(optRd s.n.buf).1.2 }
def zfT (s:NW):NW:=if (optRd s.n.buf).2.2=22 then s else if (optRd s.n.buf).2.2≠0 then { s with n:= { s.n with phase:=3,buf:= [] } } else nwOpt (nwGot s)
def NwOk.got {s:NW} (h:NwOk s) (he:(optRd s.n.buf).2.2=0):NwOk (nwGot s):=by
 obtain ⟨_,_,h3,e⟩:=zfS he;have J:=zbA s.n.buf 8 4;refine ⟨h.p,h.out,?_,?_,?_,h.z0,h.z1,h.names,h.name⟩
 .simp only [nwGot,e];omega
 .simp only [nwGot,e];have:256 ^ 4=4294967296:=gb;omega
 .simp only [nwGot,e,az];omega
def nw_pi {s:NW} (h:NwOk s):(s.p.ids.all λi=>decide (i<6))=true:=by
 rcases h.p with e|e<;>rw [e]<;>rfl
def zpv {n:Ng} {x:Xp} {kk:Int} {d:Txt} (hc:(ctxs x.names).length<=1001):(ngOpt n x kk d).2.length<=10000000:=by
 have J:∀k t,(sayS kk k t).length<=4116:=λk t=>zcg ..;have hz:(sizeS x.size).length=10:=qO
 have hm:∀ (l:List Txt) (k:Nat) (C:List Txt) (t:Txt) (ids:List Int),(zaK kk l k C t ids).1.length<=t.length+4116*C.length:=by
  intro l k C;induction C generalizing k with
  |nil=>intro t ids;simp [zaK]
  | cons c C ih=>
   intro t ids;rw [zaK];have:=J 4 (putS8 ((k+1:Nat):Int) 4++c);split
   .refine aD (ih _ _ _) ?_;rw [ae,aC];omega
   .refine aD (ih _ _ _) ?_;rw [aC];omega
 unfold ngOpt zbE;repeat' split
 all_goals
  dsimp only;first
  |(simp only [aM];omega)
  |(exact aD (J _ _) fT)
  |simp only [ae]
 all_goals
  first
  |(rw [hz];simp only [aM,bB];omega)
  |(have h1:=J 2 (zfP [100,105,115,107]);have h2:=J 1 [];omega)
  |(have h1:=J 3 ([0,0]++sizeS x.size);have h2:=J 1 [];omega)
  |(have h1:=hm (zb2 d).2.1 0 (ctxs x.names) [] [];have h2:=J 1 [];simp only [aM] at h1;omega)
def zkV {s:NW} (h:NwOk s):(ngOpt s.n s.x s.k s.d).2.length<=10000000:=zpv (znw h).1
def ztz {s:NW} (h:NwOk s) (J:s.out.length<=10000000000000):NwOk (nwOpt s):=by
 have hl:=zkV h;refine ⟨?_,?_,h.k0,h.k1,h.d,h.z0,h.z1,h.names,h.name⟩
 .unfold nwOpt;dsimp only;split
  .exact h.p
  .exact .inr rfl
 .show (s.out++(ngOpt s.n s.x s.k s.d).2).length<=_;rw [ae];omega
def zyg (s:NW) (h:NwOk s) (ho:s.out.length<=10000000000000) (hb:s.n.buf.length<=100000000000000) (hp:s.n.phase=1):ACall Tryz.prog 97 6 [.tp 3 0] (nwH s) (λr h'=>r= .d (.bool ((optRd s.n.buf).2.2 !=22))/\h'=nwH (zfT s)):=by
 obtain ⟨O,hO⟩:∃O,O=optRd s.n.buf:=⟨_,rfl⟩
 refine zD (λi=>decide (i<6)) ?_;have gJ:=nw_pi h;by_cases gl:O.2.2=22
 .have e:zfT s=s:=aa (hO ▸ gl);have gE:(O.2.2==22)=true:=nd;have b3:(O.2.2 !=22)=false:=nd;rw [e,<-hO,b3];refine bod func97 ntmps97 (λbase=>?_);refine' walkW (zp hO.symm gE gJ) (za zfr <| zb _);rfl
 have gE:(O.2.2==22)=false:=nd;have b3:(O.2.2 !=22)=true:=nd;by_cases h0:O.2.2=0
 .have ji:(O.2.2==0)=true:=by simpa using h0
  have e:zfT s=nwOpt (nwGot s):=by rw [zfT,<-hO,U gl,U (λe=>e h0)]
  obtain ⟨u,hu⟩:∃u,u=nwGot s:=⟨_,rfl⟩
  have o8:NwOk u:=by rw [hu];exact h.got (hO ▸ h0)
  have wF:u.out.length<=10000000000000:=by rw [hu];exact ho
  have hup:u.n.phase=1:=by rw [hu];exact hp
  have J:u.k=O.1.1:=by rw [hu,hO];rfl
  rw [e,<-hO,<-hu,b3];obtain ⟨vs,iY⟩:∃vs,vs=optFs.map λf=>AV.fn (.func f) [.tp 3 0] []:=⟨_,rfl⟩
  have wG:optA 3= .amap optKs vs:=by rw [iY];rfl
  have uy:=nw_pi (ztz o8 wF);rcases zDc u o8 wF hup with ⟨j,f,h1,h2,h3⟩|⟨h1,h2⟩
  .rw [J] at h1;rw [<-iY] at h2;refine' EJ
   .rw [hu];rfl
   .rw [hu,nwGot,<-hO];rfl
   rw [wG];simp only [go_sem,aeq,aeq.aeqF,simprocAttr,h1,h2];refine ⟨rfl,fX,?_⟩;refine' Ds;refine (zcU h3 rfl ⟨?_,?_,trivial⟩ (nw_cl o8) ⟨rfl,trivial⟩ rfl).mono ?_
   .rw [hu];rfl
   .rw [hu,nwGot,<-hO];rfl
   refine' Cp;refine' zc uy;rfl
  .rw [J] at h1;rw [h2] at uy |-;refine' EJ
   .rw [hu];rfl
   .rw [hu,nwGot,<-hO];rfl
   rw [wG];simp only [go_sem,aeq,aeq.aeqF,simprocAttr,h1];refine ⟨rfl,fX,?_⟩;refine' Ds;refine (zcU (zDb u o8) rfl ⟨rfl,?_,?_,trivial⟩ ?_ ⟨rfl,trivial⟩ rfl).mono ?_
   .rw [hu];rfl
   .rw [hu,nwGot,<-hO];rfl
   .rcases o8.p with e|e<;>simp [inH,idsH,AObj.ids,AV.idsL,AV.ids,nwC,e,hget]
   refine' Cp;refine' zc uy;rfl
 .have e:zfT s= { s with n:= { s.n with phase:=3,buf:= [] } } :=by rw [zfT,<-hO,U gl,aa h0]
  have ji:(O.2.2==0)=false:=oV;rw [e,<-hO,b3];refine bod func97 ntmps97 (λbase=>?_);refine' walkW (zp hO.symm gE ji) (za zfr <| zb _);refine (zcU (ztu s) rfl ⟨rfl,rfl,trivial⟩ (nw_cl h) ⟨rfl,trivial⟩ rfl).mono ?_;refine' Cp;refine' zc gJ;rfl
def zvz {n:Ng} {x:Xp} (hc:(ctxs x.names).length<=1001):(ngStep n x).2.1.length<=10000000:=by
 unfold ngStep;repeat' split
 all_goals first|exact ad _|exact zpv hc
def zmo {x:Xp} (hc:(ctxs x.names).length<=1001):∀ (k:Nat) (n:Ng) (out:Txt),(zbd x k n out).2.length<=out.length+10000000*k
 |0,n,out=>aj _
 | k+1,n,out=>by
  rw [zbd];split
  .split
   .have h1:=zmo hc k (ngStep n x).1 (out++(ngStep n x).2.1);have h2:=zvz (n:=n) hc;rw [ae] at h1;omega
   .exact bH _ _
  .exact bH _ _
def zi5 {n:Ng} {x:Xp} (hc:(ctxs x.names).length<=1001) (s:Txt):(zba n x s).2.length<=10000000*(n.buf.length+s.length+2):=by
 unfold zba;split
 .exact ad _
 .have:=zmo hc (n.buf.length+s.length+2) { n with buf:=n.buf++s } [];rw [aM,bL] at this;exact this
def zp2 {J:Txt} :∀ {l:List Dmap} {i:Nat},mfit J i l=true->∀m∈l,m.name.length<=8
 | [],_,_,m,hm=>kO
 |a::r,i,h,m,hm=>by
  simp only [mfit,aq,zjm,ax] at h;rcases bg.1 hm with rfl|hm
  .exact h.1.1.1.2.2
  .exact zp2 h.2 m hm
def XOk.xp {x:Img} (h:XOk x):XpF (xpOf x):=by have h1:=h.fit;unfold ifit at h1;simp only [aq] at h1;have h2:=zp2 h1.2;refine ⟨⟨by have:=h.g0;simp only [xpOf];omega,by have:=h.g1;simp only [xpOf];omega⟩,by have:=h.maps;simp only [xpOf,al];omega,λt J=>?_⟩;obtain ⟨m,hm,rfl⟩:=ba.1 J;have:=h2 m hm;omega
def XOk.ex {x:Img} (h:XOk x):ExOk x:=⟨by have:=h.g0;omega,by have:=h.g1;omega,by have:=h.maps;omega,λm hm=>h.img.ok.bits m hm⟩
def zmp {L:Nat} {x:Img} (hx:XOk x) {c:Cn} (h:CnOk L x c) (s:Txt):CnOk (L+s.length) x (zfQ { c with n:=(zba c.n (xpOf x) s).1,out:=c.out++(zba c.n (xpOf x) s).2 }):=by
 refine' Hc
 have h1:CnOk (L+s.length) x { c with n:=(zba c.n (xpOf x) s).1,out:=c.out++(zba c.n (xpOf x) s).2 } :=by
  refine ⟨zjB h.phase s,gH,hm.1,h.tasks,λt J=>?_,λb5=>?_⟩
  .refine' It
  .have h2:=h.data b5;simp only;rw [zgn h2];exact h2
 unfold zfQ;split
 .exact ziu h1
 .exact h1
def zvF {M:Nat} {x:Img} {c:Cn} (J:XOk x) (h:OutOk M c) (s:Txt) (hm:MsOk c.n.metas):OutOk (M+10010000*(c.n.buf.length+s.length+2)) (zph x c s):=by
 have h1:=zi5 (n:=c.n) (xctxs J.xp).1 s;have h2:=(zg1 (n:=c.n) (x:=xpOf x) (by have:=J.maps;simp only [xpOf,al];omega) hm s).2;unfold OutOk at h;refine zi4 _ ?_;unfold zfQ;split
 .simp only [OutOk,ze4,ae,aM];omega
 .simp only [OutOk,ae];omega
def SvOut (M:Nat) (v:Srv):Prop:=∀c∈v.conns,OutOk M c
def OutOk.more {M M2:Nat} {c:Cn} (h:OutOk M c) (J:M<=M2):OutOk M2 c:=aD h J
def SvOut.set {M M2:Nat} {v:Srv} (h:SvOut M v) (hl:M<=M2) {x:Img} {i:Nat} {c:Cn} (hc:OutOk M2 c):SvOut M2 ⟨x,v.conns.set i c⟩:=λo J=>by
 rcases dL J with J|J
 .exact (h o J).more hl
 .rw [J];exact hc
structure SvB (v:Srv):Prop where
 ok:SvOk 400000 v
 out:SvOut 4000000000000000000 v
def SvOut.more {M N:Nat} {v:Srv} (h:SvOut M v) (J:M<=N):SvOut N v:=λc hc=>(h c hc).more J
def zvG {L M:Nat} {x:Img} {c:Cn} (h:OutOk M c) (i:Nat) {t:Tsk} (J:t.spans.length<=3):OutOk (M+20000) (zij x c i t):=by
 have h1:=zi3 t c.n.chunks;unfold zij;split
 .refine zi4 _ ?_;unfold OutOk at h |-;simp only [ae];omega
 .unfold OutOk at h |-;simp only;omega
def ztL {L M:Nat} {v:Srv} (h:SvOk L v) (J:SvOut M v) (d:Deed) (hL:L+d.text.length<=800000):SvOut (M+10000000000000) (svDo v d).1:=by
 unfold svDo;split
 .unfold zfq;split
  .exact J.more fT
  .rename_i o hg;obtain ⟨h0,hm⟩:=zcO hg;split
   .exact J.more fT
   .have hc:=h.conn o hm.2;refine SvOut.set J fT ((zvF h.x (J o hm.2) d.text hc.ms).more ?_);have:=hc.buf;omega
 split
 .unfold ze5;split
  .exact J.more fT
  .rename_i o hg;obtain ⟨h0,hm⟩:=zcO hg;split
   .exact J.more fT
   .rename_i t ht;have hc:=h.conn o hm.2
    have qU:t∈o.tasks:=by
     split at ht
     .cases ht
     .exact ay ht
    obtain ⟨t1,t2,t3⟩:=hc.tsk t qU;have:=(t2.step v.x o.n.metas hc.ms.1).spans;refine SvOut.set J fT ((zvG (L:=L) (J o hm.2) _ this).more fT)
 .unfold zbY;split
  .exact J.more fT
  .rename_i o hg;obtain ⟨h0,hm⟩:=zcO hg;refine SvOut.set J fT ?_;have:=J o hm.2;unfold OutOk at this |-;simp only [aM];omega
def zBo:XOk csmall:=XOk.of csmall_ok.ok iD
def aw1:Srv:=⟨csmall,aw1l⟩
def aw1_ok:SvOk 0 aw1:=znS (x:=csmall) zBo 1 rfl
def aw1_b:SvB aw1:=⟨aw1_ok.more fT,λc hc=>by rw [bp.1 hc];unfold OutOk;decide⟩
def awT:Txt:= [0,0,0,3,73,72,65,86,69,79,80,84,0,0,0,8,0,0,0,0,73,72,65,86,69,79,80,84,0,0,0,7,0,0,0,6,0,0,0,0,0,0,37,96,149,19,0,0,0,3,0,0,0,0,0,0,0,9,0,0,0,0,0,0,0,0,0,0,0,0]
def aw2:Srv:=(zbY aw1 0).1
def aw3:Srv:=zfq aw2 0 awT
def aw4:Srv:=(zbY aw3 0).1
def aw5:Srv:=ze5 aw4 0 0
def aw_do {L M:Nat} {v:Srv} (h:SvOk L v/\SvOut M v) (d:Deed) (J:L+d.text.length<=800000):SvOk (L+d.text.length) (svDo v d).1/\SvOut (M+10000000000000) (svDo v d).1:=⟨zr9 h.1 d fT,ztL h.1 h.2 d J⟩
def zEk:SvOk 0 aw1/\SvOut 4000000000000 aw1:=⟨aw1_ok,λc hc=>by rw [bp.1 hc];unfold OutOk;decide⟩
def aw2_do:SvOk 0 aw2/\SvOut 14000000000000 aw2:=aw_do zEk ⟨2,0,0,[]⟩ gb
def aw3_do:SvOk 70 aw3/\SvOut 24000000000000 aw3:=aw_do aw2_do ⟨0,0,0,awT⟩ gb
def aw4_do:SvOk 70 aw4/\SvOut 34000000000000 aw4:=aw_do aw3_do ⟨2,0,0,[]⟩ gb
def aw5_do:SvOk 70 aw5/\SvOut 44000000000000 aw5:=aw_do aw4_do ⟨1,0,0,[]⟩ gb
def aw2_b:SvB aw2:=⟨aw2_do.1.more gb,aw2_do.2.more gb⟩
def aw3_b:SvB aw3:=⟨aw3_do.1.more gb,aw3_do.2.more gb⟩
def aw4_b:SvB aw4:=⟨aw4_do.1.more gb,aw4_do.2.more gb⟩
def aw5_b:SvB aw5:=⟨aw5_do.1.more gb,aw5_do.2.more gb⟩
def aw5_x:aw5.x=csmall:=iD
def aw1_s:(zbY aw1 0).2.length=18:=iD
def aw3_n:zkO aw3=1:=iD
def aw3_t:20<(zbY aw3 0).2.length:=iD
def aw6_n:zkO (zbY aw5 0).1=0:=iD
def aw5_u:(zbY aw5 0).2= [102,142,51,239,0,1,0,0,0,0,0,0,0,0,0,9,0,0,0,0]:=iD
def aw6_do:SvOk 70 (zbY aw5 0).1/\SvOut 54000000000000 (zbY aw5 0).1:=aw_do aw5_do ⟨2,0,0,[]⟩ gb
def zvM (v:Srv) (c:Int) (h:SvB v):AC 18 [srvA v,.d (.int .i64 c)] (.tup [srvA (zbY v c).1,.d (.str (zbY v c).2)]):=by
 obtain ⟨V,J⟩:∃V,V=zbY v c:=⟨_,rfl⟩
 rw [<-J];unfold zbY at J;have c6:=h.ok.len;refine' Fc
 .have hn:(if c<0 then none else v.conns[c.toNat]?)=none:=by
   split
   .rfl
   .exact cp fT
  rw [hn] at J;refine fbod func18 ntmps18 (λbase=>?_);refine' Ds;refine (zaE (zhZ v c hb)).mono ?_;refine' Cp;refine' Cl;refine' Ds;rw [J]
 .refine' CK;refine' Dv;refine fbod func18 ntmps18 (λbase=>?_);refine' Ds;refine' Du;refine' Cl;refine' z8 (zL 6) fx;obtain ⟨σ,hσ⟩:∃σ:SW,σ=⟨v.x,v.conns.length,pre, { o with out:= [] },post,.osl 34 12 o.tasks.length 0 o.tasks.length,o.tasks.map tskD⟩:=⟨_,rfl⟩
  have lG:SwOk σ:=by rw [hσ];exact ⟨iE,iF,.inl ⟨rfl,rfl⟩,by have:=b9.tasks;simp only;omega⟩
  refine aw_le ⟨[(4,true,.vp 1 0),(6,true,.vp 21 0),(8,true,.d (.str o.out))],swH σ++ [(1,.var (img0++ [.nils 8]))],some []⟩ xU ?_;refine' Gc;refine' Ds;rw [J,hσ]
@[go_sem] def zbt:Ent Tryz.prog 18:= .m2 zjw (intT .i64) zvM
def zp9 {size:Int} :∀ (k:Nat) {c:Cn},c.gone=false→(zcz size k c).gone=false→zhE size k c=zcz size k c
 |0,c,_,_=>rfl
 | k +1,c,h,h1=>by
  by_cases hm:zek c
  ·rw [zh0 hm] at h1 ⊢
   rw [zhE]
   by_cases hd:ztG size c
   ·rw [U (fun e=>e.2 hd)]
    unfold cnNx at h1 ⊢
    by_cases h22:(reqRd c.n.buf).2.2=22
    ·rw [aa h22,U fT]
    ·rw [U h22,aa hd] at h1
     split at h1
     ·rw [zcC rfl] at h1;cases h1
     ·cases h1
   ·rw [aa ⟨hm,hd⟩]
    have h0:(reqRd c.n.buf).2.2=0:=df.1 (fun e=>hd (.inl e))
    have hn:cnNx size c=cnOne size c:=by rw [cnNx,U fT,U hd]
    rw [aa h0,hn] at h1 ⊢
    exact zp9 k (by rw [zhr];exact h) h1
  ·rw [zfa hm,zhE,U (fun e=>hm e.1)]
def TvOk (o:Cn) (tv:AV) (ts:List (List D)):Prop:=tv= .osl 23 12 o.tasks.length 0 o.tasks.length/\ts=o.tasks.map tskD\/tv= .nils 12/\o.tasks= []
def zEn {size:Int} {c:Cn} (J:c.gone=false):TvOk (zbO size c) (tkV (zbO size c)) ((zhE size (c.n.buf.length+1) c).tasks.map tskD):=by
 cases h:(zbO size c).gone with
 |true=>exact .inr ⟨by rw [tkV,aa h],zh2 _ J h⟩
 |false=>exact .inl ⟨by rw [tkV,U (by rw [h];decide)],by rw [zp9 _ J h];rfl⟩
def zla (x:Img) (c:Cn) {L M:Nat} (hx:XOk x) (hc:CnOk L x c) (hL:L<=9223372036854775806) (b9:OutOk M c) (hM:M<=9223372036854770000):∃tv ts,TvOk (zbO (128*x.geom.guest) c) tv ts/\ACall Tryz.prog 61 40 [imgA x,.agg (rowC c (.osl 23 12 c.tasks.length 0 c.tasks.length))] [(23,.arr 12 (c.tasks.map tskD))] (λr h'=>r= .agg (rowC (zbO (128*x.geom.guest) c) tv)/\h'= [(23,.arr 12 ts)]):=by
 cases J:c.gone with
 |false=>exact ⟨_,_,zEn J,zvQ x c hx hc hL b9 hM J⟩
 |true=>
  rw [zbO,zcC J];exact ⟨_,_,.inl ⟨rfl,rfl⟩,zvP x c _ _ J⟩
def zix {cx:Cx} {c:Code} {Q:Exit->AS->Prop} {X:Img} {o:Cn} {tv:AV} {ts:List (List D)} {l:List Cn} {k m a b d:Nat} {x:D} (ht:TvOk o tv ts) (hk:k<l.length)
  (iP:a≠b) (pE:a≠d) (jq:b≠d)
  (h:AW cx c Q ⟨[(a,true,.vp 0 0),(b,true,.vp 1 0),(d,true,.d x)],[(1,.var (img0++ [.nils 8])),(0,.var (imgC X++ [.d (.sl 8 ((l.set k o).map cnD))]))],some []⟩):
  AW cx c Q ⟨[(a,true,.vp 0 0),(b,true,.vp 1 0),(d,true,.d x)],[(23,.arr 12 ts),(22,.var (zad (l.take k)++(rowC o tv++(zad (l.drop (k+1))++List.replicate m .any)))),(1,.var (img0++ [.nils 8])),(0,.var (imgC X++ [.vsl 22 8 0 l.length]))],some []⟩:=by
 have hP:∀f,AV.trL f (zad (l.take k))=zad (l.take k):=λf=>zp7 _;have hS:∀f,AV.trL f (zad (l.drop (k+1))++List.replicate m .any)=zad (l.drop (k+1))++List.replicate m .any:=λf=>by rw [znU,zad,zp7,znV]
 have h2:AW cx c Q ⟨[(a,true,.vp 0 0),(b,true,.vp 1 0),(d,true,.d x)],[(22,.var (((l.set k o).map cnD).flatten.map .d++List.replicate m .any)),(1,.var (img0++ [.nils 8])),(0,.var (imgC X++ [.vsl 22 8 0 l.length]))],some []⟩:=by refine zsz 22 8 _ rfl yP ?_;unfold img0 imgC;refine' Cl;rw [aa (by rw [cO])];exact h
 have hc:((l.set k o).map cnD).flatten.map AV.d++List.replicate m .any=zad (l.take k)++(rowD o++(zad (l.drop (k+1))++List.replicate m .any)):=by show zad (l.set k o)++_=_;rw [zp8 hk];simp only [aY]
 rw [hc] at h2;rcases ht with ⟨J,e2⟩|⟨J,e2⟩
 .simp only [rowC,J,e2];refine za0 23 rfl ?_;unfold img0 imgC;simp only [go_sem,aeq,aeq.aeqF,simprocAttr,hP,hS,al,aA];exact h2
 .simp only [rowC,J];refine aw_le _ ?_ h2;unfold rowD;simp only [AS.le,leT,leH,ze,AsgK,AV.le,AV.leL,AObj.le,inH,idsT,idsH,AV.ids,AV.idsL,AV.idsR,AObj.ids,lk,hget,go_sem,aeq,aeq.aeqF,simprocAttr,iP,pE,jq,rowC,e2,imgC,img0];and_intros<;>first|rfl|(refine znW (AV.leL_refl _) ?_;simp [AV.leL,AV.le,AV.leL_refl])|exact AV.leL_refl _|simp [inH,AV.idsL,AV.ids,hget,zbL,zby,zn]
def SvQ (v:Srv):Prop:=v.conns.length<=4/\(v.conns≠ []->SvB v)
def zsm (v:Srv) (c:Int) (hq:SvQ v):AC 26 [srvA v,.d (.int .i64 c)] (.tup [srvA (zbY v c).1,.d (.str (zbY v c).2)]):=by
 obtain ⟨V,J⟩:∃V,V=zbY v c:=⟨_,rfl⟩
 rw [<-J];unfold zbY at J;have c6:=hq.1;refine' Fc
 .have hn:(if c<0 then none else v.conns[c.toNat]?)=none:=by
   split
   .rfl
   .exact cp fT
  rw [hn] at J;refine' Gn;refine fbod func26 ntmps26 (λbase=>?_);refine' Ds;refine (zaE (zd4 v c fT)).mono ?_;refine' Cp;rw [jq];refine' Cl;refine' Ds;rw [J]
 .refine' CK;rw [hn] at J;simp only [aw] at J;have iw:=ay ho;have h:=hq.2 (fP iw);have b9:=h.ok.conn o iw;have jq:(decide (0<=(k:Int))&&decide ((k:Int)<(v.conns.length:Int)))=true:=wh;have gB:k*8=(zad (v.conns.take k)).length:=nL;refine fbod func26 ntmps26 (λbase=>?_);refine' Ds;refine (zaE (zd4 v k fT)).mono ?_;refine' Cp;rw [jq];refine' Cl;refine' Ds;refine ((zsk v k o ho fT (λo ho=>u5)).own rfl rfl gb u7).mono ?_;rintro r h' ⟨h1,⟨m,rfl,rfl⟩,rfl⟩;unfold imgC rowO;refine' Cl;have iT:(zad (v.conns.take k)).length+1+1=(zad (v.conns.take k)).length+2:=rfl;refine' z8 (zL 6) gB;obtain ⟨o1,ie⟩:∃o1:Cn,o1= { o with out:= [] } :=⟨_,rfl⟩
  refine aw_le ⟨[(2,true,.vp 0 0),(4,true,.vp 1 0),(6,true,.d (.str o.out))],[(23,.arr 12 (o.tasks.map tskD)),(22,.var (zad (v.conns.take k)++(rowC o1 (.osl 23 12 o.tasks.length 0 o.tasks.length)++(zad (v.conns.drop (k+1))++List.replicate m .any)))),(1,.var (img0++ [.nils 8])),(0,.var (imgC v.x++ [.vsl 22 8 0 v.conns.length]))],some []⟩ (by rw [ie];unfold img0 imgC rowC;simp only [AS.le,leT,leH,ze,AsgK,AV.le,AV.leL,AObj.le,inH,idsT,idsH,AV.ids,AV.idsL,AV.idsR,AObj.ids,lk,hget,go_sem,aeq,aeq.aeqF,simprocAttr,rowC]<;>and_intros<;>first|rfl|exact AV.leL_refl _|simp [inH,AV.idsL,AV.ids,hget,zbL,zby,zn]) ?_;refine zix (by rw [ie];exact .inl ⟨rfl,rfl⟩) fT gb gb gb ?_;unfold imgC img0;refine' Ds;rw [J,ie]
@[go_sem] def zdJ:Ent Tryz.prog 26:= .m2 zjw (intT .i64) zsm
def zvS (v:Srv) (c i:Int) (hq:SvQ v):AC 25 [srvA v,.d (.int .i64 c),.d (.int .i64 i)] (srvA (ze5 v c i)):=by
 obtain ⟨V,hV⟩:∃V,V=ze5 v c i:=⟨_,rfl⟩
 rw [<-hV];unfold ze5 at hV;have c6:=hq.1;refine' Fc
 .have hn:(if c<0 then none else v.conns[c.toNat]?)=none:=by
   split
   .rfl
   .exact cp fT
  rw [hn] at hV;refine' Gn;refine fbod func25 ntmps25 (λbase=>?_);refine' Ds;refine (zaE (zd4 v c fT)).mono ?_;refine' Cp;rw [jq];refine' Cl;refine' Ds;rw [hV]
 .refine' CK;refine' Dw;refine fbod func25 ntmps25 (λbase=>?_);refine' Ds;refine (zaE (zd4 v k fT)).mono ?_;refine' Cp;rw [jq];refine' Cl;by_cases An:i<0\/(o.tasks.length:Int)<=i
  .have iT:(if i<0 then none else o.tasks[i.toNat]?)=none:=by
    split
    .rfl
    .exact cp fT
   rw [iT] at hV;by_cases mA:i<0
   .have e0:decide (i<0)=true:=af mA;refine' zc e0;all_goals first|(rw [e0] at hc;cases hc;done)|(rw [hV];done)
   .refine' Hd;all_goals first|(rw [J];rfl)|(rw [J];simp;done)|(rw [hV];done)|skip
    rw [J] at hc;replace hc:(decide (i<0)||decide (((o.tasks.map tskD).length:Int)<=i))=false:=hc;rw [al,e0,e1] at hc;cases hc
  .refine' EB;rw [iT] at hV;simp only [aw] at hV;refine' Hb;rw [<-hT] at hV;refine' H9;have Ao:(o.tasks.map tskD).getD j []= [.int .i64 t.q.flags,.int .i64 t.q.kind,.int .u64 t.q.cookie,.int .u64 t.q.frm,.int .u32 t.q.len,.str t.q.data,.sl 3 (t.cuts.map cutD),.int .i64 t.loc,.int .u32 t.err,.str t.data,.sl 2 (t.spans.map spnD),.bool t.done]:=zbB ht;refine' Eh;refine' zc (zg e0 e1);all_goals first|(rw [J];rfl)|(rw [J];simp;done)|(rw [e0] at hc;cases hc;done)|skip
   .rw [J] at hc;replace hc:(decide ((j:Int)<0)||decide (((o.tasks.map tskD).length:Int)<=j))=true:=hc;rw [al,e0,e1] at hc;cases hc
   clear hc;refine' DA;refine' D7;refine' Cl;refine' zfh (zL 8) (zr gB Ao hT.symm uA iT (zg ko mL)) (za zpR <| zb _);refine' Fy;obtain ⟨o1,ie⟩:∃o1:Cn,o1= { o with tasks:=o.tasks.set j T.2 } :=⟨_,rfl⟩
   refine aw_le ⟨[(3,true,.vp 0 0),(6,true,.vp 1 0),(7,true,.vp 24 0),(9,true,.vp 40 0),(1,true,.d (.int .i64 k)),(2,true,.d (.int .i64 j))],[(40,.var [.d (.int .i64 T.2.q.flags),.d (.int .i64 T.2.q.kind),.d (.int .u64 T.2.q.cookie),.d (.int .u64 T.2.q.frm),.d (.int .u32 T.2.q.len),.d (.str T.2.q.data),.d (.sl 3 (T.2.cuts.map cutD)),.d (.int .i64 T.2.loc),.d (.int .u32 T.2.err),.d (.str T.2.data),.d (.sl 2 (T.2.spans.map spnD)),.d (.bool T.2.done)]),(24,.var (rowO o)),(23,.arr 12 ((o.tasks.set j T.2).map tskD)),(22,.var (pre++(rowO o++post))),(1,.var (img0++ [.nils 8])),(0,.var (imgC T.1++ [.vsl 22 8 0 v.conns.length]))],some []⟩ (by unfold img0 imgC rowO;simp only [AS.le,leT,leH,ze,AsgK,AV.le,AV.leL,AObj.le,inH,idsT,idsH,AV.ids,AV.idsL,AV.idsR,AObj.ids,lk,hget,go_sem,aeq,aeq.aeqF,simprocAttr,rowC,cK]<;>and_intros<;>first|rfl|exact AV.leL_refl _|simp [inH,AV.idsL,AV.ids,hget,iE,iF,zn]) ?_;cases kN:T.2.done with
   |false=>
    have qV:V=⟨T.1,v.conns.set k o1⟩:=by rw [hV,zij,kN];simp only [bj,aK,ie]
    unfold img0 imgC rowO;refine' z8 (zL 15) (zr kN gB iT ko mL (zp sj nA sk));refine aw_le ⟨[(3,true,.vp 0 0),(6,true,.vp 1 0),(1,true,.d (.int .i64 k))],[(23,.arr 12 ((o.tasks.set j T.2).map tskD)),(22,.var (zad (v.conns.take k)++(rowC o1 (.osl 23 12 o.tasks.length 0 o.tasks.length)++(zad (v.conns.drop (k+1))++List.replicate m .any)))),(1,.var (img0++ [.nils 8])),(0,.var (imgC T.1++ [.vsl 22 8 0 v.conns.length]))],some []⟩ (by rw [<-bu,<-im,ie];unfold img0 imgC rowC;simp only [AS.le,leT,leH,ze,AsgK,AV.le,AV.leL,AObj.le,inH,idsT,idsH,AV.ids,AV.idsL,AV.idsR,AObj.ids,lk,hget,go_sem,aeq,aeq.aeqF,simprocAttr,rowC]<;>and_intros<;>first|rfl|exact AV.leL_refl _|simp [inH,AV.idsL,AV.ids,hget,iE,iF,zn]) (zix (l:=v.conns) (k:=k) (m:=m) (by rw [ie];exact .inl ⟨by simp only [mb],rfl⟩) fT gb gb gb ?_);unfold imgC img0;refine' Ds;rw [qV]
   | true=>
    refine' DR;unfold img0 imgC rowO;have wI:(⟨T.2.q,T.2.cuts,T.2.loc,T.2.err,T.2.data,T.2.spans,true⟩:Tsk)=T.2:=by rw [<-kN]
    rw [<-wI] at wH hR;refine' zfh (zL 10) (zr kN gB hR.symm iT ko mL) (za znO <| zb _);obtain ⟨X,hX⟩:∃X,X=(o.tasks.set j T.2).map tskD:=⟨_,rfl⟩
    have mG:X.length=o.tasks.length:=by rw [hX,al,mb]
    refine aw_le ⟨[(3,true,.vp 0 0),(6,true,.vp 1 0),(7,true,.vp 24 0),(1,true,.d (.int .i64 k)),(2,true,.d (.int .i64 j))],[(24,.var (rowC { o with out:=o.out++R } (.osl 23 12 o.tasks.length 0 o.tasks.length))),(23,.arr 12 X),(22,.var (pre++(rowO o++post))),(1,.var (img0++ [.nils 8])),(0,.var (imgC T.1++ [.vsl 22 8 0 v.conns.length]))],some []⟩ (by rw [hX];unfold img0 imgC rowO;simp only [AS.le,leT,leH,ze,AsgK,AV.le,AV.leL,AObj.le,inH,idsT,idsH,AV.ids,AV.idsL,AV.idsR,AObj.ids,lk,hget,go_sem,aeq,aeq.aeqF,simprocAttr,rowC]<;>and_intros<;>first|rfl|exact AV.leL_refl _|simp [inH,AV.idsL,AV.ids,hget,iE,iF,zn]) ?_;have hP:∀f,AV.trL (onI 23 f) pre=pre:=λf=>zdI pre (by rw [iE];simp);have hS:∀f,AV.trL (onI 23 f) post=post:=λf=>zdI post (by rw [iF];simp);refine za0 23 rfl ?_;unfold img0 imgC rowO;simp only [go_sem,aeq,aeq.aeqF,simprocAttr,rowC,hP,hS,mG,aA];have uB:IntKind.i64.wrap ((j:Int)+1)=((j+1:Nat):Int):=zo oh;refine' z8 (zL 11) fx;refine zvL 23 10 12 rfl (ad _) rfl ?_;refine' Cl
    have hE:X.take j++(X.take o.tasks.length).drop (j+1)=(o.tasks.eraseIdx j).map tskD:=by have Ap:X.take o.tasks.length=X:=aA fT;rw [Ap,hX,<-cE,<-dy,<-aG,dK (aj _),eD fT,<-dC]
    have my:(o.tasks.eraseIdx j).length=o.tasks.length - 1:=fF mH;have Aq:(X.take j).length+((X.take o.tasks.length).drop (j+1)).length=(o.tasks.eraseIdx j).length:=by rw [<-ae,hE,al]
    have rB:=b9.tasks;refine' z8 (zL 13) (zg uB mG);all_goals first|omega|skip
    refine' HQ
    have pa:CnOk 400000 T.1 o2:=by rw [iL];refine ⟨b9.phase,b9.buf,b9.ms,by simp only [my];omega,λu hu=>?_,λ_=>b9.data (λe=>wX)⟩;have:=b9.tsk u (zg2 hu);exact ⟨this.1,this.2.1,this.2.2.step g2 g1⟩
    have CI:R.length<=5000*(T.2.spans.length+1):=l8
    have nw:OutOk 4100000000000000000 o2:=by rw [iL];unfold OutOk;simp only [ae];omega
    obtain ⟨tv,ts,qW,jm⟩:=zla T.1 o2 (M:=4100000000000000000) mw pa fT nw fT;refine aw_le ⟨[(3,true,.vp 0 0),(6,true,.vp 1 0),(7,true,.vp 24 0),(1,true,.d (.int .i64 k))],[(24,.var (rowC o2 (.osl 23 12 o2.tasks.length 0 o2.tasks.length))),(23,.arr 12 (o2.tasks.map tskD)),(22,.var (pre++(rowC o .any++post))),(1,.var (img0++ [.nils 8])),(0,.var (imgC T.1++ [.vsl 22 8 0 v.conns.length]))],some []⟩ (by rw [iL,<-hE,<-Aq];unfold img0 imgC;simp only [AS.le,leT,leH,ze,AsgK,AV.le,AV.leL,AObj.le,inH,idsT,idsH,AV.ids,AV.idsL,AV.idsR,AObj.ids,lk,hget,go_sem,aeq,aeq.aeqF,simprocAttr,rowC]<;>and_intros<;>first|rfl|exact AV.leL_refl _|(refine znW (AV.leL_refl _) ?_;simp [AV.leL,AV.le,AV.leL_refl])|simp [inH,AV.idsL,AV.ids,hget,iE,iF,zn]) ?_;unfold img0 imgC;simp only [go_sem,aeq,aeq.aeqF,simprocAttr,rowC];refine' Ds;unfold imgA rowC at jm;refine (zcU jm rfl ⟨rfl,trivial⟩ trivial ⟨rfl,trivial⟩ rfl).mono ?_;refine' Cp;have mJ:tv= .nils 12\/tv= .osl 23 12 (zbO (128*T.1.geom.guest) o2).tasks.length 0 (zbO (128*T.1.geom.guest) o2).tasks.length:=qW.elim (λe=> .inr e.1) (λe=> .inl e.1);rcases mJ with e|e<;>subst e
    all_goals
     refine' Cl;refine' z8 (zL 15) (zr gB iT ko mL sj (zg nA sk));all_goals first|rfl|skip
     refine aw_le ⟨[(3,true,.vp 0 0),(6,true,.vp 1 0),(1,true,.d (.int .i64 k))],[(23,.arr 12 ts),(22,.var (zad (v.conns.take k)++(rowC (zbO (128*T.1.geom.guest) o2) _++(zad (v.conns.drop (k+1))++List.replicate m .any)))),(1,.var (img0++ [.nils 8])),(0,.var (imgC T.1++ [.vsl 22 8 0 v.conns.length]))],some []⟩ (by rw [<-bu,<-im];unfold img0 imgC;simp only [AS.le,leT,leH,ze,AsgK,AV.le,AV.leL,AObj.le,inH,idsT,idsH,AV.ids,AV.idsL,AV.idsR,AObj.ids,lk,hget,go_sem,aeq,aeq.aeqF,simprocAttr,rowC]<;>and_intros<;>first|rfl|exact AV.leL_refl _|simp [inH,AV.idsL,AV.ids,hget,iE,iF,zn]) (zix (l:=v.conns) (k:=k) (m:=m) qW fT gb gb gb ?_);unfold imgC img0;refine' Ds;rw [hV,zij,aa kN,iL,hR,wI]
@[go_sem] def zep:Ent Tryz.prog 25:= .m3 zjw (intT .i64) (intT .i64) zvS
end
end Go.Aw
