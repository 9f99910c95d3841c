/- Lemmas. -/
import Derived.Test.YtgldbfelccddbaaGreatApa26
import Derived.Test.YtgldbfelccddbaaGreatApa28
set_option linter.all false
set_option maxRecDepth 100000
set_option maxHeartbeats 2000000
namespace Go.Aw
noncomputable section
open Go Go.Proofs Go.Proofs.YtgldbfelccddbaaGreat Go.Proofs.Tryz
def rdE (w:World):Env:= { O:=λi=>if i=4 then some (w.heap.size+1+1+1) else none,C:=λ_=>0,M:=λ_=>False,N:=λ_=>False }
abbrev zto (w:World) (o0 o1 o2:Obj) (s:Txt):World:=(((w.alloc o0).alloc o1).alloc o2).alloc (.cells #[.string ⟨s.toArray⟩] 419)
def zdF (w:World) (o:Obj) {b:Nat} (h:b<w.heap.size):(w.alloc o).heap[b]?=w.heap[b]?:=by simp only [World.alloc,Array.getElem?_push];rw [U fT]
def ztp (w:World) (o0 o1 o2:Obj) (s:Txt):SatH (rdE w) (rdH s) (zto w o0 o1 o2 s) where
 heap:=λi o J=>by
  simp only [hget] at J;split at J
  .rename_i e;cases J;subst e;simp only [RepObj];refine ⟨w.heap.size+1+1+1,#[.string ⟨s.toArray⟩],419,(0,0),rfl,?_,by simp [Reps,Rep,RepD],pg⟩;have:=dB (((w.alloc o0).alloc o1).alloc o2) (.cells #[.string ⟨s.toArray⟩] 419);simpa using this
  .cases J
 inj:=λi j b h1 h2 _ _=>by simp only [hget] at h1 h2;split at h1<;>split at h2<;>simp_all
 own:=λb ⟨i,_,hb⟩=>by
  simp only [rdE] at hb;split at hb
  .cases hb;exact ⟨fZ,λh=>h,λh=>h⟩
  .cases hb
 mlt:=λ_ h=>h.elim
 nlt:=λ_ h=>h.elim
structure RdEnd (w W:World) (o0 o1 o2:Obj):Prop where
 g:Grown w W
 b0:W.heap[w.heap.size]?=some o0
 b1:W.heap[w.heap.size+1]?=some o1
 b2:W.heap[w.heap.size+1+1]?=some o2
 lt:w.heap.size+1+1<W.heap.size
def ztq {w W:World} {o0 o1 o2:Obj} {s:Txt} {E':Env} {h':AHeap} (e:EvoC 5 (rdE w) (rdH s) (zto w o0 o1 o2 s) E' h' W):RdEnd w W o0 o1 o2:=by
 have gd:=e.size;simp only [ck] at gd
 have J:∀b,b<w.heap.size+1+1+1->W.heap[b]?=(zto w o0 o1 o2 s).heap[b]?:=λb hb=>e.keep b ke (λ⟨i,_,ho⟩=>by
  simp only [rdE] at ho;split at ho
  .cases ho;omega
  .cases ho)
 refine ⟨⟨e.os,e.tape,e.output,fT,λb hb=>?_⟩,?_,?_,?_,fT⟩
 .rw [J b fT,zdF _ _ ke,zdF _ _ ke,zdF _ _ ke,zdF _ _ hb]
 .rw [J _ fT,zdF _ _ ke,zdF _ _ ke,zdF _ _ ke];exact dB w o0
 .rw [J _ fT,zdF _ _ ke,zdF _ _ ke];simpa using World.alloc_heap_new (w.alloc o0) o1
 .rw [J _ fT,zdF _ _ ke];simpa using World.alloc_heap_new ((w.alloc o0).alloc o1) o2
def ztr (w:World) (o0 o1 o2:Obj) (s:Txt):Reps (zto w o0 o1 o2 s) (rdE w) (rdH s) [.vp 4 0] (#[.pointer (some ⟨w.heap.size+1+1+1,0,none⟩)]:Array Value).toList:=by simp only [Reps,Rep];exact ⟨_,_,rfl,⟨_,_,rfl,rfl,rfl⟩,rfl⟩
def zxZ {w W W0:World} {E':Env} {s t:Txt} (hs:SatH E' (rdH t) W) (e:EvoC 5 (rdE w) (rdH s) W0 E' (rdH t) W):W.cell? ⟨w.heap.size+1+1+1,0,none⟩=some (.string ⟨t.toArray⟩):=by have J:=(e.go 4 fT rfl).2;have ho:=hs.heap 4 _ rfl;simp only [GoesOn,hget,av] at J;simp only [RepObj] at ho;obtain ⟨b,c,T,fz,h1,h2,h3,h4⟩:=ho;rw [J.1] at h1;simp only [rdE,av,aB] at h1;subst h1;simp only [Reps,Rep,RepD] at h3;obtain ⟨v,r,h5,rfl,rfl⟩:=h3;rw [zI h2,<-ff,h5];rfl
def zkS {P:Program} {f:FuncId} {args:List AV} {r:AV} (ix:zfe P f) (hc:∀ (w:World) (E:Env) (vs:Array Value),Reps w E [] args vs.toList->Calls P f vs w (λe w'=>∃v,e= .returned v/\Grown w w'/\∀W E h,Rep W E h r v)):ACall P f 0 args [] (λr' _=>r'=r):=by
 refine ⟨ix,λE w vs hs hr=>(hc w E vs hr).mono ?_⟩;rintro e w' ⟨v,rfl,J,hv⟩
 exact ⟨v,E,r,[],rfl,rfl,⟨λi o ho=>ky,λi j b hi=>gK,λb ⟨i,hi,_⟩=>gK,λb hb=>aE (hs.mlt b hb) J.size,λb hb=>aE (hs.nlt b hb) J.size⟩,hv _ _ _,
  ⟨J.os,J.tape,J.output,J.size,λb hb _=>J.keep b hb,λb ⟨i,hi,_⟩=>gK,rfl,rfl,λi hi=>absurd hi fT⟩⟩
def zEb (s:Txt) (J:s.length<=9223372036854775807) (h:(toBeg s).2.2=0):ACall Tryz.prog 391 5 [.vp 4 0] (rdH s) (λr h'=>r= .d (.str (toBeg s).1)/\h'=rdH (toBeg s).2.1):=by
 have hu:numAt s 0 4<4294967296:=zbA s 0 4;unfold toBeg at h |-;split at h
 .cases h
 rename_i h4;split at h
 .cases h
 rename_i hn;rw [U h4,U hn];refine bod func391 ntmps391 (λbase=>?_);refine' Ds;refine ((ztk s 4294967296 J fT fT fT).whole (zV rfl) (aj _) (λ_ _ hk _=>ziV hk.2)).mono ?_;refine' Cp;refine' Cl;refine' Ds;all_goals skip
def zC9 (s:Txt) (hs:s.length<=9223372036854775807) (h:(toBeg s).2.2≠0):APan Tryz.prog 391 5 [.vp 4 0] (rdH s) (thrown (toBeg s).2.2):=by
 have hu:numAt s 0 4<4294967296:=zbA s 0 4
 have hp:APan Tryz.prog 237 5 [.vp 4 0,.d (.int .i64 4294967296)] (rdH s) (thrown (toBeg s).2.2):=by
  refine zpk s _ _ hs ?_;unfold toBeg at h |-;split
  .rename_i J;exact .inl ⟨J,rfl⟩
  rename_i J;rw [U J] at h;split
  .rename_i hn;exact .inr ⟨fT,.inr ⟨fT,hn,rfl⟩⟩
  rename_i hn;rw [U hn] at h;exact absurd rfl h
 refine pbod func391 ntmps391 (λbase=>?_);refine' z8 (zL 1) fx;refine' Fq;refine' Cl;exact hp
def zAS (s:Txt) (hs:s.length<=9223372036854775807):ACall Tryz.prog 390 0 [.d (.str s),.fn (.func 391) [] []] [] (λr _=>r= .tup [.d (.str (toBeg s).1),.d (.str (toBeg s).2.1),.d (.int .i64 (toBeg s).2.2)]):=by
 refine zkS (zcR func390 fX rfl) (λw E vs hr=>?_);refine' Fa;obtain rfl:vs= #[.string ⟨s.toArray⟩,.func (.func 391) #[] #[]]:=od;by_cases h:(toBeg s).2.2=0
 .refine (zxP ⟨s.toArray⟩ ⟨(toBeg s).1.toArray⟩ ⟨(toBeg s).2.1.toArray⟩ w (((zEb s hs h).2 (rdE w) _ _ (ztp w _ _ _ s) (ztr w _ _ _ s)).mono ?_)).mono ?_
  .rintro e W ⟨v,E',r,h',rfl,⟨rfl,rfl⟩,lf,hv,nu⟩;simp only [Rep,RepD] at hv;subst hv;have hE:=ztq nu;exact ⟨rfl,⟨hE.g,rX,by rw [zI hE.b1];rfl,by rw [zI hE.b2];rfl,rQ,xQ,xR⟩,zxZ lf nu⟩
  .refine' IT;exact ⟨_,rfl,_,_,rfl,rfl,_,_,rfl,rfl,_,_,rfl,rfl,rfl⟩
 .refine (zxQ ⟨s.toArray⟩ (toBeg s).2.2 w (((zC9 s hs h).2 (rdE w) _ _ (ztp w _ _ _ s) (ztr w _ _ _ s)).mono ?_)).mono ?_
  .rintro e W ⟨E',h',rfl,lf,nu⟩;have hE:=ztq nu;exact ⟨rfl,⟨hE.g,rX,by rw [zI hE.b1];rfl,by rw [zI hE.b2];rfl,rQ,xQ,xR⟩⟩
  .rintro e w' ⟨rfl,J⟩
   have hz:(toBeg s).1= []/\(toBeg s).2.1= []:=by
    unfold toBeg at h |-;split
    .refine' Iu
    rename_i h4;rw [U h4] at h;split
    .refine' Iu
    rename_i hn;rw [U hn] at h;exact absurd rfl h
   refine ⟨_,rfl,J,λW E h'=>?_⟩;simp only [Rep,Reps,RepD,hz];exact ⟨_,rfl,_,_,rfl,rfl,_,_,rfl,rfl,_,_,rfl,rfl,rfl⟩
def zAT (s:Txt) (J:s.length<=9223372036854775807):AC 350 [.d (.str s)] (.tup [.d (.str (toBeg s).1),.d (.str (toBeg s).2.1),.d (.int .i64 (toBeg s).2.2)]):=by refine fbod func350 ntmps350 (λbase=>?_);refine' Ds;refine (zaE (zAS s J)).mono ?_;refine' Cp;refine' Cl;refine' Ds
@[go_sem] def zho:Ent Tryz.prog 350:= .m1 strT zAT
def zfR (s:Txt) (a i k:Nat):numAt (s.drop a) i k=numAt s (a+i) k:=by unfold numAt;rw [bc]
def zfS {s:Txt} (h:(optRd s).2.2=0):s.take 8=optHd/\16+numAt s 12 4<=s.length/\numAt s 12 4<=4096/\optRd s=((((numAt s 8 4:Nat):Int),(s.drop 16).take (numAt s 12 4)),s.drop (16+numAt s 12 4),0):=by
 unfold optRd at h |-;split at h
 .cases h
 rename_i h1;split at h
 .cases h
 rename_i h2;split at h
 .cases h
 rename_i J;split at h
 .cases h
 rename_i h4;rw [U h1,U h2,U J,U h4];refine ⟨?_,fT,fT,rfl⟩;rw [df.1 h1,aA (show optHd.length<=s.length by show 8<=s.length;omega)]
def zik {s:Txt} :∀j∈(AObj.var [.d (.str s)]).ids,j=4:=by simp [AObj.ids,AV.idsL,AV.ids]
def zEc (s:Txt) (hs:s.length<=9223372036854775807) (h:(optRd s).2.2=0):ACall Tryz.prog 234 5 [.vp 4 0] (rdH s) (λr h'=>r= .agg [.d (.int .u32 (optRd s).1.1),.d (.str (optRd s).1.2)]/\h'=rdH (optRd s).2.1):=by
 obtain ⟨h1,h2,h3,h4⟩:=zfS h;rw [h4];refine zD (λi=>decide (i<5)) ?_;refine bod func234 ntmps234 (λbase=>?_);refine' Ds;refine (zcq (zti s hs fT h1) gb rfl zik gD).mono ?_;refine' Cp;refine' Cl;refine' Ds;refine (zcq (zjT (s.drop 8) gG gG) gb rfl zik gD).mono ?_;refine' Cp;refine' Cl;have J:numAt ((s.drop 8).drop 4) 0 4=numAt s 12 4:=by rw [zfR,zfR]
 refine (zcq (ztk ((s.drop 8).drop 4) 4096 mz mz (by rw [J];omega) (by rw [J];simp only [ak];omega)) gb rfl zik gD).mono ?_;refine' Cp;rw [J];refine' Cl;rw [zfR,bc,bc,bc,bc,show 8+(4+(4+numAt s 12 4))=16+numAt s 12 4 by omega];refine' Ds
def zDa (s:Txt) (J:s.length<=9223372036854775807) (h:(optRd s).2.2≠0):APan Tryz.prog 234 5 [.vp 4 0] (rdH s) (thrown (optRd s).2.2):=by
 have hu:numAt s 12 4<4294967296:=zbA s 12 4;refine pbod func234 ntmps234 (λbase=>?_);refine' z8 (zL 1) fx;by_cases h1:s.take 8=optHd.take s.length
 case neg=>
  rw [optRd,aa h1];refine' Fq;refine' Cl;exact zjM (zxM s J h1) rfl zik gD
 by_cases h8:s.length<8
 .rw [optRd,U (λe=>e h1),aa fT];refine' Fq;refine' Cl;exact zjM (zrq s h8 h1) rfl zik gD
 have he:s.take 8=optHd:=by rw [h1,aA (show optHd.length<=s.length by show 8<=s.length;omega)]
 refine' Ds;refine (zcq (zti s J fT he) gb rfl zik gD).mono ?_;refine' Cp;refine' Cl;refine' Ii;by_cases qI:s.length<12
 .rw [optRd,U (λe=>e h1),aa fT];refine' Fq;refine' Cl;exact zjM (zpi (s.drop 8) gG) rfl zik gD
 have e2:numAt ((s.drop 8).drop 4) 0 4=numAt s 12 4:=by rw [zfR,zfR]
 have gw:((s.drop 8).drop 4).length=s.length - 12:=mz
 have hp:APan Tryz.prog 237 5 [.vp 4 0,.d (.int .i64 4096)] (rdH ((s.drop 8).drop 4)) (thrown (optRd s).2.2):=by
  refine zpk _ _ _ fT ?_;rw [e2,gw];unfold optRd at h |-;rw [U (λe=>e h1)] at h |-;split
  .rename_i h4;exact .inl ⟨fT,rfl⟩
  rename_i h4;rw [U h4] at h;split
  .rename_i h5;exact .inr ⟨fT,.inl ⟨fT,rfl⟩⟩
  rename_i h5;rw [U h5] at h;split
  .rename_i h6;exact .inr ⟨fT,.inr ⟨fT,fT,rfl⟩⟩
  rename_i h6;rw [U h6] at h;exact absurd rfl h
 refine zbp noTab (zb _) 3 (λ_=>iz) ?_;refine' Cl;refine (zcq (zjT (s.drop 8) gG gG) gb rfl zik gD).mono ?_;refine' Cp;refine' Cl;exact zjM hp rfl zik gD
def zx0 {s:Txt} (h:(optRd s).2.2≠0):(optRd s).1=(0,[])/\(optRd s).2.1= []:=by
 unfold optRd at h |-;split
 .refine' Iu
 rename_i h1;rw [U h1] at h;split
 .refine' Iu
 rename_i h2;rw [U h2] at h;split
 .refine' Iu
 rename_i J;rw [U J] at h;split
 .refine' Iu
 rename_i h4;rw [U h4] at h;exact absurd rfl h
def zAU (s:Txt) (hs:s.length<=9223372036854775807):ACall Tryz.prog 233 0 [.d (.str s),.fn (.func 234) [] []] [] (λr _=>r= .tup [.agg [.d (.int .u32 (optRd s).1.1),.d (.str (optRd s).1.2)],.d (.str (optRd s).2.1),.d (.int .i64 (optRd s).2.2)]):=by
 refine zkS (zcR func233 fX rfl) (λw E vs hr=>?_);refine' Fa;obtain rfl:vs= #[.string ⟨s.toArray⟩,.func (.func 234) #[] #[]]:=od
 have c4:∀ {W:World},RdEnd w W (.cells #[.int .u32 0,.string ⟨#[]⟩] 177) (.cells #[.string ⟨#[]⟩] 9) (.cells #[.int .i64 0] 77)->Cells4 W w.heap.size (.int .u32 0) (.string ⟨#[]⟩) (.string ⟨#[]⟩) (.int .i64 0):=λhE=>
  ⟨rX,rX,by rw [zI hE.b1];rfl,by rw [zI hE.b2];rfl,rQ,rQ,xQ,xR⟩
 by_cases h:(optRd s).2.2=0
 .refine (zxR (optRd s).1.1 ⟨s.toArray⟩ ⟨(optRd s).1.2.toArray⟩ ⟨(optRd s).2.1.toArray⟩ w (((zEc s hs h).2 (rdE w) _ _ (ztp w _ _ _ s) (ztr w _ _ _ s)).mono ?_)).mono ?_
  .rintro e W ⟨v,E',r,h',rfl,⟨rfl,rfl⟩,lf,hv,nu⟩;simp only [Rep,Reps,RepD] at hv;obtain ⟨vs,rfl,_,_,e1,rfl,_,_,rfl,rfl,rfl⟩:=hv;have hE:=ztq nu;obtain rfl:vs= #[.int .u32 (optRd s).1.1,.string ⟨(optRd s).1.2.toArray⟩]:=rh;exact ⟨rfl,hE.g,c4 hE,zxZ lf nu⟩
  .refine' IT;refine' Ia
 .refine (zxS ⟨s.toArray⟩ (optRd s).2.2 w (((zDa s hs h).2 (rdE w) _ _ (ztp w _ _ _ s) (ztr w _ _ _ s)).mono ?_)).mono ?_
  .rintro e W ⟨E',h',rfl,lf,nu⟩;have hE:=ztq nu;exact ⟨rfl,hE.g,hE.lt,c4 hE⟩
  .rintro e w' ⟨rfl,J⟩;obtain ⟨lR,qb⟩:=zx0 h;refine ⟨_,rfl,J,λW E h'=>?_⟩;simp only [Rep,Reps,RepD,lR,qb];refine' Ia
def zu4 (s:Txt) (J:s.length<=9223372036854775807):AC 173 [.d (.str s)] (.tup [.agg [.d (.int .u32 (optRd s).1.1),.d (.str (optRd s).1.2)],.d (.str (optRd s).2.1),.d (.int .i64 (optRd s).2.2)]):=by refine fbod func173 ntmps173 (λbase=>?_);refine' Ds;refine (zaE (zAU s J)).mono ?_;refine' Cp;refine' Cl;refine' Ds
@[go_sem] def zfr:Ent Tryz.prog 173:= .m1 strT zu4
open Go Go.Proofs Go.Proofs.Tryz
def zx1 (n:Int) (hp:0<=n/\n<=4294967295):AC 354 [.d (.int .u32 n)] (.d (.str (putS8 n 4))):=by refine' EP;refine fbod func354 ntmps354 (λbase=>?_);refine' GD;refine' walkW hw (za zaJ <| zb _)
@[go_sem] def zhY:Ent Tryz.prog 354:= .m1 (intT .u32) zx1
def zAV (n:Int) (hp:0<=n/\n<=4294967295):AC 349 [.d (.int .i64 n)] (.d (.str (putS8 n 4))):=by refine' EP;refine fbod func349 ntmps349 (λbase=>?_);refine' GD;have a6:IntKind.u32.wrap n=n:=zbT fT fT;refine' walkW (zg hw a6) (za zaJ <| zb _)
@[go_sem] def zu5:Ent Tryz.prog 349:= .m1 (intT .i64) zAV
def zd0 (n:Int):(putS8 n 4).length=4:=by rw [zgv,zu]
def zAW (s:Txt) (J:s.length<=4294967295):AC 297 [.d (.str s)] (.d (.str (zfP s))):=by refine fbod func297 ntmps297 (λbase=>?_);have hl:=zd0 s.length;refine' walkW fx (za zu5 <| zb _);all_goals rfl
@[go_sem] def zd1:Ent Tryz.prog 297:= .m1 strT zAW
def frmB (l:List Int):Txt:=l.flatMap λn=>putS8 n 4
def zgX (J data:Txt) (l:List Int):Txt×Int:=if 4096<data.length then ([],11) else (J++frmB l++zfP data,0)
def zts:∀l:List Int,(frmB l).length=4*l.length
 | []=>rfl
 |n::l=>by have:=zts l;unfold frmB at this |-;rw [eV,ae,zd0,this,aC];omega
def zx2 (J data:Txt) (l:List Int) (hh:J.length<=100) (hl:l.length<=10) (hn:∀n∈l,0<=n/\n<=4294967295):ACall Tryz.prog 302 0 [.d (.str J),.d (.str data),.d (.sl 1 (l.map u32D))] [] (λr _=>r= .tup [.d (.str (zgX J data l).1),.d (.int .i64 (zgX J data l).2)]):=by
 refine fbod func302 ntmps302 (λbase=>?_);cases hs:decide ((4096:Int)<(data.length:Int)) with
 |true=>
  have eg:4096<data.length:=by have:=bd hs;omega
  refine' zc hs;rw [zgX,aa eg]
 | false=>
  have eg:¬4096<data.length:=by have:=aQ hs;omega
  refine' z8 (zL 4) hs;refine zfG 0 1 rfl rfl ?_;refine' Cl;refine' Ds;refine (zdv (i:=0) (j:=1) (o:=0) (T:=180) (cs:= [.d .nilp,.bsl 1 0]) (xs:= []) rfl (.inl rfl) rfl rfl rfl zge gh).mono ?_;refine' Cp;refine' Cl;refine' Ds;refine zk (λq: { i:Nat // i<=l.length } =>⟨[(0,true,.d (.str J)),(1,true,.d (.str data)),(8,true,.tp 0 0),(16,true,.d (.sl 1 (l.map u32D))),(17,true,.d (.int .i64 l.length)),(18,true,.d (.int .i64 q.1))],[(1,.buf 5 (J++frmB (l.take q.1))),(0,.tvar 180 [.tp 0 0,.bsl 1 (J.length+(frmB (l.take q.1)).length)])],some []⟩) (λq=>l.length - q.1) ⟨0,ad _⟩ (by simp only [AS.le,leT,leH,ze,AsgK,AV.le,AV.leL,AObj.le,inH,idsT,idsH,AV.ids,AV.idsL,AV.idsR,AObj.ids,lk,hget,go_sem,aeq,aeq.aeqF,simprocAttr,di,frmB,List.flatMap_nil,cJ]<;>and_intros<;>rfl) (λq=>?_);refine' Dl;have gy:=zts (l.take i);rw [az] at gy;rcases zw u32D l i hi with ⟨m,hq,bo,ab,an,b4,a7⟩|⟨ao,ab⟩
  .simp only [u32D] at an;refine' CO;have hm:=hn m (ay hq);have e8:frmB (l.take (i+1))=frmB (l.take i)++putS8 m 4:=by rw [a7];simp [frmB]
   refine' walkW (zB ab an hm.1 hm.2) (za zhY <| za zd1 <| zb _);refine (zdv (i:=0) (j:=1) (o:=0) (T:=180) (cs:= [.tp 0 0,.bsl 1 (J.length+(frmB (l.take i)).length)]) (xs:=J++frmB (l.take i)) rfl (.inr rfl) rfl rfl fZ zge (by rw [zd0,ae];omega)).mono ?_;refine' Cp;refine' Ds;exact ⟨⟨i+1,fT⟩,by simp only [AS.le,leT,leH,ze,AsgK,AV.le,AV.leL,AObj.le,inH,idsT,idsH,AV.ids,AV.idsL,AV.idsR,AObj.ids,lk,hget,go_sem,aeq,aeq.aeqF,simprocAttr,hwi,e8,ae,aY,Nat.add_assoc],gh⟩
  .subst ao;simp only [aL] at gy |-;have ec:(zfP data).length=4+data.length:=by rw [zfP,ae,zd0]
   refine' walkW ab (za zhY <| za zd1 <| zb _);refine (zfF (i:=0) (j:=1) (o:=0) (T:=180) (cs:= [.tp 0 0,.bsl 1 (J.length+(frmB l).length)]) (xs:=J++frmB l) rfl rfl rfl fZ s8).mono ?_;refine' Cp;refine' Gq;refine' walkW fx (za zhY <| za zd1 <| zb _);all_goals first|(rw [ae];omega)|rw [zgX,U eg]
def zu6 (o k:Int) (data:Txt):(zgX ansHd data [o,k]).1=sayS o k data:=by
 unfold zgX sayS;split
 .rfl
 .simp [frmB,zfP]
def zx3 (o k:Int) (data:Txt) (h0:0<=o) (h1:o<=4294967295) (h2:0<=k) (J:k<=4294967295):ACall Tryz.prog 244 0 [.agg [.d (.int .u32 o),.d (.int .u32 k),.d (.str data)]] [] (λr _=>r= .tup [.d (.str (sayS o k data)),.d (.int .i64 (zgX ansHd data [o,k]).2)]):=by refine fbod func244 ntmps244 (λbase=>?_);refine' z8 (zL 1) fx;refine zfx noTab (zb _) 7 1 (λK hK=>?_);refine' Cl;refine ⟨_,rfl,?_⟩;refine' Cl;refine (zaE (zx2 ansHd data [o,k] gb fZ gh)).mono ?_;refine' Cp;refine' Cl;refine' Ds;rw [zu6]
@[go_sem] def zkT:Ent Tryz.prog 244:= .ofL (consL (aggT (consL (intT .u32) (consL (intT .u32) (consL strT nilL))) (λp=>p) (λp=>p) (λ_=>rfl)) nilL) (λ((o,k,data,_),_)=>(0<=o)/\(o<=4294967295)/\(0<=k)/\(k<=4294967295)) (λ((o,k,data,_),_)=> .tup [.d (.str (sayS o k data)),.d (.int .i64 (zgX ansHd data [o,k]).2)]) (λ((o,k,data,_),_) hp=>⟨rfl,zx3 o k data hp.1 hp.2.1 hp.2.2.1 hp.2.2.2⟩)
def zrz (size:Int) (names:List Txt) (hl:names.length<=1000000) (hn:∀s∈names,s.length<=1000000):ACall Tryz.prog 300 0 [.agg [.d (.int .u64 size),.d (.sl 1 (names.map strD))]] [] (λr _=>r= .d (.sl 1 ((ctxs names).map strD))):=by
 refine fbod func300 ntmps300 (λbase=>?_);refine' Ds;refine zk (λq: { i:Nat // i<=names.length } =>⟨[(3,true,.osl 1 1 (q.1+1) 0 (q.1+1)),(8,true,.d (.sl 1 (names.map strD))),(9,true,.d (.int .i64 names.length)),(10,true,.d (.int .i64 q.1))],[(1,.arr 1 ((ctxs (names.take q.1)).map strD)),(0,.var [.d (.int .u64 size),.d (.sl 1 (names.map strD))])],some []⟩) (λq=>names.length - q.1) ⟨0,ad _⟩ le1 (λq=>?_);refine' Dl;have c6:((ctxs (names.take i)).map strD).length=i+1:=by simp [ctxs];omega
 rcases zw strD names i hi with ⟨m,hq,a6,J,ab,b4,a7⟩|⟨ao,J⟩
 .simp only [strD] at ab;refine' CO;refine' Fb;exact ⟨⟨i+1,fT⟩,lxb (lan hwi (lan e8 @zl6.eq_1)),gh⟩
 .subst ao;simp only [aL] at c6 |-;refine' zc (zg J c6);rw [aA (cH c6)]
@[go_sem] def zbm:Ent Tryz.prog 300:= .ofL (consL (aggT (consL (intT .u64) (consL (slT 1 strD zd7) nilL)) (λp=>p) (λp=>p) (λ_=>rfl)) nilL) (λ((size,names,_),_)=>(names.length<=1000000)/\(∀s∈names,s.length<=1000000)) (λ((size,names,_),_)=> .d (.sl 1 ((ctxs names).map strD))) (λ((size,names,_),_) hp=>⟨rfl,zrz size names hp.1 hp.2⟩)
def zei (s:Txt):(toBeg s).2.1.length<=s.length:=by
 unfold toBeg;split
 .exact ad _
 split
 .exact ad _
 .simp only [ak];omega
def zx4 (s:Txt) (hs:s.length<=1000000):AC 299 [.d (.str s)] (.tup [.d (.str (zb2 s).1),.d (.sl 1 ((zb2 s).2.1.map strD)),.d (.int .i64 (zb2 s).2.2)]):=by
 refine fbod func299 ntmps299 (λbase=>?_);refine' FA
 have ic:takeS B.2.1 4=if B.2.1.length<4 then (0,[],22) else (((numAt B.2.1 0 4:Nat):Int),B.2.1.drop 4,0):=by
  rw [takeS,U gb];by_cases h4:B.2.1.length<4
  .rw [aa h4,aa fT]
  .rw [U h4,U fT];rfl
 obtain ⟨Z,qJ⟩:∃Z,Z=takeS B.2.1 4:=⟨_,rfl⟩
 rw [<-qJ] at ic;refine' walkW (zg hB.symm qJ.symm) (za zho <| za zaN <| zb _)
 .rw [aa] at J
  .rw [J];rfl
  .rw [ic] at hc;by_cases h4:B.2.1.length<4
   .exact .inr (.inl h4)
   .rw [U h4] at hc;simp only [aH,bD,ax] at hc;omega
 simp only [bn,bJ,bG] at hc;obtain ⟨⟨bo,fY⟩,nV⟩:=hc;refine' Ej;refine' Cl;refine zk (λq: { q:Nat×List Txt×Txt // q.1<=n/\q.2.1.length=q.1/\q.2.2.length<=1000000/\zex n [] (B.2.1.drop 4)=zex (n - q.1) q.2.1 q.2.2 } =>⟨[(0,true,.d (.str q.1.2.2)),(5,true,.d (.str B.1)),(9,true,.osl 0 1 q.1.1 0 q.1.1),(33,true,.d (.int .u64 n)),(34,true,.d (.int .u64 q.1.1))],[(0,.arr 1 (q.1.2.1.map strD))],some []⟩) (λq=>n - q.1.1) ⟨(0,[],B.2.1.drop 4),ad _,rfl,mz,rfl⟩ le1 (λq=>?_);refine' EF
 .refine' Fw
  have kn:zex (n - i) l r=if D'.2.2≠0 then none else zex (n - (i+1)) (l++ [D'.1]) D'.2.1:=by rw [show n - i=(n - (i+1))+1 by omega,zex,<-hD]
  rw [kn] at hg;refine' walkW (zp ab hD.symm gF) (za zho <| za zaN <| zb _)
  .rw [hg,aa gA] at J;rw [J];rfl
  .rw [U gA] at hg;exact ⟨⟨(i+1,l++ [D'.1],D'.2.1),fT,by simp [hl],oO,hg⟩,(by simp only [AS.le,leT,leH,ze,AsgK,AV.le,AV.leL,AObj.le,inH,idsT,idsH,AV.ids,AV.idsL,AV.idsR,AObj.ids,lk,hget,go_sem,aeq,aeq.aeqF,simprocAttr,hw,aG,strD]<;>and_intros<;>rfl),gh⟩
 .refine' Hj;refine' walkW (zg ab gF) (za zho <| za zaN <| zb _)
  .rw [aa gA] at J;rw [J];rfl
  .rw [U gA] at J;rw [J,aA (cH gF)]
@[go_sem] def zcf:Ent Tryz.prog 299:= .m1 strT zx4
end
end Go.Aw
