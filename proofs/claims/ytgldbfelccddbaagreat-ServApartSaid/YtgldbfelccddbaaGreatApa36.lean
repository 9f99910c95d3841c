/- Lemmas. -/
import Derived.Test.YtgldbfelccddbaaGreatApa30
import Derived.Test.YtgldbfelccddbaaGreatApa28
set_option linter.all false
set_option maxRecDepth 100000
set_option maxHeartbeats 2000000
namespace Go.Aw
noncomputable section
open Go Go.Proofs Go.Proofs.Tryz
def zpK (d:Disk) (hp:DiskF d/\ztF d/\(dflush d).2=0):AC 169 [diskA d] (.tup [diskA (dflush d).1,.agg [.d (.int .u64 1),.d (.int .i64 0)],.d (.int .i64 0)]):=by obtain ⟨J,h,h0⟩:=hp;have ni:=J.ok;have iZ:=J.puts;refine fbod func169 ntmps169 (λbase=>?_);refine' walkW h0 (za zpJ <| za zbq <| zb _)
@[go_sem] def zlt:Ent Tryz.prog 169:= .m1 zC zpK
def dm0:Dmap:=⟨[],false,List.replicate 64 false⟩
@[go_sem] def dmC:List AV:= [.d (.str []),.d (.bool false),.d (.bool false),.d (.bool false),.d (.bool false),.d (.bool false),.d (.bool false),.d (.bool false),.d (.bool false),.d (.bool false),.d (.bool false),.d (.bool false),.d (.bool false),.d (.bool false),.d (.bool false),.d (.bool false),.d (.bool false),.d (.bool false),.d (.bool false),.d (.bool false),.d (.bool false),.d (.bool false),.d (.bool false),.d (.bool false),.d (.bool false),.d (.bool false),.d (.bool false),.d (.bool false),.d (.bool false),.d (.bool false),.d (.bool false),.d (.bool false),.d (.bool false),.d (.bool false),.d (.bool false),.d (.bool false),.d (.bool false),.d (.bool false),.d (.bool false),.d (.bool false),.d (.bool false),.d (.bool false),.d (.bool false),.d (.bool false),.d (.bool false),.d (.bool false),.d (.bool false),.d (.bool false),.d (.bool false),.d (.bool false),.d (.bool false),.d (.bool false),.d (.bool false),.d (.bool false),.d (.bool false),.d (.bool false),.d (.bool false),.d (.bool false),.d (.bool false),.d (.bool false),.d (.bool false),.d (.bool false),.d (.bool false),.d (.bool false),.d (.bool false),.d (.bool false)]
def zrW:ACall Tryz.prog 290 0 [.agg dmC] [] (λr _=>r= .tup [.d (.str blank),.d (.bool true)]):=by refine fbod func290 ntmps290 (λbase=>?_);unfold dmC;refine' walkW fx (za zih <| zb _);rfl
@[go_sem] def znJ:Ent Tryz.prog 290:= .ofL (consL (zav (.agg dmC)) nilL) (λ(_,_)=>True) (λ(_,_)=> .tup [.d (.str blank),.d (.bool true)]) (λ(_,_) hp=>⟨rfl,zrW⟩)
def zme (d:Disk):Prop:=∀i:Nat,i<2->plook d p0 (4+i)=(blank,0)
def dms (i:Nat):List (List D):=List.replicate i (dmapD dm0)
def zrX (d:Disk) (hd:DiskOk d) (h:zme d):ACall Tryz.prog 229 0 [diskA d,.agg [.d (.sl 1 []),.d (.sl 1 [])]] [] (λr _=>r= .tup [.d (.sl 66 (dms 2)),.d (.int .i64 0)]):=by
 have hp:=PlanOk.of zch;have yR:blank=List.replicate (Int.toNat 64) 0:=rfl;have hz:(blank !=List.replicate (Int.toNat 64) 0)=false:=by rw [<-yR];simp
 refine fbod func229 ntmps229 (λbase=>?_);refine' Ii;refine zaI 6 66 rfl ?_;refine' Cl;refine' Ds;have jw:∀i,(dms i).length=i:=λi=>bB ..;refine zk (λq: { i:Nat // i<=2 } =>⟨[(2,true,.vp 0 0),(3,true,.vp 1 0),(6,true,.osl 2 66 q.1 0 q.1),(7,true,.d (.int .i64 q.1))],[(2,.arr 66 (dms q.1)),(1,.var [.d (.sl 1 []),.d (.sl 1 [])]),(0,.var [.d (.str d.data),.d (.sl 2 (d.cache.map putD)),.d (.int .i64 d.fuse),.d (.bool d.off),.d (.sl 1 (d.bad.map intD))])],some []⟩) (λq=>2 - q.1) ⟨0,ad _⟩ le1 (λq=>?_);refine' Dl;refine' CO;rcases aO i 2 with ab|gU
 .refine' GP;have gX:IntKind.i64.wrap (4+(i:Int))=4+i:=zf fT fT;have pO:=h i ab;have e8:dms (i+1)=dms i++ [dmapD dm0]:=fH;refine' walkW (zat J gX pO jw hz) (za zae <| za zih <| za znJ <| zb _)
  .rfl
  .exact ⟨⟨i+1,fT⟩,by simp only [e8];exact lxb hwi,gh⟩
 .obtain rfl:i=2:=by omega
  refine' zc jw;rfl
@[go_sem] def zir:Ent Tryz.prog 229:= .ofL (consL zC (consL (aggT (consL (zav (.d (.sl 1 []))) (consL (zav (.d (.sl 1 []))) nilL)) (λp=>p) (λp=>p) (λ_=>rfl)) nilL)) (λ(d,(_,_,_),_)=>(DiskOk d)/\(zme d)) (λ(d,(_,_,_),_)=> .tup [.d (.sl 66 (dms 2)),.d (.int .i64 0)]) (λ(d,(_,_,_),_) hp=>⟨rfl,zrX d hp.1 hp.2⟩)
def zrY (x:Img) (h:ImgF x):ACall Tryz.prog 232 0 [imgA x,.agg [.d (.sl 1 []),.d (.sl 1 [])]] [] (λr _=>r= .tup [imgA (cdone x p0).1,.d (.int .i64 (cdone x p0).2)]):=by have:=h.seq1;exact zlZ x p0 h.ok h.disk zch h.seq0 fT
@[go_sem] def zis:Ent Tryz.prog 232:= .ofL (consL za9 (consL (aggT (consL (zav (.d (.sl 1 []))) (consL (zav (.d (.sl 1 []))) nilL)) (λp=>p) (λp=>p) (λ_=>rfl)) nilL)) (λ(x,(_,_,_),_)=>ImgF x) (λ(x,(_,_,_),_)=> .tup [imgA (cdone x p0).1,.d (.int .i64 (cdone x p0).2)]) (λ(x,(_,_,_),_) hp=>⟨rfl,zrY x hp⟩)
def zrZ (x:Img) (h:ImgF x) (hm:zme x.disk) (hb:x.broken=false) (he:(cdone x p0).2=0):ACall Tryz.prog 171 0 [imgA x] [] (λr _=>r= .tup [imgA { (cdone x p0).1 with maps:= [] },.d (.int .i64 0)]):=by
 have gC:=h.ok;have hd:=h.disk;have ni:=hd.ok;have hp:=zch;have e1:=h.seq0;have a6:=h.seq1;have jw:(dms 2).length=2:=rfl;have hr:∀i,i<2->(dms 2).getD i []=dmapD dm0:=λi hi=>by rw [dms,aN,List.getElem?_replicate,aa hi];rfl
 refine fbod func171 ntmps171 (λbase=>?_);refine' walkW hb (za zir <| za zis <| zb _);refine zk (λq: { i:Nat // i<=2 } =>⟨[(1,true,.vp 0 0),(2,true,.vp 1 0),(4,true,.d (.sl 66 (dms 2))),(6,true,.vp 2 0),(7,true,.nils 66),(8,true,.d (.int .i64 q.1))],[(2,.var [.d (.sl 1 []),.d (.sl 1 [])]),(1,.var img0),(0,.var (imgC x))],some []⟩) (λq=>2 - q.1) ⟨0,ad _⟩ (by unfold img0 imgC;simp only [AS.le,leT,leH,ze,AsgK,AV.le,AV.leL,AObj.le,inH,idsT,idsH,AV.ids,AV.idsL,AV.idsR,AObj.ids,lk,hget,go_sem,aeq,aeq.aeqF,simprocAttr]<;>and_intros<;>first|rfl|rw [hb]) (λq=>?_);obtain ⟨i,hi⟩:=q;simp only [imgC,img0] at hi |-;refine' CO;rcases aO i 2 with an|gU
 .have ab:decide ((i:Int)<2)=true:=af fT;have J:=hr i an;unfold dmapD dm0 at J;refine' zc (zp ab jw J);exact ⟨⟨i+1,fT⟩,lev,gh⟩
 .obtain rfl:i=2:=by omega
  refine' walkW (zg jw he) (za zir <| za zis <| zb _)
def ACallAt.le2 {P:Program} {fl:Nat} {f:FuncId} {args args':List AV} {h:AHeap} {K:AV->AHeap->Prop} (J:AV.leL args args') (hc:ACallAt P fl f args' h K):ACallAt P fl f args h K:=⟨hc.1,λE w vs hs hr=>hc.2 E w vs hs (Reps.le _ _ _ J hr)⟩
structure CrOk (d:Disk):Prop where
 disk:DiskF d
 head:dread d 0=(supS,0)
 size:(dsize d:Int)=112
 jour:ztF d
 fl:dflush d=(d,0)
 root:(zF d p0).2=0
 maps:zme d
 done:(cdone ⟨d,⟨20,8⟩,⟨1,0⟩,[],false⟩ p0).2=0
def zvq (d:Disk) (h:DiskF d):ACall Tryz.prog 170 0 [diskA d,.agg [.d (.sl 1 []),.d (.sl 1 [])]] [] (λr _=>r= .tup [rootA (zF d p0).1,.d (.int .i64 (zF d p0).2)]):=by
 exact zo4 d p0 ⟨h,zch⟩
@[go_sem] def zpL:Ent Tryz.prog 170:= .ofL (consL zC (consL (aggT (consL (zav (.d (.sl 1 []))) (consL (zav (.d (.sl 1 []))) nilL)) (λp=>p) (λp=>p) (λ_=>rfl)) nilL)) (λ(d,(_,_,_),_)=>DiskF d) (λ(d,(_,_,_),_)=> .tup [rootA (zF d p0).1,.d (.int .i64 (zF d p0).2)]) (λ(d,(_,_,_),_) hp=>⟨rfl,zvq d hp⟩)
def zr0 (d:Disk) (h:CrOk d):AC 92 [diskA d] (.tup [imgA { (cdone ⟨d,⟨20,8⟩,⟨1,0⟩,[],false⟩ p0).1 with maps:= [] },.d (.int .i64 0)]):=by
 have h1:=h.disk;have h2:=h1.ok;have h3:=h.head;have h4:=h.size;have h5:=h.jour;have J:=h.fl;have h7:=h.root;have h8:=h.maps;have h9:=h.done;have jJ:(dflush d).2=0:=iU;have hg:zjn 20 8=112:=gb;have hx:ImgF ⟨d,⟨20,8⟩,⟨1,0⟩,[],false⟩:=⟨⟨h2,ad _,(λm hm=>kO),(λm hm=>kO)⟩,h1,fZ,fZ,fZ,fZ,ad _⟩
 obtain ⟨X,hX⟩:∃X:Img,X=⟨d,⟨20,8⟩,⟨1,0⟩,[],false⟩:=⟨_,rfl⟩
 rw [<-hX] at hx h9 |-;have oL:zme X.disk:=by rw [hX];exact h8
 have tH:X.broken=false:=by rw [hX]
 refine fbod func92 ntmps92 (λbase=>?_);refine' walkW (zat h3 h4 J h7 hg) (za zbN <| za zrU <| za zbM <| za zfJ <| za zlt <| za zpL <| zb _);refine ACallAt.le2 (args':= [imgA X]) (by rw [hX];simp only [imgA,AV.leL,AV.le];and_intros<;>first|rfl|trivial) ((zaE (zrZ X hx oL tH h9)).mono ?_);refine' Cp;refine' Cl;refine' Ds
@[go_sem] def znK:Ent Tryz.prog 92:= .m1 zC zr0
def zpM (x:Img) (h:DiskOk x.disk) (hc:x.disk.cache= []) (ho:CrOk ⟨x.disk.data,[], -1,false,x.disk.bad⟩):ACall Tryz.prog 40 0 [imgA x,.d (.sl 1 [])] [] (λr _=>r= .tup [imgA { (cdone ⟨⟨x.disk.data,[], -1,false,x.disk.bad⟩,⟨20,8⟩,⟨1,0⟩,[],false⟩ p0).1 with maps:= [] },.d (.int .i64 0)]):=by
 obtain ⟨d,J⟩:∃d:Disk,d=⟨x.disk.data,[], -1,false,x.disk.bad⟩:=⟨_,rfl⟩
 rw [<-J] at ho |-;refine fbod func40 ntmps40 (λbase=>?_);refine' walkW fx (za znI <| za znK <| zb _)
 .rw [<-J];exact ho
 .rw [<-J]
def zmf:csmall.disk=⟨csmall.disk.data,[], -1,false,csmall.disk.bad⟩:=iD
def zBd:CrOk csmall.disk where
 disk:=csmall_ok.disk
 head:=iD
 size:=iD
 jour:=by unfold ztF;decide+kernel
 fl:=iD
 root:=iD
 maps:=by unfold zme;decide+kernel
 done:=iD
end
end Go.Aw
