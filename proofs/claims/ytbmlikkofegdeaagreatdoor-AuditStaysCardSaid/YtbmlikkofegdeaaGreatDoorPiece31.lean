/-
  Parts of the proof: CowE, RefcC, CowF, CowG (short names; the readable texts lie in the repo, under wip).
-/
import Derived.Test.YtbmlikkofegdeaaGreatDoorPiece30
import Derived.Test.YtbmlikkofegdeaaGreatDoorPiece17
import Derived.Test.YtbmlikkofegdeaaGreatDoorPiece25
import Derived.Test.YtbmlikkofegdeaaGreatDoorPiece22
import Derived.Test.YtbmlikkofegdeaaGreatDoorPiece28
import Derived.Test.YtbmlikkofegdeaaGreatDoorPiece26
set_option maxRecDepth 100000
set_option maxHeartbeats 2000000
set_option linter.unusedSimpArgs false
set_option linter.unusedVariables false
namespace Go.Aw
open Go Go.Proofs
theorem zop {d:Disk} {j:Jour} {p:Plan} (h:(jcommit d j p).2.2≠0):(jcommit d j p).2.1=j:=by
 unfold jcommit jtail at h ⊢;repeat' split at h
 all_goals simp_all
 all_goals rw [if_neg (by omega)]
theorem zq0 (x:Img) (p:Plan) (hp:ImgOk x/\DiskF x.disk/\pfit p=true/\0<=x.jour.seq/\x.jour.seq<18446744073709551616):AC 129 [imgA x,planA p] (.tup [imgA (cdone x p).1,.d (.int .i64 (cdone x p).2)]):=by
 obtain ⟨h,hd,hf,h0,h1⟩:=hp;refine fbod Tryz.func129 Tryz.ntmps129 (λbase=>?_);refine' walkW fx (za zlt <| zb _);by_cases he:(jcommit x.disk x.jour p).2.2=0
 ·have hb:((jcommit x.disk x.jour p).2.2 !=0)=false:=by rw [he];rfl
  rw [cdone,if_neg (by omega),hb,he,Bool.or_false]
 ·have hb:((jcommit x.disk x.jour p).2.2 !=0)=true:=by simpa using he
  rw [cdone,if_pos he,hb,Bool.or_true,zop he]
@[go_sem] noncomputable def zp:Ent Tryz.prog 129:= .m2 zbG zw zq0
theorem zi5 (l:List Dmap) (fl:Nat) (hl:l.length<=5000):ACall Tryz.prog 144 fl [.d (.sl 66 (l.map dmapD))] [] (λr h'=>r= .osl fl 66 l.length 0 l.length/\h'= [(fl,.arr 66 (l.map dmapD))]):=by
 refine bod Tryz.func144 Tryz.ntmps144 (λbase=>?_);refine' zcj (zav 2) fx
 ·refine zi noTab (zb _) (λK hK=>?_);simp only [go_sem,aeq,aeq.aeqF,simprocAttr]
  (first|(refine hK _ ?_;clear hK K)|(clear hK K;refine hK _ ?_;clear hK K)|(clear hK K;clear hK K;refine hK _ ?_;clear hK K)|(clear hK K;clear hK K;clear hK K;refine hK _ ?_;clear hK K)|(clear hK K;clear hK K;clear hK K;clear hK K;refine hK _ ?_;clear hK K))
  refine zds 2 66 rfl ?_;have h0:l= []:=List.map_eq_nil_iff.1 (hnb hc);subst h0;refine' zc fx;all_goals rfl
theorem zq1 (x:Img) (guest:Int) (hp:ImgOk x/\x.maps.length<=5000):AC 59 [imgA x,.d (.int .i64 guest)] (imgA (cmark x guest)):=by
 obtain ⟨h,h2⟩:=hp;refine fbod Tryz.func59 Tryz.ntmps59 (λbase=>?_);by_cases hg:guest<0\/64<=guest
 ·have hdec:(decide (0<=guest)&&decide (guest<64))=false:=by rw [Bool.and_eq_false_iff,decide_eq_false_iff_not,decide_eq_false_iff_not];omega
  refine' zc hdec;rw [cmark,if_pos hg]
 ·have hdec:(decide (0<=guest)&&decide (guest<64))=true:=by rw [Bool.and_eq_true,decide_eq_true_eq,decide_eq_true_eq];omega
  obtain ⟨g,rfl⟩:∃g:Nat,guest=g:=⟨guest.toNat,by omega⟩
  have hg2:g<64:=by omega
  refine' zc hdec;refine ((zi5 x.maps 2 h2).own rfl rfl (Nat.zero_le _) (by rintro r h' ⟨_,rfl⟩;rfl)).mono ?_;rintro r h' ⟨h1,⟨rfl,rfl⟩,rfl⟩;simp only [go_sem,aeq,aeq.aeqF,simprocAttr];refine' zc fx;refine zq (λq: { i:Nat // i<=x.maps.length } =>⟨[(1,true,.d (.int .i64 g)),(2,true,.vp 0 0),(4,true,.vp 1 0),(18,true,.d (.int .i64 x.maps.length)),(19,true,.d (.int .i64 q.1))],[(2,.arr 66 (((x.maps.take q.1).map (mset g)++x.maps.drop q.1).map dmapD)),(1,.var img0),(0,.var [.d (.str x.disk.data),.d (.sl 2 (x.disk.cache.map putD)),.d (.int .i64 x.disk.fuse),.d (.bool x.disk.off),.d (.sl 1 (x.disk.bad.map intD)),.d (.int .i64 x.geom.guest),.d (.int .i64 x.geom.host),.d (.int .u64 x.jour.seq),.d (.int .i64 x.jour.pos),.osl 2 66 x.maps.length 0 x.maps.length,.d (.bool x.broken)])],some []⟩) (λq=>x.maps.length - q.1) ⟨0,Nat.zero_le _⟩ le1 (λq=>?_);obtain ⟨i,hi⟩:=q;simp only;have hL:((x.maps.take i).map (mset g)++x.maps.drop i).length=x.maps.length:=by simp;omega
  rcases Nat.lt_or_ge i x.maps.length with hlt|hge
  ·obtain ⟨m,hq⟩:=zas hlt;have hcmp:decide ((i:Int)<(x.maps.length:Int))=true:=decide_eq_true (by omega);have hwi:=zr (i:=i) (by omega);have hL1:((x.maps.take i).map (mset g)).length=i:=by simp;omega
   have hat:((x.maps.take i).map (mset g)++x.maps.drop i)[i]?=some m:=by rw [List.getElem?_append_right (by omega),hL1,Nat.sub_self,List.getElem?_drop,Nat.add_zero,hq]
   have hrow:=zco (g:=dmapD) hat
   have hset:((x.maps.take i).map (mset g)++x.maps.drop i).set i (mset g m)=(x.maps.take (i+1)).map (mset g)++x.maps.drop (i+1):=by rw [List.set_append,if_neg (by omega),hL1,Nat.sub_self,zcQ hq,zb7 hq,List.map_append,List.append_assoc];rfl
   refine' zc (zB hcmp hL hrow)
   have hnew:(((x.maps.take i).map (mset g)++x.maps.drop i).map dmapD).set i ((dmapD m).set (2+g*1) (.bool true))=((x.maps.take (i+1)).map (mset g)++x.maps.drop (i+1)).map dmapD:=by rw [Nat.mul_one,zpx,<-List.map_set,hset]
   exact ⟨⟨i+1,by omega⟩,by simp only [AS.le,leT,leH,zf,AsgK,AV.le,AV.leL,AObj.le,inH,idsT,idsH,AV.ids,AV.idsL,AV.idsR,AObj.ids,lk,hget,go_sem,aeq,aeq.aeqF,simprocAttr,hwi,hnew],by simp;omega⟩
  ·have hcmp:decide ((i:Int)<(x.maps.length:Int))=false:=decide_eq_false (by omega);refine' zc (zn hcmp hL);rw [cmark,if_neg hg,show i=x.maps.length by omega,List.take_length,List.drop_length,List.append_nil,List.take_of_length_le (by simp)];rfl
@[go_sem] noncomputable def zaD:Ent Tryz.prog 59:= .m2 zbG (intT .i64) zq1
def sectI (k:Int):List (Int×Int):= [(96+2*k,0),(96+2*k+1,64)]
def zam (q:Int×Int):List AV:= [.d (.int .i64 q.1),.d (.int .i64 q.2)]
abbrev Scst (k:Int):= { q:Nat×List (List AV) // q.1<=2/\q.2++((sectI k).drop q.1).map zam=(sectI k).map zam }
theorem zgq (fl:Nat) (k:Int) (h0:0<=k) (h1:k<=1000):AIter Tryz.prog 205 fl [] [.dp [.d (.int .i64 k)]] [] ((sectI k).map zam) (λg h'=>(∀xs,g=some xs->xs=(sectI k).map zam)/\h'= []):=by
 refine itr Tryz.func205 Tryz.ntmps205 (λbase y=>?_);refine' z7 fx;refine zq (λq:Scst k=>⟨[(0,true,.fn (.yield y.yl) [] []),(1,true,.dp [.d (.int .i64 k)]),(4,true,.d (.int .i64 q.1.1))],[],some q.1.2⟩) (λq=>2 - q.1.1) ⟨(0,[]),Nat.zero_le _,rfl⟩ le1 (λq=>?_);obtain ⟨⟨i,xs⟩,hi,hf⟩:=q;simp only at hi hf ⊢;have hc0:((0:Nat):Int)=0:=rfl;have hc1:((1:Nat):Int)=1:=rfl;have hc2:((2:Nat):Int)=2:=rfl;have hw1:IntKind.i64.wrap 1=1:=by decide
 have hw2:IntKind.i64.wrap 2=2:=by decide
 have hw64:IntKind.i64.wrap 64=64:=by decide
 have hwz:IntKind.i64.wrap 0=0:=by decide
 have hwk:IntKind.i64.wrap (96+2*k+0)=96+2*k:=by rw [Int.add_zero];exact zg (by omega) (by omega)
 have hwk1:IntKind.i64.wrap (96+2*k+1)=96+2*k+1:=zg (by omega) (by omega);have h3:i=0\/i=1\/i=2:=by omega
 rcases h3 with rfl|rfl|rfl
 ·have hpre:(xs++ [zam (96+2*k,0)])<+:(sectI k).map zam:=by rw [<-hf];exact ⟨[zam (96+2*k+1,64)],by simp [sectI]⟩
  simp only [zam] at hpre;refine' walkX (zah hc0 hw1 hwz hwk) (za zck <| zb _);exact ⟨⟨(1,xs++ [zam (96+2*k,0)]),by show (1:Nat)<=2;omega,by rw [<-hf];simp [sectI]⟩,by simp only [AS.le,leT,leH,zf,AsgK,AV.le,AV.leL,AObj.le,inH,idsT,idsH,AV.ids,AV.idsL,AV.idsR,AObj.ids,lk,hget,go_sem,aeq,aeq.aeqF,simprocAttr,zam]<;>and_intros<;>rfl,by simp⟩
 ·have hpre:(xs++ [zam (96+2*k+1,64)])<+:(sectI k).map zam:=by rw [<-hf];exact ⟨[],by simp [sectI]⟩
  simp only [zam] at hpre;refine' walkX (zah hc1 hw2 hw64 hwk1) (za zck <| zb _);exact ⟨⟨(2,xs++ [zam (96+2*k+1,64)]),by show (2:Nat)<=2;omega,by rw [<-hf];simp [sectI]⟩,by simp only [AS.le,leT,leH,zf,AsgK,AV.le,AV.leL,AObj.le,inH,idsT,idsH,AV.ids,AV.idsL,AV.idsR,AObj.ids,lk,hget,go_sem,aeq,aeq.aeqF,simprocAttr,zam]<;>and_intros<;>rfl,by simp⟩
 ·refine' walkX hc2 (za zck <| zb _);rintro zs rfl;simpa [sectI] using hf
theorem zq2 (k:Int) (_:True):AC 146 [.d (.int .i64 k)] (.fn (.func 205) [] [.dp [.d (.int .i64 k)]]):=by refine fbod Tryz.func146 Tryz.ntmps146 (λbase=>?_);refine' zc fx
@[go_sem] noncomputable def zy:Ent Tryz.prog 146:= .m1 (intT .i64) zq2
def rdA (d:Disk) (k:Int):Nat->Txt
 |0=> []
 |1=>(dread d (96+2*k)).1
 |_=>(dread d (96+2*k)).1++(dread d (96+2*k+1)).1
@[go_sem] theorem rdA_0 (d:Disk) (k:Int):rdA d k 0= []:=rfl
def rdG (d:Disk) (k:Int):Nat->Prop
 |0=>True
 |1=>(dread d (96+2*k)).2=0
 |_=>(dread d (96+2*k)).2=0/\(dread d (96+2*k+1)).2=0
theorem zhq {k:Int} {ys zs:List (Int×Int)} {q:Int×Int} (h:sectI k=ys++q::zs):(ys= []/\q=(96+2*k,0))\/(ys= [(96+2*k,0)]/\q=(96+2*k+1,64)):=by
 match ys,h with
 | [],h=>simp only [sectI,List.nil_append,List.cons.injEq] at h;exact .inl ⟨rfl,h.1.symm⟩
 | [a],h=>simp only [sectI,List.cons_append,List.nil_append,List.cons.injEq] at h;exact .inr ⟨by rw [h.1],h.2.1.symm⟩
 |a::b::r,h=>
  exfalso;have:=congrArg List.length h;simp [sectI] at this
theorem zq3 (d:Disk) (l1 guest:Int) (h:DiskF d):AC 62 [diskA d,.d (.int .i64 l1),.d (.int .i64 guest)] (.tup [.d (.str (cread d l1 guest).1),.d (.int .i64 (cread d l1 guest).2)]):=by
 refine fbod Tryz.func62 Tryz.ntmps62 (λbase=>?_);have hdp:DP d p0:=⟨h,zaw⟩
 have hk1:(elook d p0 l1 guest).1.kind=1->zG (elook d p0 l1 guest).1.loc=true:=zkr;refine' walkR fx (za zF <| za zaj <| za zy <| za zv <| zb _)
 ·rw [cread,if_pos (bneP hc)]
 ·rename_i hc0;rw [cread,if_neg (bneN hc0),if_neg (bneP hc)];rfl
 rename_i hc0;have hkk:(elook d p0 l1 guest).1.kind=1:=Classical.byContradiction (λh=>bneN hc h);have hrd:cread d l1 guest=zfV d (elook d p0 l1 guest).1.loc:=by rw [cread,if_neg (bneN hc0),if_pos hkk]
 have hho:=hostOk_iff.1 (hk1 hkk)
 have hcl:zfV d (elook d p0 l1 guest).1.loc=if (dread d (96+2*(elook d p0 l1 guest).1.loc)).2≠0 then ([],(dread d (96+2*(elook d p0 l1 guest).1.loc)).2) else if (dread d (96+2*(elook d p0 l1 guest).1.loc+1)).2≠0 then ([],(dread d (96+2*(elook d p0 l1 guest).1.loc+1)).2)
   else ((dread d (96+2*(elook d p0 l1 guest).1.loc)).1++(dread d (96+2*(elook d p0 l1 guest).1.loc+1)).1,0):=rfl
 rw [hcl] at hrd;clear hcl hc0 hc;revert hkk hho hrd;generalize (elook d p0 l1 guest).1.loc=k;intro hkk hcl hho;have hdo:=h.ok;have hl1:=zgI (at_:=96+2*k) h.puts;have hl2:=zgI (at_:=96+2*k+1) h.puts;obtain ⟨I,hI⟩:∃I:List (List AV)->AHeap×Option (List (List AV)),I=λxs=>([(4,.var [.d (.str (rdA d k xs.length))]),(2,.var [.d (.int .i64 0)]),(1,.var [.d (.str [])]),(0,(.var [.d (.str d.data),.d (.sl 2 (d.cache.map putD)),.d (.int .i64 d.fuse),.d (.bool d.off),.d (.sl 1 (d.bad.map intD))]))],some []):=⟨_,rfl⟩
 obtain ⟨G,hG⟩:∃G:List (List AV)->Prop,G=λxs=>rdG d k xs.length:=⟨_,rfl⟩
 obtain ⟨J,hJ⟩:∃J:Code->AHeap->Option (List (List AV))->Prop,J=λc h g=>c= .ret/\g=some []/\∃t e,cread d l1 guest=([],e)/\h= [(4,.var [.d (.str t)]),(2,.var [.d (.int .i64 e)]),(1,.var [.d (.str [])]),(0,(.var [.d (.str d.data),.d (.sl 2 (d.cache.map putD)),.d (.int .i64 d.fuse),.d (.bool d.off),.d (.sl 1 (d.bad.map intD))]))]:=⟨_,rfl⟩
 refine aw_le ⟨[(3,true,.vp 0 0),(6,true,.vp 1 0),(7,true,.vp 2 0),(10,true,.vp 4 0),(33,true,.fn (.func 205) [] [.dp [.d (.int .i64 k)]])],[(4,.var [.d (.str [])]),(2,.var [.d (.int .i64 0)]),(1,.var [.d (.str [])]),(0,(.var [.d (.str d.data),.d (.sl 2 (d.cache.map putD)),.d (.int .i64 d.fuse),.d (.bool d.off),.d (.sl 1 (d.bad.map intD))]))],some []⟩ le0 ?_;refine zbk 100 G I J (zgq 100 k (by omega) (by omega)) (by simp only [go_sem,aeq,aeq.aeqF,simprocAttr]) rfl (zJ rfl) (by simp [cxOf,cxY]) rfl (by rw [hG];first|trivial|rfl|simp) (by rw [hI];simp only [AS.le,leT,leH,zf,AsgK,AV.le,AV.leL,AObj.le,inH,idsT,idsH,AV.ids,AV.idsL,AV.idsR,AObj.ids,lk,hget,go_sem,aeq,aeq.aeqF,simprocAttr]<;>simp [AV.leL,AV.le]) (by rw [hI];simp only [AS.le,leT,leH,zf,AsgK,AV.le,AV.leL,AObj.le,inH,idsT,idsH,AV.ids,AV.idsL,AV.idsR,AObj.ids,lk,hget,go_sem,aeq,aeq.aeqF,simprocAttr]<;>simp) (by rw [hI]<;>rfl) (by intro x hx;obtain ⟨q,_,rfl⟩:=List.mem_map.1 hx;rfl) (by intro t ht;simp at ht;first|(rcases ht with rfl|rfl<;>simp [cxOf,cxY]<;>done)|(subst ht;simp [cxOf,cxY])) ?_ ?_ ?_
 ·intro xs x hpre hgd l1 r1;obtain ⟨ys,q,zs,hys,rfl,hzl⟩:=zcS hpre;have hln:xs.length=ys.length:=by rw [hys];simp
  rw [hG] at hgd;rcases zhq hzl with ⟨rfl,rfl⟩|⟨rfl,rfl⟩
  ·have hx0:xs= []:=by simpa using hys
   subst hx0;simp only [zam];refine aw_le ⟨[(34,true,.d (.int .i64 (96+2*k))),(3,true,.vp 0 0),(6,true,.vp 1 0),(7,true,.vp 2 0),(10,true,.vp 4 0)],[(4,.var [.d (.str [])]),(2,.var [.d (.int .i64 0)]),(1,.var [.d (.str [])]),(0,(.var [.d (.str d.data),.d (.sl 2 (d.cache.map putD)),.d (.int .i64 d.fuse),.d (.bool d.off),.d (.sl 1 (d.bad.map intD))]))],some []⟩ (by rw [hI];simp only [AS.le,leT,leH,zf,AsgK,AV.le,AV.leL,AObj.le,inH,idsT,idsH,AV.ids,AV.idsL,AV.idsR,AObj.ids,lk,hget,go_sem,aeq,aeq.aeqF,simprocAttr,rdA]) ?_
   (have tk:=za zF <| za zaj <| za zy <| za zv <| zb Tryz.prog);repeat' (first|((first|(refine sa ?_;intro K hK)|refine sb ?_);simp only [go_sem,aeq,aeq.aeqF,simprocAttr,hI,rdA,Tryz.results62])|refine zaM (λK hK=>?_)|refine sc ?_|refine zbA rfl (λhc=>?_) (λhc=>?_)|(refine hK _ ?_;clear hK K)|((first|refine (show AS.le _ _ from ?_)|refine (show leH _ _ from ?_)|refine (show inH _ _ from ?_));simp only [AS.le,leT,leH,zf,AsgK,AV.le,AV.leL,AObj.le,inH,idsT,idsH,AV.ids,AV.idsL,AV.idsR,AObj.ids,lk,hget,go_sem,aeq,aeq.aeqF,simprocAttr,hI,rdA])|refine λ(r2:Rnd _)=>?_|with_reducible refine And.intro ?_ ?_|exact ‹_<+:_› |omega|assumption|clear hK K)
   ·rw [hJ];exact ⟨rfl,rfl,_,_,by rw [hcl,if_pos (bneP hc)],rfl⟩
   ·rw [hG];exact Classical.byContradiction (bneN hc)
  ·have hx1:xs= [zam (96+2*k,0)]:=by simpa using hys
   subst hx1;simp only [zam];refine aw_le ⟨[(34,true,.d (.int .i64 (96+2*k+1))),(3,true,.vp 0 0),(6,true,.vp 1 0),(7,true,.vp 2 0),(10,true,.vp 4 0)],[(4,.var [.d (.str (dread d (96+2*k)).1)]),(2,.var [.d (.int .i64 0)]),(1,.var [.d (.str [])]),(0,(.var [.d (.str d.data),.d (.sl 2 (d.cache.map putD)),.d (.int .i64 d.fuse),.d (.bool d.off),.d (.sl 1 (d.bad.map intD))]))],some []⟩ (by rw [hI];simp only [AS.le,leT,leH,zf,AsgK,AV.le,AV.leL,AObj.le,inH,idsT,idsH,AV.ids,AV.idsL,AV.idsR,AObj.ids,lk,hget,go_sem,aeq,aeq.aeqF,simprocAttr,rdA]) ?_;have h0:(dread d (96+2*k)).2=0:=hgd
   (have tk:=za zF <| za zaj <| za zy <| za zv <| zb Tryz.prog);repeat' (first|((first|(refine sa ?_;intro K hK)|refine sb ?_);simp only [go_sem,aeq,aeq.aeqF,simprocAttr,hI,rdA,Tryz.results62])|refine zaM (λK hK=>?_)|refine sc ?_|refine zbA rfl (λhc=>?_) (λhc=>?_)|(refine hK _ ?_;clear hK K)|((first|refine (show AS.le _ _ from ?_)|refine (show leH _ _ from ?_)|refine (show inH _ _ from ?_));simp only [AS.le,leT,leH,zf,AsgK,AV.le,AV.leL,AObj.le,inH,idsT,idsH,AV.ids,AV.idsL,AV.idsR,AObj.ids,lk,hget,go_sem,aeq,aeq.aeqF,simprocAttr,hI,rdA])|refine λ(r2:Rnd _)=>?_|with_reducible refine And.intro ?_ ?_|exact ‹_<+:_› |omega|assumption|clear hK K)
   ·rw [hJ];exact ⟨rfl,rfl,_,_,by rw [hcl,if_neg (by omega),if_pos (bneP hc)],rfl⟩
   ·rw [hG];exact ⟨h0,Classical.byContradiction (bneN hc)⟩
 ·intro hgd;rw [hG] at hgd;have hgd:(dread d (96+2*k)).2=0/\(dread d (96+2*k+1)).2=0:=hgd;rw [hI]
  (have tk:=za zF <| za zaj <| za zy <| za zv <| zb Tryz.prog);repeat' (first|((first|(refine sa ?_;intro K hK)|refine sb ?_);simp only [go_sem,aeq,aeq.aeqF,simprocAttr,sectI,rdA,Tryz.results62])|refine zaM (λK hK=>?_)|refine sc ?_|refine zbA rfl (λhc=>?_) (λhc=>?_)|(refine hK _ ?_;clear hK K)|((first|refine (show AS.le _ _ from ?_)|refine (show leH _ _ from ?_)|refine (show inH _ _ from ?_));simp only [AS.le,leT,leH,zf,AsgK,AV.le,AV.leL,AObj.le,inH,idsT,idsH,AV.ids,AV.idsL,AV.idsR,AObj.ids,lk,hget,go_sem,aeq,aeq.aeqF,simprocAttr,sectI,rdA])|refine λ(r2:Rnd _)=>?_|with_reducible refine And.intro ?_ ?_|exact ‹_<+:_› |omega|assumption|clear hK K)
  rw [hcl,if_neg (by omega),if_neg (by omega)]
 ·rw [hJ];rintro c h3 g3 ⟨rfl,rfl,t,e,he,rfl⟩;refine' walkR fx (za zF <| za zaj <| za zy <| za zv <| zb _);rw [he]
@[go_sem] noncomputable def zE:Ent Tryz.prog 62:= .m3 zu (intT .i64) (intT .i64) zq3
open Go Go.Proofs
def cntsL (d:Disk) (p:Plan):Nat->Nat->List (Int×Int)
 |0,_=> []
 |m+1,k=>if (rget d p k).2≠0 then [rget d p k] else rget d p k::cntsL d p m (k+1)
theorem zjp {d:Disk} {p:Plan} :∀ (m k:Nat) (l:List Int) (ys:List (Int×Int)) (q:Int×Int) (zs:List (Int×Int)),cntsL d p m k=ys++q::zs->q.2≠0->rallK d p m k l=([],q.2)
 |0,k,l,ys,q,zs,h,hq=>by simp [cntsL] at h
 | m+1,k,l,ys,q,zs,h,hq=>by
  rw [cntsL] at h;rw [rallK];split at h
  ·rename_i h1;rw [if_pos h1];cases ys with
   |nil=>simp only [List.nil_append,List.cons.injEq] at h;rw [h.1]
   |cons y ys=>simp at h
  ·rename_i h1;rw [if_neg h1];cases ys with
   |nil=>simp only [List.nil_append,List.cons.injEq] at h;rw [<-h.1] at hq;exact absurd hq h1
   |cons y ys=>
    simp only [List.cons_append,List.cons.injEq] at h;rw [show ((k:Int)+1)=((k+1:Nat):Int) by omega];exact zjp m (k+1) _ ys q zs h.2 hq
theorem znb {d:Disk} {p:Plan} :∀ (m k:Nat) (l:List Int),(∀q∈cntsL d p m k,q.2=0)->rallK d p m k l=(l++(cntsL d p m k).map (·.1),0)
 |0,k,l,h=>by simp [rallK,cntsL]
 | m+1,k,l,h=>by
  rw [cntsL] at h ⊢;rw [rallK];by_cases h1:(rget d p k).2=0
  ·rw [if_neg (by simpa using h1)] at h ⊢;rw [if_neg (by simpa using h1),show ((k:Int)+1)=((k+1:Nat):Int) by omega,znb m (k+1) _ (λq hq=>h q (List.mem_cons_of_mem _ hq))];simp
  ·rw [if_pos h1] at h;exact absurd (h _ (List.mem_singleton_self _)) h1
theorem znc {d:Disk} {p:Plan} :∀ (m k:Nat),(cntsL d p m k).length<=m
 |0,k=>Nat.le_refl _
 | m+1,k=>by
  rw [cntsL];split
  ·simp
  ·have:=znc (d:=d) (p:=p) m (k+1);simp only [List.length_cons];omega
theorem zrj (d:Disk) (p:Plan) (n:Int) (_:True):AC 157 [diskA d,planA p,.d (.int .i64 n)] (.fn (.func 212) [] [.dp [.d (.int .i64 n)],.dp (diskC d),.dp (planC p)]):=by refine fbod Tryz.func157 Tryz.ntmps157 (λbase=>?_);refine' zc fx
@[go_sem] noncomputable def zhT:Ent Tryz.prog 157:= .m3 zu zw (intT .i64) zrj
theorem zrk (d:Disk) (p:Plan) (n:Int) (h:DP d p) (h0:0<=n) (h1:n<=256):AIter Tryz.prog 212 100 [] [.dp [.d (.int .i64 n)],.dp [.d (.str d.data),.d (.sl 2 (d.cache.map putD)),.d (.int .i64 d.fuse),.d (.bool d.off),.d (.sl 1 (d.bad.map intD))],.dp [.d (.sl 1 (p.targets.map intD)),.d (.sl 1 (p.texts.map strD))]] [] ((cntsL d p n.toNat 0).map freeI) (λgg h'=>(∀xs,gg=some xs->xs=(cntsL d p n.toNat 0).map freeI)/\h'= []):=by
 refine itr Tryz.func212 Tryz.ntmps212 (λbase y=>?_);refine zfq ?_;refine' z7 fx;refine zq (λq: { q:Nat×List (List AV) // (q.1:Int)<=n/\q.2++(cntsL d p (n.toNat - q.1) q.1).map freeI=(cntsL d p n.toNat 0).map freeI } =>⟨[(0,true,.fn (.yield y.yl) [] []),(1,true,.dp [.d (.int .i64 n)]),(2,true,.dp [.d (.str d.data),.d (.sl 2 (d.cache.map putD)),.d (.int .i64 d.fuse),.d (.bool d.off),.d (.sl 1 (d.bad.map intD))]),(3,true,.dp [.d (.sl 1 (p.targets.map intD)),.d (.sl 1 (p.texts.map strD))]),(8,true,.d (.int .i64 n)),(9,true,.d (.int .i64 q.1.1))],[],some q.1.2⟩) (λq=>n.toNat - q.1.1) ⟨(0,[]),by show (_:Int)<=_;omega,rfl⟩ le1 (λq=>?_);obtain ⟨⟨i,xs⟩,hi,hf⟩:=q;simp only at hi hf ⊢;by_cases hlt:(i:Int)<n
 ·have hcmp:decide ((i:Int)<n)=true:=decide_eq_true hlt;have hwi:=zr (i:=i) (by omega);rw [show n.toNat - i=(n.toNat - (i+1))+1 by omega,cntsL] at hf;by_cases he:(rget d p i).2=0
  ·have hb:((rget d p i).2 !=0)=false:=by simpa using he
   rw [if_neg (by simpa using he)] at hf;have hpr:(xs++ [[.d (.int .i64 (rget d p i).1),.d (.int .i64 (rget d p i).2)]])<+:(cntsL d p n.toNat 0).map freeI:=⟨(cntsL d p (n.toNat - (i+1)) (i+1)).map freeI,by rw [<-hf];simp [freeI]⟩
   refine' walkX (zn hcmp hb) (za zk <| zb _);exact ⟨⟨(i+1,xs++ [freeI (rget d p i)]),by show ((i+1:Nat):Int)<=_;omega,by rw [<-hf];simp⟩,by simp only [AS.le,leT,leH,zf,AsgK,AV.le,AV.leL,AObj.le,inH,idsT,idsH,AV.ids,AV.idsL,AV.idsR,AObj.ids,lk,hget,go_sem,aeq,aeq.aeqF,simprocAttr,hwi,freeI],by simp;omega⟩
  ·have hb:((rget d p i).2 !=0)=true:=by simpa using he
   rw [if_pos (by simpa using he)] at hf;have hpr:(xs++ [[.d (.int .i64 (rget d p i).1),.d (.int .i64 (rget d p i).2)]])<+:(cntsL d p n.toNat 0).map freeI:=⟨[],by rw [<-hf];simp [freeI]⟩
   refine' walkX (zn hcmp hb) (za zk <| zb _);rintro zs rfl;rw [<-hf];simp [freeI]
 ·have hcmp:decide ((i:Int)<n)=false:=decide_eq_false hlt;refine' walkX hcmp (za zk <| zb _);rintro zs rfl;rw [<-hf,show n.toNat - i=0 by omega];simp [cntsL]
theorem ztH (d:Disk) (p:Plan) (n:Int) (h:DP d p):AC 80 [diskA d,planA p,.d (.int .i64 n)] (.tup [.d (.sl 1 ((rall d p n).1.map intD)),.d (.int .i64 (rall d p n).2)]):=by
 refine fbod Tryz.func80 Tryz.ntmps80 (λbase=>?_);by_cases hn:n<0\/256<n
 ·have hdec:(decide (n<0)||decide (256<n))=true:=by simpa using hn
  refine' walkR hdec (za zhT <| zb _);rw [rall,if_pos hn];rfl
 have hdec:(decide (n<0)||decide (256<n))=false:=by simpa using hn
 refine' walkR hdec (za zhT <| zb _);have hra:rall d p n=rallK d p n.toNat 0 []:=by rw [rall,if_neg hn]
 obtain ⟨L,hL⟩:∃L,L=cntsL d p n.toNat 0:=⟨_,rfl⟩
 have hLb:=znc (d:=d) (p:=p) n.toNat 0;have hLb:(cntsL d p n.toNat 0).length<=256:=by omega
 have hspl:=λys q zs=>zjp (d:=d) (p:=p) n.toNat 0 [] ys q zs;have hall:=znb (d:=d) (p:=p) n.toNat 0 [];have hit:=zrk d p n h (by omega) (by omega);rw [<-hL] at hspl hall hit hLb;rw [show ((0:Nat):Int)=0 from rfl] at hspl hall;rw [<-hra] at hall;refine zir 4 0 1 (cs:= [.nils 1]) rfl rfl ?_;simp only [fresh,top,hget,hset, ↓reduceIte];obtain ⟨I,hI⟩:∃I:List (List AV)->AHeap×Option (List (List AV)),I=λxs=>([(5,.arr 1 ((L.take xs.length).map (λq=> [.int .i64 q.1]))),(4,.var [.osl 5 1 xs.length 0 xs.length]),(3,.var [.d (.int .i64 0)]),(2,.var [.nils 1]),(1,(.var [.d (.sl 1 (p.targets.map intD)),.d (.sl 1 (p.texts.map strD))])),(0,(.var [.d (.str d.data),.d (.sl 2 (d.cache.map putD)),.d (.int .i64 d.fuse),.d (.bool d.off),.d (.sl 1 (d.bad.map intD))]))],some []):=⟨_,rfl⟩
 obtain ⟨G,hG⟩:∃G:List (List AV)->Prop,G=λxs=>xs.length<=L.length/\∀q∈L.take xs.length,q.2=0:=⟨_,rfl⟩
 obtain ⟨J,hJ⟩:∃J:Code->AHeap->Option (List (List AV))->Prop,J=λc h g=>c= .ret/\g=some []/\∃ (a:List (List D)) (m:Nat) (e:Int),rall d p n=([],e)/\h= [(5,.arr 1 a),(4,.var [.osl 5 1 m 0 m]),(3,.var [.d (.int .i64 e)]),(2,.var [.nils 1]),(1,(.var [.d (.sl 1 (p.targets.map intD)),.d (.sl 1 (p.texts.map strD))])),(0,(.var [.d (.str d.data),.d (.sl 2 (d.cache.map putD)),.d (.int .i64 d.fuse),.d (.bool d.off),.d (.sl 1 (d.bad.map intD))]))]:=⟨_,rfl⟩
 refine aw_le ⟨[(6,true,.vp 2 0),(7,true,.vp 3 0),(8,true,.vp 4 0),(20,true,.fn (.func 212) [] [.dp [.d (.int .i64 n)],.dp (diskC d),.dp (planC p)])],[(5,.arr 1 []),(4,.var [.osl 5 1 0 0 0]),(3,.var [.d (.int .i64 0)]),(2,.var [.nils 1]),(1,(.var [.d (.sl 1 (p.targets.map intD)),.d (.sl 1 (p.texts.map strD))])),(0,(.var [.d (.str d.data),.d (.sl 2 (d.cache.map putD)),.d (.int .i64 d.fuse),.d (.bool d.off),.d (.sl 1 (d.bad.map intD))]))],some []⟩ le0 ?_;refine zbk 100 G I J (hit) (by simp only [go_sem,aeq,aeq.aeqF,simprocAttr]) rfl (zJ rfl) (by simp [cxOf,cxY]) rfl (by rw [hG];first|trivial|rfl|simp) (by rw [hI];simp only [AS.le,leT,leH,zf,AsgK,AV.le,AV.leL,AObj.le,inH,idsT,idsH,AV.ids,AV.idsL,AV.idsR,AObj.ids,lk,hget,go_sem,aeq,aeq.aeqF,simprocAttr]<;>simp [AV.leL,AV.le]) (by rw [hI];simp only [AS.le,leT,leH,zf,AsgK,AV.le,AV.leL,AObj.le,inH,idsT,idsH,AV.ids,AV.idsL,AV.idsR,AObj.ids,lk,hget,go_sem,aeq,aeq.aeqF,simprocAttr]<;>simp) (by rw [hI]<;>rfl) (by intro x hx;obtain ⟨q,_,rfl⟩:=List.mem_map.1 hx;rfl) (by intro t ht;simp at ht;first|(rcases ht with rfl|rfl<;>simp [cxOf,cxY]<;>done)|(subst ht;simp [cxOf,cxY])) ?_ ?_ ?_
 ·intro xs x hpre hgd l1 r1;obtain ⟨ys,q,zs,hys,rfl,hzl⟩:=zcS hpre;have hln:xs.length=ys.length:=by rw [hys];simp
  rw [hG] at hgd;obtain ⟨hg1,hg2⟩:=hgd;simp only [freeI];have hqL:L[xs.length]?=some q:=by rw [hzl,hln];simp
  have htk:=zb7 hqL;obtain ⟨A,hA⟩:∃A:List (List D),A=(L.take xs.length).map (λq=> [.int .i64 q.1]):=⟨_,rfl⟩
  have hAl:A.length=xs.length:=by rw [hA,List.length_map,List.length_take];omega
  have hLl:L.length<=256:=hLb;refine aw_le ⟨[(21,true,.d (.int .i64 q.1)),(22,true,.d (.int .i64 q.2)),(6,true,.vp 2 0),(7,true,.vp 3 0),(8,true,.vp 4 0)],[(5,.arr 1 A),(4,.var [.osl 5 1 xs.length 0 xs.length]),(3,.var [.d (.int .i64 0)]),(2,.var [.nils 1]),(1,(.var [.d (.sl 1 (p.targets.map intD)),.d (.sl 1 (p.texts.map strD))])),(0,(.var [.d (.str d.data),.d (.sl 2 (d.cache.map putD)),.d (.int .i64 d.fuse),.d (.bool d.off),.d (.sl 1 (d.bad.map intD))]))],some []⟩ (by rw [hI,hA];simp only [AS.le,leT,leH,zf,AsgK,AV.le,AV.leL,AObj.le,inH,idsT,idsH,AV.ids,AV.idsL,AV.idsR,AObj.ids,lk,hget,go_sem,aeq,aeq.aeqF,simprocAttr]) ?_;by_cases he:q.2=0
  ·have hb:(q.2 !=0)=false:=by simpa using he
   refine' zaO (zL hb hAl hI @List.length_append.{0} htk (zn @List.map_append.{0,0} hA.symm));rw [hG];show (xs++ [freeI q]).length<=L.length/\∀y∈L.take (xs++ [freeI q]).length,y.2=0;rw [List.length_append,List.length_singleton,htk];refine ⟨by have:=(List.getElem?_eq_some_iff.1 hqL).1;omega,λy hy=>?_⟩;rcases List.mem_append.1 hy with hy|hy
   ·exact hg2 y hy
   ·rw [List.mem_singleton.1 hy];exact he
  ·have hb:(q.2 !=0)=true:=by simpa using he
   refine' zaO (zn hb hAl);rw [hJ];exact ⟨rfl,rfl,A,xs.length,q.2,by rw [hra];exact hspl _ _ _ hzl he,rfl⟩
 ·intro hgd;rw [hG] at hgd;rw [List.length_map,List.take_length] at hgd;have hfin:=hall hgd.2;rw [hI];have hml:(L.map (λq=>([.int .i64 q.1]:List D))).length=L.length:=List.length_map _;refine' zaO (zn @List.length_map.{0,0} @List.take_length.{0});rw [hfin,List.nil_append,List.map_map];rfl
 ·rw [hJ];rintro c h3 g3 ⟨rfl,rfl,a,m,e,he,rfl⟩;refine' zaO fx;rw [he];rfl
@[go_sem] noncomputable def ze7:Ent Tryz.prog 80:= .m3 zu zw (intT .i64) ztH
open Go Go.Proofs
open Go Go.Proofs
@[simp, go_sem] theorem zxX (x:Img) (d:Disk):(wdisk x d).disk=d:=rfl
@[simp, go_sem] theorem zxY (x:Img) (d:Disk):(wdisk x d).geom=x.geom:=rfl
@[simp, go_sem] theorem zxZ (x:Img) (d:Disk):(wdisk x d).jour=x.jour:=rfl
@[simp, go_sem] theorem zx0 (x:Img) (d:Disk):(wdisk x d).maps=x.maps:=rfl
@[simp, go_sem] theorem zwq (x:Img) (d:Disk):(wdisk x d).broken=x.broken:=rfl
@[simp, go_sem] theorem zxr (x:Img) (d e:Disk):wdisk (wdisk x d) e=wdisk x e:=rfl
@[simp, go_sem] theorem zx1 (x:Img):wdisk x x.disk=x:=rfl
theorem fix1 {P:Program} {f:FuncId} {args:List AV} {fl i:Nat} {h:AHeap} {r0:AV} {X:AObj} (hc:ACall P f fl args h (λr h'=>∃ob',h'= [(i,ob')]/\r=r0/\ob'=X)):ACall P f fl args h (λr h'=>r=r0/\h'= [(i,X)]):=
 hc.mono (by rintro r h' ⟨ob',rfl,rfl,rfl⟩;exact ⟨rfl,rfl⟩)
structure JS where
 x:Img
 q:Plan
 loc:Int
 old:Txt
 e:Int
def jobP (x:Img) (g off:Int) (s:Txt) (l1 nx:Int) (y:Ent2) (q:Plan) (at_:Int) (old:Txt):List AV:= [.d (.str x.disk.data),.d (.sl 2 (x.disk.cache.map putD)),.d (.int .i64 x.disk.fuse),.d (.bool x.disk.off),.d (.sl 1 (x.disk.bad.map intD)),.d (.int .i64 x.geom.guest),.d (.int .i64 x.geom.host),.d (.int .u64 x.jour.seq),.d (.int .i64 x.jour.pos),.d (.sl 66 (x.maps.map dmapD)),.d (.bool x.broken),.d (.int .i64 g),.d (.int .i64 off),.d (.str s),.d (.int .i64 l1),.d (.int .u32 nx),.d (.int .i64 y.kind),.d (.int .i64 y.loc),.d (.sl 1 (q.targets.map intD)),.d (.sl 1 (q.texts.map strD)),.d (.int .i64 at_),.d (.str old)]
attribute [go_sem] jobP
theorem zvC {x:Img} {g off:Int} {s:Txt} {l1 nx:Int} {y:Ent2} {q:Plan} {a:Int} {old:Txt} :(AObj.var (jobP x g off s l1 nx y q a old)).ids= []:=by
 simp [AObj.ids,jobP,AV.idsL,AV.ids]
theorem zd0 {x:Img} {g off:Int} {s:Txt} {l1 nx:Int} {y:Ent2} {q:Plan} {a:Int} {old:Txt} :∀j∈(AObj.var (jobP x g off s l1 nx y q a old)).ids,j=2:=by
 rw [zvC];simp
def zei (x:Img) (g:Int):Ent2×Int:=if (ze x.disk p0).2≠0 then (⟨0,0⟩,(ze x.disk p0).2) else elook x.disk p0 (ze x.disk p0).1.l1 g
theorem zvD (x:Img) (g off:Int) (s:Txt) (h:ImgF x):ACall Tryz.prog 81 20 [.vp 2 0] [(2,.var (jobP x g off s 0 0 ⟨0,0⟩ p0 0 []))] (λr h'=>∃ob',h'= [(2,ob')]/\r= .d (.int .i64 (zei x g).2)/\ob'= .var (jobP x g off s (ze x.disk p0).1.l1 (ze x.disk p0).1.next (zei x g).1 p0 0 [])):=by
 refine bod Tryz.func81 Tryz.ntmps81 (λbase=>?_);have hdp:DP x.disk p0:=⟨h.disk,zaw⟩
 refine' walkW fx (za zo <| za zF <| za zk <| za zD <| za zE <| za zR <| za zp <| za zt <| za zaa <| za zy <| za zv <| zb _)
 ·refine ⟨_,rfl,?_,?_⟩<;>rw [zei,if_neg (show ¬_≠_ from λh2=>h2 (beqP hc))]
 ·refine ⟨_,rfl,?_,?_⟩<;>rw [zei,if_pos (beqN hc)]
theorem ztl (x:Img) (g off:Int) (s:Txt) (l1 nx:Int) (y:Ent2) (h:ImgF x):ACall Tryz.prog 87 20 [.vp 2 0] [(2,.var (jobP x g off s l1 nx y p0 0 []))] (λr h'=>∃ob',h'= [(2,ob')]/\(r= .tup [.d (.bool (if y.kind=1 then decide ((rget x.disk p0 y.loc).1<=1) else false)),.d (.int .i64 (if y.kind=1 then (rget x.disk p0 y.loc).2 else 0))])/\ob'= .var (jobP x g off s l1 nx y p0 0 [])):=by
 refine bod Tryz.func87 Tryz.ntmps87 (λbase=>?_);have hdp:DP x.disk p0:=⟨h.disk,zaw⟩
 refine' walkW fx (za zo <| za zF <| za zk <| za zD <| za zE <| za zR <| za zp <| za zt <| za zaa <| za zy <| za zv <| zb _)
 ·exact ⟨_,rfl,by rw [if_neg (bneP hc),if_neg (bneP hc)],rfl⟩
 ·have hk:y.kind=1:=Classical.byContradiction (bneN hc);exact ⟨_,rfl,by rw [if_pos hk,if_pos hk],rfl⟩
theorem zvE (x:Img) (g off:Int) (s:Txt) (l1 nx:Int) (y:Ent2) (h:ImgF x):ACall Tryz.prog 82 20 [.vp 2 0] [(2,.var (jobP x g off s l1 nx y p0 0 []))] (λr h'=>∃ob',h'= [(2,ob')]/\(r= .d (.int .i64 (rtake x.disk p0 x.geom).2.2))/\ob'= .var (jobP x g off s l1 nx y (rtake x.disk p0 x.geom).1 (rtake x.disk p0 x.geom).2.1 [])):=by
 refine bod Tryz.func82 Tryz.ntmps82 (λbase=>?_);have hdp:DP x.disk p0:=⟨h.disk,zaw⟩
 have hh:=h.host;refine' walkW fx (za zo <| za zF <| za zk <| za zD <| za zE <| za zR <| za zp <| za zt <| za zaa <| za zy <| za zv <| zb _);all_goals first|exact ⟨_,rfl,rfl,rfl⟩|exact ⟨_,rfl,rfl⟩|omega
theorem zvF (x:Img) (g off:Int) (s:Txt) (l1 nx:Int) (y:Ent2) (q:Plan) (a:Int) (h:ImgF x):ACall Tryz.prog 83 20 [.vp 2 0] [(2,.var (jobP x g off s l1 nx y q a []))] (λr h'=>∃ob',h'= [(2,ob')]/\(r= .d (.int .i64 (cread x.disk l1 g).2))/\ob'= .var (jobP x g off s l1 nx y q a (cread x.disk l1 g).1)):=by refine bod Tryz.func83 Tryz.ntmps83 (λbase=>?_);have hdf:=h.disk;refine' walkW fx (za zo <| za zF <| za zk <| za zD <| za zE <| za zR <| za zp <| za zt <| za zaa <| za zy <| za zv <| zb _);all_goals first|exact ⟨_,rfl,rfl,rfl⟩|exact ⟨_,rfl,rfl⟩|omega
theorem ztm (x:Img) (g off:Int) (s:Txt) (l1 nx:Int) (y:Ent2) (q:Plan) (a:Int) (old:Txt) (h:ImgF x) (hq:pfit q=true):ACall Tryz.prog 85 20 [.vp 2 0] [(2,.var (jobP x g off s l1 nx y q a old))] (λr h'=>∃ob',h'= [(2,ob')]/\(r= .d (.int .i64 (ppoint x.disk q x.geom g ⟨1,a⟩).2))/\ob'= .var (jobP x g off s l1 nx y (ppoint x.disk q x.geom g ⟨1,a⟩).1 a old)):=by
 refine bod Tryz.func85 Tryz.ntmps85 (λbase=>?_);have hdp:DP x.disk q:=⟨h.disk,hq⟩
 have hh:=h.host;have hg:=h.guest;refine' walkW fx (za zo <| za zF <| za zk <| za zD <| za zE <| za zR <| za zp <| za zt <| za zaa <| za zy <| za zv <| zb _);all_goals first|exact ⟨_,rfl,rfl,rfl⟩|exact ⟨_,rfl,rfl⟩|omega
theorem zvG (x:Img) (g off:Int) (s:Txt) (l1 nx:Int) (y:Ent2) (q:Plan) (a:Int) (old:Txt) (h:ImgF x) (hq:pfit q=true):ACall Tryz.prog 86 20 [.vp 2 0] [(2,.var (jobP x g off s l1 nx y q a old))] (λr h'=>∃ob',h'= [(2,ob')]/\(r= .d (.int .i64 (cdone x q).2))/\ob'= .var (jobP (cdone x q).1 g off s l1 nx y q a old)):=by refine bod Tryz.func86 Tryz.ntmps86 (λbase=>?_);have hdf:=h.disk;have hok:=h.ok;have hs0:=h.seq0;have hs1:=h.seq1;refine' walkW fx (za zo <| za zF <| za zk <| za zD <| za zE <| za zR <| za zp <| za zt <| za zaa <| za zy <| za zv <| zb _);all_goals first|exact ⟨_,rfl,rfl,rfl⟩|exact ⟨_,rfl,rfl⟩|omega
theorem zi8 (x:Img) (g off:Int) (s:Txt) (l1 nx:Int) (y:Ent2) (q:Plan) (a:Int) (old:Txt) (t:Int) (u:Txt) (h:DiskOk x.disk):ACall Tryz.prog 159 40 [.vp 2 0,.d (.int .i64 t),.d (.str u)] [(2,.var (jobP x g off s l1 nx y q a old))] (λr h'=>∃ob',h'= [(2,ob')]/\(r= .d (.int .i64 (zM x.disk t u).2))/\ob'= .var (jobP (wdisk x (zM x.disk t u).1) g off s l1 nx y q a old)):=by refine bod Tryz.func159 Tryz.ntmps159 (λbase=>?_);refine' walkW fx (za zo <| za zF <| za zk <| za zD <| za zE <| za zR <| za zp <| za zt <| za zaa <| za zy <| za zv <| zb _);all_goals first|exact ⟨_,rfl,rfl,rfl⟩|exact ⟨_,rfl,rfl⟩|omega
theorem zvH (x:Img) (g off:Int) (s:Txt) (l1 nx:Int) (y:Ent2) (q:Plan) (a:Int) (old:Txt) (h:ImgF x) (ha:zG a=true) (ho:old.length=128) (h0:0<=off) (h1:off+s.length<=128):ACall Tryz.prog 84 20 [.vp 2 0] [(2,.var (jobP x g off s l1 nx y q a old))] (λr h'=>∃ob',h'= [(2,ob')]/\(r= .d (.int .i64 (layL x.disk (zbO a (overS old off s).1)).2))/\ob'= .var (jobP (wdisk x (layL x.disk (zbO a (overS old off s).1)).1) g off s l1 nx y q a old)):=by
 refine zC (λi=>decide (i<20)) ?_;refine bod Tryz.func84 Tryz.ntmps84 (λbase=>?_);have ha2:=hostOk_iff.1 ha;have hbl:(overS old off s).1.length=128:=by rw [zsZ h0 (by omega),ho]
 obtain ⟨b,hb⟩:∃b,b=(overS old off s).1:=⟨_,rfl⟩
 rw [<-hb] at hbl ⊢;obtain ⟨L,hL⟩:∃L,L=layL x.disk (zbO a b):=⟨_,rfl⟩
 rw [<-hL];have hx:=h.disk;refine' walkR hb.symm (za zo <| za zF <| za zk <| za zD <| za zE <| za zR <| za zp <| za zt <| za zaa <| za zy <| za zv <| zb _);obtain ⟨I,hI⟩:∃I:List (List AV)->AHeap×Option (List (List AV)),I=λxs=>([(38,.var [.d (.str b)]),(21,.var [.d (.int .i64 0)]),(20,.var [.vp 2 0]),(2,.var (jobP (wdisk x (layF x.disk ((zbO a b).take xs.length))) g off s l1 nx y q a old))],some []):=⟨_,rfl⟩
 obtain ⟨G,hG⟩:∃G:List (List AV)->Prop,G=λxs=>L=layL (layF x.disk ((zbO a b).take xs.length)) ((zbO a b).drop xs.length):=⟨_,rfl⟩
 obtain ⟨J,hJ⟩:∃J:Code->AHeap->Option (List (List AV))->Prop,J=λc h gg=>c= .ret/\gg=some []/\h= [(38,.var [.d (.str b)]),(21,.var [.d (.int .i64 L.2)]),(20,.var [.vp 2 0]),(2,.var (jobP (wdisk x L.1) g off s l1 nx y q a old))]:=⟨_,rfl⟩
 have hw64:IntKind.i64.wrap 64=64:=by decide
 have hw128:IntKind.i64.wrap 128=128:=by decide
 have hz0:Int.toNat 0=0:=rfl;have h64:Int.toNat 64=64:=rfl;have h128:Int.toNat 128=128:=rfl;refine aw_le ⟨[(1,true,.vp 20 0),(2,true,.vp 21 0),(3,true,.vp 38 0),(28,true,.fn (.func 205) [] [.dp [.d (.int .i64 a)]])],[(38,.var [.d (.str b)]),(21,.var [.d (.int .i64 0)]),(20,.var [.vp 2 0]),(2,.var (jobP x g off s l1 nx y q a old))],some []⟩ le0 ?_;have hwx:wdisk x x.disk=x:=rfl;refine zbk 100 G I J (zgq 100 a (by omega) (by omega)) (by simp only [go_sem,aeq,aeq.aeqF,simprocAttr]) rfl (zJ rfl) (by simp [cxOf,cxY]) rfl (by rw [hG];first|trivial|rfl|simp) (by rw [hI];simp only [AS.le,leT,leH,zf,AsgK,AV.le,AV.leL,AObj.le,inH,idsT,idsH,AV.ids,AV.idsL,AV.idsR,AObj.ids,lk,hget,go_sem,aeq,aeq.aeqF,simprocAttr]<;>simp [AV.leL,AV.le]) (by rw [hI];simp only [AS.le,leT,leH,zf,AsgK,AV.le,AV.leL,AObj.le,inH,idsT,idsH,AV.ids,AV.idsL,AV.idsR,AObj.ids,lk,hget,go_sem,aeq,aeq.aeqF,simprocAttr]<;>simp) (by rw [hI]<;>rfl) (by intro x hx;obtain ⟨q,_,rfl⟩:=List.mem_map.1 hx;rfl) (by intro t ht;simp at ht;first|(rcases ht with rfl|rfl<;>simp [cxOf,cxY]<;>done)|(subst ht;simp [cxOf,cxY])) ?_ ?_ ?_
 ·intro xs x1 hpre hgd l1' r1;obtain ⟨ys,qq,zs,hys,rfl,hzl⟩:=zcS hpre;have hln:xs.length=ys.length:=by rw [hys];simp
  rw [hG] at hgd;rcases zhq hzl with ⟨rfl,rfl⟩|⟨rfl,rfl⟩
  ·have hx0:xs= []:=by simpa using hys
   subst hx0;simp only [zam];have hgd':L=if (zM x.disk (96+2*a) (b.take 64)).2≠0 then zM x.disk (96+2*a) (b.take 64) else layL (zM x.disk (96+2*a) (b.take 64)).1 ((zbO a b).drop 1):=hgd
   refine aw_le ⟨[(29,true,.d (.int .i64 (96+2*a))),(30,true,.d (.int .i64 0)),(1,true,.vp 20 0),(2,true,.vp 21 0),(3,true,.vp 38 0)],[(38,.var [.d (.str b)]),(21,.var [.d (.int .i64 0)]),(20,.var [.vp 2 0]),(2,.var (jobP x g off s l1 nx y q a old))],some []⟩ (by rw [hI];simp only [AS.le,leT,leH,zf,AsgK,AV.le,AV.leL,AObj.le,inH,idsT,idsH,AV.ids,AV.idsL,AV.idsR,AObj.ids,lk,hget,go_sem,aeq,aeq.aeqF,simprocAttr,wdisk]) ?_;refine' zpi (ownsL [1000159]) (zah hw64 hz0 h64 hbl) (za zo <| za zF <| za zk <| za zD <| za zE <| za zR <| za zp <| za zt <| za zaa <| za zy <| za zv <| zb _);refine ⟨2,40,.var (jobP x g off s l1 nx y q a old),_,_,rfl,by decide,zd0,by simp [AV.idsL,AV.ids],fix1 (zi8 x g off s l1 nx y q a old (96+2*a) (b.take 64) hx.ok),?_⟩;simp only [go_sem,aeq,aeq.aeqF,simprocAttr];refine' zpi (ownsL [1000159]) hI (za zo <| za zF <| za zk <| za zD <| za zE <| za zR <| za zp <| za zt <| za zaa <| za zy <| za zv <| zb _);all_goals try rfl
   ·rw [hJ];rw [if_pos (bneP hc)] at hgd';exact ⟨rfl,rfl,by rw [hgd'];rfl⟩
   ·rw [hG];rw [if_neg (bneN hc)] at hgd';exact hgd'
  ·have hx0:xs= [zam (96+2*a,0)]:=by simpa using hys
   subst hx0;simp only [zam];obtain ⟨d1,hd1⟩:∃d1,d1=(zM x.disk (96+2*a) (b.take 64)).1:=⟨_,rfl⟩
   have hd1F:DiskF d1:=by rw [hd1];exact hx.write _ _
   have hgd':L=if (zM d1 (96+2*a+1) ((b.take 128).drop 64)).2≠0 then zM d1 (96+2*a+1) ((b.take 128).drop 64) else ((zM d1 (96+2*a+1) ((b.take 128).drop 64)).1,0):=by rw [hd1];exact hgd
   refine aw_le ⟨[(29,true,.d (.int .i64 (96+2*a+1))),(30,true,.d (.int .i64 64)),(1,true,.vp 20 0),(2,true,.vp 21 0),(3,true,.vp 38 0)],[(38,.var [.d (.str b)]),(21,.var [.d (.int .i64 0)]),(20,.var [.vp 2 0]),(2,.var (jobP (wdisk x d1) g off s l1 nx y q a old))],some []⟩ (by rw [hI,hd1];simp only [AS.le,leT,leH,zf,AsgK,AV.le,AV.leL,AObj.le,inH,idsT,idsH,AV.ids,AV.idsL,AV.idsR,AObj.ids,lk,hget,go_sem,aeq,aeq.aeqF,simprocAttr,wdisk]<;>and_intros<;>rfl) ?_;refine' zpi (ownsL [1000159]) (zbj hw64 hw128 h64 h128 hbl) (za zo <| za zF <| za zk <| za zD <| za zE <| za zR <| za zp <| za zt <| za zaa <| za zy <| za zv <| zb _);refine ⟨2,40,.var (jobP (wdisk x d1) g off s l1 nx y q a old),_,_,rfl,by decide,zd0,by simp [AV.idsL,AV.ids],fix1 (zi8 (wdisk x d1) g off s l1 nx y q a old (96+2*a+1) ((b.take 128).drop 64) hd1F.ok),?_⟩;simp only [go_sem,aeq,aeq.aeqF,simprocAttr];refine' zpi (ownsL [1000159]) hI (za zo <| za zF <| za zk <| za zD <| za zE <| za zR <| za zp <| za zt <| za zaa <| za zy <| za zv <| zb _);all_goals try (rw [hd1];rfl)
   ·rw [hJ];rw [if_pos (bneP hc)] at hgd';exact ⟨rfl,rfl,by rw [hgd'];rfl⟩
   ·rw [hG];rw [if_neg (bneN hc),hd1] at hgd';exact hgd'
 ·intro hgd;rw [hG] at hgd;have hgd':L=(layF x.disk (zbO a b),0):=hgd;rw [hI];refine' walkR fx (za zo <| za zF <| za zk <| za zD <| za zE <| za zR <| za zp <| za zt <| za zaa <| za zy <| za zv <| zb _);all_goals try rfl
  rw [hgd'];exact ⟨_,rfl,rfl,rfl⟩
 ·rw [hJ];rintro c h3 g3 ⟨rfl,rfl,rfl⟩;refine' walkR fx (za zo <| za zF <| za zk <| za zD <| za zE <| za zR <| za zp <| za zt <| za zaa <| za zy <| za zv <| zb _);all_goals first|rfl|exact ⟨_,rfl,rfl,rfl⟩|exact ⟨_,rfl,rfl⟩
end Go.Aw
