/-
  Parts of the proof: CowC, CowD, CowE, CowF, CowG (short names; the readable texts lie in the repo, under wip).
-/
import Derived.Test.YtbmlikkofegdeaaGreatPart27
import Derived.Test.YtbmlikkofegdeaaGreatPart17
import Derived.Test.YtbmlikkofegdeaaGreatPart24
import Derived.Test.YtbmlikkofegdeaaGreatPart22
import Derived.Test.YtbmlikkofegdeaaGreatPart26
set_option maxRecDepth 100000
set_option maxHeartbeats 2000000
set_option linter.unusedSimpArgs false
set_option linter.unusedVariables false
namespace Go.Aw
open Go Go.Proofs
def mset (g:Nat) (m:Dmap):Dmap:= { m with bits:=m.bits.set g true }
def cmark (x:Img) (guest:Int):Img:=if guest<0∨64≤guest then x else { x with maps:=x.maps.map (mset guest.toNat) }
theorem zqg (m:Dmap) (g:Nat):(dmapD m).set (2+g) (.bool true)=dmapD (mset g m):=by
 rw [Nat.add_comm]
 simp [dmapD,mset,List.map_set]
theorem zqh {x:Img} (h:ImgOk x) (g:Int):ImgOk (cmark x g):=by
 unfold cmark
 split
 ·exact h
 ·refine ⟨h.disk,by simp only [List.length_map];exact h.maps,fun m hm=>?_,fun m hm=>?_⟩
  ·obtain ⟨m0,h0,rfl⟩:=List.mem_map.1 hm
   exact h.names m0 h0
  ·obtain ⟨m0,h0,rfl⟩:=List.mem_map.1 hm
   simp [mset,h.bits m0 h0]
theorem bneP {a b:Int} (h:(a !=b)=true):a≠b:=bne_iff_ne.1 h
theorem bneN {a b:Int} (h:(a !=b)=false):¬a≠b:=fun h2=>h2 (bne_eq_false_iff_eq.1 h)
theorem beqP {a b:Int} (h:(a==b)=true):a=b:=beq_iff_eq.1 h
theorem beqN {a b:Int} (h:(a==b)=false):¬a=b:=beq_eq_false_iff_ne.1 h
@[go_sem] theorem p0_fold:Plan.mk [] []=p0:=rfl
def zU (d:Disk) (k:Int):Txt×Int:=
 if (dread d (96+2*k)).2≠0 then ([],(dread d (96+2*k)).2)
 else if (dread d (96+2*k+1)).2≠0 then ([],(dread d (96+2*k+1)).2)
 else ((dread d (96+2*k)).1++(dread d (96+2*k+1)).1,0)
theorem ziC (d:Disk) (k:Int) (hp:DiskF d∧zF k=true):AC 30 [diskA d,.d (.int .i64 k)] (.tup [.d (.str (zU d k).1),.d (.int .i64 (zU d k).2)]):=by
 obtain ⟨h,hk⟩:=hp
 refine fbod Tryz.func30 Tryz.ntmps30 (fun base=>?_)
 have h1:=h.ok
 have h2:=h.puts
 have hk2:=hostOk_iff.1 hk
 have hw:IntKind.i64.wrap (96+2*k+1)=96+2*k+1:=zi (by omega) (by omega)
 have hl1:=zcX (at_:=96+2*k) h2
 have hl2:=zcX (at_:=96+2*k+1) h2
 refine' walkW hw (za zji <| za zes <| zb _)
 ·rw [zU,if_pos (bneP hc)]
 ·rename_i hc0
  rw [zU,if_neg (bneN hc0),if_pos (bneP hc)]
 ·rename_i hc0
  rw [zU,if_neg (bneN hc0),if_neg (bneN hc)]
@[go_sem] noncomputable def zgG:Ent Tryz.prog 30:= .m2 zv (intT .i64) ziC
theorem zfd {d:Disk} {p:Plan} {l1 g:Int} (h:(elook d p l1 g).1.kind=1):zF (elook d p l1 g).1.loc=true:=by
 have hk:∀t i,(eget d p t i).1.kind=1→zF (eget d p t i).1.loc=true:=by
  intro t i hk
  by_cases he:(eget d p t i).2=0
  ·have:=(zfb he).1
   unfold entOk at this
   rw [if_pos hk] at this
   exact this
  ·exfalso
   unfold eget at hk he
   split at hk
   ·cases hk
   ·rename_i h0
    rw [if_neg h0] at he
    split at hk
    ·cases hk
    ·rename_i h2
     rw [if_neg h2] at he
     unfold entT at hk he
     split at hk
     ·cases hk
     ·rename_i h1
      rw [if_neg h1] at he
      exact he rfl
 unfold elook at h ⊢
 split at h
 ·cases h
 split at h
 ·cases h
 split at h
 ·cases h
 split at h
 ·cases h
 rename_i h1 h2 h3 h4
 rw [if_neg h1,if_neg h2,if_neg h3,if_neg h4]
 exact hk _ _ h
def cread (d:Disk) (l1 guest:Int):Txt×Int:=
 if (elook d p0 l1 guest).2≠0 then ([],(elook d p0 l1 guest).2) else if (elook d p0 l1 guest).1.kind=1 then zU d (elook d p0 l1 guest).1.loc else (List.replicate 128 0,0)
theorem zmI (d:Disk) (l1 guest:Int) (h:DiskF d):AC 9 [diskA d,.d (.int .i64 l1),.d (.int .i64 guest)] (.tup [.d (.str (cread d l1 guest).1),.d (.int .i64 (cread d l1 guest).2)]):=by
 refine fbod Tryz.func9 Tryz.ntmps9 (fun base=>?_)
 have hdp:DP d p0:=⟨h,zcZ⟩
 have hk1:(elook d p0 l1 guest).1.kind=1→zF (elook d p0 l1 guest).1.loc=true:=zfd
 refine' walkW fx (za zjz <| za zgG <| zb _)
 ·rw [cread,if_pos (bneP hc)]
 ·exact hk1 (beqP hc)
 ·rename_i hc0
  rw [cread,if_neg (bneN hc0),if_pos (beqP hc)]
 ·rfl
 ·rename_i hc0
  rw [cread,if_neg (bneN hc0),if_neg (beqN hc)]
  rfl
@[go_sem] noncomputable def zdS:Ent Tryz.prog 9:= .m3 zv (intT .i64) (intT .i64) zmI
def cdone (x:Img) (p:Plan):Img×Int:=
 if (jcommit x.disk x.jour p).2.2≠0 then ({ x with disk:=(jcommit x.disk x.jour p).1,broken:=true },(jcommit x.disk x.jour p).2.2)
 else ({ x with disk:=(jcommit x.disk x.jour p).1,jour:=(jcommit x.disk x.jour p).2.1 },0)
open Go Go.Proofs
def imgV (x:Img):List AV:= [.d (.str x.disk.data),.d (.sl 2 (x.disk.cache.map putD)),.d (.int .i64 x.disk.fuse),.d (.bool x.disk.off),.d (.sl 1 (x.disk.bad.map intD)),.d (.int .i64 x.geom.guest),.d (.int .i64 x.geom.host),.d (.int .u64 x.jour.seq),.d (.int .i64 x.jour.pos),.d (.sl 66 (x.maps.map dmapD)),.d (.bool x.broken)]
attribute [go_sem] imgV
def img0:List AV:= [.d (.str []),.nils 2,.d (.int .i64 0),.d (.bool false),.nils 1,.d (.int .i64 0),.d (.int .i64 0),.d (.int .u64 0),.d (.int .i64 0),.nils 66,.d (.bool false)]
attribute [go_sem] img0
def wdisk (x:Img) (d:Disk):Img:= { x with disk:=d }
def cputT (b:Txt) (off:Int) (s:Txt) (i:Int):Txt:=(overS b (max off (i*64) - i*64) ((s.take (min (off+s.length) ((i+1)*64) - off).toNat).drop (max off (i*64) - off).toNat)).1
def cput1 (d:Disk) (k off:Int) (s:Txt) (i:Int):Disk×Int:=
 if min (off+s.length) ((i+1)*64)≤max off (i*64) then (d,0)
 else if (dread d (96+2*k+i)).2≠0 then (d,(dread d (96+2*k+i)).2)
 else zD d (96+2*k+i) (cputT (dread d (96+2*k+i)).1 off s i)
def zbF (k off:Int) (s:Txt):Nat→Int→Disk→Disk×Int
 |0,_,d=>(d,0)
 |m+1,i,d=>if (cput1 d k off s i).2≠0 then cput1 d k off s i else zbF k off s m (i+1) (cput1 d k off s i).1
def zbn (d:Disk) (k off:Int) (s:Txt):Disk×Int:=zbF k off s 2 0 d
theorem DiskF.cput1 {d:Disk} (h:DiskF d) (k off:Int) (s:Txt) (i:Int):DiskF (cput1 d k off s i).1:=by
 unfold Aw.cput1
 split
 ·exact h
 split
 ·exact h
 ·exact h.write _ _
structure ImgF (x:Img):Prop where
 ok:ImgOk x
 disk:DiskF x.disk
 guest:x.geom.guest≤64
 host:x.geom.host≤256
 seq0:0≤x.jour.seq
 seq1:x.jour.seq≤4611686018427387904
 maps:x.maps.length≤1000000
theorem ImgF.wd {x:Img} (h:ImgF x) {d:Disk} (hd:DiskF d):ImgF (wdisk x d):=⟨⟨hd.ok,h.ok.maps,h.ok.names,h.ok.bits⟩,hd,h.guest,h.host,h.seq0,h.seq1,h.maps⟩
theorem ImgF.mark {x:Img} (h:ImgF x) (g:Int):ImgF (cmark x g):=by
 refine ⟨zqh h.ok g,?_,?_,?_,?_,?_,?_⟩
 all_goals unfold cmark
 all_goals split
 all_goals first|exact h.disk|exact h.guest|exact h.host|exact h.seq0|exact h.seq1|exact h.maps|skip
 simp only [List.length_map]
 exact h.maps
theorem zfH {d:Disk} {k:Int} (h:d.cache.all (putOk d)=true) (he:(zU d k).2=0):(zU d k).1.length=128:=by
 unfold zU at he ⊢
 split at he
 ·exact absurd he (by assumption)
 split at he
 ·exact absurd he (by assumption)
 rename_i h1 h2
 rw [if_neg h1,if_neg h2]
 rw [List.length_append,zeK h (by omega),zeK h (by omega)]
theorem zeL {d:Disk} {l1 g:Int} (h:d.cache.all (putOk d)=true) (he:(cread d l1 g).2=0):(cread d l1 g).1.length=128:=by
 unfold cread at he ⊢
 split at he
 ·exact absurd he (by assumption)
 split at he
 ·rename_i h1 h2
  rw [if_neg h1,if_pos h2]
  exact zfH h he
 ·rename_i h1 h2
  rw [if_neg h1,if_neg h2]
  simp
theorem zmJ {d:Disk} {p:Plan} {g:Geom} (h:(rtake d p g).2.2=0):zF (rtake d p g).2.1=true:=by
 unfold rtake at h ⊢
 split at h
 ·rename_i h1;exact absurd h h1
 split at h
 ·rename_i h1;exact absurd h h1
 rename_i h1 h2
 rw [if_neg h1,if_neg h2]
 exact hostOk_iff.2 (zhL d p _ _ (by unfold rfind at h1;omega))
theorem zqi {s t:Txt} {a:Int} (h0:0≤a) (h:a+t.length≤s.length):overS s a t=(s.take a.toNat++t++s.drop (a+t.length).toNat,0):=by
 rw [overS,if_neg (by omega)]
theorem zot {s t:Txt} {a:Int} (h0:0≤a) (h:a+t.length≤s.length):(overS s a t).1.length=s.length:=by
 rw [zqi h0 h]
 simp
 omega
def zaO (k:Int) (b:Txt):List (Int×Txt):= [(96+2*k,b.take 64),(96+2*k+1,(b.take 128).drop 64)]
def zbx (x:Img) (l1 guest off:Int) (s:Txt):Img×Int:=
 if (rtake x.disk p0 x.geom).2.2≠0 then (x,(rtake x.disk p0 x.geom).2.2)
 else if (cread x.disk l1 guest).2≠0 then (x,(cread x.disk l1 guest).2)
 else if (layL x.disk (zaO (rtake x.disk p0 x.geom).2.1 (overS (cread x.disk l1 guest).1 off s).1)).2≠0 then
  (wdisk x (layL x.disk (zaO (rtake x.disk p0 x.geom).2.1 (overS (cread x.disk l1 guest).1 off s).1)).1,(layL x.disk (zaO (rtake x.disk p0 x.geom).2.1 (overS (cread x.disk l1 guest).1 off s).1)).2)
 else if (ppoint (layL x.disk (zaO (rtake x.disk p0 x.geom).2.1 (overS (cread x.disk l1 guest).1 off s).1)).1 (rtake x.disk p0 x.geom).1 x.geom guest ⟨1,(rtake x.disk p0 x.geom).2.1⟩).2≠0 then
  (wdisk x (layL x.disk (zaO (rtake x.disk p0 x.geom).2.1 (overS (cread x.disk l1 guest).1 off s).1)).1,(ppoint (layL x.disk (zaO (rtake x.disk p0 x.geom).2.1 (overS (cread x.disk l1 guest).1 off s).1)).1 (rtake x.disk p0 x.geom).1 x.geom guest ⟨1,(rtake x.disk p0 x.geom).2.1⟩).2)
 else cdone (wdisk x (layL x.disk (zaO (rtake x.disk p0 x.geom).2.1 (overS (cread x.disk l1 guest).1 off s).1)).1) (ppoint (layL x.disk (zaO (rtake x.disk p0 x.geom).2.1 (overS (cread x.disk l1 guest).1 off s).1)).1 (rtake x.disk p0 x.geom).1 x.geom guest ⟨1,(rtake x.disk p0 x.geom).2.1⟩).1
def zfe (x:Img) (l1:Int) (y:Ent2) (guest off:Int) (s:Txt):Img×Int:=
  if y.kind=1 then
    (if (rget x.disk p0 y.loc).2≠0 then (x,(rget x.disk p0 y.loc).2)
     else if (rget x.disk p0 y.loc).1≤1 then (wdisk x (zbn x.disk y.loc off s).1,(zbn x.disk y.loc off s).2)
     else zbx x l1 guest off s)
  else zbx x l1 guest off s
def zff (x:Img) (guest off:Int) (s:Txt):Img×Int:=
 if (zk x.disk p0).2≠0 then (x,(zk x.disk p0).2)
 else if (elook x.disk p0 (zk x.disk p0).1.l1 guest).2≠0 then (x,(elook x.disk p0 (zk x.disk p0).1.l1 guest).2)
 else zfe x (zk x.disk p0).1.l1 (elook x.disk p0 (zk x.disk p0).1.l1 guest).1 guest off s
def zab (x:Img) (guest off:Int) (s:Txt):Img×Int:=
 if x.broken then (x,24) else if guest<0∨x.geom.guest≤guest∨off<0∨128 - (s.length:Int)<off then (x,10)
 else if s= [] then (x,0) else zff (cmark x guest) guest off s
open Go Go.Proofs
theorem zkQ {d:Disk} {j:Jour} {p:Plan} (h:(jcommit d j p).2.2≠0):(jcommit d j p).2.1=j:=by
 unfold jcommit jtail at h ⊢
 repeat' split at h
 all_goals simp_all
 all_goals rw [if_neg (by omega)]
theorem zmS (x:Img) (p:Plan) (hp:ImgOk x∧DiskF x.disk∧pfit p=true∧0≤x.jour.seq∧x.jour.seq<18446744073709551616):AC 12 [imgA x,planA p] (.tup [imgA (cdone x p).1,.d (.int .i64 (cdone x p).2)]):=by
 obtain ⟨h,hd,hf,h0,h1⟩:=hp
 refine fbod Tryz.func12 Tryz.ntmps12 (fun base=>?_)
 refine' walkW fx (za ziF <| zb _)
 by_cases he:(jcommit x.disk x.jour p).2.2=0
 ·have hb:((jcommit x.disk x.jour p).2.2 !=0)=false:=by rw [he];rfl
  rw [cdone,if_neg (by omega),hb,he,Bool.or_false]
 ·have hb:((jcommit x.disk x.jour p).2.2 !=0)=true:=by simpa using he
  rw [cdone,if_pos he,hb,Bool.or_true,zkQ he]
@[go_sem] noncomputable def zy:Ent Tryz.prog 12:= .m2 zhO zH zmS
theorem zgL (l:List Dmap) (fl:Nat) (hl:l.length≤5000):ACall Tryz.prog 49 fl [.d (.sl 66 (l.map dmapD))] [] (fun r h'=>r= .osl fl 66 l.length 0 l.length∧h'= [(fl,.arr 66 (l.map dmapD))]):=by
 refine bod Tryz.func49 Tryz.ntmps49 (fun base=>?_)
 refine' ze2 (zbS 2) fx
 ·refine zc noTab (zb _) (fun K hK=>?_);simp only [go_sem,aeq,aeq.aeqF,simprocAttr]
  (first|(refine hK _ ?_;clear hK K)|(clear hK K;refine hK _ ?_;clear hK K)|(clear hK K;clear hK K;refine hK _ ?_;clear hK K)|(clear hK K;clear hK K;clear hK K;refine hK _ ?_;clear hK K)|(clear hK K;clear hK K;clear hK K;clear hK K;refine hK _ ?_;clear hK K))
  refine zdf 2 66 rfl ?_
  have h0:l= []:=List.map_eq_nil_iff.1 (hnb hc)
  subst h0
  refine' zf fx
  all_goals rfl
theorem zmT (x:Img) (guest:Int) (hp:ImgOk x∧x.maps.length≤5000):AC 15 [imgA x,.d (.int .i64 guest)] (imgA (cmark x guest)):=by
 obtain ⟨h,h2⟩:=hp
 refine fbod Tryz.func15 Tryz.ntmps15 (fun base=>?_)
 by_cases hg:guest<0∨64≤guest
 ·have hdec:(decide (0≤guest)&&decide (guest<64))=false:=by
   rw [Bool.and_eq_false_iff,decide_eq_false_iff_not,decide_eq_false_iff_not];omega
  refine' zf hdec
  rw [cmark,if_pos hg]
 ·have hdec:(decide (0≤guest)&&decide (guest<64))=true:=by
   rw [Bool.and_eq_true,decide_eq_true_eq,decide_eq_true_eq];omega
  obtain ⟨g,rfl⟩:∃g:Nat,guest=g:=⟨guest.toNat,by omega⟩
  have hg2:g<64:=by omega
  refine' zf hdec
  refine ((zgL x.maps 2 h2).own rfl rfl (Nat.zero_le _) (by rintro r h' ⟨_,rfl⟩;rfl)).mono ?_
  rintro r h' ⟨h1,⟨rfl,rfl⟩,rfl⟩
  simp only [go_sem,aeq,aeq.aeqF,simprocAttr]
  refine' zf fx
  refine zC (fun q: { i:Nat // i≤x.maps.length } =>⟨[(1,true,.d (.int .i64 g)),(2,true,.vp 0 0),(4,true,.vp 1 0),(18,true,.d (.int .i64 x.maps.length)),(19,true,.d (.int .i64 q.1))],[(2,.arr 66 (((x.maps.take q.1).map (mset g)++x.maps.drop q.1).map dmapD)),(1,.var img0),(0,.var [.d (.str x.disk.data),.d (.sl 2 (x.disk.cache.map putD)),.d (.int .i64 x.disk.fuse),.d (.bool x.disk.off),.d (.sl 1 (x.disk.bad.map intD)),.d (.int .i64 x.geom.guest),.d (.int .i64 x.geom.host),.d (.int .u64 x.jour.seq),.d (.int .i64 x.jour.pos),.osl 2 66 x.maps.length 0 x.maps.length,.d (.bool x.broken)])],some []⟩) (fun q=>x.maps.length - q.1) ⟨0,Nat.zero_le _⟩ le1 (fun q=>?_)
  obtain ⟨i,hi⟩:=q
  simp only
  have hL:((x.maps.take i).map (mset g)++x.maps.drop i).length=x.maps.length:=by simp;omega
  rcases Nat.lt_or_ge i x.maps.length with hlt|hge
  ·obtain ⟨m,hq⟩:=zaP hlt
   have hcmp:decide ((i:Int)<(x.maps.length:Int))=true:=decide_eq_true (by omega)
   have hwi:=zG (i:=i) (by omega)
   have hL1:((x.maps.take i).map (mset g)).length=i:=by simp;omega
   have hat:((x.maps.take i).map (mset g)++x.maps.drop i)[i]?=some m:=by rw [List.getElem?_append_right (by omega),hL1,Nat.sub_self,List.getElem?_drop,Nat.add_zero,hq]
   have hrow:=zcD (g:=dmapD) hat
   have hset:((x.maps.take i).map (mset g)++x.maps.drop i).set i (mset g m)=(x.maps.take (i+1)).map (mset g)++x.maps.drop (i+1):=by
    rw [List.set_append,if_neg (by omega),hL1,Nat.sub_self,zeZ hq,zdI hq,List.map_append,List.append_assoc]
    rfl
   refine' zf (zN hcmp hL hrow)
   have hnew:(((x.maps.take i).map (mset g)++x.maps.drop i).map dmapD).set i ((dmapD m).set (2+g*1) (.bool true))=((x.maps.take (i+1)).map (mset g)++x.maps.drop (i+1)).map dmapD:=by
    rw [Nat.mul_one,zqg,← List.map_set,hset]
   exact ⟨⟨i+1,by omega⟩,by simp only [AS.le,leT,leH,zh,AsgK,AV.le,AV.leL,AObj.le,inH,idsT,idsH,AV.ids,AV.idsL,AV.idsR,AObj.ids,lk,hget,go_sem,aeq,aeq.aeqF,simprocAttr,hwi,hnew],by simp;omega⟩
  ·have hcmp:decide ((i:Int)<(x.maps.length:Int))=false:=decide_eq_false (by omega)
   refine' zf (zE hcmp hL)
   rw [cmark,if_neg hg,show i=x.maps.length by omega,List.take_length,List.drop_length,List.append_nil,List.take_of_length_le (by simp)]
   rfl
@[go_sem] noncomputable def zcK:Ent Tryz.prog 15:= .m2 zhO (intT .i64) zmT
def sectI (k:Int):List (Int×Int):= [(96+2*k,0),(96+2*k+1,64)]
def zV (q:Int×Int):List AV:= [.d (.int .i64 q.1),.d (.int .i64 q.2)]
abbrev Scst (k:Int):= { q:Nat×List (List AV) // q.1≤2∧q.2++((sectI k).drop q.1).map zV=(sectI k).map zV }
theorem zeu (fl:Nat) (k:Int) (h0:0≤k) (h1:k≤1000):AIter Tryz.prog 75 fl [] [.dp [.d (.int .i64 k)]] [] ((sectI k).map zV) (fun g h'=>(∀xs,g=some xs→xs=(sectI k).map zV)∧h'= []):=by
 refine itr Tryz.func75 Tryz.ntmps75 (fun base y=>?_)
 refine' zay fx
 refine zC (fun q:Scst k=>⟨[(0,true,.fn (.yield y.yl) [] []),(1,true,.dp [.d (.int .i64 k)]),(4,true,.d (.int .i64 q.1.1))],[],some q.1.2⟩) (fun q=>2 - q.1.1) ⟨(0,[]),Nat.zero_le _,rfl⟩ le1 (fun q=>?_)
 obtain ⟨⟨i,xs⟩,hi,hf⟩:=q
 simp only at hi hf ⊢
 have hc0:((0:Nat):Int)=0:=rfl
 have hc1:((1:Nat):Int)=1:=rfl
 have hc2:((2:Nat):Int)=2:=rfl
 have hw1:IntKind.i64.wrap 1=1:=by decide
 have hw2:IntKind.i64.wrap 2=2:=by decide
 have hw64:IntKind.i64.wrap 64=64:=by decide
 have hwz:IntKind.i64.wrap 0=0:=by decide
 have hwk:IntKind.i64.wrap (96+2*k+0)=96+2*k:=by rw [Int.add_zero];exact zi (by omega) (by omega)
 have hwk1:IntKind.i64.wrap (96+2*k+1)=96+2*k+1:=zi (by omega) (by omega)
 have h3:i=0∨i=1∨i=2:=by omega
 rcases h3 with rfl|rfl|rfl
 ·have hpre:(xs++ [zV (96+2*k,0)])<+:(sectI k).map zV:=by rw [← hf];exact ⟨[zV (96+2*k+1,64)],by simp [sectI]⟩
  simp only [zV] at hpre
  refine' walkX (za4 hc0 hw1 hwz hwk) (za zbf <| zb _)
  exact ⟨⟨(1,xs++ [zV (96+2*k,0)]),by show (1:Nat)≤2;omega,by rw [← hf];simp [sectI]⟩,by simp only [AS.le,leT,leH,zh,AsgK,AV.le,AV.leL,AObj.le,inH,idsT,idsH,AV.ids,AV.idsL,AV.idsR,AObj.ids,lk,hget,go_sem,aeq,aeq.aeqF,simprocAttr,zV]<;>and_intros<;>rfl,by simp⟩
 ·have hpre:(xs++ [zV (96+2*k+1,64)])<+:(sectI k).map zV:=by rw [← hf];exact ⟨[],by simp [sectI]⟩
  simp only [zV] at hpre
  refine' walkX (za4 hc1 hw2 hw64 hwk1) (za zbf <| zb _)
  exact ⟨⟨(2,xs++ [zV (96+2*k+1,64)]),by show (2:Nat)≤2;omega,by rw [← hf];simp [sectI]⟩,by simp only [AS.le,leT,leH,zh,AsgK,AV.le,AV.leL,AObj.le,inH,idsT,idsH,AV.ids,AV.idsL,AV.idsR,AObj.ids,lk,hget,go_sem,aeq,aeq.aeqF,simprocAttr,zV]<;>and_intros<;>rfl,by simp⟩
 ·refine' walkX hc2 (za zbf <| zb _)
  rintro zs rfl
  simpa [sectI] using hf
theorem zmU (k:Int) (_:True):AC 27 [.d (.int .i64 k)] (.fn (.func 75) [] [.dp [.d (.int .i64 k)]]):=by
 refine fbod Tryz.func27 Tryz.ntmps27 (fun base=>?_)
 refine' zf fx
@[go_sem] noncomputable def zq:Ent Tryz.prog 27:= .m1 (intT .i64) zmU
def rdA (d:Disk) (k:Int):Nat→Txt
 |0=> []
 |1=>(dread d (96+2*k)).1
 |_=>(dread d (96+2*k)).1++(dread d (96+2*k+1)).1
@[go_sem] theorem rdA_0 (d:Disk) (k:Int):rdA d k 0= []:=rfl
def rdG (d:Disk) (k:Int):Nat→Prop
 |0=>True
 |1=>(dread d (96+2*k)).2=0
 |_=>(dread d (96+2*k)).2=0∧(dread d (96+2*k+1)).2=0
theorem zfh {k:Int} {ys zs:List (Int×Int)} {q:Int×Int} (h:sectI k=ys++q::zs):(ys= []∧q=(96+2*k,0))∨(ys= [(96+2*k,0)]∧q=(96+2*k+1,64)):=by
 match ys,h with
 | [],h=>simp only [sectI,List.nil_append,List.cons.injEq] at h;exact .inl ⟨rfl,h.1.symm⟩
 | [a],h=>simp only [sectI,List.cons_append,List.nil_append,List.cons.injEq] at h;exact .inr ⟨by rw [h.1],h.2.1.symm⟩
 |a::b::r,h=>
  exfalso
  have:=congrArg List.length h
  simp [sectI] at this
theorem zmV (d:Disk) (l1 guest:Int) (h:DiskF d):AC 8 [diskA d,.d (.int .i64 l1),.d (.int .i64 guest)] (.tup [.d (.str (cread d l1 guest).1),.d (.int .i64 (cread d l1 guest).2)]):=by
 refine fbod Tryz.func8 Tryz.ntmps8 (fun base=>?_)
 have hdp:DP d p0:=⟨h,zcZ⟩
 have hk1:(elook d p0 l1 guest).1.kind=1→zF (elook d p0 l1 guest).1.loc=true:=zfd
 refine' walkR fx (za zB <| za zaT <| za zq <| za zp <| zb _)
 ·rw [cread,if_pos (bneP hc)]
 ·rename_i hc0
  rw [cread,if_neg (bneN hc0),if_neg (bneP hc)]
  rfl
 rename_i hc0
 have hkk:(elook d p0 l1 guest).1.kind=1:=Classical.byContradiction (fun h=>bneN hc h)
 have hrd:cread d l1 guest=zU d (elook d p0 l1 guest).1.loc:=by rw [cread,if_neg (bneN hc0),if_pos hkk]
 have hho:=hostOk_iff.1 (hk1 hkk)
 have hcl:zU d (elook d p0 l1 guest).1.loc=if (dread d (96+2*(elook d p0 l1 guest).1.loc)).2≠0 then ([],(dread d (96+2*(elook d p0 l1 guest).1.loc)).2) else if (dread d (96+2*(elook d p0 l1 guest).1.loc+1)).2≠0 then ([],(dread d (96+2*(elook d p0 l1 guest).1.loc+1)).2)
   else ((dread d (96+2*(elook d p0 l1 guest).1.loc)).1++(dread d (96+2*(elook d p0 l1 guest).1.loc+1)).1,0):=rfl
 rw [hcl] at hrd
 clear hcl hc0 hc
 revert hkk hho hrd
 generalize (elook d p0 l1 guest).1.loc=k
 intro hkk hcl hho
 have hdo:=h.ok
 have hl1:=zcX (at_:=96+2*k) h.puts
 have hl2:=zcX (at_:=96+2*k+1) h.puts
 obtain ⟨I,hI⟩:∃I:List (List AV)→AHeap×Option (List (List AV)),I=fun xs=>([(4,.var [.d (.str (rdA d k xs.length))]),(2,.var [.d (.int .i64 0)]),(1,.var [.d (.str [])]),(0,(.var [.d (.str d.data),.d (.sl 2 (d.cache.map putD)),.d (.int .i64 d.fuse),.d (.bool d.off),.d (.sl 1 (d.bad.map intD))]))],some []):=⟨_,rfl⟩
 obtain ⟨G,hG⟩:∃G:List (List AV)→Prop,G=fun xs=>rdG d k xs.length:=⟨_,rfl⟩
 obtain ⟨J,hJ⟩:∃J:Code→AHeap→Option (List (List AV))→Prop,J=fun c h g=>c= .ret∧g=some []∧∃t e,cread d l1 guest=([],e)∧h= [(4,.var [.d (.str t)]),(2,.var [.d (.int .i64 e)]),(1,.var [.d (.str [])]),(0,(.var [.d (.str d.data),.d (.sl 2 (d.cache.map putD)),.d (.int .i64 d.fuse),.d (.bool d.off),.d (.sl 1 (d.bad.map intD))]))]:=⟨_,rfl⟩
 refine aw_le ⟨[(3,true,.vp 0 0),(6,true,.vp 1 0),(7,true,.vp 2 0),(10,true,.vp 4 0),(33,true,.fn (.func 75) [] [.dp [.d (.int .i64 k)]])],[(4,.var [.d (.str [])]),(2,.var [.d (.int .i64 0)]),(1,.var [.d (.str [])]),(0,(.var [.d (.str d.data),.d (.sl 2 (d.cache.map putD)),.d (.int .i64 d.fuse),.d (.bool d.off),.d (.sl 1 (d.bad.map intD))]))],some []⟩ le0 ?_
 refine za9 100 G I J (zeu 100 k (by omega) (by omega)) (by simp only [go_sem,aeq,aeq.aeqF,simprocAttr]) rfl (zM rfl) (by simp [cxOf,cxY]) rfl (by rw [hG];first|trivial|rfl|simp) (by rw [hI];simp only [AS.le,leT,leH,zh,AsgK,AV.le,AV.leL,AObj.le,inH,idsT,idsH,AV.ids,AV.idsL,AV.idsR,AObj.ids,lk,hget,go_sem,aeq,aeq.aeqF,simprocAttr]<;>simp [AV.leL,AV.le]) (by rw [hI];simp only [AS.le,leT,leH,zh,AsgK,AV.le,AV.leL,AObj.le,inH,idsT,idsH,AV.ids,AV.idsL,AV.idsR,AObj.ids,lk,hget,go_sem,aeq,aeq.aeqF,simprocAttr]<;>simp) (by rw [hI]<;>rfl) (by intro x hx;obtain ⟨q,_,rfl⟩:=List.mem_map.1 hx;rfl) (by intro t ht;simp at ht;first|(rcases ht with rfl|rfl<;>simp [cxOf,cxY]<;>done)|(subst ht;simp [cxOf,cxY])) ?_ ?_ ?_
 ·intro xs x hpre hgd l1 r1
  obtain ⟨ys,q,zs,hys,rfl,hzl⟩:=zdi hpre
  have hln:xs.length=ys.length:=by rw [hys];simp
  rw [hG] at hgd
  rcases zfh hzl with ⟨rfl,rfl⟩|⟨rfl,rfl⟩
  ·have hx0:xs= []:=by simpa using hys
   subst hx0
   simp only [zV]
   refine aw_le ⟨[(34,true,.d (.int .i64 (96+2*k))),(3,true,.vp 0 0),(6,true,.vp 1 0),(7,true,.vp 2 0),(10,true,.vp 4 0)],[(4,.var [.d (.str [])]),(2,.var [.d (.int .i64 0)]),(1,.var [.d (.str [])]),(0,(.var [.d (.str d.data),.d (.sl 2 (d.cache.map putD)),.d (.int .i64 d.fuse),.d (.bool d.off),.d (.sl 1 (d.bad.map intD))]))],some []⟩ (by rw [hI];simp only [AS.le,leT,leH,zh,AsgK,AV.le,AV.leL,AObj.le,inH,idsT,idsH,AV.ids,AV.idsL,AV.idsR,AObj.ids,lk,hget,go_sem,aeq,aeq.aeqF,simprocAttr,rdA]) ?_
   (have tk:=za zB <| za zaT <| za zq <| za zp <| zb Tryz.prog);repeat' (first|((first|(refine sa ?_;intro K hK)|refine sb ?_);simp only [go_sem,aeq,aeq.aeqF,simprocAttr,hI,rdA,Tryz.results8])|refine zaq (fun K hK=>?_)|refine sc ?_|refine zbe rfl (fun hc=>?_) (fun hc=>?_)|(refine hK _ ?_;clear hK K)|((first|refine (show AS.le _ _ from ?_)|refine (show leH _ _ from ?_)|refine (show inH _ _ from ?_));simp only [AS.le,leT,leH,zh,AsgK,AV.le,AV.leL,AObj.le,inH,idsT,idsH,AV.ids,AV.idsL,AV.idsR,AObj.ids,lk,hget,go_sem,aeq,aeq.aeqF,simprocAttr,hI,rdA])|refine fun (r2:Rnd _)=>?_|with_reducible refine And.intro ?_ ?_|exact ‹_<+:_› |omega|assumption|clear hK K)
   ·rw [hJ]
    exact ⟨rfl,rfl,_,_,by rw [hcl,if_pos (bneP hc)],rfl⟩
   ·rw [hG]
    exact Classical.byContradiction (bneN hc)
  ·have hx1:xs= [zV (96+2*k,0)]:=by simpa using hys
   subst hx1
   simp only [zV]
   refine aw_le ⟨[(34,true,.d (.int .i64 (96+2*k+1))),(3,true,.vp 0 0),(6,true,.vp 1 0),(7,true,.vp 2 0),(10,true,.vp 4 0)],[(4,.var [.d (.str (dread d (96+2*k)).1)]),(2,.var [.d (.int .i64 0)]),(1,.var [.d (.str [])]),(0,(.var [.d (.str d.data),.d (.sl 2 (d.cache.map putD)),.d (.int .i64 d.fuse),.d (.bool d.off),.d (.sl 1 (d.bad.map intD))]))],some []⟩ (by rw [hI];simp only [AS.le,leT,leH,zh,AsgK,AV.le,AV.leL,AObj.le,inH,idsT,idsH,AV.ids,AV.idsL,AV.idsR,AObj.ids,lk,hget,go_sem,aeq,aeq.aeqF,simprocAttr,rdA]) ?_
   have h0:(dread d (96+2*k)).2=0:=hgd
   (have tk:=za zB <| za zaT <| za zq <| za zp <| zb Tryz.prog);repeat' (first|((first|(refine sa ?_;intro K hK)|refine sb ?_);simp only [go_sem,aeq,aeq.aeqF,simprocAttr,hI,rdA,Tryz.results8])|refine zaq (fun K hK=>?_)|refine sc ?_|refine zbe rfl (fun hc=>?_) (fun hc=>?_)|(refine hK _ ?_;clear hK K)|((first|refine (show AS.le _ _ from ?_)|refine (show leH _ _ from ?_)|refine (show inH _ _ from ?_));simp only [AS.le,leT,leH,zh,AsgK,AV.le,AV.leL,AObj.le,inH,idsT,idsH,AV.ids,AV.idsL,AV.idsR,AObj.ids,lk,hget,go_sem,aeq,aeq.aeqF,simprocAttr,hI,rdA])|refine fun (r2:Rnd _)=>?_|with_reducible refine And.intro ?_ ?_|exact ‹_<+:_› |omega|assumption|clear hK K)
   ·rw [hJ]
    exact ⟨rfl,rfl,_,_,by rw [hcl,if_neg (by omega),if_pos (bneP hc)],rfl⟩
   ·rw [hG]
    exact ⟨h0,Classical.byContradiction (bneN hc)⟩
 ·intro hgd
  rw [hG] at hgd
  have hgd:(dread d (96+2*k)).2=0∧(dread d (96+2*k+1)).2=0:=hgd
  rw [hI]
  (have tk:=za zB <| za zaT <| za zq <| za zp <| zb Tryz.prog);repeat' (first|((first|(refine sa ?_;intro K hK)|refine sb ?_);simp only [go_sem,aeq,aeq.aeqF,simprocAttr,sectI,rdA,Tryz.results8])|refine zaq (fun K hK=>?_)|refine sc ?_|refine zbe rfl (fun hc=>?_) (fun hc=>?_)|(refine hK _ ?_;clear hK K)|((first|refine (show AS.le _ _ from ?_)|refine (show leH _ _ from ?_)|refine (show inH _ _ from ?_));simp only [AS.le,leT,leH,zh,AsgK,AV.le,AV.leL,AObj.le,inH,idsT,idsH,AV.ids,AV.idsL,AV.idsR,AObj.ids,lk,hget,go_sem,aeq,aeq.aeqF,simprocAttr,sectI,rdA])|refine fun (r2:Rnd _)=>?_|with_reducible refine And.intro ?_ ?_|exact ‹_<+:_› |omega|assumption|clear hK K)
  rw [hcl,if_neg (by omega),if_neg (by omega)]
 ·rw [hJ]
  rintro c h3 g3 ⟨rfl,rfl,t,e,he,rfl⟩
  refine' walkR fx (za zB <| za zaT <| za zq <| za zp <| zb _)
  rw [he]
@[go_sem] noncomputable def zw:Ent Tryz.prog 8:= .m3 zv (intT .i64) (intT .i64) zmV
open Go Go.Proofs
open Go Go.Proofs
@[simp, go_sem] theorem zsj (x:Img) (d:Disk):(wdisk x d).disk=d:=rfl
@[simp, go_sem] theorem zsk (x:Img) (d:Disk):(wdisk x d).geom=x.geom:=rfl
@[simp, go_sem] theorem zsl (x:Img) (d:Disk):(wdisk x d).jour=x.jour:=rfl
@[simp, go_sem] theorem zsm (x:Img) (d:Disk):(wdisk x d).maps=x.maps:=rfl
@[simp, go_sem] theorem zra (x:Img) (d:Disk):(wdisk x d).broken=x.broken:=rfl
@[simp, go_sem] theorem zr3 (x:Img) (d e:Disk):wdisk (wdisk x d) e=wdisk x e:=rfl
@[simp, go_sem] theorem zsn (x:Img):wdisk x x.disk=x:=rfl
theorem fix1 {P:Program} {f:FuncId} {args:List AV} {fl i:Nat} {h:AHeap} {r0:AV} {X:AObj} (hc:ACall P f fl args h (fun r h'=>∃ob',h'= [(i,ob')]∧r=r0∧ob'=X)):ACall P f fl args h (fun r h'=>r=r0∧h'= [(i,X)]):=
 hc.mono (by rintro r h' ⟨ob',rfl,rfl,rfl⟩;exact ⟨rfl,rfl⟩)
structure JS where
 x:Img
 q:Plan
 loc:Int
 old:Txt
 e:Int
def jobP (x:Img) (g off:Int) (s:Txt) (l1 nx:Int) (y:Ent2) (q:Plan) (at_:Int) (old:Txt):List AV:= [.d (.str x.disk.data),.d (.sl 2 (x.disk.cache.map putD)),.d (.int .i64 x.disk.fuse),.d (.bool x.disk.off),.d (.sl 1 (x.disk.bad.map intD)),.d (.int .i64 x.geom.guest),.d (.int .i64 x.geom.host),.d (.int .u64 x.jour.seq),.d (.int .i64 x.jour.pos),.d (.sl 66 (x.maps.map dmapD)),.d (.bool x.broken),.d (.int .i64 g),.d (.int .i64 off),.d (.str s),.d (.int .i64 l1),.d (.int .u32 nx),.d (.int .i64 y.kind),.d (.int .i64 y.loc),.d (.sl 1 (q.targets.map intD)),.d (.sl 1 (q.texts.map strD)),.d (.int .i64 at_),.d (.str old)]
attribute [go_sem] jobP
theorem zqA {x:Img} {g off:Int} {s:Txt} {l1 nx:Int} {y:Ent2} {q:Plan} {a:Int} {old:Txt} :(AObj.var (jobP x g off s l1 nx y q a old)).ids= []:=by
 simp [AObj.ids,jobP,AV.idsL,AV.ids]
theorem zcw {x:Img} {g off:Int} {s:Txt} {l1 nx:Int} {y:Ent2} {q:Plan} {a:Int} {old:Txt} :∀j∈(AObj.var (jobP x g off s l1 nx y q a old)).ids,j=2:=by
 rw [zqA];simp
def zcL (x:Img) (g:Int):Ent2×Int:=if (zk x.disk p0).2≠0 then (⟨0,0⟩,(zk x.disk p0).2) else elook x.disk p0 (zk x.disk p0).1.l1 g
theorem zqB (x:Img) (g off:Int) (s:Txt) (h:ImgF x):ACall Tryz.prog 31 20 [.vp 2 0] [(2,.var (jobP x g off s 0 0 ⟨0,0⟩ p0 0 []))] (fun r h'=>∃ob',h'= [(2,ob')]∧r= .d (.int .i64 (zcL x g).2)∧ob'= .var (jobP x g off s (zk x.disk p0).1.l1 (zk x.disk p0).1.next (zcL x g).1 p0 0 [])):=by
 refine bod Tryz.func31 Tryz.ntmps31 (fun base=>?_)
 have hdp:DP x.disk p0:=⟨h.disk,zcZ⟩
 refine' walkW fx (za zo <| za zB <| za zj <| za zu <| za zw <| za zK <| za zy <| za zn <| za zQ <| za zq <| za zp <| zb _)
 ·refine ⟨_,rfl,?_,?_⟩<;>rw [zcL,if_neg (show ¬_≠_ from fun h2=>h2 (beqP hc))]
 ·refine ⟨_,rfl,?_,?_⟩<;>rw [zcL,if_pos (beqN hc)]
theorem zoP (x:Img) (g off:Int) (s:Txt) (l1 nx:Int) (y:Ent2) (h:ImgF x):ACall Tryz.prog 37 20 [.vp 2 0] [(2,.var (jobP x g off s l1 nx y p0 0 []))] (fun r h'=>∃ob',h'= [(2,ob')]∧(r= .tup [.d (.bool (if y.kind=1 then decide ((rget x.disk p0 y.loc).1≤1) else false)),.d (.int .i64 (if y.kind=1 then (rget x.disk p0 y.loc).2 else 0))])∧ob'= .var (jobP x g off s l1 nx y p0 0 [])):=by
 refine bod Tryz.func37 Tryz.ntmps37 (fun base=>?_)
 have hdp:DP x.disk p0:=⟨h.disk,zcZ⟩
 refine' walkW fx (za zo <| za zB <| za zj <| za zu <| za zw <| za zK <| za zy <| za zn <| za zQ <| za zq <| za zp <| zb _)
 ·exact ⟨_,rfl,by rw [if_neg (bneP hc),if_neg (bneP hc)],rfl⟩
 ·have hk:y.kind=1:=Classical.byContradiction (bneN hc)
  exact ⟨_,rfl,by rw [if_pos hk,if_pos hk],rfl⟩
theorem zqC (x:Img) (g off:Int) (s:Txt) (l1 nx:Int) (y:Ent2) (h:ImgF x):ACall Tryz.prog 32 20 [.vp 2 0] [(2,.var (jobP x g off s l1 nx y p0 0 []))] (fun r h'=>∃ob',h'= [(2,ob')]∧(r= .d (.int .i64 (rtake x.disk p0 x.geom).2.2))∧ob'= .var (jobP x g off s l1 nx y (rtake x.disk p0 x.geom).1 (rtake x.disk p0 x.geom).2.1 [])):=by
 refine bod Tryz.func32 Tryz.ntmps32 (fun base=>?_)
 have hdp:DP x.disk p0:=⟨h.disk,zcZ⟩
 have hh:=h.host
 refine' walkW fx (za zo <| za zB <| za zj <| za zu <| za zw <| za zK <| za zy <| za zn <| za zQ <| za zq <| za zp <| zb _)
 all_goals first|exact ⟨_,rfl,rfl,rfl⟩|exact ⟨_,rfl,rfl⟩|omega
theorem zqD (x:Img) (g off:Int) (s:Txt) (l1 nx:Int) (y:Ent2) (q:Plan) (a:Int) (h:ImgF x):ACall Tryz.prog 33 20 [.vp 2 0] [(2,.var (jobP x g off s l1 nx y q a []))] (fun r h'=>∃ob',h'= [(2,ob')]∧(r= .d (.int .i64 (cread x.disk l1 g).2))∧ob'= .var (jobP x g off s l1 nx y q a (cread x.disk l1 g).1)):=by
 refine bod Tryz.func33 Tryz.ntmps33 (fun base=>?_)
 have hdf:=h.disk
 refine' walkW fx (za zo <| za zB <| za zj <| za zu <| za zw <| za zK <| za zy <| za zn <| za zQ <| za zq <| za zp <| zb _)
 all_goals first|exact ⟨_,rfl,rfl,rfl⟩|exact ⟨_,rfl,rfl⟩|omega
theorem zoQ (x:Img) (g off:Int) (s:Txt) (l1 nx:Int) (y:Ent2) (q:Plan) (a:Int) (old:Txt) (h:ImgF x) (hq:pfit q=true):ACall Tryz.prog 35 20 [.vp 2 0] [(2,.var (jobP x g off s l1 nx y q a old))] (fun r h'=>∃ob',h'= [(2,ob')]∧(r= .d (.int .i64 (ppoint x.disk q x.geom g ⟨1,a⟩).2))∧ob'= .var (jobP x g off s l1 nx y (ppoint x.disk q x.geom g ⟨1,a⟩).1 a old)):=by
 refine bod Tryz.func35 Tryz.ntmps35 (fun base=>?_)
 have hdp:DP x.disk q:=⟨h.disk,hq⟩
 have hh:=h.host
 have hg:=h.guest
 refine' walkW fx (za zo <| za zB <| za zj <| za zu <| za zw <| za zK <| za zy <| za zn <| za zQ <| za zq <| za zp <| zb _)
 all_goals first|exact ⟨_,rfl,rfl,rfl⟩|exact ⟨_,rfl,rfl⟩|omega
theorem zqE (x:Img) (g off:Int) (s:Txt) (l1 nx:Int) (y:Ent2) (q:Plan) (a:Int) (old:Txt) (h:ImgF x) (hq:pfit q=true):ACall Tryz.prog 36 20 [.vp 2 0] [(2,.var (jobP x g off s l1 nx y q a old))] (fun r h'=>∃ob',h'= [(2,ob')]∧(r= .d (.int .i64 (cdone x q).2))∧ob'= .var (jobP (cdone x q).1 g off s l1 nx y q a old)):=by
 refine bod Tryz.func36 Tryz.ntmps36 (fun base=>?_)
 have hdf:=h.disk
 have hok:=h.ok
 have hs0:=h.seq0
 have hs1:=h.seq1
 refine' walkW fx (za zo <| za zB <| za zj <| za zu <| za zw <| za zK <| za zy <| za zn <| za zQ <| za zq <| za zp <| zb _)
 all_goals first|exact ⟨_,rfl,rfl,rfl⟩|exact ⟨_,rfl,rfl⟩|omega
theorem zgO (x:Img) (g off:Int) (s:Txt) (l1 nx:Int) (y:Ent2) (q:Plan) (a:Int) (old:Txt) (t:Int) (u:Txt) (h:DiskOk x.disk):ACall Tryz.prog 85 40 [.vp 2 0,.d (.int .i64 t),.d (.str u)] [(2,.var (jobP x g off s l1 nx y q a old))] (fun r h'=>∃ob',h'= [(2,ob')]∧(r= .d (.int .i64 (zD x.disk t u).2))∧ob'= .var (jobP (wdisk x (zD x.disk t u).1) g off s l1 nx y q a old)):=by
 refine bod Tryz.func85 Tryz.ntmps85 (fun base=>?_)
 refine' walkW fx (za zo <| za zB <| za zj <| za zu <| za zw <| za zK <| za zy <| za zn <| za zQ <| za zq <| za zp <| zb _)
 all_goals first|exact ⟨_,rfl,rfl,rfl⟩|exact ⟨_,rfl,rfl⟩|omega
theorem zqF (x:Img) (g off:Int) (s:Txt) (l1 nx:Int) (y:Ent2) (q:Plan) (a:Int) (old:Txt) (h:ImgF x) (ha:zF a=true) (ho:old.length=128) (h0:0≤off) (h1:off+s.length≤128):ACall Tryz.prog 34 20 [.vp 2 0] [(2,.var (jobP x g off s l1 nx y q a old))] (fun r h'=>∃ob',h'= [(2,ob')]∧(r= .d (.int .i64 (layL x.disk (zaO a (overS old off s).1)).2))∧ob'= .var (jobP (wdisk x (layL x.disk (zaO a (overS old off s).1)).1) g off s l1 nx y q a old)):=by
 refine zO (fun i=>decide (i<20)) ?_
 refine bod Tryz.func34 Tryz.ntmps34 (fun base=>?_)
 have ha2:=hostOk_iff.1 ha
 have hbl:(overS old off s).1.length=128:=by rw [zot h0 (by omega),ho]
 obtain ⟨b,hb⟩:∃b,b=(overS old off s).1:=⟨_,rfl⟩
 rw [← hb] at hbl ⊢
 obtain ⟨L,hL⟩:∃L,L=layL x.disk (zaO a b):=⟨_,rfl⟩
 rw [← hL]
 have hx:=h.disk
 refine' walkR hb.symm (za zo <| za zB <| za zj <| za zu <| za zw <| za zK <| za zy <| za zn <| za zQ <| za zq <| za zp <| zb _)
 obtain ⟨I,hI⟩:∃I:List (List AV)→AHeap×Option (List (List AV)),I=fun xs=>([(38,.var [.d (.str b)]),(21,.var [.d (.int .i64 0)]),(20,.var [.vp 2 0]),(2,.var (jobP (wdisk x (layF x.disk ((zaO a b).take xs.length))) g off s l1 nx y q a old))],some []):=⟨_,rfl⟩
 obtain ⟨G,hG⟩:∃G:List (List AV)→Prop,G=fun xs=>L=layL (layF x.disk ((zaO a b).take xs.length)) ((zaO a b).drop xs.length):=⟨_,rfl⟩
 obtain ⟨J,hJ⟩:∃J:Code→AHeap→Option (List (List AV))→Prop,J=fun c h gg=>c= .ret∧gg=some []∧h= [(38,.var [.d (.str b)]),(21,.var [.d (.int .i64 L.2)]),(20,.var [.vp 2 0]),(2,.var (jobP (wdisk x L.1) g off s l1 nx y q a old))]:=⟨_,rfl⟩
 have hw64:IntKind.i64.wrap 64=64:=by decide
 have hw128:IntKind.i64.wrap 128=128:=by decide
 have hz0:Int.toNat 0=0:=rfl
 have h64:Int.toNat 64=64:=rfl
 have h128:Int.toNat 128=128:=rfl
 refine aw_le ⟨[(1,true,.vp 20 0),(2,true,.vp 21 0),(3,true,.vp 38 0),(28,true,.fn (.func 75) [] [.dp [.d (.int .i64 a)]])],[(38,.var [.d (.str b)]),(21,.var [.d (.int .i64 0)]),(20,.var [.vp 2 0]),(2,.var (jobP x g off s l1 nx y q a old))],some []⟩ le0 ?_
 have hwx:wdisk x x.disk=x:=rfl
 refine za9 100 G I J (zeu 100 a (by omega) (by omega)) (by simp only [go_sem,aeq,aeq.aeqF,simprocAttr]) rfl (zM rfl) (by simp [cxOf,cxY]) rfl (by rw [hG];first|trivial|rfl|simp) (by rw [hI];simp only [AS.le,leT,leH,zh,AsgK,AV.le,AV.leL,AObj.le,inH,idsT,idsH,AV.ids,AV.idsL,AV.idsR,AObj.ids,lk,hget,go_sem,aeq,aeq.aeqF,simprocAttr]<;>simp [AV.leL,AV.le]) (by rw [hI];simp only [AS.le,leT,leH,zh,AsgK,AV.le,AV.leL,AObj.le,inH,idsT,idsH,AV.ids,AV.idsL,AV.idsR,AObj.ids,lk,hget,go_sem,aeq,aeq.aeqF,simprocAttr]<;>simp) (by rw [hI]<;>rfl) (by intro x hx;obtain ⟨q,_,rfl⟩:=List.mem_map.1 hx;rfl) (by intro t ht;simp at ht;first|(rcases ht with rfl|rfl<;>simp [cxOf,cxY]<;>done)|(subst ht;simp [cxOf,cxY])) ?_ ?_ ?_
 ·intro xs x1 hpre hgd l1' r1
  obtain ⟨ys,qq,zs,hys,rfl,hzl⟩:=zdi hpre
  have hln:xs.length=ys.length:=by rw [hys];simp
  rw [hG] at hgd
  rcases zfh hzl with ⟨rfl,rfl⟩|⟨rfl,rfl⟩
  ·have hx0:xs= []:=by simpa using hys
   subst hx0
   simp only [zV]
   have hgd':L=if (zD x.disk (96+2*a) (b.take 64)).2≠0 then zD x.disk (96+2*a) (b.take 64) else layL (zD x.disk (96+2*a) (b.take 64)).1 ((zaO a b).drop 1):=hgd
   refine aw_le ⟨[(29,true,.d (.int .i64 (96+2*a))),(30,true,.d (.int .i64 0)),(1,true,.vp 20 0),(2,true,.vp 21 0),(3,true,.vp 38 0)],[(38,.var [.d (.str b)]),(21,.var [.d (.int .i64 0)]),(20,.var [.vp 2 0]),(2,.var (jobP x g off s l1 nx y q a old))],some []⟩ (by rw [hI];simp only [AS.le,leT,leH,zh,AsgK,AV.le,AV.leL,AObj.le,inH,idsT,idsH,AV.ids,AV.idsL,AV.idsR,AObj.ids,lk,hget,go_sem,aeq,aeq.aeqF,simprocAttr,wdisk]) ?_
   refine' zlt (ownsL [1000085]) (za4 hw64 hz0 h64 hbl) (za zo <| za zB <| za zj <| za zu <| za zw <| za zK <| za zy <| za zn <| za zQ <| za zq <| za zp <| zb _)
   refine ⟨2,40,.var (jobP x g off s l1 nx y q a old),_,_,rfl,by decide,zcw,by simp [AV.idsL,AV.ids],fix1 (zgO x g off s l1 nx y q a old (96+2*a) (b.take 64) hx.ok),?_⟩
   simp only [go_sem,aeq,aeq.aeqF,simprocAttr]
   refine' zlt (ownsL [1000085]) hI (za zo <| za zB <| za zj <| za zu <| za zw <| za zK <| za zy <| za zn <| za zQ <| za zq <| za zp <| zb _)
   all_goals try rfl
   ·rw [hJ]
    rw [if_pos (bneP hc)] at hgd'
    exact ⟨rfl,rfl,by rw [hgd'];rfl⟩
   ·rw [hG]
    rw [if_neg (bneN hc)] at hgd'
    exact hgd'
  ·have hx0:xs= [zV (96+2*a,0)]:=by simpa using hys
   subst hx0
   simp only [zV]
   obtain ⟨d1,hd1⟩:∃d1,d1=(zD x.disk (96+2*a) (b.take 64)).1:=⟨_,rfl⟩
   have hd1F:DiskF d1:=by rw [hd1];exact hx.write _ _
   have hgd':L=if (zD d1 (96+2*a+1) ((b.take 128).drop 64)).2≠0 then zD d1 (96+2*a+1) ((b.take 128).drop 64) else ((zD d1 (96+2*a+1) ((b.take 128).drop 64)).1,0):=by rw [hd1];exact hgd
   refine aw_le ⟨[(29,true,.d (.int .i64 (96+2*a+1))),(30,true,.d (.int .i64 64)),(1,true,.vp 20 0),(2,true,.vp 21 0),(3,true,.vp 38 0)],[(38,.var [.d (.str b)]),(21,.var [.d (.int .i64 0)]),(20,.var [.vp 2 0]),(2,.var (jobP (wdisk x d1) g off s l1 nx y q a old))],some []⟩ (by rw [hI,hd1];simp only [AS.le,leT,leH,zh,AsgK,AV.le,AV.leL,AObj.le,inH,idsT,idsH,AV.ids,AV.idsL,AV.idsR,AObj.ids,lk,hget,go_sem,aeq,aeq.aeqF,simprocAttr,wdisk]<;>and_intros<;>rfl) ?_
   refine' zlt (ownsL [1000085]) (zdA hw64 hw128 h64 h128 hbl) (za zo <| za zB <| za zj <| za zu <| za zw <| za zK <| za zy <| za zn <| za zQ <| za zq <| za zp <| zb _)
   refine ⟨2,40,.var (jobP (wdisk x d1) g off s l1 nx y q a old),_,_,rfl,by decide,zcw,by simp [AV.idsL,AV.ids],fix1 (zgO (wdisk x d1) g off s l1 nx y q a old (96+2*a+1) ((b.take 128).drop 64) hd1F.ok),?_⟩
   simp only [go_sem,aeq,aeq.aeqF,simprocAttr]
   refine' zlt (ownsL [1000085]) hI (za zo <| za zB <| za zj <| za zu <| za zw <| za zK <| za zy <| za zn <| za zQ <| za zq <| za zp <| zb _)
   all_goals try (rw [hd1];rfl)
   ·rw [hJ]
    rw [if_pos (bneP hc)] at hgd'
    exact ⟨rfl,rfl,by rw [hgd'];rfl⟩
   ·rw [hG]
    rw [if_neg (bneN hc),hd1] at hgd'
    exact hgd'
 ·intro hgd
  rw [hG] at hgd
  have hgd':L=(layF x.disk (zaO a b),0):=hgd
  rw [hI]
  refine' walkR fx (za zo <| za zB <| za zj <| za zu <| za zw <| za zK <| za zy <| za zn <| za zQ <| za zq <| za zp <| zb _)
  all_goals try rfl
  rw [hgd']
  exact ⟨_,rfl,rfl,rfl⟩
 ·rw [hJ]
  rintro c h3 g3 ⟨rfl,rfl,rfl⟩
  refine' walkR fx (za zo <| za zB <| za zj <| za zu <| za zw <| za zK <| za zy <| za zn <| za zQ <| za zq <| za zp <| zb _)
  all_goals first|rfl|exact ⟨_,rfl,rfl,rfl⟩|exact ⟨_,rfl,rfl⟩
end Go.Aw
