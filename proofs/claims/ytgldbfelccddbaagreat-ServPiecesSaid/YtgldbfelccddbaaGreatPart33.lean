/-
 Parts of the proof: lemmas.
-/
import Derived.Test.YtgldbfelccddbaaGreatPart31
import Derived.Test.YtgldbfelccddbaaGreatPart28
import Derived.Test.YtgldbfelccddbaaGreatPart26
set_option maxRecDepth 100000
set_option maxHeartbeats 2000000
set_option linter.unusedSimpArgs false
set_option linter.unusedVariables false
namespace Go.Aw
open Go Go.Proofs Go.RowKit
theorem zp5 (s:NW) (h:NwOk s) (ho:s.out.length≤10000000000000) (hp:s.n.phase=1) (hk:s.k=6∨s.k=7):ACall Tryz.prog 241 6 [.tp 3 0] (nwH s) (fun r h'=>r= .tup []∧h'=nwH (nwOpt s)):=by
 have hc0:ngClr s.n=s.n:=if_neg U
 have hd:=h.d
 have hz:(sizeS s.x.size).length=10:=ct
 obtain ⟨A,hA⟩:∃A,A=zc8 s.d:=⟨_,rfl⟩
 have eo:ngOpt s.n s.x s.k s.d=(if A.2.2≠0 then (s.n,sayS s.k 2147483651 []) else if oursS A.1=false then (s.n,sayS s.k 2147483654 []) else ({ s.n with phase:=if s.k=7 then 2 else s.n.phase },sayS s.k 3 ([0,0]++sizeS s.x.size)++sayS s.k 1 [])):=by
  unfold ngOpt
  rw [if_neg U,if_neg U,if_neg U,if_pos hk,← hA]
 by_cases h1:A.2.2=0
 ·have h1b:(A.2.2 !=0)=false:=by simpa using h1
  rw [if_neg (fun e=>e h1)] at eo
  cases h2:oursS A.1 with
  |false=>
   rw [if_pos h2] at eo
   have e:nwOpt s=nwSay s 2147483654 []:=by rw [zcd U eo,hc0];rfl
   rw [e]
   refine bod Tryz.func241 Tryz.ntmps241 (fun base=>?_)
   refine' walkW (zj hA.symm h1b) (za zes <| zb _)
   refine (zam (zg8 s A.1)).mono ?_
   rintro r h' ⟨rfl,rfl⟩
   simp only [go_sem,aeq,aeq.aeqF,simprocAttr,h2]
   refine' zc fx
   refine (zam (zcv s 2147483654 [] h ae ae)).mono ?_
   rintro r h' ⟨rfl,rfl⟩
   refine' zc fx
  | true=>
   rw [if_neg (by rw [h2];decide)] at eo
   have hl:=zby s.k 3 ([0,0]++sizeS s.x.size)
   have hl2:=zby s.k 1 []
   have hs1:NwOk (nwSay s 3 ([0,0]++sizeS s.x.size)):=h.say U
   rcases hk with hk|hk
   ·have e:nwOpt s=nwSay (nwSay s 3 ([0,0]++sizeS s.x.size)) 1 []:=by rw [zcd U eo,if_neg U];simp [hc0,nwSay,nwW]
    rw [e]
    have hkb:(s.k==7)=false:=bg
    refine bod Tryz.func241 Tryz.ntmps241 (fun base=>?_)
    refine' walkW (zj hA.symm h1b) (za zes <| zb _)
    refine (zam (zg8 s A.1)).mono ?_
    rintro r h' ⟨rfl,rfl⟩
    simp only [go_sem,aeq,aeq.aeqF,simprocAttr,h2]
    refine' zc fx
    refine (zam (zld s h)).mono ?_
    rintro r h' ⟨rfl,rfl⟩
    refine' zc fx
    ·show 2+(sizeS s.x.size).length<9223372036854775808
     omega
    refine (zam (zcv s 3 _ h ae ae)).mono ?_
    rintro r h' ⟨rfl,rfl⟩
    refine' zc fx
    refine (zam (zcv _ 1 [] hs1 ae ae)).mono ?_
    rintro r h' ⟨rfl,rfl⟩
    refine' zc hkb
    exact absurd (show (s.k==7)=true from hc) (by rw [hkb];decide)
   ·have e:nwOpt s= { nwSay (nwSay s 3 ([0,0]++sizeS s.x.size)) 1 [] with n:= { s.n with phase:=2 } } :=by rw [zcd U eo,if_pos hk];simp [ngClr,nwSay,nwW]
    rw [e]
    have hkb:(s.k==7)=true:=bg
    refine bod Tryz.func241 Tryz.ntmps241 (fun base=>?_)
    refine' walkW (zj hA.symm h1b) (za zes <| zb _)
    refine (zam (zg8 s A.1)).mono ?_
    rintro r h' ⟨rfl,rfl⟩
    simp only [go_sem,aeq,aeq.aeqF,simprocAttr,h2]
    refine' zc fx
    refine (zam (zld s h)).mono ?_
    rintro r h' ⟨rfl,rfl⟩
    refine' zc fx
    ·show 2+(sizeS s.x.size).length<9223372036854775808
     omega
    refine (zam (zcv s 3 _ h ae ae)).mono ?_
    rintro r h' ⟨rfl,rfl⟩
    refine' zc fx
    refine (zam (zcv _ 1 [] hs1 ae ae)).mono ?_
    rintro r h' ⟨rfl,rfl⟩
    refine' zc hkb
    ·rfl
    ·exact absurd (show (s.k==7)=false from hc) (by rw [hkb];decide)
 ·have h1b:(A.2.2 !=0)=true:=by simpa using h1
  rw [if_pos h1] at eo
  have e:nwOpt s=nwSay s 2147483651 []:=by rw [zcd U eo,hc0];rfl
  rw [e]
  refine bod Tryz.func241 Tryz.ntmps241 (fun base=>?_)
  refine' walkW (zj hA.symm h1b) (za zes <| zb _)
  refine (zam (zcv s 2147483651 [] h ae ae)).mono ?_
  rintro r h' ⟨rfl,rfl⟩
  refine' zc fx
theorem zmN (s:List UInt8):ACall Tryz.prog 353 0 [.d (.str s),.d (.int .u8 58)] [] (fun r _=>r= .d (.int .i64 (Lib.indexByte s 58))):=by
 refine zii (v:= .int .i64 (Lib.indexByte s 58)) (zdp Tryz.func353 ad rfl) ?_ (fun w E=>aK)
 intro E w vs hr
 simp only [Reps,Rep,RepD] at hr
 obtain ⟨v1,r1,e1,rfl,v2,r2,rfl,rfl,rfl⟩:=hr
 have hvs:vs= #[.string ⟨s.toArray⟩,.int .u8 58]:=by cases vs;simpa using e1
 subst hvs
 have:=Tryz.strings_IndexByte ⟨s.toArray⟩ 58 w
 refine this.mono ?_
 rintro e w' ⟨rfl,rfl⟩
 exact ⟨aa,Below.refl _ _⟩
@[go_sem] noncomputable def zfB:Ent Tryz.prog 353:= .ofL (consL strT (consL (zbG (.d (.int .u8 58))) nilL)) (fun (s,_,_)=>True) (fun (s,_,_)=> .d (.int .i64 (Lib.indexByte s 58))) (fun (s,_,_) hp=>⟨rfl,zmN s⟩)
theorem zoD (l:List Txt) (x:Txt) (hl:l.length≤9223372036854775807):AC 393 [.d (.sl 1 (l.map strD)),.d (.str x)] (.d (.int .i64 (idxP (fun q=>x==q) l 0))):=by
 refine bod Tryz.func393 Tryz.ntmps393 (fun base=>?_)
 refine' zc fx
 refine zk (fun q:Idst (fun q=>x==q) l=>⟨[(0,true,.d (.sl 1 (l.map strD))),(1,true,.d (.str x)),(7,true,.d (.int .i64 l.length)),(8,true,.d (.int .i64 q.1))],[],some []⟩) (fun q=>l.length - q.1) ⟨0,Nat.zero_le _,rfl⟩ le1 (fun q=>?_)
 obtain ⟨i,hi,hf⟩:=q
 simp only at hi hf ⊢
 rcases zy strD l i hi with ⟨m,hq,hlt,hcmp,hrow,hdr,htk⟩|⟨hend,hcmp⟩
 ·simp only [strD] at hrow
  have hwi:=zn (i:=i) U
  refine' zc (zj hcmp hrow)
  ·rw [hf,hdr,idxP,if_pos ak]
  ·exact ⟨⟨i+1,U,by rw [hf,hdr,idxP,if_neg ak]⟩,lew,af⟩
 ·refine' zc hcmp
  rw [hf,hend,List.drop_length]
  rfl
@[go_sem] noncomputable def zlf:Ent Tryz.prog 393:= .m2 (slT 1 strD zeh) strT zoD
theorem zi9 (l:List Txt) (x:Txt) (hl:l.length≤9223372036854775807):AC 352 [.d (.sl 1 (l.map strD)),.d (.str x)] (.d (.bool (l.contains x))):=by
 refine bod Tryz.func352 Tryz.ntmps352 (fun base=>?_)
 refine' walkW fx (za zlf <| zb _)
 rw [znV,zhr]
@[go_sem] noncomputable def zeH:Ent Tryz.prog 352:= .m2 (slT 1 strD zeh) strT zi9
theorem zp6 {names:List Txt} {c:Txt} (h:c∈ctxs names):Lib.indexByte c 58=4∧(c.take 5=baseC∨c.take 5=qemuC):=by
 rcases List.mem_cons.mp h with rfl|h
 ·exact ⟨ae,.inl rfl⟩
 ·obtain ⟨m,_,rfl⟩:=List.mem_map.mp h
  exact ⟨by simp [zjV,Lib.indexByte],.inr rfl⟩
theorem zmO (c:Txt) (l:List Txt) (all:Bool) (h:c.take 5=baseC∨c.take 5=qemuC):(l.contains c||all&&(l.isEmpty||l.contains (c.take 5)))=zda c l all:=by
 have hp:∀p q:Txt,p.length=5→(c.take 5=p↔p.isPrefixOf c=true):=by
  intro p q hl
  rw [List.isPrefixOf_iff_prefix,List.prefix_iff_eq_take,hl]
  exact ⟨fun e=>e.symm,fun e=>e.symm⟩
 have h1:∀q,zhw c all q=(q==c||all&&q==c.take 5):=by
  intro q
  unfold zhw
  cases all
  ·simp
  ·simp only [Bool.true_and]
   congr 1
   rw [Bool.eq_iff_iff]
   simp only [Bool.and_eq_true,Bool.or_eq_true,beq_iff_eq]
   constructor
   ·rintro ⟨rfl|rfl,hq⟩
    ·exact ((hp baseC [] rfl).2 hq).symm
    ·exact ((hp qemuC [] rfl).2 hq).symm
   ·rintro rfl
    refine ⟨h,?_⟩
    exact List.isPrefixOf_iff_prefix.mpr (List.take_prefix 5 c)
 unfold zda
 have h2:(fun q=>zhw c all q)=fun q=>(q==c||all&&q==c.take 5):=funext h1
 rw [show l.any (zhw c all)=l.any (fun q=>q==c||all&&q==c.take 5) from congrArg l.any h2]
 cases all
 ·simp [List.any_beq',List.contains_eq_any_beq]
 ·simp only [Bool.true_and]
  rw [Bool.eq_iff_iff]
  simp only [Bool.or_eq_true,List.any_eq_true,List.contains_iff_mem,beq_iff_eq]
  constructor
  ·rintro (h|h|h)
   ·exact .inr ⟨c,h,.inl rfl⟩
   ·exact .inl h
   ·exact .inr ⟨_,h,.inr rfl⟩
  ·rintro (h|⟨q,hq,rfl|rfl⟩)
   ·exact .inr (.inl h)
   ·exact .inl hq
   ·exact .inr (.inr hq)
theorem zuc {c:Txt} (h5:c.take 5=baseC∨c.take 5=qemuC):5≤c.length:=by
 rcases h5 with e|e
 ·have:=congrArg List.length e;rw [List.length_take] at this;simp only [baseC,List.length_cons,List.length_nil] at this;omega
 ·have:=congrArg List.length e;rw [List.length_take] at this;simp only [qemuC,List.length_cons,List.length_nil] at this;omega
theorem zjW {l:List Txt} :((l.length:Int)==0)=l.isEmpty:=by cases l<;>simp;omega
theorem zrl (s:NW) (c:Txt) (l:List Txt) (hl:l.length≤1000000) (hcl:c.length≤1000000) (h4:Lib.indexByte c 58=4) (h5:c.take 5=baseC∨c.take 5=qemuC) (h10:s.k=9∨s.k=10):ACall Tryz.prog 301 6 [.tp 3 0,.d (.str c),.d (.sl 1 (l.map strD))] (nwH s) (fun r h'=>r= .d (.bool (zda c l (s.k !=10)))∧h'=nwH s):=by
 rw [← zmO c l (s.k !=10) h5]
 have h5l:=zuc h5
 refine bod Tryz.func301 Tryz.ntmps301 (fun base=>?_)
 have hw5:IntKind.i64.wrap 5=5:=ae
 have hkk:(s.k !=10)=(s.k==9):=by rcases h10 with e|e<;>rw [e]<;>rfl
 rw [hkk]
 refine' walkW (zj h4 hw5) (za zeH <| za zfB <| zb _)
 ·rw [hc];rfl
 ·simp_all
 ·rw [hc,zjW];rfl
open Go Go.Proofs
theorem zrC (s:Txt) (_:True):AC 259 [.d (.str s)] (.d (.bool (oursS s))):=by
 refine fbod Tryz.func259 Tryz.ntmps259 (fun base=>?_)
 refine' zc fx
 rfl
@[go_sem] noncomputable def zah:Ent Tryz.prog 259:= .m1 strT zrC
theorem zrD (x:Xp) (h:XpOk x):AC 260 [xpA x] (.d (.str (sizeS x.size))):=by
 have h0:=h.1
 have h1:=h.2
 have hl:(putS8 x.size 8).length=8:=by rw [zeS,zu]
 refine fbod Tryz.func260 Tryz.ntmps260 (fun base=>?_)
 refine' walkW fx (za zt <| za zfD <| zb _)
 all_goals first|omega|rfl
@[go_sem] noncomputable def zat:Ent Tryz.prog 260:= .m1 xpA_T zrD
theorem zuA (o k:Int) (data:Txt) (hp:0≤o∧o≤4294967295∧0≤k∧k≤4294967295):AC 261 [.d (.int .u32 o),.d (.int .u32 k),.d (.str data)] (.d (.str (sayS o k data))):=by
 obtain ⟨h0,h1,h2,h3⟩:=hp
 refine fbod Tryz.func261 Tryz.ntmps261 (fun base=>?_)
 refine' walkW fx (za zt <| za zfD <| zb _)
@[go_sem] noncomputable def zS:Ent Tryz.prog 261:= .m3 (intT .u32) (intT .u32) strT zuA
theorem zm3 (s p:Txt) (hp:s.length≤9223372036854775807∧p.length≤9223372036854775807):AC 382 [.d (.str s),.d (.str p)] (.d (.bool (p.isPrefixOf s))):=by
 obtain ⟨hs,hp⟩:=hp
 by_cases hl:p.length≤s.length
 ·have hb:decide ((p.length:Int)≤(s.length:Int))=true:=decide_eq_true U
  have e:p.isPrefixOf s=(s.take p.length==p):=by
   rw [Bool.eq_iff_iff,List.isPrefixOf_iff_prefix,List.prefix_iff_eq_take,beq_iff_eq]
   exact ⟨fun e=>e.symm,fun e=>e.symm⟩
  rw [e]
  refine fbod Tryz.func382 Tryz.ntmps382 (fun base=>?_)
  refine' zc hb
  all_goals first|omega|rfl
 ·have hb:decide ((p.length:Int)≤(s.length:Int))=false:=decide_eq_false U
  have e:p.isPrefixOf s=false:=by
   cases h:p.isPrefixOf s with
   |false=>rfl
   |true=>exact absurd (List.IsPrefix.length_le (List.isPrefixOf_iff_prefix.mp h)) hl
  rw [e]
  refine fbod Tryz.func382 Tryz.ntmps382 (fun base=>?_)
  refine' zc hb
@[go_sem] noncomputable def zfF:Ent Tryz.prog 382:= .m2 strT strT zm3
theorem zja (x:Xp) (hp:x.names.length≤1000000∧(∀s∈x.names,s.length≤1000000)):AC 335 [xpA x] (.d (.sl 1 ((ctxs x.names).map strD))):=by
 obtain ⟨hl,hn⟩:=hp
 obtain ⟨names,hnm⟩:∃l,l=x.names:=⟨_,rfl⟩
 rw [← hnm] at hl hn ⊢
 refine fbod Tryz.func335 Tryz.ntmps335 (fun base=>?_)
 refine' zc hnm.symm
 refine zk (fun q: { i:Nat // i≤names.length } =>⟨[(1,true,.vp 0 0),(3,true,.osl 1 1 (q.1+1) 0 (q.1+1)),(4,true,.d (.int .i64 q.1))],[(1,.arr 1 ((ctxs (names.take q.1)).map strD)),(0,.var [.d (.int .u64 x.size),.d (.sl 1 (names.map strD))])],some []⟩) (fun q=>names.length - q.1) ⟨0,Nat.zero_le _⟩ le1 (fun q=>?_)
 obtain ⟨i,hi⟩:=q
 simp only at hi ⊢
 have hcl:((ctxs (names.take i)).map strD).length=i+1:=by simp [ctxs];omega
 rcases zy strD names i hi with ⟨m,hq,hlt,hcmp,hrow,hdr,htk⟩|⟨hend,hcmp⟩
 ·simp only [strD] at hrow
  have hwi:=zn (i:=i) U
  have hm:=hn m (List.mem_of_getElem? hq)
  have hsn:(ctxs (names.take (i+1))).map strD=(ctxs (names.take i)).map strD++ [[.str (zjV++m)]]:=by rw [htk];simp [ctxs,strD]
  refine' zc (zq hcmp hrow hcl)
  all_goals first|omega|skip
  exact ⟨⟨i+1,U⟩,dO,af⟩
 ·subst hend
  simp only [List.take_length] at hcl ⊢
  refine' zc (zj hcmp hcl)
  rw [List.take_of_length_le (Nat.le_of_eq hcl)]
@[go_sem] noncomputable def zeI:Ent Tryz.prog 335:= .m1 xpA_T zja
theorem zoT (c:Txt) (l:List Txt) (all:Bool) (hp:c.length≤1000000∧l.length≤1000000∧(∀s∈l,s.length≤1000000)):AC 336 [.d (.str c),.d (.sl 1 (l.map strD)),.d (.bool all)] (.d (.bool (zda c l all))):=by
 obtain ⟨hc,hl,hn⟩:=hp
 obtain ⟨V,hV⟩:∃V,V=zda c l all:=⟨_,rfl⟩
 rw [← hV]
 unfold zda at hV
 have he:= @zjW l
 refine fbod Tryz.func336 Tryz.ntmps336 (fun base=>?_)
 by_cases hal:(all&&l.isEmpty)=true
 ·rw [hal,Bool.true_or] at hV
  refine' zc (zj he hal)
  rw [hV]
 have hal2:(all&&l.isEmpty)=false:=by simpa using hal
 rw [hal2,Bool.false_or] at hV
 refine' zc (zj he hal2)
 refine zk (fun q: { i:Nat // i≤l.length∧V=(l.drop i).any (zhw c all) } =>⟨[(0,true,.d (.str c)),(1,true,.d (.sl 1 (l.map strD))),(2,true,.d (.bool all)),(7,true,.d (.int .i64 q.1))],[],some []⟩) (fun q=>l.length - q.1) ⟨0,Nat.zero_le _,hV⟩ le1 (fun q=>?_)
 obtain ⟨i,hi,hVi⟩:=q
 simp only at hi hVi ⊢
 rcases zy strD l i hi with ⟨m,hq,hlt,hcmp,hrow,hdr,htk⟩|⟨hend,hcmp⟩
 ·simp only [strD] at hrow
  have hwi:=zn (i:=i) U
  have hm:=hn m (List.mem_of_getElem? hq)
  rw [hdr,List.any_cons] at hVi
  have ha:(m==c||all&&(m== [98,97,115,101,58]||m== [113,101,109,117,58])&&m.isPrefixOf c)=zhw c all m:=rfl
  cases hb:zhw c all m with
  |true=>
   rw [hb,Bool.true_or] at hVi
   rw [hb] at ha
   refine' walkW (zq hcmp hrow ha) (za zfF <| zb _)
   all_goals first|(simp only [*,Bool.not_false,Bool.and_true,Bool.true_and];done)|skip
   all_goals first|(rw [hVi];done)|trace_state
  |false=>
   rw [hb,Bool.false_or] at hVi
   rw [hb] at ha
   refine' walkW (zq hcmp hrow ha) (za zfF <| zb _)
   all_goals first|(simp only [*,Bool.not_false,Bool.and_true,Bool.true_and];done)|skip
   exact ⟨⟨i+1,U,hVi⟩,lew,af⟩
 ·subst hend
  rw [List.drop_length] at hVi
  refine' zc hcmp
  rw [hVi];rfl
@[go_sem] noncomputable def zbX:Ent Tryz.prog 336:= .m3 strT (slT 1 strD zeh) boolT zoT
end Go.Aw
