/-
 A connection's beginning, the program's: what asks for an export, and what contexts are wanted.
-/
import Derived.Test.YtgldbfelccddbaaGreatBeg32
import Derived.Test.YtgldbfelccddbaaGreatBeg33
set_option maxRecDepth 100000
set_option maxHeartbeats 2000000
set_option linter.unusedSimpArgs false
set_option linter.unusedVariables false
namespace Go.Aw
open Go Go.Proofs Go.RowKit
theorem zj1 (s:NW) (h:NwOk s) (ho:s.out.length≤10000000000000) (hp:s.n.phase=1) (hk:s.k=6∨s.k=7):ACall Tryz.prog 241 6 [.tp 3 0] (nwH s) (fun r h'=>r= .tup []∧h'=nwH (nwOpt s)):=by
 have hc0:ngClr s.n=s.n:=if_neg (by omega)
 have hd:=h.d
 have hz:(sizeS s.x.size).length=10:=by rw [sizeS,List.length_append,zhu,zaQ];rfl
 obtain ⟨A,hA⟩:∃A,A=zcy s.d:=⟨_,rfl⟩
 have eo:ngOpt s.n s.x s.k s.d=(if A.2.2≠0 then (s.n,sayS s.k 2147483651 []) else if oursS A.1=false then (s.n,sayS s.k 2147483654 []) else ({ s.n with phase:=if s.k=7 then 2 else s.n.phase },sayS s.k 3 ([0,0]++sizeS s.x.size)++sayS s.k 1 [])):=by
  unfold ngOpt
  rw [if_neg (by omega),if_neg (by omega),if_neg (by omega),if_pos hk,← hA]
 by_cases h1:A.2.2=0
 ·have h1b:(A.2.2 !=0)=false:=by simpa using h1
  rw [if_neg (fun e=>e h1)] at eo
  cases h2:oursS A.1 with
  |false=>
   rw [if_pos h2] at eo
   have e:nwOpt s=nwSay s 2147483654 []:=by rw [zax (by omega) eo,hc0];rfl
   rw [e]
   refine bod Tryz.func241 Tryz.ntmps241 (fun base=>?_)
   refine' walkW (zu hA.symm h1b) (zb zbR <| za _)
   refine (zG (zdM s A.1)).mono ?_
   rintro r h' ⟨rfl,rfl⟩
   simp only [go_sem,aeq,aeq.aeqF,simprocAttr,h2]
   refine' zc fx
   refine (zG (zaI s 2147483654 [] h (by decide) (by decide))).mono ?_
   rintro r h' ⟨rfl,rfl⟩
   refine' zc fx
  | true=>
   rw [if_neg (by rw [h2];decide)] at eo
   have hl:=zaT s.k 3 ([0,0]++sizeS s.x.size)
   have hl2:=zaT s.k 1 []
   have hs1:NwOk (nwSay s 3 ([0,0]++sizeS s.x.size)):=h.say (by omega)
   rcases hk with hk|hk
   ·have e:nwOpt s=nwSay (nwSay s 3 ([0,0]++sizeS s.x.size)) 1 []:=by rw [zax (by omega) eo,if_neg (by omega)];simp [hc0,nwSay,nwW]
    rw [e]
    have hkb:(s.k==7)=false:=by rw [hk];rfl
    refine bod Tryz.func241 Tryz.ntmps241 (fun base=>?_)
    refine' walkW (zu hA.symm h1b) (zb zbR <| za _)
    refine (zG (zdM s A.1)).mono ?_
    rintro r h' ⟨rfl,rfl⟩
    simp only [go_sem,aeq,aeq.aeqF,simprocAttr,h2]
    refine' zc fx
    refine (zG (zgK s h)).mono ?_
    rintro r h' ⟨rfl,rfl⟩
    refine' zc fx
    ·show 2+(sizeS s.x.size).length<9223372036854775808
     omega
    refine (zG (zaI s 3 _ h (by decide) (by decide))).mono ?_
    rintro r h' ⟨rfl,rfl⟩
    refine' zc fx
    refine (zG (zaI _ 1 [] hs1 (by decide) (by decide))).mono ?_
    rintro r h' ⟨rfl,rfl⟩
    refine' zc hkb
    exact absurd (show (s.k==7)=true from hc) (by rw [hkb];decide)
   ·have e:nwOpt s= { nwSay (nwSay s 3 ([0,0]++sizeS s.x.size)) 1 [] with n:= { s.n with phase:=2 } } :=by rw [zax (by omega) eo,if_pos hk];simp [ngClr,nwSay,nwW]
    rw [e]
    have hkb:(s.k==7)=true:=by rw [hk];rfl
    refine bod Tryz.func241 Tryz.ntmps241 (fun base=>?_)
    refine' walkW (zu hA.symm h1b) (zb zbR <| za _)
    refine (zG (zdM s A.1)).mono ?_
    rintro r h' ⟨rfl,rfl⟩
    simp only [go_sem,aeq,aeq.aeqF,simprocAttr,h2]
    refine' zc fx
    refine (zG (zgK s h)).mono ?_
    rintro r h' ⟨rfl,rfl⟩
    refine' zc fx
    ·show 2+(sizeS s.x.size).length<9223372036854775808
     omega
    refine (zG (zaI s 3 _ h (by decide) (by decide))).mono ?_
    rintro r h' ⟨rfl,rfl⟩
    refine' zc fx
    refine (zG (zaI _ 1 [] hs1 (by decide) (by decide))).mono ?_
    rintro r h' ⟨rfl,rfl⟩
    refine' zc hkb
    ·rfl
    ·exact absurd (show (s.k==7)=false from hc) (by rw [hkb];decide)
 ·have h1b:(A.2.2 !=0)=true:=by simpa using h1
  rw [if_pos h1] at eo
  have e:nwOpt s=nwSay s 2147483651 []:=by rw [zax (by omega) eo,hc0];rfl
  rw [e]
  refine bod Tryz.func241 Tryz.ntmps241 (fun base=>?_)
  refine' walkW (zu hA.symm h1b) (zb zbR <| za _)
  refine (zG (zaI s 2147483651 [] h (by decide) (by decide))).mono ?_
  rintro r h' ⟨rfl,rfl⟩
  refine' zc fx
theorem zhW (s:List UInt8):ACall Tryz.prog 353 0 [.d (.str s),.d (.int .u8 58)] [] (fun r _=>r= .d (.int .i64 (Lib.indexByte s 58))):=by
 refine zcL (v:= .int .i64 (Lib.indexByte s 58)) (zbA Tryz.func353 (by kernel_rfl) rfl) ?_ (fun w E=>by simp [Rep,RepD])
 intro E w vs hr
 simp only [Reps,Rep,RepD] at hr
 obtain ⟨v1,r1,e1,rfl,v2,r2,rfl,rfl,rfl⟩:=hr
 have hvs:vs= #[.string ⟨s.toArray⟩,.int .u8 58]:=by cases vs;simpa using e1
 subst hvs
 have:=Tryz.strings_IndexByte ⟨s.toArray⟩ 58 w
 refine this.mono ?_
 rintro e w' ⟨rfl,rfl⟩
 exact ⟨by simp,Below.refl _ _⟩
@[go_sem] noncomputable def zcA:Ent Tryz.prog 353:= .ofL (consL strT (consL (zac (.d (.int .u8 58))) nilL)) (fun (s,_,_)=>True) (fun (s,_,_)=> .d (.int .i64 (Lib.indexByte s 58))) (fun (s,_,_) hp=>⟨rfl,zhW s⟩)
theorem ziY (l:List Txt) (x:Txt) (hl:l.length≤9223372036854775807):AC 393 [.d (.sl 1 (l.map strD)),.d (.str x)] (.d (.int .i64 (idxP (fun q=>x==q) l 0))):=by
 refine bod Tryz.func393 Tryz.ntmps393 (fun base=>?_)
 refine' zc fx
 refine zt (fun q:Idst (fun q=>x==q) l=>⟨[(0,true,.d (.sl 1 (l.map strD))),(1,true,.d (.str x)),(7,true,.d (.int .i64 l.length)),(8,true,.d (.int .i64 q.1))],[],some []⟩) (fun q=>l.length - q.1) ⟨0,Nat.zero_le _,rfl⟩ le1 (fun q=>?_)
 obtain ⟨i,hi,hf⟩:=q
 simp only at hi hf ⊢
 rcases zaw strD l i hi with ⟨m,hq,hlt,hcmp,hrow,hdr,htk⟩|⟨hend,hcmp⟩
 ·simp only [strD] at hrow
  have hwi:=zp (i:=i) (by omega)
  refine' zc (zu hcmp hrow)
  ·rw [hf,hdr,idxP,if_pos (by simpa using hc)]
  ·exact ⟨⟨i+1,by omega,by rw [hf,hdr,idxP,if_neg (by simpa using hc)]⟩,lew,by simp;omega⟩
 ·refine' zc hcmp
  rw [hf,hend,List.drop_length]
  rfl
@[go_sem] noncomputable def zgM:Ent Tryz.prog 393:= .m2 (slT 1 strD zcp) strT ziY
theorem zfi (l:List Txt) (x:Txt) (hl:l.length≤9223372036854775807):AC 352 [.d (.sl 1 (l.map strD)),.d (.str x)] (.d (.bool (l.contains x))):=by
 refine bod Tryz.func352 Tryz.ntmps352 (fun base=>?_)
 refine' walkW fx (zb zgM <| za _)
 rw [zlO,zdX]
@[go_sem] noncomputable def zbZ:Ent Tryz.prog 352:= .m2 (slT 1 strD zcp) strT zfi
theorem zj2 {names:List Txt} {c:Txt} (h:c∈ctxs names):Lib.indexByte c 58=4∧(c.take 5=baseC∨c.take 5=qemuC):=by
 rcases List.mem_cons.mp h with rfl|h
 ·exact ⟨by decide,.inl rfl⟩
 ·obtain ⟨m,_,rfl⟩:=List.mem_map.mp h
  exact ⟨by simp [zjy,Lib.indexByte],.inr rfl⟩
theorem zhX (c:Txt) (l:List Txt) (all:Bool) (h:c.take 5=baseC∨c.take 5=qemuC):(l.contains c||all&&(l.isEmpty||l.contains (c.take 5)))=zcb c l all:=by
 have hp:∀p q:Txt,p.length=5→(c.take 5=p↔p.isPrefixOf c=true):=by
  intro p q hl
  rw [List.isPrefixOf_iff_prefix,List.prefix_iff_eq_take,hl]
  exact ⟨fun e=>e.symm,fun e=>e.symm⟩
 have h1:∀q,zhx c all q=(q==c||all&&q==c.take 5):=by
  intro q
  unfold zhx
  cases all
  ·simp
  ·simp only [Bool.true_and]
   congr 1
   rw [Bool.eq_iff_iff]
   simp only [Bool.and_eq_true,Bool.or_eq_true,beq_iff_eq]
   constructor
   ·rintro ⟨rfl|rfl,hq⟩
    ·exact ((hp baseC [] rfl).2 hq).symm
    ·exact ((hp qemuC [] rfl).2 hq).symm
   ·rintro rfl
    refine ⟨h,?_⟩
    exact List.isPrefixOf_iff_prefix.mpr (List.take_prefix 5 c)
 unfold zcb
 have h2:(fun q=>zhx c all q)=fun q=>(q==c||all&&q==c.take 5):=funext h1
 rw [show l.any (zhx c all)=l.any (fun q=>q==c||all&&q==c.take 5) from congrArg l.any h2]
 cases all
 ·simp [List.any_beq',List.contains_eq_any_beq]
 ·simp only [Bool.true_and]
  rw [Bool.eq_iff_iff]
  simp only [Bool.or_eq_true,List.any_eq_true,List.contains_iff_mem,beq_iff_eq]
  constructor
  ·rintro (h|h|h)
   ·exact .inr ⟨c,h,.inl rfl⟩
   ·exact .inl h
   ·exact .inr ⟨_,h,.inr rfl⟩
  ·rintro (h|⟨q,hq,rfl|rfl⟩)
   ·exact .inr (.inl h)
   ·exact .inl hq
   ·exact .inr (.inr hq)
theorem zm2 {c:Txt} (h5:c.take 5=baseC∨c.take 5=qemuC):5≤c.length:=by
 rcases h5 with e|e
 ·have:=congrArg List.length e;rw [List.length_take] at this;simp only [baseC,List.length_cons,List.length_nil] at this;omega
 ·have:=congrArg List.length e;rw [List.length_take] at this;simp only [qemuC,List.length_cons,List.length_nil] at this;omega
theorem zkU {l:List Txt} :((l.length:Int)==0)=l.isEmpty:=by cases l<;>simp;omega
theorem zkV (s:NW) (c:Txt) (l:List Txt) (hl:l.length≤1000000) (hcl:c.length≤1000000) (h4:Lib.indexByte c 58=4) (h5:c.take 5=baseC∨c.take 5=qemuC) (h10:s.k=9∨s.k=10):ACall Tryz.prog 301 6 [.tp 3 0,.d (.str c),.d (.sl 1 (l.map strD))] (nwH s) (fun r h'=>r= .d (.bool (zcb c l (s.k !=10)))∧h'=nwH s):=by
 rw [← zhX c l (s.k !=10) h5]
 have h5l:=zm2 h5
 refine bod Tryz.func301 Tryz.ntmps301 (fun base=>?_)
 have hw5:IntKind.i64.wrap 5=5:=by decide
 have hkk:(s.k !=10)=(s.k==9):=by rcases h10 with e|e<;>rw [e]<;>rfl
 rw [hkk]
 refine' walkW (zu h4 hw5) (zb zbZ <| zb zcA <| za _)
 ·rw [hc];rfl
 ·simp_all
 ·rw [hc,zkU];rfl
end Go.Aw
