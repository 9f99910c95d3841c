/-
 Parts of the proof: lemmas.
-/
import Derived.Test.YtgldbfelccddbaaGreatBeg7
set_option maxRecDepth 100000
set_option maxHeartbeats 2000000
set_option linter.unusedSimpArgs false
set_option linter.unusedVariables false
namespace Go.Aw
open Go Go.Proofs Go.RowKit
theorem zcL {P:Program} {f:FuncId} {args:List AV} {r:AV} {v:Value} (hen:zbj P f) (h:∀E w (vs:Array Value),Reps w E [] args vs.toList→Calls P f vs w (fun e w'=>e= .returned v∧Below w.heap.size w w')) (hr:∀w E,Rep w E [] r v):ACall P f 0 args [] (fun r' _=>r'=r):=by
 refine ⟨hen,fun E w vs hs hra=>(h E w vs hra).mono ?_⟩
 rintro e w' ⟨rfl,hb⟩
 have hno:∀b,¬Own E [] b:=fun b ⟨i,hi,_⟩=>by simp [hget] at hi
 refine ⟨v,E,r,[],rfl,rfl,⟨fun i o ho=>by simp [hget] at ho,fun i j b h1=>by simp [hget] at h1,fun b hb=>absurd hb (hno b),fun b hm=>Nat.lt_of_lt_of_le (hs.mlt b hm) hb.size,fun b hm=>Nat.lt_of_lt_of_le (hs.nlt b hm) hb.size⟩,hr w' E,?_⟩
 exact ⟨hb.os,hb.tape,hb.output,hb.size,fun k hk _=>hb.block k hk,fun b ho=> .inl ho,rfl,rfl,fun i _ hi=>by simp [hget] at hi⟩
theorem znO (n:Nat) (hn:n≤140737488355328):ACall Tryz.prog 253 0 [.d (.str [0]),.d (.int .i64 n)] [] (fun r _=>r= .d (.str (List.replicate n 0))):=by
 refine zcL (v:= .string ⟨(List.replicate n 0).toArray⟩) (zbA Tryz.func253 (by kernel_rfl) rfl) ?_ (fun w E=>by simp [Rep,RepD])
 intro E w vs hr
 simp only [Reps,Rep,RepD] at hr
 obtain ⟨v1,r1,e1,rfl,v2,r2,rfl,rfl,rfl⟩:=hr
 have hvs:vs= #[.string ⟨#[0]⟩,.int .i64 n]:=by cases vs;simpa using e1
 subst hvs
 have:=Tryz.strings_Repeat ⟨#[0]⟩ n w (by omega) (by simpa [ByteArray.size] using hn)
 refine this.mono ?_
 rintro e w' ⟨rfl,hb⟩
 refine ⟨?_,hb⟩
 have:=Lib.repeatL_replicate 0 1 n
 simp only [List.replicate_one,Nat.mul_one,Nat.one_mul] at this
 show Ending.returned (.string ⟨(Lib.repeatL [0] n).toArray⟩)=_
 rw [this]
theorem zhi (s p:List UInt8) (_:True):AC 218 [.d (.str s),.d (.str p)] (.d (.bool (p.isPrefixOf s))):=by
 refine zcL (v:= .bool (p.isPrefixOf s)) (zbA Tryz.func218 (by kernel_rfl) rfl) ?_ (fun w E=>by simp [Rep,RepD])
 intro E w vs hr
 simp only [Reps,Rep,RepD] at hr
 obtain ⟨v1,r1,e1,rfl,v2,r2,rfl,rfl,rfl⟩:=hr
 have hvs:vs= #[.string ⟨s.toArray⟩,.string ⟨p.toArray⟩]:=by cases vs;simpa using e1
 subst hvs
 have:=Tryz.strings_HasPrefix ⟨s.toArray⟩ ⟨p.toArray⟩ w
 refine this.mono ?_
 rintro e w' ⟨rfl,rfl⟩
 exact ⟨by simp [Lib.hasPrefix],Below.refl _ _⟩
@[go_sem] noncomputable def zfd:Ent Tryz.prog 218:= .m2 strT strT zhi
end Go.Aw
namespace Go.Proofs.YtgldbfelccddbaaGreat
open Go Go.RowKit
theorem zb8 (W:World) (q:Option Addr):(Builtin.unsafeString_ #[282,3] 9 #[.pointer q,.int .i64 0]).run Tryz.prog W= .ok (.string .empty) W:=
 Lib.run_unsafeString_none W _ _ _ q
theorem zb9 (w:World) (row:Option Nat):w.grownBy w.drew row:=⟨rfl,rfl,rfl,Nat.le_refl _,fun _ _ _=>rfl⟩
theorem zff (w:World) (g n:Nat):w.grownBy (w.drew.freeze ⟨g,0,none⟩ n) (some g):=by
 unfold World.freeze
 split
 ·exact zb9 w _
 ·refine ⟨rfl,rfl,rfl,by simp,fun k hk hne=>?_⟩
  simp only [Array.getElem?_modify]
  rw [if_neg (fun e=>hne (by rw [e]))]
  rfl
theorem zkw (b o:Nat) (w:World) (h1:w.cell? ⟨b,o+1,none⟩=some (.slice none 0 0)):
  Calls Tryz.prog 98 #[.pointer (some ⟨b,o,none⟩)] w fun e w'=>e= .returned (.string ⟨#[]⟩)∧w.grownBy w' none:=by
 have hUS:=zb8
 have c1:w.drew.cell? ⟨b,o+1,none⟩=some (.slice none 0 0):=h1
 have hSD:(Builtin.unsafeSliceData_ #[60] 282 #[.slice none 0 0]).run Tryz.prog w.drew= .ok (.pointer none) w.drew:=rfl
 go_enter Tryz.func98,Tryz.ntmps98
 go_wp2
 go_region
 all_goals (go_wp2;go_ret;exact ⟨rfl,zb9 w none⟩)
theorem ziz (b o g cap:Nat) (w:World) (hc0:cap≠0) (h1:w.cell? ⟨b,o+1,none⟩=some (.slice (some ⟨g,0,none⟩) 0 cap)):
  Calls Tryz.prog 98 #[.pointer (some ⟨b,o,none⟩)] w fun e w'=>e= .returned (.string ⟨#[]⟩)∧w.grownBy w' (some g):=by
 have hUS:=zb8
 have c1:w.drew.cell? ⟨b,o+1,none⟩=some (.slice (some ⟨g,0,none⟩) 0 cap):=h1
 have hSD:(Builtin.unsafeSliceData_ #[60] 282 #[.slice (some ⟨g,0,none⟩) 0 cap]).run Tryz.prog w.drew= .ok (.pointer (some ⟨g,0,none⟩)) w.drew:=
  Lib.run_unsafeSliceData_row _ _ _ _ _ _ hc0
 clear hc0
 go_enter Tryz.func98,Tryz.ntmps98
 go_wp2
 go_region
 all_goals (go_wp2;go_ret;exact ⟨rfl,zb9 w _⟩)
theorem zgv (b o g:Nat) (cur:Array Value) (w:World) (h1:w.cell? ⟨b,o+1,none⟩=some (.slice (some ⟨g,0,none⟩) 0 0)) (hg:w.heap[g]?=some (.cells cur 5 (0,0))):
  Calls Tryz.prog 98 #[.pointer (some ⟨b,o,none⟩)] w fun e w'=>e= .returned (.string ⟨#[]⟩)∧w.grownBy w' (some g):=by
 have hUS:=zb8
 have hlt:b<w.heap.size:=by
  rcases Nat.lt_or_ge b w.heap.size with h'|h'
  ·exact h'
  ·simp [World.cell?,Array.getElem?_eq_none h'] at h1
 have c1:w.drew.cell? ⟨b,o+1,none⟩=some (.slice (some ⟨g,0,none⟩) 0 0):=h1
 have hSD:(Builtin.unsafeSliceData_ #[60] 282 #[.slice (some ⟨g,0,none⟩) 0 0]).run Tryz.prog w.drew= .ok (.pointer (some ⟨w.drew.heap.size,0,none⟩)) (w.drew.alloc (.view ⟨g,0,none⟩ 5)):=
  Lib.run_unsafeSliceData_zero w.drew _ _ 5 Tryz.underlying282 ⟨g,0,none⟩ 0 (5,cur.size) (by have hg':w.drew.heap[g]?=some (.cells cur 5 (0,0)):=hg;simp [World.shape?,hg'])
 have c2:(w.drew.alloc (.view ⟨g,0,none⟩ 5)).cell? ⟨b,o+1,none⟩=some (.slice (some ⟨g,0,none⟩) 0 0):=by
  rw [← c1]
  simp only [World.cell?]
  rw [Lib.alloc_old w.drew _ b hlt]
 have c3:(w.alloc (.view ⟨g,0,none⟩ 5)).drew.cell? ⟨b,o+1,none⟩=some (.slice (some ⟨g,0,none⟩) 0 0):=c2
 go_enter Tryz.func98,Tryz.ntmps98
 go_wp2
 go_region
 all_goals (go_wp2;go_ret;exact ⟨rfl,⟨rfl,rfl,rfl,by simp,fun k hk _=>Lib.alloc_old w.drew _ k hk⟩⟩)
theorem ziA (b o g cap:Nat) (cur:Array Value) (l:List UInt8) (w:World) (h0:l≠ []) (h1:w.cell? ⟨b,o+1,none⟩=some (.slice (some ⟨g,0,none⟩) l.length cap))
  (hown:w.ownsRow 0 5 1 (.slice (some ⟨g,0,none⟩) l.length cap) l.length (Lib.byteCells l)):
  Calls Tryz.prog 98 #[.pointer (some ⟨b,o,none⟩)] w fun e w'=>e= .returned (.string ⟨l.toArray⟩)∧w.grownBy w' (some g):=by
 have hl0:l.length≠0:=by simpa using h0
 obtain ⟨cur,hg,hnc,hcm,hcs,htake⟩:∃cur,w.heap[g]?=some (.cells cur 5 (0,0))∧l.length≤cap∧cap≤maxLen∧cur.size=cap*1∧cur.toList.take (l.length*1)=Lib.byteCells l:=by
  rcases hown.2 with ⟨_,hz⟩|⟨g',cap',cur,hv,r0,r⟩
  ·exact absurd hz hl0
  ·cases hv
   exact ⟨cur,r⟩
 have c1:w.drew.cell? ⟨b,o+1,none⟩=some (.slice (some ⟨g,0,none⟩) l.length cap):=h1
 have hSD:(Builtin.unsafeSliceData_ #[60] 282 #[.slice (some ⟨g,0,none⟩) l.length cap]).run Tryz.prog w.drew= .ok (.pointer (some ⟨g,0,none⟩)) w.drew:=
  Lib.run_unsafeSliceData_row _ _ _ _ _ _ (by omega)
 have hUS:(Builtin.unsafeString_ #[282,3] 9 #[.pointer (some ⟨g,0,none⟩),.int .i64 l.length]).run Tryz.prog w.drew= .ok (.string ⟨l.toArray⟩) (w.drew.freeze ⟨g,0,none⟩ l.length):=by
  refine Lib.run_unsafeString_row w.drew 282 3 9 5 Tryz.underlying282 (by kernel_rfl) g cur.size (by have hg':w.drew.heap[g]?=some (.cells cur 5 (0,0)):=hg;simp [World.shape?,hg']) l h0 (by omega) (by unfold maxLen at hcm;omega) ?_
  intro j x hx
  have:=hown.cells (g:=g) rfl j (.int .u8 x.toNat) (by simp [Lib.byteCells,hx])
  exact this
 clear h0 hown
 go_enter Tryz.func98,Tryz.ntmps98
 go_wp2
 go_region
 all_goals (go_wp2;go_ret;exact ⟨rfl,zff w g _⟩)
theorem zhv (b o:Nat) (w:World) (v:Value) (l:List UInt8) (h1:w.cell? ⟨b,o+1,none⟩=some v) (hown:w.ownsRow 0 5 1 v l.length (Lib.byteCells l)):
  Calls Tryz.prog 98 #[.pointer (some ⟨b,o,none⟩)] w fun e w'=>e= .returned (.string ⟨l.toArray⟩)∧w.grownBy w' v.ownBlock:=by
 rcases hown.2 with ⟨rfl,hz⟩|⟨g,cap,cur,rfl,_,hg,hnc,hcm,hcs,htake⟩
 ·have:l= []:=List.length_eq_zero_iff.1 hz
  subst this
  exact zkw b o w h1
 ·by_cases hl:l= []
  ·subst hl
   by_cases hc:cap=0
   ·subst hc
    exact zgv b o g cur w h1 hg
   ·exact ziz b o g cap w hc h1
  ·exact ziA b o g cap cur l w hl h1 hown
end Go.Proofs.YtgldbfelccddbaaGreat
namespace Go.Aw
open Go Go.Proofs
open Go Go.Proofs
open Go Go.Proofs
open Go Go.Proofs
open Go Go.Proofs
open Go Go.Proofs
open Go Go.Proofs
open Go Go.Proofs
open Go Go.Proofs
open Go Go.Proofs
open Go Go.Proofs
open Go Go.Proofs
open Go Go.Proofs
open Go Go.Proofs
open Go Go.Proofs
open Go Go.Proofs
open Go Go.Proofs
open Go Go.Proofs
open Go Go.Proofs
open Go Go.Proofs
open Go Go.Proofs
open Go Go.Proofs
open Go Go.Proofs
open Go Go.Proofs
open Go Go.Proofs
open Go Go.Proofs
open Go Go.Proofs
open Go Go.Proofs
open Go Go.Proofs
open Go Go.Proofs
open Go Go.Proofs
open Go Go.Proofs
open Go Go.Proofs
open Go Go.Proofs
open Go Go.Proofs
open Go Go.Proofs
open Go Go.Proofs
open Go Go.Proofs
open Go Go.Proofs
open Go Go.Proofs
open Go Go.Proofs
open Go Go.Proofs
open Go Go.Proofs
open Go Go.Proofs
open Go Go.Proofs
open Go Go.Proofs
open Go Go.Proofs
open Go Go.Proofs
open Go Go.Proofs
def ckD (x:Int):List D:= [.int .u64 x]
theorem zn7 (x:Int) (_:True):AC 280 [.d (.int .u64 x)] (.d (.bool false)):=by
 have h:(x !=x)=false:=by simp
 refine fbod Tryz.func280 Tryz.ntmps280 (fun base=>?_)
 refine' zc h
@[go_sem] noncomputable def zkD:Ent Tryz.prog 280:= .m1 (intT .u64) zn7
theorem zmf (x y:Int):ACall Tryz.prog 211 0 [.d (.int .u64 x),.d (.int .u64 y)] [] (fun r _=>r= .d (.bool (decide (x<y)))):=by
 refine fbod Tryz.func211 Tryz.ntmps211 (fun base=>?_)
 refine' walkW fx (zb zkD <| za _)
 all_goals first|rfl|simp
@[go_sem] noncomputable def zj:Ent Tryz.prog 211:= .ofL (consL (intT .u64) (consL (intT .u64) nilL)) (fun (x,y,_)=>True) (fun (x,y,_)=> .d (.bool (decide (x<y)))) (fun (x,y,_) hp=>⟨rfl,zmf x y⟩)
def swp (l:List Int) (i j:Nat):List Int:=(l.set i (l.getD j 0)).set j (l.getD i 0)
theorem zC (l:List Int) (i j:Nat):(swp l i j).length=l.length:=by simp [swp]
theorem ck_at {l:List Int} {i:Nat} (h:i<l.length):(l.map ckD).getD i []= [.int .u64 (l.getD i 0)]:=by
 obtain ⟨q,hq⟩:=zey h
 rw [zlI (g:=ckD) hq,List.getD_eq_getElem?_getD,hq]
 rfl
theorem zbf {l:List Int} {i j:Nat} :((l.map ckD).set i [.int .u64 (l.getD j 0)]).set j [.int .u64 (l.getD i 0)]=(swp l i j).map ckD:=by
 rw [swp,List.map_set,List.map_set]
 rfl
theorem zhH {l:List Int} {i j:Nat} {x:List D} (h:j<l.length) (hn:i≠j):((l.map ckD).set i x).getD j []= [.int .u64 (l.getD j 0)]:=by
 rw [← ck_at h,List.getD_eq_getElem?_getD,List.getElem?_set_ne hn,← List.getD_eq_getElem?_getD]
theorem zaq {l:List Int} :(l.map ckD).length=l.length:=List.length_map ..
def insI (a:Nat):Nat→List Int→List Int
 |0,l=>l
 |j+1,l=>if a<j+1∧l.getD (j+1) 0<l.getD j 0 then insI a j (swp l (j+1) j) else l
theorem zef (a:Nat):∀ (j:Nat) (l:List Int),(insI a j l).length=l.length
 |0,l=>rfl
 |j+1,l=>by
  rw [insI]
  split
  ·rw [zef,zC]
  ·rfl
def insO (a:Nat):Nat→Nat→List Int→List Int
 |0,_,l=>l
 |n+1,i,l=>insO a n (i+1) (insI a i l)
theorem zjz (a:Nat):∀ (n i:Nat) (l:List Int),(insO a n i l).length=l.length
 |0,_,_=>rfl
 |n+1,i,l=>by rw [insO,zjz,zef]
def insS (a b:Nat) (l:List Int):List Int:=insO a (b - (a+1)) (a+1) l
theorem zhI (l:List Int) (N a b:Nat) (hN:l.length=N) (ha:a≤b) (hb:b≤N) (hl:N≤1000000):ACall Tryz.prog 205 60 [.osl 5 1 N 0 N,.d (.int .i64 a),.d (.int .i64 b)] [(5,.arr 1 (l.map ckD))] (fun r h'=>r= .tup []∧h'= [(5,.arr 1 ((insS a b l).map ckD))]):=by
 have hwa:IntKind.i64.wrap ((a:Int)+1)=((a+1:Nat):Int):=zp (by omega)
 refine bod Tryz.func205 Tryz.ntmps205 (fun base=>?_)
 refine' walkW hwa (zb zj <| za _)
 refine zt (fun q: { q:Nat×List Int // q.2.length=N∧a+1≤q.1∧insS a b l=insO a (b - q.1) q.1 q.2 } =>⟨[(0,true,.osl 5 1 N 0 N),(1,true,.d (.int .i64 a)),(2,true,.d (.int .i64 b)),(6,true,.d (.int .i64 q.1.1))],[(5,.arr 1 (q.1.2.map ckD))],some []⟩) (fun q=>b - q.1.1) ⟨(a+1,l),hN,Nat.le_refl _,rfl⟩ le1 (fun q=>?_)
 obtain ⟨⟨i,m⟩,hm,hi,hf⟩:=q
 simp only at hm hi hf ⊢
 rcases Nat.lt_or_ge i b with hlt|hge
 ·have hcmp:decide ((i:Int)<(b:Int))=true:=decide_eq_true (by omega)
  have hwi:=zp (i:=i) (by omega)
  have hf:insS a b l=insO a (b - (i+1)) (i+1) (insI a i m):=by rw [hf,show b - i=(b - (i+1))+1 by omega,insO]
  obtain ⟨M,hM⟩:∃M,M=insI a i m:=⟨_,rfl⟩
  have hMl:M.length=N:=by rw [hM,zef,hm]
  rw [← hM] at hf
  refine' walkW hcmp (zb zj <| za _)
  refine zt (fun q: { q:Nat×List Int // q.2.length=N∧q.1≤i∧M=insI a q.1 q.2 } =>⟨[(0,true,.osl 5 1 N 0 N),(1,true,.d (.int .i64 a)),(2,true,.d (.int .i64 b)),(6,true,.d (.int .i64 i)),(7,true,.d (.int .i64 q.1.1))],[(5,.arr 1 (q.1.2.map ckD))],some []⟩) (fun q=>q.1.1) ⟨(i,m),hm,Nat.le_refl _,hM⟩ le1 (fun q=>?_)
  obtain ⟨⟨j,k⟩,hk,hj,hg⟩:=q
  simp only at hk hj hg ⊢
  have hkl:(k.map ckD).length=N:=by rw [zaq,hk]
  rcases Nat.lt_or_ge a j with hlt2|hge2
  ·have hcmp2:decide ((a:Int)<(j:Int))=true:=decide_eq_true (by omega)
   obtain ⟨j,rfl⟩:∃j',j=j'+1:=⟨j - 1,by omega⟩
   have hwj:IntKind.i64.wrap (((j+1:Nat):Int) - 1)=(j:Int):=by rw [zf (by omega) (by omega)];omega
   have hr1:=ck_at (l:=k) (i:=j+1) (by omega)
   have hr2:=ck_at (l:=k) (i:=j) (by omega)
   rw [insI] at hg
   cases hc2:decide (k.getD (j+1) 0<k.getD j 0) with
   |true=>
    rw [if_pos ⟨by omega,of_decide_eq_true hc2⟩] at hg
    have hsw:=zbf (l:=k) (i:=j+1) (j:=j)
    have hr3:=zhH (l:=k) (i:=j+1) (j:=j) (x:= [.int .u64 (k.getD j 0)]) (by omega) (by omega)
    have hsl:((k.map ckD).set (j+1) [.int .u64 (k.getD j 0)]).length=N:=by rw [List.length_set,hkl]
    refine' walkW (zA hcmp2 hkl hwj hr1 hr2 (z7 hc2 hr3 hsl hsw)) (zb zj <| za _)
    all_goals first|omega|skip
    exact ⟨⟨(j,swp k (j+1) j),by simp only [zC,hk],by omega,hg⟩,lew,by simp⟩
   |false=>
    rw [if_neg (by rw [decide_eq_false_iff_not] at hc2;exact fun h=>hc2 h.2)] at hg
    refine' walkW (zA hcmp2 hkl hwj hr1 hr2 hc2) (zb zj <| za _)
    all_goals first|omega|skip
    rw [hg] at hf hMl
    exact ⟨⟨(i+1,k),hMl,by omega,hf⟩,lev,by simp;omega⟩
  ·have hcmp2:decide ((a:Int)<(j:Int))=false:=decide_eq_false (by omega)
   have hg:M=k:=by
    rw [hg]
    cases j with
    |zero=>rfl
    |succ j=>rw [insI,if_neg (by omega)]
   have hr1:=ck_at (l:=k) (i:=j) (by omega)
   have hr2:=ck_at (l:=k) (i:=(IntKind.i64.wrap ((j:Int) - 1)).toNat) (by rw [zf (by omega) (by omega)];omega)
   refine' walkW (z7 hcmp2 hkl hr1 hr2) (zb zj <| za _)
   all_goals first|omega|skip
   rw [hg] at hf hMl
   exact ⟨⟨(i+1,k),hMl,by omega,hf⟩,lev,by simp;omega⟩
 ·have hcmp:decide ((i:Int)<(b:Int))=false:=decide_eq_false (by omega)
  refine' walkW hcmp (zb zj <| za _)
  rw [show b - i=0 by omega,insO] at hf
  rw [hf]
open Go Go.Proofs
theorem zof {X:List (List D)} {i:Nat} {z:List D} (hi:i<X.length):rput (rput X i (X.drop (i+1))) (X.length - 1) [z]=X.eraseIdx i++ [z]:=by
 have e:rput X i (X.drop (i+1))=X.eraseIdx i++X.drop (X.length - 1):=by
  unfold rput
  rw [List.eraseIdx_eq_take_drop_succ,List.length_drop,show i+(X.length - (i+1))=X.length - 1 by omega]
 have hl:(X.eraseIdx i).length=X.length - 1:=List.length_eraseIdx_of_lt hi
 rw [e]
 unfold rput
 rw [List.take_append_of_le_length (by omega),List.take_of_length_le (by omega),List.drop_of_length_le (by rw [List.length_append,List.length_drop];simp;omega),List.append_nil]
end Go.Aw
namespace Go.Proofs.YtgldbfelccddbaaGreat
open Go Go.RowKit Go.Aw
def noKey (mes:List MapEntry) (n:Int):Bool:=mes.all fun e=>match e.key with| .int _ m=>n !=m|_=>false
def keyD (e:MapEntry):D:=match e.key with| .int k m=> .int k m|_=> .nilp
def u32K (mes:List MapEntry):Bool:=mes.all fun e=>match e.key with| .int .u32 _=>true|_=>false
theorem zj4 {n:Int} :∀ {mes:List MapEntry},noKey mes n=true→aix (.int .u32 n) (mes.map keyD)=none
 | [],_=>rfl
 | e::r,h=>by
  simp only [noKey,List.all_cons,Bool.and_eq_true] at h
  simp only [List.map_cons,aix,zj4 (mes:=r) h.2]
  have h1:=h.1
  split at h1
  ·rename_i k m hk
   simp only [keyD,hk,sameS]
   rw [if_neg (by simpa using h1)]
   rfl
  ·cases h1
theorem zcf (w:World) (mes:Array MapEntry) (c:Nat) (n:Int) (v:Value) (h:(noKey mes.toList n&&u32K mes.toList)=true):
  (Instr.mapUpdate 279 (.map (some w.heap.size)) (.int .u32 n) v).run Tryz.prog (w.alloc (.map mes c))= .ok () (w.alloc (.map (mes.push ⟨.int .u32 n,v,c⟩) (c+1))):=by
 simp only [Bool.and_eq_true] at h
 have ht:(ty Tryz.prog 279).td= .map 67 1:=by kernel_rfl
 have hu:(ty Tryz.prog 67).td= .int .u32:=by kernel_rfl
 have hb:(w.alloc (.map mes c)).heap[w.heap.size]?=some (.map mes c):=World.alloc_heap_new w _
 have hk:alike (ty Tryz.prog 67).td (.int .u32 n)=true:=by rw [hu];rfl
 have hks:mes.toList.map (·.key)=(mes.toList.map keyD).map valD∧((mes.toList.map keyD).all fun p=>alike (ty Tryz.prog 67).td p)=true:=by
  have h2:=h.2
  rw [hu]
  generalize mes.toList=l at h2
  induction l with
  |nil=>exact ⟨rfl,rfl⟩
  | cons e r ih=>
   simp only [u32K,List.all_cons,Bool.and_eq_true] at h2
   obtain ⟨i1,i2⟩:=ih h2.2
   have h3:=h2.1
   split at h3
   ·rename_i m hm
    refine ⟨by simp only [List.map_cons,i1,keyD,hm,valD],by rw [List.map_cons,List.all_cons,i2];simp only [keyD,hm,alike,beq_self_eq_true,Bool.and_self]⟩
   ·cases h3
 have hf:(Instr.findKey 67 (.int .u32 n) mes.toList).run Tryz.prog (w.alloc (.map mes c))= .ok none (w.alloc (.map mes c)):=by
  obtain ⟨d,hd,he⟩:=zcj hk
  have h4:=hk
  have h5:=hks.2
  rw [← he] at h4 h5
  unfold Instr.findKey
  rw [Sem.run_bind,run_underlying hd,Result.andThen_ok,show (Value.int .u32 n)=valD (.int .u32 n) from rfl,zer h4 _ mes.toList 0 h5 hks.1,zj4 h.1]
  rfl
 unfold Instr.mapUpdate
 simp only [Sem.run_bind,run_underlying (zfS ht),Result.andThen_ok,zfs hb,show (Value.int .u32 n)=valD (.int .u32 n) from rfl,za2 hk]
 rw [show valD (.int .u32 n)=(Value.int .u32 n) from rfl,hf]
 simp only [Result.andThen_ok,zdv hb]
 refine congrArg (Result.ok ()) (congrArg (fun g=>({ w with heap:=g } :World)) ?_)
 apply Array.toList_inj.1
 rw [Array.toList_setIfInBounds,World.alloc,Array.toList_push,Array.toList_push,List.set_append_right _ _ (by simp)]
 simp
abbrev ent (p:Addr) (k:Int) (f c:Nat):MapEntry:=⟨.int .u32 k,Value.func (.func f) #[.pointer (some p)] #[],c⟩
theorem zgP (p:Addr) (w:World):
  Calls Tryz.prog 174 #[.pointer (some p)] w fun e w'=>e= .returned (.map (some w.heap.size))∧∃mes c,w'=w.alloc (.map mes c)∧mes.toList.map (·.key)= [1,2,3,6,7,8,9,10].map (Value.int .u32)∧mes.toList.map (·.val)= [238,239,240,241,241,242,243,243].map fun f=>Value.func (.func f) #[.pointer (some p)] #[]:=by
 have hmf:∀ (fn:Fn) (first cap:Array Value) (w:World),(Instr.makeFunc fn first cap).run Tryz.prog w= .ok (.func fn first cap) w:=fun _ _ _ _=>rfl
 have hmk:(Instr.makeMap 279 none).run Tryz.prog w= .ok (.map (some w.heap.size)) (w.alloc (.map #[] 0)):=rfl
 have i0:(Instr.mapUpdate 279 (.map (some w.heap.size)) (.int .u32 1) (Value.func (.func 238) #[.pointer (some p)] #[])).run Tryz.prog (w.alloc (.map #[] 0))= .ok () (w.alloc (.map #[ent p 1 238 0] 1)):=zcf w _ _ _ _ rfl
 have i1:(Instr.mapUpdate 279 (.map (some w.heap.size)) (.int .u32 2) (Value.func (.func 239) #[.pointer (some p)] #[])).run Tryz.prog (w.alloc (.map #[ent p 1 238 0] 1))= .ok () (w.alloc (.map #[ent p 1 238 0,ent p 2 239 1] 2)):=zcf w _ _ _ _ rfl
 have i2:(Instr.mapUpdate 279 (.map (some w.heap.size)) (.int .u32 3) (Value.func (.func 240) #[.pointer (some p)] #[])).run Tryz.prog (w.alloc (.map #[ent p 1 238 0,ent p 2 239 1] 2))= .ok () (w.alloc (.map #[ent p 1 238 0,ent p 2 239 1,ent p 3 240 2] 3)):=zcf w _ _ _ _ rfl
 have i3:(Instr.mapUpdate 279 (.map (some w.heap.size)) (.int .u32 6) (Value.func (.func 241) #[.pointer (some p)] #[])).run Tryz.prog (w.alloc (.map #[ent p 1 238 0,ent p 2 239 1,ent p 3 240 2] 3))= .ok () (w.alloc (.map #[ent p 1 238 0,ent p 2 239 1,ent p 3 240 2,ent p 6 241 3] 4)):=zcf w _ _ _ _ rfl
 have i4:(Instr.mapUpdate 279 (.map (some w.heap.size)) (.int .u32 7) (Value.func (.func 241) #[.pointer (some p)] #[])).run Tryz.prog (w.alloc (.map #[ent p 1 238 0,ent p 2 239 1,ent p 3 240 2,ent p 6 241 3] 4))= .ok () (w.alloc (.map #[ent p 1 238 0,ent p 2 239 1,ent p 3 240 2,ent p 6 241 3,ent p 7 241 4] 5)):=zcf w _ _ _ _ rfl
 have i5:(Instr.mapUpdate 279 (.map (some w.heap.size)) (.int .u32 8) (Value.func (.func 242) #[.pointer (some p)] #[])).run Tryz.prog (w.alloc (.map #[ent p 1 238 0,ent p 2 239 1,ent p 3 240 2,ent p 6 241 3,ent p 7 241 4] 5))= .ok () (w.alloc (.map #[ent p 1 238 0,ent p 2 239 1,ent p 3 240 2,ent p 6 241 3,ent p 7 241 4,ent p 8 242 5] 6)):=zcf w _ _ _ _ rfl
 have i6:(Instr.mapUpdate 279 (.map (some w.heap.size)) (.int .u32 9) (Value.func (.func 243) #[.pointer (some p)] #[])).run Tryz.prog (w.alloc (.map #[ent p 1 238 0,ent p 2 239 1,ent p 3 240 2,ent p 6 241 3,ent p 7 241 4,ent p 8 242 5] 6))= .ok () (w.alloc (.map #[ent p 1 238 0,ent p 2 239 1,ent p 3 240 2,ent p 6 241 3,ent p 7 241 4,ent p 8 242 5,ent p 9 243 6] 7)):=zcf w _ _ _ _ rfl
 have i7:(Instr.mapUpdate 279 (.map (some w.heap.size)) (.int .u32 10) (Value.func (.func 243) #[.pointer (some p)] #[])).run Tryz.prog (w.alloc (.map #[ent p 1 238 0,ent p 2 239 1,ent p 3 240 2,ent p 6 241 3,ent p 7 241 4,ent p 8 242 5,ent p 9 243 6] 7))= .ok () (w.alloc (.map #[ent p 1 238 0,ent p 2 239 1,ent p 3 240 2,ent p 6 241 3,ent p 7 241 4,ent p 8 242 5,ent p 9 243 6,ent p 10 243 7] 8)):=zcf w _ _ _ _ rfl
 go_enter Tryz.func174,Tryz.ntmps174
 go_wp2
 go_ret
 exact ⟨rfl,_,_,rfl,rfl,rfl⟩
end Go.Proofs.YtgldbfelccddbaaGreat
