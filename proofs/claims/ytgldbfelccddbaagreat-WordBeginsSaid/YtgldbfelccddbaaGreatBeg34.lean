/-
 Parts of the proof: lemmas.
-/
import Derived.Test.YtgldbfelccddbaaGreatBeg31
import Derived.Test.YtgldbfelccddbaaGreatBeg8
import Derived.Test.YtgldbfelccddbaaGreatBeg16
set_option maxRecDepth 100000
set_option maxHeartbeats 2000000
set_option linter.unusedSimpArgs false
set_option linter.unusedVariables false
namespace Go.Aw
open Go Go.Proofs
def zbX (x:Int):List AV:= [.d (.int .u64 x)]
def ckU (x:List AV):List D:=match x with
 | [.d y]=> [y]
 |_=> []
theorem zpB (l:List Int):(l.map zbX).map ckU=l.map ckD:=by rw [List.map_map];rfl
theorem zpC:∀a b,ckD a=ckD b→a=b:=by
 intro a b h
 simp only [ckD,List.cons.injEq,D.int.injEq,true_and,and_true] at h
 exact h
theorem zmv (l:List Int) (h:l.length≤1000):AC 32 [.d (.sl 1 (l.map ckD))] (.fn (.func 76) [] [.dp [.d (.sl 1 (l.map ckD))]]):=by
 refine fbod Tryz.func32 Tryz.ntmps32 (fun base=>?_)
 refine' zc fx
theorem zgE (l:List Int) (h:l.length≤1000) (fl:Nat):AIter Tryz.prog 76 fl [] [.dp [.d (.sl 1 (l.map ckD))]] [] (l.map zbX) (fun g h'=>(∀xs,g=some xs→xs=l.map zbX)∧h'= []):=by
 refine itr Tryz.func76 Tryz.ntmps76 (fun base y=>?_)
 refine' zbm fx
 refine zt (fun q: { i:Nat // i≤l.length } =>⟨[(0,true,.fn (.yield y.yl) [] []),(5,true,.d (.sl 1 (l.map ckD))),(6,true,.d (.int .i64 l.length)),(7,true,.d (.int .i64 q.1))],[],some ((l.take q.1).map zbX)⟩) (fun q=>l.length - q.1) ⟨0,Nat.zero_le _⟩ le1 (fun q=>?_)
 obtain ⟨i,hi⟩:=q
 simp only at hi ⊢
 rcases zaw ckD l i hi with ⟨u,hq,hlt,hcmp,hrow,hdr,htk⟩|⟨hend,hcmp⟩
 ·simp only [ckD] at hrow
  have hwi:=zp (i:=i) (by omega)
  have hpre:((l.take i).map zbX++ [zbX u])<+:l.map zbX:=by
   rw [show ([zbX u]:List (List AV))=List.map zbX [u] from rfl,← List.map_append,← htk]
   exact (List.take_prefix _ _).map _
  simp only [zbX] at hpre
  refine' zbm (zu hcmp hrow)
  all_goals first|omega|skip
  exact ⟨⟨i+1,by omega⟩,by simp only [htk,List.map_append,List.map_cons,List.map_nil];simp only [AS.le,leT,leH,zh,AsgK,AV.le,AV.leL,AObj.le,inH,idsT,idsH,AV.ids,AV.idsL,AV.idsR,AObj.ids,lk,hget,go_sem,aeq,aeq.aeqF,simprocAttr,hwi,zbX],by simp;omega⟩
 ·refine' zbm hcmp
  rintro xs rfl
  rw [hend,List.take_length]
theorem zgF (l:List Int) (h:l.length≤1000):ACall Tryz.prog 140 4 [.nils 1,.fn (.func 76) [] [.dp [.d (.sl 1 (l.map ckD))]]] [] (fun r h'=>r= .osl 5 1 l.length 0 l.length∧h'= [(5,.arr 1 (l.map ckD)),(4,.var [.osl 5 1 l.length 0 l.length])]):=by
 refine bod Tryz.func140 Tryz.ntmps140 (fun base=>?_)
 have hit:=zgE l h 100
 refine' zi fx
 refine zc6 4 0 1 (cs:= [.nils 1]) rfl rfl ?_
 simp only [go_sem,aeq,aeq.aeqF,simprocAttr]
 obtain ⟨I,hI⟩:∃I:List (List AV)→AHeap×Option (List (List AV)),I=fun xs=>([(5,.arr 1 (xs.map ckU)),(4,.var [.osl 5 1 xs.length 0 xs.length])],some []):=⟨_,rfl⟩
 obtain ⟨G,hG⟩:∃G:List (List AV)→Prop,G=fun _=>True:=⟨_,rfl⟩
 obtain ⟨J,hJ⟩:∃J:Code→AHeap→Option (List (List AV))→Prop,J=fun c h g=>False:=⟨_,rfl⟩
 refine zhk 100 G I J (hit) (by simp only [go_sem,aeq,aeq.aeqF,simprocAttr]) rfl (zat rfl) (by simp [cxOf,cxY]) rfl (by rw [hG];first|trivial|rfl|simp) (by rw [hI];simp only [AS.le,leT,leH,zh,AsgK,AV.le,AV.leL,AObj.le,inH,idsT,idsH,AV.ids,AV.idsL,AV.idsR,AObj.ids,lk,hget,go_sem,aeq,aeq.aeqF,simprocAttr]<;>simp [AV.leL,AV.le]) (by rw [hI];simp only [AS.le,leT,leH,zh,AsgK,AV.le,AV.leL,AObj.le,inH,idsT,idsH,AV.ids,AV.idsL,AV.idsR,AObj.ids,lk,hget,go_sem,aeq,aeq.aeqF,simprocAttr]<;>simp) (by rw [hI]<;>rfl) (by intro x hx;obtain ⟨q,_,rfl⟩:=List.mem_map.1 hx;rfl) (by intro t ht;simp at ht;first|(rcases ht with rfl|rfl<;>simp [cxOf,cxY]<;>done)|(subst ht;simp [cxOf,cxY])) ?_ ?_ ?_
 ·intro xs x1 hpre hgd l1' r1
  obtain ⟨ys,el,zs,hys,rfl,hzl⟩:=zeK hpre
  have hxl:=hpre.length_le
  simp only [List.length_append,List.length_map,List.length_cons,List.length_nil] at hxl
  simp only [zbX]
  refine aw_le ⟨[(7,true,.d (.int .u64 el)),(2,true,.vp 4 0)],[(5,.arr 1 (xs.map ckU)),(4,.var [.osl 5 1 xs.length 0 xs.length])],some []⟩ (by rw [hI];simp only [AS.le,leT,leH,zh,AsgK,AV.le,AV.leL,AObj.le,inH,idsT,idsH,AV.ids,AV.idsL,AV.idsR,AObj.ids,lk,hget,go_sem,aeq,aeq.aeqF,simprocAttr]) ?_
  refine' zi hI
  all_goals first|omega|(simp;done)|(rw [hG];trivial)|skip
  all_goals (rw [List.map_append];rfl)
 ·intro _
  rw [hI]
  simp only [zpB,List.length_map]
  refine' zi fx
 ·rw [hJ]
  rintro c h3 g3 h
  exact h.elim
theorem ziK (l:List Int) (h:l.length≤1000):ACall Tryz.prog 74 4 [.fn (.func 76) [] [.dp [.d (.sl 1 (l.map ckD))]]] [] (fun r h'=>r= .osl 5 1 l.length 0 l.length∧h'= [(5,.arr 1 (l.map ckD))]):=by
 refine za7 (fun i=>decide (i=5)) ?_
 refine bod Tryz.func74 Tryz.ntmps74 (fun base=>?_)
 refine' zc fx
 refine (ACall.own (fl':=4) (zgF l h) rfl rfl (Nat.le_refl _) (by rintro r h' ⟨rfl,rfl⟩;rfl)).mono ?_
 rintro r h' ⟨h1',⟨rfl,rfl⟩,rfl⟩
 simp only [go_sem,aeq,aeq.aeqF,simprocAttr]
 refine' zc fx
def sortL (l:List Int):List Int:=pdqL l.length ⟨0,l.length,bitL 20 l.length,true,true,l⟩
theorem zeS (l:List Int):(sortL l).length=l.length:=zbp _ _ (Nat.le_refl _)
theorem zpD (l:List Int) (h:l.length≤1000):ACall Tryz.prog 75 45 [.osl 5 1 l.length 0 l.length] [(5,.arr 1 (l.map ckD))] (fun r h'=>r= .tup []∧h'= [(5,.arr 1 ((sortL l).map ckD))]):=by
 have hw:IntKind.u64.wrap (l.length:Int)=l.length:=by rw [IntKind.wrap_u64];omega
 have hbl:=(zeg l.length (by omega)).2.2
 refine bod Tryz.func75 Tryz.ntmps75 (fun base=>?_)
 refine' walkW hw (zb zgz <| za _)
 all_goals first|omega|skip
 refine (zan (zqv l.length l l.length 0 l.length (bitL 20 l.length) rfl (Nat.zero_le _) (Nat.le_refl _) h (by omega) (by omega)) (by decide) rfl (by simp [AObj.ids]) (by simp [AV.idsL,AV.ids])).mono ?_
 rintro r h' ⟨rfl,rfl⟩
 simp only [go_sem,aeq,aeq.aeqF,simprocAttr,hset]
 refine' zc fx
 all_goals first|rfl|trace_state
theorem zmw (l:List Int) (h:l.length≤1000):ACall Tryz.prog 31 4 [.fn (.func 76) [] [.dp [.d (.sl 1 (l.map ckD))]]] [] (fun r h'=>r= .osl 5 1 l.length 0 l.length∧h'= [(5,.arr 1 ((sortL l).map ckD))]):=by
 refine bod Tryz.func31 Tryz.ntmps31 (fun base=>?_)
 refine' zc fx
 refine (ACall.own (fl':=4) (ziK l h) rfl rfl (Nat.le_refl _) (by rintro r h' ⟨rfl,rfl⟩;rfl)).mono ?_
 rintro r h' ⟨h1',⟨rfl,rfl⟩,rfl⟩
 simp only [go_sem,aeq,aeq.aeqF,simprocAttr]
 refine' zc fx
 refine (zan (zpD l h) (by decide) rfl (by simp [AObj.ids]) (by simp [AV.idsL,AV.ids])).mono ?_
 rintro r h' ⟨rfl,rfl⟩
 simp only [go_sem,aeq,aeq.aeqF,simprocAttr,hset]
 refine' zc fx
open Go
def Prm (a b:Nat) (l r:List Int):Prop:=Sort.PermIn a b l.toArray r.toArray
def Srt (a b:Nat) (l:List Int):Prop:=Sort.SortedIn Sort.ltInt a b l.toArray
def Blw (a b:Nat) (l:List Int):Prop:=Sort.Below Sort.ltInt a b l.toArray
theorem Prm.refl (a b:Nat) (l:List Int):Prm a b l l:=Sort.permIn_refl _ _ _
theorem Prm.trans {a b:Nat} {l m r:List Int} (h1:Prm a b l m) (h2:Prm a b m r):Prm a b l r:=Sort.permIn_trans _ _ _ _ _ h1 h2
theorem Prm.len {a b:Nat} {l r:List Int} (h:Prm a b l r):r.length=l.length:=h.1
theorem Blw.prm {a b:Nat} {l r:List Int} (h:Blw a b l) (hb:b≤l.length) (hp:Prm a b l r):Blw a b r:=Sort.Below.perm h hb hp
theorem zpG {n:Nat} (x:Int) (h8:0<n) (h:n<1001):rndL n x<n:=by
 have hb:=zeg n h
 have hp:0<2 ^ bitL 20 n:=Nat.two_pow_pos _
 have ha:=zoS x (2 ^ bitL 20 n - 1) (by
  have:2 ^ bitL 20 n≤2*n:=hb.2.1 h8
  omega)
 have h2:=hb.2.1 h8
 unfold rndL
 split<;>omega
theorem zmB (a b:Nat) (hab:0<b - a) (hn:b - a<1001):∀ (k:Nat) (x:Int) (i:Nat) (l:List Int),a≤i→i+k≤b→b≤l.length→Prm a b l (brkL a (b - a) k x i l)
 |0,x,i,l,_,_,_=>Prm.refl _ _ _
 | k+1,x,i,l,h1,h2,h3=>by
  have hr:=zpG (n:=b - a) (nxt x) hab hn
  have s1:Prm a b l (swp l i (a+rndL (b - a) (nxt x))):=by
   unfold Prm
   rw [← a_swp]
   exact Sort.swp_permIn l.toArray a b i _ h1 (by omega) (Nat.le_add_right _ _) (by omega) h3
  exact s1.trans (zmB a b hab hn k _ (i+1) _ (by omega) (by omega) (by rw [zC];exact h3))
theorem zmC {a b:Nat} {l:List Int} (h8:8≤b - a) (hb:b≤l.length) (hn:b - a<1001):Prm a b l (zd2 a b l):=zmB a b (by omega) hn 3 _ _ l (by omega) (by omega) hb
theorem zpH {a b:Nat} {l:List Int} (hab:a≤b) (hb:b≤l.length):Prm a b l (revL b a (b - 1) l):=by
 have:=Sort.reverseRange_holds l.toArray a b hab hb
 rwa [Sort.reverseRange,a_rev b a (b - 1) l (by omega)] at this
theorem zpI {s:PQ} (h8:8≤s.b - s.a) (hb:s.b≤s.l.length) (hn:s.l.length≤1000):Prm s.a s.b s.l (pq1 s).l:=by
 unfold pq1
 split
 ·exact Prm.refl _ _ _
 ·exact zmC h8 hb (by omega)
theorem zpJ {l:List Int} {a b:Nat} (hab:a≤b) (hb:b≤l.length):Prm a b l (pq2 l a b).1:=by
 unfold pq2
 split
 ·exact zpH hab hb
 ·exact Prm.refl _ _ _
theorem zoh {s:PQ} {h:Nat} {l:List Int} (hab:s.a<s.b) (hb:s.b≤l.length) (hB:Blw s.a s.b l):Prm s.a s.b l (pq3 s h l).2∧((pq3 s h l).1=true→Srt s.a s.b (pq3 s h l).2):=by
 unfold pq3
 split
 ·have:=Sort.partialInsertionSort_holds Sort.swo_ltInt l.toArray s.a s.b hab hb hB
  rwa [zqA _ _ _ hb] at this
 ·exact ⟨Prm.refl _ _ _,fun e=>by cases e⟩
theorem zbH:∀ (n:Nat) (s:PQ),s.a≤s.b→s.b≤s.l.length→s.l.length≤1000→s.b - s.a≤n→Blw s.a s.b s.l→Prm s.a s.b s.l (pdqL n s)∧Srt s.a s.b (pdqL n s)
 |0,s,hab,hb,hn,hm,hB=>⟨Prm.refl _ _ _,fun i j h1 h2 h3=>by omega⟩
 | n+1,s,hab,hb,hn,hm,hB=>by
  rw [pdqL]
  by_cases h1:s.b - s.a≤12
  ·rw [if_pos h1]
   have:=Sort.insertionSort_holds Sort.swo_ltInt s.l.toArray s.a s.b hab hb
   rwa [zqw] at this
  rw [if_neg h1]
  by_cases h2:s.lim=0
  ·rw [if_pos h2]
   have:=Sort.heapSort_holds Sort.swo_ltInt s.l.toArray s.a s.b hab hb
   rwa [zqx] at this
  rw [if_neg h2]
  simp only
  have e2:(pq1 s).b=s.b:=by unfold pq1;split<;>rfl
  have s1:=zpI (s:=s) (by omega) hb hn
  have l1:=s1.len
  have g:=ziJ (l:=(pq1 s).l) (a:=s.a) (b:=s.b) (by omega)
  have s2:=zpJ (l:=(pq1 s).l) hab (by omega)
  have l2:=s2.len
  have s12:=s1.trans s2
  have B2:Blw s.a s.b (pq2 (pq1 s).l s.a s.b).1:=hB.prm hb s12
  have s3:=zoh (s:=s) (h:=(pq2 (pq1 s).l s.a s.b).2.2) (by omega) (by omega) B2
  generalize pq3 s (pq2 (pq1 s).l s.a s.b).2.2 (pq2 (pq1 s).l s.a s.b).1=r at s3 ⊢
  have P3:Prm s.a s.b s.l r.2:=s12.trans s3.1
  have l3:=P3.len
  have B3:Blw s.a s.b r.2:=hB.prm hb P3
  obtain ⟨p,hp⟩:∃p,p=(pq2 (pq1 s).l s.a s.b).2.1:=⟨_,rfl⟩
  rw [← hp] at g ⊢
  split
  ·rename_i hr
   exact ⟨P3,s3.2 hr⟩
  split
  ·rename_i hr hq
   rw [pqE,Bool.and_eq_true,decide_eq_true_eq,Bool.not_eq_true',decide_eq_false_iff_not] at hq
   have hx:=zqy s.a s.b p r.2 (by omega) (by omega)
   obtain ⟨h3,h4,h5,h6,h7⟩:=Sort.round_eq Sort.swo_ltInt (Sort.partitionEqual_holds Sort.ltInt) hq.1 g.1 g.2 (by simpa using (by omega:s.b≤r.2.length)) B3 (by rw [a_get,a_get];exact zd3 hq.2) hx
   have h5':(peqS s.a s.b p r.2).2.length=r.2.length:=h5
   obtain ⟨q1,q2⟩:=zbH n { pq1 s with a:=(peqS s.a s.b p r.2).1,l:=(peqS s.a s.b p r.2).2 } (by simp only;rw [e2];exact h4) (by simp only;omega) (by simp only;omega) (by simp only;omega) (by simp only;rw [e2];exact h6)
   simp only at q1 q2
   rw [e2] at q1 q2
   obtain ⟨q3,q4⟩:=h7 _ q1 q2
   simp only [e2]
   exact ⟨P3.trans q3,q4⟩
  ·have hx:=zqz s.a s.b p r.2 (by omega) (by omega)
   obtain ⟨h3,h4,h5,h6,h7,h8,h9⟩:=Sort.round_part Sort.swo_ltInt (Sort.partition_holds Sort.ltInt) g.1 g.2 (by simpa using (by omega:s.b≤r.2.length)) B3 hx
   generalize prtS s.a s.b p r.2=t at h3 h4 h5 h6 h7 h8 h9 ⊢
   have h5':t.2.length=r.2.length:=h5
   split
   ·obtain ⟨q1,q2⟩:=zbH n ⟨s.a,t.1.1,(pq1 s).lim,true,true,t.2⟩ h3 (by simp only;omega) (by simp only;omega) (by simp only;omega) h6
    have ql:=q1.len
    simp only at q1 q2 ql
    obtain ⟨hBL,hf⟩:=h8 _ q1 q2
    obtain ⟨q3,q4⟩:=zbH n ⟨t.1.1+1,s.b,(pq1 s).lim,decide ((s.b - s.a) / 8≤t.1.1 - s.a),t.1.2,pdqL n ⟨s.a,t.1.1,(pq1 s).lim,true,true,t.2⟩⟩ (by simp only;omega) (by simp only;omega) (by simp only;omega) (by simp only;omega) hBL
    obtain ⟨q5,q6⟩:=hf _ q3 q4
    exact ⟨P3.trans q5,q6⟩
   ·obtain ⟨q1,q2⟩:=zbH n ⟨t.1.1+1,s.b,(pq1 s).lim,true,true,t.2⟩ (by simp only;omega) (by simp only;omega) (by simp only;omega) (by simp only;omega) h7
    have ql:=q1.len
    simp only at q1 q2 ql
    obtain ⟨hBL,hf⟩:=h9 _ q1 q2
    obtain ⟨q3,q4⟩:=zbH n ⟨s.a,t.1.1,(pq1 s).lim,decide ((s.b - s.a) / 8≤s.b - t.1.1),t.1.2,pdqL n ⟨t.1.1+1,s.b,(pq1 s).lim,true,true,t.2⟩⟩ h3 (by simp only;omega) (by simp only;omega) (by simp only;omega) hBL
    obtain ⟨q5,q6⟩:=hf _ q3 q4
    exact ⟨P3.trans q5,q6⟩
theorem zkL (l:List Int) (h:l.length≤1000):(sortL l).Perm l∧∀i j,i<j→j<l.length→(sortL l).getD i 0≤(sortL l).getD j 0:=by
 obtain ⟨h1,h2⟩:=zbH l.length ⟨0,l.length,bitL 20 l.length,true,true,l⟩ (Nat.zero_le _) (Nat.le_refl _) h (Nat.le_refl _) (.inl rfl)
 refine ⟨?_,fun i j hij hj=>?_⟩
 ·have:=h1.2.2
  have hl:(sortL l).length=l.length:=zeS l
  have e:∀m:List Int,m.length=l.length→(m.toArray.extract 0 l.length).toList=m:=fun m hm=>by simp [← hm]
  rw [e l rfl] at this
  exact (e (sortL l) hl) ▸ this
 ·have:=h2 i j (Nat.zero_le _) hij hj
  rw [a_get,a_get] at this
  exact Int.not_lt.1 (of_decide_eq_false this)
theorem zjK (l:List Int):∀ (n k:Nat),l.length - k≤n→¬dupL l n k<l.length→∀i,k≤i→i<l.length→l.getD i 0≠l.getD (i - 1) 0
 |0,k,h,hd,i,h1,h2=>by omega
 | n+1,k,h,hd,i,h1,h2=>by
  rw [dupL] at hd
  split at hd
  ·rename_i hk
   rcases Nat.eq_or_lt_of_le h1 with e|e
   ·subst e;exact hk.2
   ·exact zjK l n (k+1) (by omega) hd i e h2
  ·rename_i hk
   exact absurd (by omega:k<l.length) (by omega)
theorem zmD (s:Nat):∀ (n i k:Nat) (l:List Int),i+1≤s+k→s+k≤l.length→(mvL s n i k l).1+1≤l.length
 |0,i,k,l,h,h2=>by simp only [mvL];omega
 | n+1,i,k,l,h,h2=>by
  rw [mvL]
  split
  ·split
   ·have:=zmD s n (i+1) (k+1) (l.set i (l.getD (s+k) 0)) (by omega) (by rw [List.length_set];omega)
    rw [List.length_set] at this
    exact this
   ·exact zmD s n i (k+1) l (by omega) (by omega)
  ·simp only;omega
theorem zkM (l:List Int) (h:l.length≤1000) (hc:¬cmpN (sortL l)<l.length):l.Nodup:=by
 obtain ⟨h1,h2⟩:=zkL l h
 have hl:=zeS l
 obtain ⟨m,hm⟩:∃m,m=sortL l:=⟨_,rfl⟩
 rw [← hm] at hc h1 h2 hl
 rw [← hl] at hc h2
 refine h1.nodup_iff.1 ?_
 rw [List.Nodup,List.pairwise_iff_getElem]
 have had:∀i,1≤i→i<m.length→m.getD i 0≠m.getD (i - 1) 0:=by
  unfold cmpN at hc
  by_cases h3:m.length<2
  ·intro i hi hi2;omega
  ·rw [if_neg h3] at hc
   by_cases h4:dupL m m.length 1<m.length
   ·rw [if_pos h4] at hc
    have g:=zjG m m.length 1 (by omega)
    have:=zmD (dupL m m.length 1) m.length (dupL m m.length 1) 1 m (by omega) (by omega)
    omega
   ·exact zjK m m.length 1 (by omega) h4
 intro i j hi hj hij e
 have e1:m.getD i 0=m[i]:=by simp [List.getD_eq_getElem?_getD,hi]
 have e2:m.getD j 0=m[j]:=by simp [List.getD_eq_getElem?_getD,hj]
 have a1:=had j (by omega) hj
 have a2:m.getD (j - 1) 0≤m.getD j 0:=h2 (j - 1) j (by omega) hj
 have a3:m.getD i 0≤m.getD (j - 1) 0:=by
  rcases Nat.eq_or_lt_of_le (by omega:i≤j - 1) with e|e
  ·rw [e];exact Int.le_refl _
  ·exact h2 i (j - 1) e (by omega)
 omega
end Go.Aw
