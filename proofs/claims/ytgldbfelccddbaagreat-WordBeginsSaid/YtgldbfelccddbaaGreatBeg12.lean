/-
 Parts of the proof: lemmas.
-/
import Derived.Test.YtgldbfelccddbaaGreatBeg8
import Derived.Test.YtgldbfelccddbaaGreatBeg9
import Derived.Test.YtgldbfelccddbaaGreatBeg10
set_option maxRecDepth 100000
set_option maxHeartbeats 2000000
set_option linter.unusedSimpArgs false
set_option linter.unusedVariables false
namespace Go.Aw
open Go Go.Proofs
structure Ng where
 phase:Int
 buf:Txt
 brief:Bool
 chunks:Bool
 metas:List Int
 deriving DecidableEq
def ngA (n:Ng):AV:= .agg [.d (.int .i64 n.phase),.d (.str n.buf),.d (.bool n.brief),.d (.bool n.chunks),.d (.sl 1 (n.metas.map u32D))]
attribute [go_sem] ngA
theorem zqm (n:Ng):Ng.mk n.phase n.buf n.brief n.chunks n.metas=n:=rfl
noncomputable def ngA_T:PT Ng:=aggT (consL (intT .i64) (consL strT (consL boolT (consL boolT (consL (slT 1 u32D zee) nilL))))) (fun p=>⟨p.1,p.2.1,p.2.2.1,p.2.2.2.1,p.2.2.2.2.1⟩) (fun x=>(x.phase,x.buf,x.brief,x.chunks,x.metas,())) (fun _=>rfl)
attribute [go_sem] ngA_T
attribute [go_sem] zqm
structure Xp where
 size:Int
 names:List Txt
 deriving DecidableEq
def xpA (x:Xp):AV:= .agg [.d (.int .u64 x.size),.d (.sl 1 (x.names.map strD))]
attribute [go_sem] xpA
theorem zqn (x:Xp):Xp.mk x.size x.names=x:=rfl
noncomputable def xpA_T:PT Xp:=aggT (consL (intT .u64) (consL (slT 1 strD zcp) nilL)) (fun p=>⟨p.1,p.2.1⟩) (fun x=>(x.size,x.names,())) (fun _=>rfl)
attribute [go_sem] xpA_T
attribute [go_sem] zqn
def rqD (q:Rq):List D:= [.int .i64 q.flags,.int .i64 q.kind,.int .u64 q.cookie,.int .u64 q.frm,.int .u32 q.len,.str q.data]
def optHd:Txt:= [73,72,65,86,69,79,80,84]
def ansHd:Txt:= [0,3,232,137,4,85,101,169]
def greetS:Txt:= [78,66,68,77,65,71,73,67,73,72,65,86,69,79,80,84,0,3]
def zca (s:Txt):Txt:=putS8 s.length 4++s
def sayS (opt kind:Int) (data:Txt):Txt:=if 4096<data.length then [] else ansHd++putS8 opt 4++putS8 kind 4++putS8 data.length 4++data
def numAt (s:Txt) (i k:Nat):Nat:=takeN ((s.drop i).take k)
def optRd (s:Txt):(Int×Txt)×Txt×Int:=
 if s.take 8≠optHd.take s.length then ((0,[]),[],14)
 else if s.length<16 then ((0,[]),[],22)
 else if 4096<numAt s 12 4 then ((0,[]),[],11)
 else if s.length<16+numAt s 12 4 then ((0,[]),[],22)
 else ((numAt s 8 4,(s.drop 16).take (numAt s 12 4)),s.drop (16+numAt s 12 4),0)
def toBeg (s:Txt):Txt×Txt×Int:=
 if s.length<4 then ([],[],22) else if s.length<4+numAt s 0 4 then ([],[],22) else ((s.drop 4).take (numAt s 0 4),s.drop (4+numAt s 0 4),0)
def zdZ:Nat→List Txt→Txt→Option (List Txt×Txt)
 |0,l,s=>some (l,s)
 |k+1,l,s=>if (toBeg s).2.2≠0 then none else zdZ k (l++ [(toBeg s).1]) (toBeg s).2.1
def zaY (s:Txt):Txt×List Txt×Int:=
 if (toBeg s).2.2≠0∨(toBeg s).2.1.length<4∨1000<numAt (toBeg s).2.1 0 4 then ([],[],14)
 else match zdZ (numAt (toBeg s).2.1 0 4) [] ((toBeg s).2.1.drop 4) with
  |none=>([],[],14)
  |some (l,r)=>if r≠ [] then ([],[],14) else ((toBeg s).1,l,0)
def duos:Txt→List (UInt8×UInt8)
 |a::b::r=>(a,b)::duos r
 |_=> []
def duoN (p:UInt8×UInt8):Int:=((p.1.toNat*256+p.2.toNat:Nat):Int)
def zcy (s:Txt):Txt×List Int×Int:=
 if (toBeg s).2.2≠0∨(takeS (toBeg s).2.1 2).2.2≠0∨((takeS (toBeg s).2.1 2).2.1.length:Int)≠2*(takeS (toBeg s).2.1 2).1 then ([],[],14)
 else ((toBeg s).1,(duos (takeS (toBeg s).2.1 2).2.1).map duoN,0)
def oursS (s:Txt):Bool:=s== []||s== [100,105,115,107]
def sizeS (n:Int):Txt:=putS8 n 8++ [0,5]
def baseC:Txt:= [98,97,115,101,58]
def qemuC:Txt:= [113,101,109,117,58]
def zqo:Txt:= [98,97,115,101,58,97,108,108,111,99,97,116,105,111,110]
def zjy:Txt:= [113,101,109,117,58,100,105,114,116,121,45,98,105,116,109,97,112,58]
def ctxs (names:List Txt):List Txt:=zqo::names.map (zjy++ ·)
def zhx (c:Txt) (all:Bool) (q:Txt):Bool:=q==c||all&&(q==baseC||q==qemuC)&&q.isPrefixOf c
def zcb (c:Txt) (l:List Txt) (all:Bool):Bool:=(all&&l.isEmpty)||l.any (zhx c all)
def zW (k:Int) (l:List Txt):Nat→List Txt→Txt→List Int→Txt×List Int
 |_,[],s,ids=>(s,ids)
 |i,c::r,s,ids=>if zcb c l (k !=10) then zW k l (i+1) r (s++sayS k 4 (putS8 ((i+1:Nat):Int) 4++c)) (ids++ [((i+1:Nat):Int)]) else zW k l (i+1) r s ids
def zaF (n:Ng) (x:Xp) (k:Int) (d:Txt):Ng×Txt:=
 if (zaY d).2.2≠0∨n.chunks=false then ({ n with metas:=if k=10 then [] else n.metas },sayS k 2147483651 [])
 else if 8<(zaY d).2.1.length then ({ n with metas:=if k=10 then [] else n.metas },sayS k 2147483657 [])
 else if oursS (zaY d).1=false then ({ n with metas:=if k=10 then [] else n.metas },sayS k 2147483654 [])
 else ({ n with metas:=if k=10 then (zW k (zaY d).2.1 0 (ctxs x.names) [] []).2 else n.metas },(zW k (zaY d).2.1 0 (ctxs x.names) [] []).1++sayS k 1 [])
def ngOpt (n:Ng) (x:Xp) (k:Int) (d:Txt):Ng×Txt:=
 if k=1 then (if oursS d=false then ({ n with phase:=3 },[]) else ({ n with phase:=2 },sizeS x.size++if n.brief then [] else List.replicate 124 0))
 else if k=2 then ({ n with phase:=3 },sayS k 1 [])
 else if k=3 then (if d≠ [] then (n,sayS k 2147483651 []) else (n,sayS k 2 (zca [100,105,115,107])++sayS k 1 []))
 else if k=6∨k=7 then
  (if (zcy d).2.2≠0 then (n,sayS k 2147483651 []) else if oursS (zcy d).1=false then (n,sayS k 2147483654 [])
  else ({ n with phase:=if k=7 then 2 else n.phase },sayS k 3 ([0,0]++sizeS x.size)++sayS k 1 []))
 else if k=8 then (if d≠ [] then (n,sayS k 2147483651 []) else ({ n with chunks:=true },sayS k 1 []))
 else if k=9∨k=10 then zaF n x k d
 else (n,sayS k 2147483649 [])
def ngStep (n:Ng) (x:Xp):Ng×Txt×Bool:=
 if n.phase=0 then
  (if n.buf.length<4 then (n,[],false)
  else ({ n with buf:=n.buf.drop 4,phase:=if numAt n.buf 0 4=1∨numAt n.buf 0 4=3 then 1 else 3,brief:=numAt n.buf 0 4==3 },[],true))
 else if (optRd n.buf).2.2=22 then (n,[],false)
 else if (optRd n.buf).2.2≠0 then ({ n with phase:=3 },[],true)
 else ((ngOpt { n with buf:=(optRd n.buf).2.1 } x (optRd n.buf).1.1 (optRd n.buf).1.2).1,(ngOpt { n with buf:=(optRd n.buf).2.1 } x (optRd n.buf).1.1 (optRd n.buf).1.2).2,true)
def ngClr (n:Ng):Ng:=if n.phase=3 then { n with buf:= [] } else n
def zau (x:Xp):Nat→Ng→Txt→Ng×Txt
 |0,n,out=>(ngClr n,out)
 |k+1,n,out=>if n.phase=0∨n.phase=1 then (if (ngStep n x).2.2 then zau x k (ngStep n x).1 (out++(ngStep n x).2.1) else (n,out)) else (ngClr n,out)
def zam (n:Ng) (x:Xp) (s:Txt):Ng×Txt:=
 if n.phase=3 then (n,[]) else zau x (n.buf.length+s.length+2) { n with buf:=n.buf++s } []
def reqHd:Txt:= [37,96,149,19]
def rq0:Rq:=⟨0,0,0,0,0,[]⟩
def reqQ (s:Txt) (d:Txt):Rq:=⟨numAt s 4 2,numAt s 6 2,numAt s 8 8,numAt s 16 8,numAt s 24 4,d⟩
def reqRd (s:Txt):Rq×Txt×Int:=
 if s.take 4≠reqHd.take s.length then (rq0,[],14)
 else if s.length<28 then (rq0,[],22)
 else if numAt s 6 2≠1 then (reqQ s [],s.drop 28,0)
 else if 4096<numAt s 24 4 then (rq0,[],11)
 else if s.length<28+numAt s 24 4 then (rq0,[],22)
 else (reqQ s ((s.drop 28).take (numAt s 24 4)),s.drop (28+numAt s 24 4),0)
def zbu (q:Rq) (size:Int) (ch:Bool) (ms:List Int):Int:=
 if zbF q.kind ch<0 then 22 else if cbad q.flags (zbF q.kind ch)=true then 22 else if q.kind=2 then 0
 else if q.kind=3 then (if q.frm≠0∨q.len≠0 then 22 else 0)
 else if q.len=0 then 22 else if 1024<q.len then 75
 else if size<q.frm∨size - q.frm<q.len then (if q.kind=1 then 28 else 22)
 else if q.kind=7∧(ch=false∨ms.length=0) then 22 else 0
theorem z8 (s:Txt) (i k:Nat):numAt s i k<256 ^ k:=zgt (by simp;omega)
open Go Go.Proofs
theorem zpE:∀a b,rqD a=rqD b→a=b:=by
 rintro ⟨a1,a2,a3,a4,a5,a6⟩ ⟨b1,b2,b3,b4,b5,b6⟩ h
 simp only [rqD,List.cons.injEq,D.int.injEq,D.str.injEq,true_and,and_true] at h
 obtain ⟨rfl,rfl,rfl,rfl,rfl,rfl⟩:=h
 rfl
theorem zkH (l:List Rq) (h:l.length≤1000000):AC 33 [.d (.sl 6 (l.map rqD))] (.d (.sl 1 ((l.map (·.cookie)).map ckD))):=by
 refine fbod Tryz.func33 Tryz.ntmps33 (fun base=>?_)
 refine' zc fx
 refine zge 3 1 rfl ?_
 simp only [fresh,top,hget, ↓reduceIte]
 refine zt (fun q: { i:Nat // i≤l.length } =>⟨[(3,true,.osl 0 1 q.1 0 q.1),(6,true,.d (.sl 6 (l.map rqD))),(7,true,.d (.int .i64 l.length)),(8,true,.d (.int .i64 q.1))],[(0,.arr 1 (((l.take q.1).map (·.cookie)).map ckD))],some []⟩) (fun q=>l.length - q.1) ⟨0,Nat.zero_le _⟩ le1 (fun q=>?_)
 obtain ⟨i,hi⟩:=q
 simp only at hi ⊢
 have hti:(l.take i).length=i:=by rw [List.length_take];omega
 have hkl:(((l.take i).map (·.cookie)).map ckD).length=i:=by simp;omega
 rcases zaw rqD l i hi with ⟨u,hq,hlt,hcmp,hrow,hdr,htk⟩|⟨hend,hcmp⟩
 ·simp only [rqD] at hrow
  have hwi:=zp (i:=i) (by omega)
  refine' zc (zu hcmp hrow)
  all_goals first|omega|(rw [hti];omega)|skip
  exact ⟨⟨i+1,by omega⟩,by simp only [htk,List.map_append,List.map_cons,List.map_nil];simp only [AS.le,leT,leH,zh,AsgK,AV.le,AV.leL,AObj.le,inH,idsT,idsH,AV.ids,AV.idsL,AV.idsR,AObj.ids,lk,hget,go_sem,aeq,aeq.aeqF,simprocAttr,hwi]<;>and_intros<;>rfl,by simp;omega⟩
 ·refine zaW 0 rfl ?_;simp only [go_sem,aeq,aeq.aeqF,simprocAttr]
  refine' zc hcmp
  all_goals first|omega|skip
  rw [hti,if_pos rfl,List.take_of_length_le (by omega),hend,List.take_length]
  rfl
@[go_sem] noncomputable def zaZ:Ent Tryz.prog 33:= .m1 (slT 6 rqD zpE) zkH
open Go Go.Proofs
theorem zfh (l:List Rq) (fl:Nat) (hl:l.length≤5000):ACall Tryz.prog 37 fl [.d (.sl 6 (l.map rqD))] [] (fun r h'=>r= .osl fl 6 l.length 0 l.length∧h'= [(fl,.arr 6 (l.map rqD))]):=by
 refine bod Tryz.func37 Tryz.ntmps37 (fun base=>?_)
 refine' zar (zP 2) fx
 ·refine zbs noTab (za _) (fun K hK=>?_);simp only [go_sem,aeq,aeq.aeqF,simprocAttr]
  (first|(refine hK _ ?_;clear hK K)|(clear hK K;refine hK _ ?_;clear hK K)|(clear hK K;clear hK K;refine hK _ ?_;clear hK K)|(clear hK K;clear hK K;clear hK K;refine hK _ ?_;clear hK K)|(clear hK K;clear hK K;clear hK K;clear hK K;refine hK _ ?_;clear hK K))
  refine zge 2 6 rfl ?_
  have h0:l= []:=List.map_eq_nil_iff.1 (hnb hc)
  subst h0
  refine' zc fx
  all_goals rfl
def rqZ:List D:= [.int .i64 0,.int .i64 0,.int .u64 0,.int .u64 0,.int .u32 0,.str []]
theorem zmz (ts:List Rq) (i:Nat) (hi:i<ts.length) (hl:ts.length≤5000):ACall Tryz.prog 36 40 [.osl 34 6 ts.length 0 ts.length,.d (.int .i64 i),.d (.int .i64 (i+1:Nat))] [(34,.arr 6 (ts.map rqD))] (fun r h'=>r= .osl 34 6 ts.length 0 (ts.length - 1)∧h'= [(34,.arr 6 ((ts.eraseIdx i).map rqD++ [rqZ]))]):=by
 refine za7 (fun i=>decide (i<40)) ?_
 obtain ⟨X,hX⟩:∃X,X=ts.map rqD:=⟨_,rfl⟩
 have hXl:X.length=ts.length:=by rw [hX,List.length_map]
 rw [← hX]
 refine bod Tryz.func36 Tryz.ntmps36 (fun base=>?_)
 have he:((i:Int)==((i+1:Nat):Int))=false:=by simp;omega
 have hne:(i=ts.length)=False:=eq_false (by omega)
 have hdr:(List.drop (i+1) X).take (ts.length - (i+1))=X.drop (i+1):=List.take_of_length_le (by rw [List.length_drop];omega)
 have hdl:(X.drop (i+1)).length=ts.length - (i+1):=by rw [List.length_drop,hXl]
 have hil:i+(ts.length - (i+1))=ts.length - 1:=by omega
 have hi1:(i+1+(ts.length - (i+1))≤ts.length)=True:=eq_true (by omega)
 have hz:i - 0=i:=rfl
 have hrl:(rput X i (X.drop (i+1))).length=ts.length:=by unfold rput;simp;omega
 refine' zc (zA he hne hdr hdl hil (zad hXl @natC hi1 hz hrl))
 rw [← hXl,show X.length - (X.length - 1)=1 by omega,List.replicate_one,zof (by omega),hX,List.eraseIdx_eq_take_drop_succ,List.eraseIdx_eq_take_drop_succ]
 simp only [List.map_append,List.map_take,List.map_drop,rqZ]
open Go Go.Proofs
theorem zaG {s t:Txt} {i k:Nat} (h:i+k≤s.length):numAt (s++t) i k=numAt s i k:=by
 unfold numAt
 rw [List.drop_append_of_le_length (by omega),List.take_append_of_le_length (by simp;omega)]
theorem zkK {s:Txt} (h:(optRd s).2.2=0):(optRd s).2.1.length+16≤s.length:=by
 unfold optRd at*
 split at h
 ·cases h
 rename_i g1
 split at h
 ·cases h
 rename_i g2
 split at h
 ·cases h
 rename_i g3
 split at h
 ·cases h
 rename_i g4
 rw [if_neg g1,if_neg g2,if_neg g3,if_neg g4]
 simp only [List.length_drop]
 omega
theorem ziN (n:Ng) (x:Xp) (k:Int) (d:Txt) (b:Txt):zaF { n with buf:=b } x k d=({ (zaF n x k d).1 with buf:=b },(zaF n x k d).2):=by
 unfold zaF
 by_cases h1:(zaY d).2.2≠0∨n.chunks=false
 ·simp only [if_pos h1]
 by_cases h2:8<(zaY d).2.1.length
 ·simp only [if_neg h1,if_pos h2]
 by_cases h3:oursS (zaY d).1=false
 ·simp only [if_neg h1,if_neg h2,if_pos h3]
 ·simp only [if_neg h1,if_neg h2,if_neg h3]
theorem zog (n:Ng) (x:Xp) (k:Int) (d:Txt) (b:Txt):ngOpt { n with buf:=b } x k d=({ (ngOpt n x k d).1 with buf:=b },(ngOpt n x k d).2):=by
 unfold ngOpt
 by_cases h1:k=1
 ·simp only [if_pos h1]
  split<;>rfl
 by_cases h2:k=2
 ·simp only [if_neg h1,if_pos h2]
 by_cases h3:k=3
 ·simp only [if_neg h1,if_neg h2,if_pos h3]
  split<;>rfl
 by_cases h4:k=6∨k=7
 ·simp only [if_neg h1,if_neg h2,if_neg h3,if_pos h4]
  by_cases h5:(zcy d).2.2≠0
  ·simp only [if_pos h5]
  by_cases h6:oursS (zcy d).1=false
  ·simp only [if_neg h5,if_pos h6]
  ·simp only [if_neg h5,if_neg h6]
 by_cases h5:k=8
 ·simp only [if_neg h1,if_neg h2,if_neg h3,if_neg h4,if_pos h5]
  split<;>rfl
 by_cases h6:k=9∨k=10
 ·simp only [if_neg h1,if_neg h2,if_neg h3,if_neg h4,if_neg h5,if_pos h6]
  exact ziN n x k d b
 ·simp only [if_neg h1,if_neg h2,if_neg h3,if_neg h4,if_neg h5,if_neg h6]
theorem ziO {n:Ng} {x:Xp} (hp:n.phase=0∨n.phase=1) (h:(ngStep n x).2.2=true):(ngStep n x).1.buf.length<n.buf.length∨(ngStep n x).1.phase=3∧(ngStep n x).1.buf=n.buf:=by
 unfold ngStep at*
 split at h
 ·rename_i h0
  split at h
  ·simp at h
  rename_i h1
  rw [if_pos h0,if_neg h1]
  exact .inl (by simp only [List.length_drop];omega)
 rename_i h0
 split at h
 ·simp at h
 rename_i h1
 split at h
 ·rename_i h2
  rw [if_neg h0,if_neg h1,if_pos h2]
  exact .inr ⟨rfl,rfl⟩
 rename_i h2
 rw [if_neg h0,if_neg h1,if_neg h2,zog]
 have:=zkK (Classical.not_not.1 h2)
 exact .inl (by simp only;omega)
open Go Go.Proofs
def MsOk (l:List Int):Prop:=l.length≤3∧∀m∈l,1≤m∧m≤3
theorem MsOk.nil:MsOk []:=⟨Nat.zero_le _,fun m hm=>by cases hm⟩
theorem zcR {k:Int} {l:List Txt} :∀ (cs:List Txt) (i:Nat) (s:Txt) (ids:List Int),i+cs.length≤3→ids.length≤i→(∀m∈ids,1≤m∧m≤3)→MsOk (zW k l i cs s ids).2
 | [],i,s,ids,h1,h2,h3=>⟨by simp only [zW];omega,h3⟩
 | c::r,i,s,ids,h1,h2,h3=>by
  rw [List.length_cons] at h1
  rw [zW]
  split
  ·refine zcR r (i+1) _ _ (by omega) (by simp;omega) (fun m hm=>?_)
   rcases List.mem_append.1 hm with hm|hm
   ·exact h3 m hm
   ·rw [List.mem_singleton] at hm
    omega
  ·exact zcR r (i+1) _ _ (by omega) (by omega) h3
theorem zoj {n:Ng} {x:Xp} {k:Int} {d:Txt} (hx:x.names.length≤2) (h:MsOk n.metas):MsOk (ngOpt n x k d).1.metas:=by
 have hc:0+(ctxs x.names).length≤3:=by simp [ctxs];omega
 have h1:MsOk (if k=10 then [] else n.metas):=by
  split
  ·exact MsOk.nil
  ·exact h
 unfold ngOpt
 split
 ·split<;>exact h
 split
 ·exact h
 split
 ·split<;>exact h
 split
 ·split
  ·exact h
  split<;>exact h
 split
 ·split<;>exact h
 split
 ·unfold zaF
  split
  ·exact h1
  split
  ·exact h1
  split
  ·exact h1
  ·simp only
   split
   ·exact zcR _ 0 _ _ hc (Nat.le_refl _) (fun m hm=>by cases hm)
   ·exact h
 ·exact h
theorem zmH {n:Ng} {x:Xp} (hx:x.names.length≤2) (h:MsOk n.metas):MsOk (ngStep n x).1.metas:=by
 unfold ngStep
 split
 ·split<;>exact h
 split
 ·exact h
 split
 ·exact h
 ·exact zoj (n:= { n with buf:=(optRd n.buf).2.1 }) hx h
theorem zmI {n:Ng} {x:Xp} (hp:n.phase=0∨n.phase=1):(ngStep n x).1.buf.length≤n.buf.length:=by
 cases h:(ngStep n x).2.2 with
 |true=>
  rcases ziO hp h with h1|⟨_,h1⟩
  ·omega
  ·rw [h1];exact Nat.le_refl _
 | false=>
  unfold ngStep at h ⊢
  split at h
  ·rename_i h0
   split at h
   ·rename_i h1
    rw [if_pos h0,if_pos h1]
    exact Nat.le_refl _
   ·simp at h
  rename_i h0
  split at h
  ·rename_i h1
   rw [if_neg h0,if_pos h1]
   exact Nat.le_refl _
  split at h<;>simp at h
theorem zjO {n:Ng} :(ngClr n).metas=n.metas:=by
 unfold ngClr
 split<;>rfl
theorem zjP {n:Ng} :(ngClr n).buf.length≤n.buf.length:=by
 unfold ngClr
 split
 ·exact Nat.zero_le _
 ·exact Nat.le_refl _
theorem zhP {x:Xp} (hx:x.names.length≤2):∀ (k:Nat) (n:Ng) (out:Txt),MsOk n.metas→MsOk (zau x k n out).1.metas∧(zau x k n out).1.buf.length≤n.buf.length
 |0,n,out,h=>by
  rw [zau]
  exact ⟨by rw [zjO];exact h,zjP⟩
 | k+1,n,out,h=>by
  rw [zau]
  split
  ·rename_i hp
   split
   ·have h1:=zhP hx k (ngStep n x).1 (out++(ngStep n x).2.1) (zmH hx h)
    have h2:=zmI (x:=x) hp
    exact ⟨h1.1,by omega⟩
   ·exact ⟨h,Nat.le_refl _⟩
  ·exact ⟨by rw [zjO];exact h,zjP⟩
theorem zeV {n:Ng} {x:Xp} (hx:x.names.length≤2) (h:MsOk n.metas) (s:Txt):MsOk (zam n x s).1.metas∧(zam n x s).1.buf.length≤n.buf.length+s.length:=by
 unfold zam
 split
 ·exact ⟨h,Nat.le_add_right _ _⟩
 ·have:=zhP hx (n.buf.length+s.length+2) { n with buf:=n.buf++s } [] h
  rw [List.length_append] at this
  exact this
open Go Go.Proofs Go.RowKit Go.ChangeShapes Go.WideShapes
def xpD (x:Xp):List D:= [.int .u64 x.size,.sl 1 (x.names.map strD)]
theorem zen {n:Nat} {x:List D} (h:DTy Tryz.prog (n+1) 9 x):∃s:Txt,s.length≤140737488355328∧x= [.str s]:=by
 unfold DTy at h
 simp only [ty9] at h
 exact h.imp fun s hs=>⟨hs.2,hs.1⟩
theorem zns {n:Nat} {x:List D} (h:DTy Tryz.prog (n+2) 23 x):∃l:List Txt,l.length≤9223372036854775807∧(∀s∈l,s.length≤9223372036854775807)∧x= [.sl 1 (l.map strD)]:=by
 unfold DTy at h
 simp only [ty23] at h
 obtain ⟨rows,rfl,hl,hr⟩:=h
 obtain ⟨l,rfl⟩:=zjk (e:=strD) (fun r h'=>(zen (hr r h')).imp fun s h=>h.2)
 refine ⟨l,by simpa using hl,fun s hs=>?_,by rw [ty9]⟩
 obtain ⟨s',h1,h2⟩:=zen (hr (strD s) (List.mem_map_of_mem hs))
 rw [zcp _ _ h2]
 omega
theorem zqG {n:Nat} {x:List D} (h:DTy Tryz.prog (n+3) 25 x):∃X:Xp,(0≤X.size∧X.size<18446744073709551616)∧X.names.length≤9223372036854775807∧(∀s∈X.names,s.length≤9223372036854775807)∧x=xpD X:=by
 unfold DTy at h
 simp only [ty25,DTy.fields] at h
 obtain ⟨a1,b1,rfl,g1,a2,b2,rfl,g2,rfl⟩:=h
 unfold DTy at g1
 simp only [ty22] at g1
 obtain ⟨sz,rfl,r1,r2⟩:=g1
 obtain ⟨l,q1,q2,rfl⟩:=zns g2
 exact ⟨⟨sz,l⟩,⟨r1,Int.lt_of_le_of_lt r2 (by decide)⟩,q1,q2,rfl⟩
theorem zoz {n:Nat} {x:List D} (h:DTy Tryz.prog (n+1) 3 x):∃a:Int,x= [.int .i64 a]:=by
 unfold DTy at h
 simp only [ty3] at h
 obtain ⟨a,rfl,h1,h2⟩:=h
 exact ⟨a,rfl⟩
theorem zqH (X:Xp):argAV Tryz.prog 25 (xpD X)=xpA X:=by simp only [argAV,ty25];rfl
theorem zoA (n:Int):argAV Tryz.prog 3 [.int .i64 n]= .d (.int .i64 n):=by simp only [argAV,ty3]
theorem zoB (s:Txt):argAV Tryz.prog 9 [.str s]= .d (.str s):=by simp only [argAV,ty9]
end Go.Aw
