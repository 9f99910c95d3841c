/-
 Parts of the proof: lemmas.
-/
import Derived.Test.YtgldbfelccddbaaGreatBeg9
import Derived.Test.YtgldbfelccddbaaGreatBeg10
import Derived.Test.YtgldbfelccddbaaGreatBeg11
set_option maxRecDepth 100000
set_option maxHeartbeats 2000000
set_option linter.unusedSimpArgs false
set_option linter.unusedVariables false
namespace Go.Proofs.YtgldbfelccddbaaGreat
open Go
section
variable {P : Program}
open Go.Lib
theorem zeL (w:World) (base:Nat) (t u ty e:TypeId) (i:TypeInfo) (ht:P.underlying t=some (.slice e)) (hu:P.underlying u=some .string) (hi:P.info? e=some i) (hz:i.zero=some (.int .u8 0))
  (hsize:i.size=1) (hby:i.bytes=1)
  (v:Value) (n:Nat) (xs:List Value) (hown:w.ownsRow base e 1 v n xs) (s:ByteArray)
  (h63:n+s.size≤maxLen) (hbytes:n+s.size≤140737488355328) (hbase:base≤w.heap.size):
  ∃v' w',(Builtin.append_ #[t,u] ty #[v,.string s]).run P w= .ok v' w'∧w'.ownsRow base e 1 v' (n+s.size) (xs++strCells s)∧w.grownBy w' v.ownBlock∧
   ((∀g,v'.ownBlock=some g→v.ownBlock=some g∨(w.heap.size≤g∧g<w'.heap.size))∧(s.size=0→v'=v)):=by
 have hsmall:n+s.size≤9223372036854775807:=by simp only [maxLen] at h63;omega
 have hxl:xs.length=n:=by simpa using hown.1
 have hlen:(xs++strCells s).length=(n+s.size)*1:=by rw [List.length_append,hxl,strCells_length,Nat.mul_one]
 have grown:∀ (old:Nat),old<n+s.size→∀ (row:Option Nat),
   (w.drew.alloc (.cells (xs.toArray++(strCells s).toArray++Builtin.zeroCells (Value.int .u8 0).cells (grownCap w (n+s.size) old e - (n+s.size))) e)).ownsRow base e 1
    (.slice (some ⟨w.heap.size,0,none⟩) (n+s.size) (grownCap w (n+s.size) old e)) (n+s.size) (xs++strCells s)∧
   w.grownBy (w.drew.alloc (.cells (xs.toArray++(strCells s).toArray++Builtin.zeroCells (Value.int .u8 0).cells (grownCap w (n+s.size) old e - (n+s.size))) e)) row:=by
  intro old ho row
  have hge:=grownCap_ge w (n+s.size) old e
  have hcm:grownCap w (n+s.size) old e≤maxLen:=grownCap_le_maxLen w (n+s.size) old e h63
  refine ⟨⟨hlen,.inr ⟨w.heap.size,_,_,rfl,hbase,Go.heap_alloc_new w.drew _,hge,hcm,?_,?_⟩⟩,⟨rfl,rfl,rfl,by simp,fun k hk _=>Go.heap_alloc_old w.drew _ hk⟩⟩
  ·have hz1:(Value.int IntKind.u8 0).cells.size=1:=rfl
   simp only [Array.size_append,List.size_toArray,size_zeroCells,hz1,hxl,strCells_length]
   omega
  ·simp only [Array.toList_append,List.append_assoc]
   rw [← List.append_assoc,← hlen]
   exact List.take_left
 rcases hown.2 with ⟨rfl,rfl⟩|⟨g,cap,cur,rfl,hbg,hg,hnc,hcm,hcs,htake⟩
 ·have hx:xs= []:=List.eq_nil_of_length_eq_zero hxl
  subst hx
  by_cases hm:s.size=0
  ·have hn:strCells s= []:=List.eq_nil_of_length_eq_zero (by rw [strCells_length];exact hm)
   refine ⟨.slice none 0 0,w,?_,by rw [hm,hn];exact World.ownsRow_nil w base e 1,⟨rfl,rfl,rfl,Nat.le_refl _,fun _ _ _=>rfl⟩,fun g hg=> .inl hg,fun _=>rfl⟩
   have hf:=run_firstCells_string (P:=P) w 1 s
   rw [hm] at hf
   simp [Builtin.append_,run_underlying ht,run_underlying hu,sizeOf,typeInfo,hi,hsize,Builtin.lenOf,hm,hf]
  ·have hr:=run_append_nil_string (P:=P) w t u ty e i (.int .u8 0) ht hu hi hz s (by omega) (by omega) (by rw [hby];omega)
   have hgr:=grown 0 (by omega) (Value.ownBlock (.slice none 0 0))
   simp only [Nat.zero_add,List.nil_append,Array.empty_append] at hgr ⊢
   have e1:(s.data.map fun b=>Value.int .u8 b.toNat)=(strCells s).toArray:=by
    apply Array.ext'
    simp [strCells]
   rw [e1] at hr
   exact ⟨_,_,hr,hgr.1,hgr.2,fun g hg=> .inr (by simp [Value.ownBlock] at hg;subst hg;simp),fun e=>absurd e hm⟩
 ·by_cases hroom:n+s.size≤cap
  ·have hcs':cur.size=cap:=by simpa using hcs
   have hr:=run_append_room_string (P:=P) w t u ty e i ht hu hi hsize g n cap cur hg s hroom (by omega)
   refine ⟨_,_,hr,⟨hlen,.inr ⟨g,cap,_,rfl,hbg,setRow_heap w g cur _ e _ hg,hroom,hcm,?_,?_⟩⟩,⟨rfl,rfl,rfl,by simp,fun k _ hk=>setRow_other w g k _ (fun e=>hk (by simp [Value.ownBlock,e]))⟩,fun g hg=> .inl hg,fun e=>by rw [e];rfl⟩
   ·simp only [List.size_toArray,List.length_append,List.length_take,List.length_drop,Array.length_toList,strCells_length]
    omega
   ·have ht':cur.toList.take n=xs:=by simpa using htake
    rw [ht',← hlen]
    exact List.take_left
  ·have holds:∀j u,xs[j]?=some u→w.cell? ((⟨g,0,none⟩:Addr).add j)=some u:=hown.cells (g:=g) rfl
   have hr:=run_append_grow_string (P:=P) w t u ty e i (.int .u8 0) ht hu hi hz ⟨g,0,none⟩ n cap xs (by rw [hsize];simpa using hxl) holds s (by omega) (by omega) (by rw [hby];exact growslice_fits (by omega) (by omega))
   have hgr:=grown cap (by omega) (Value.ownBlock (.slice (some ⟨g,0,none⟩) n cap))
   exact ⟨_,_,hr,hgr.1,hgr.2,fun g hg=> .inr (by simp [Value.ownBlock] at hg;subst hg;simp),fun e=>by omega⟩
theorem zdd (w:World) {ops:Array Oper} {rest:List Oper} {o:Oper} {a:Act} {Q:Exit→Act→World→Prop} (hgd:o.guard=none) (sl x:Operand) (t u:TypeId)
  (ho:o.op= .call { callee:= .builtin .append,args:= #[sl,x],argTypes:= #[t,u] })
  (base:Nat) (e:TypeId) (i:TypeInfo) (ht:P.underlying t=some (.slice e)) (hu:P.underlying u=some .string) (hi:P.info? e=some i) (hz:i.zero=some (.int .u8 0))
  (hsize:i.size=1) (hby:i.bytes=1)
  (v:Value) (n:Nat) (xs:List Value) (hs:a.eval sl=v) (hown:w.ownsRow base e 1 v n xs) (s:ByteArray) (hx:a.eval x= .string s)
  (h63:n+s.size≤maxLen) (hbytes:n+s.size≤140737488355328) (hbase:base≤w.heap.size)
  (h:∀v' w',w'.ownsRow base e 1 v' (n+s.size) (xs++strCells s)→w.grownBy w' v.ownBlock→((∀g,v'.ownBlock=some g→v.ownBlock=some g∨(w.heap.size≤g∧g<w'.heap.size))∧(s.size=0→v'=v))→wpList P ops Q rest (a.put o.dst v') w'):wpList P ops Q (o::rest) a w:=by
 refine wpList_plain hgd fun K hK=>?_
 obtain ⟨v',w',hr,h2,h3,h4⟩:=zeL (P:=P) w base t u o.type e i ht hu hi hz hsize hby v n xs hown s h63 hbytes hbase
 unfold Oper.wp execOp
 simp only [ho,resolve,invoke,builtin,Sem.run_bind,Sem.run_pure,Result.andThen_ok,List.map_toArray,List.map_cons,List.map_nil,hs,hx,hr]
 exact hK _ _ (h v' w' h2 h3 h4)
end
open Go.RowKit
theorem zfe {w:World} {b o o':Nat} {v:Value} (h:o≠o'):(w.setCell ⟨b,o,none⟩ v).cell? ⟨b,o',none⟩=w.cell? ⟨b,o',none⟩:=by
 unfold World.setCell World.cell?
 simp only [Array.getElem?_modify,if_true]
 cases w.heap[b]? with
 |none=>rfl
 |some ob=>
  cases ob<;>simp [Array.getElem?_setIfInBounds_ne h]
theorem zd5 {w:World} {b o o':Nat} {v:Value} :(w.setCell ⟨b,o,none⟩ v).frozen? ⟨b,o',none⟩=w.frozen? ⟨b,o',none⟩:=by
 unfold World.setCell World.frozen?
 simp only [Array.getElem?_modify,if_true]
 cases w.heap[b]? with
 |none=>rfl
 |some ob=>
  cases ob<;>simp
theorem zix {w:World} {e:TypeId} {v:Value} {k:Nat} {bs:List Value} {b o:Nat} {x:Value} (h:w.ownsRow 0 e 1 v k bs) (hne:v.ownBlock≠some b):(w.setCell ⟨b,o,none⟩ x).ownsRow 0 e 1 v k bs:=by
 refine ⟨h.1,?_⟩
 rcases h.2 with hn|⟨g,cap,cur,rfl,hb,hgg,rest⟩
 ·exact .inl hn
 ·refine .inr ⟨g,cap,cur,rfl,hb,?_,rest⟩
  have:b≠g:=fun e=>hne (by simp [Value.ownBlock,e])
  unfold World.setCell
  rw [Array.getElem?_modify,if_neg this]
  exact hgg
theorem zkv (b o n:Nat) (T:TypeId) (w:World) (h0:w.cell? ⟨b,o,none⟩=some (.pointer none)∨w.cell? ⟨b,o,none⟩=some (.pointer (some ⟨b,o,none⟩))) (hsh:w.shape? b=some (T,n)) (hlt:o<n) (hl:liesAt Tryz.prog Tryz.prog.depth T (n / Tryz.prog.cellsOf T) o 180 1=true) (hfz:w.frozen? ⟨b,o,none⟩=false):
  Calls Tryz.prog 188 #[.pointer (some ⟨b,o,none⟩)] w fun e w'=>e= .returned (.tuple #[])∧((w'=w∧w.cell? ⟨b,o,none⟩=some (.pointer (some ⟨b,o,none⟩)))∨w'=w.setCell ⟨b,o,none⟩ (.pointer (some ⟨b,o,none⟩))):=by
 rcases h0 with h0|h0
 ·refine (zku b o n T w h0 hsh hlt hl hfz).mono ?_
  rintro e w' ⟨rfl,rfl⟩
  exact ⟨rfl,.inr rfl⟩
 ·refine (zl5 b o w h0).mono ?_
  rintro e w' ⟨rfl,rfl⟩
  exact ⟨rfl,.inl ⟨rfl,h0⟩⟩
theorem ziy (b o n:Nat) (T:TypeId) (w:World) (v:Value) (k:Nat) (bs:List Value) (s:ByteArray) (h0:w.cell? ⟨b,o,none⟩=some (.pointer none)∨w.cell? ⟨b,o,none⟩=some (.pointer (some ⟨b,o,none⟩))) (h1:w.cell? ⟨b,o+1,none⟩=some v)
  (hsh:w.shape? b=some (T,n)) (hlt:o<n) (hl:liesAt Tryz.prog Tryz.prog.depth T (n / Tryz.prog.cellsOf T) o 180 1=true) (hfz:w.frozen? ⟨b,o,none⟩=false) (hfz1:w.frozen? ⟨b,o+1,none⟩=false)
  (hown:w.ownsRow 0 5 1 v k bs) (hne:v.ownBlock≠some b) (hlen:k+s.size≤140737488355328):
  Calls Tryz.prog 113 #[.pointer (some ⟨b,o,none⟩),.string s] w fun e w'=>e= .returned (.tuple #[.int .i64 s.size,.nilIface])∧
   ∃w1 v' w2,((w1=w∧w.cell? ⟨b,o,none⟩=some (.pointer (some ⟨b,o,none⟩)))∨w1=w.setCell ⟨b,o,none⟩ (.pointer (some ⟨b,o,none⟩)))∧w2.ownsRow 0 5 1 v' (k+s.size) (bs++Lib.strCells s)∧w1.grownBy w2 v.ownBlock∧((∀g,v'.ownBlock=some g→v.ownBlock=some g∨(w1.heap.size≤g∧g<w2.heap.size))∧(s.size=0→v'=v))∧w'=w2.setCell ⟨b,o+1,none⟩ v':=by
 obtain ⟨i0,hi,hz0⟩:=Option.map_eq_some_iff.1 (show (Tryz.prog.info? 5).map (fun i=>(i.zero,i.size,i.bytes))=some (some (.int .u8 0),1,1) by kernel_rfl)
 simp only [Prod.mk.injEq] at hz0
 obtain ⟨hz0,hz1,hz2⟩:=hz0
 go_enter Tryz.func113,Tryz.ntmps113
 go_wp2_with (go_at_call 188;refine (zkv b o n T _ h0 hsh hlt hl hfz).mono ?_)
 rintro e w1 ⟨rfl,hw1⟩
 have c1:w1.cell? ⟨b,o+1,none⟩=some v:=by
  rcases hw1 with ⟨rfl,_⟩|rfl
  ·exact h1
  ·rw [zfe (by omega)];exact h1
 have f1:w1.frozen? ⟨b,o+1,none⟩=false:=by
  rcases hw1 with ⟨rfl,_⟩|rfl
  ·exact hfz1
  ·rw [zd5];exact hfz1
 have hown1:w1.ownsRow 0 5 1 v k bs:=by
  rcases hw1 with ⟨rfl,_⟩|rfl
  ·exact hown
  ·exact zix hown hne
 go_wp2_with (at_builtin;refine zdd _ rfl _ _ 60 9 rfl 0 5 i0 Tryz.underlying60 Tryz.underlying9 hi hz0 hz1 hz2 _ _ _ rfl hown1 s rfl ?c3 ?c4 ?c5 ?_)
 case c3=>unfold maxLen;omega
 case c4=>omega
 case c5=>omega
 intro v' w2 hown' hgrow hnew hnew2
 have hlt1:b<w1.heap.size:=by
  rcases Nat.lt_or_ge b w1.heap.size with h'|h'
  ·exact h'
  ·simp [World.cell?,Array.getElem?_eq_none h'] at c1
 have hb2:w2.heap[b]?=w1.heap[b]?:=hgrow.block b hlt1 (fun e=>hne e.symm)
 have d1:w2.cell? ⟨b,o+1,none⟩=some v:=by
  rw [← c1];simp only [World.cell?,hb2]
 have f2:w2.frozen? ⟨b,o+1,none⟩=false:=by
  rw [← f1];simp only [World.frozen?,hb2]
 obtain ⟨ao,n',cap,rfl⟩:∃ao n' cap,v'= .slice ao n' cap:=by
  rcases hown'.2 with ⟨hv,_⟩|⟨g,cap,cur,hv,_⟩
  ·exact ⟨_,_,_,hv⟩
  ·exact ⟨_,_,_,hv⟩
 go_wp2
 go_ret2
 exact ⟨rfl,w1,_,w2,hw1,hown',hgrow,⟨hnew,fun e=>hnew2 (by simpa using e)⟩,rfl⟩
end Go.Proofs.YtgldbfelccddbaaGreat
namespace Go.Aw
open Go Go.Proofs Go.Proofs.YtgldbfelccddbaaGreat
section
variable {P : Program} {w w' w'' : World} {E E' E'' : Env} {h h' h'' : AHeap} {fl i j : Nat}
theorem EvoC.trans (a:EvoC fl E h w E' h' w') (b:EvoC fl E' h' w' E'' h'' w''):EvoC fl E h w E'' h'' w'' where
 os:=b.os.trans a.os
 tape:=b.tape.trans a.tape
 output:=b.output.trans a.output
 size:=Nat.le_trans a.size b.size
 keep:=fun k hk ho=>(b.keep k (Nat.lt_of_lt_of_le hk a.size) (fun h=>(a.own k h).elim ho (fun h=>by omega))).trans (a.keep k hk ho)
 own:=fun k h=>(b.own k h).elim (fun h=>a.own k h) (fun h=> .inr (Nat.le_trans a.size h))
 m:=b.m.trans a.m
 n:=b.n.trans a.n
 go:=fun i hi hl=>by
  obtain ⟨h1,h2⟩:=b.go i hi hl
  obtain ⟨h3,h4⟩:=a.go i hi h1
  exact ⟨h3,h4.trans h2⟩
theorem Chg.evoC (c:Chg E h w E' h' w' i) (hf:(hget h i).isSome∨fl≤i):EvoC fl E h w E' h' w':=
 have e:=c.evo (fl:=fl) hf
 ⟨e.os,e.tape,e.output,e.size,fun b hb ho=>c.blk b hb (fun ⟨h1,h2⟩=>ho ⟨i,h1,h2⟩),e.own,c.M,c.N,e.go⟩
theorem zgw {b:Nat} {c:Array Value} {T:TypeId} {fz:Nat×Nat} (g2:w.heap[b]?=some (.cells c T fz)):World.row w b (.cells c T fz)=w:=by
 obtain ⟨hlt,hb'⟩:=Array.getElem?_eq_some_iff.1 g2
 unfold World.row
 rw [← hb',Array.setIfInBounds_def,dif_pos hlt,Array.set_getElem_self]
theorem zhw {b o:Nat} {c:Array Value} {T:TypeId} {fz:Nat×Nat} {v:Value} (g2:w.heap[b]?=some (.cells c T fz)) (hc:c[o]?=some v):w.setCell ⟨b,o,none⟩ v=w:=by
 rw [zcC g2]
 have:c.setIfInBounds o v=c:=by
  obtain ⟨hlt,he⟩:=Array.getElem?_eq_some_iff.1 hc
  rw [Array.setIfInBounds_def,dif_pos hlt,← he,Array.set_getElem_self]
 rw [this]
 exact zgw g2
theorem zfI:∀ (h:AHeap) (i:Nat) (a b:AObj),hset (hset h i a) i b=hset h i b
  | [],_,_,_=>rfl
  | (k,o)::r,i,a,b=>by
    by_cases hk:k=i
    · simp [hset,hk]
    · simp [hset,hk,zfI r]
theorem pokeT (hs:SatH E h w) {o b:Nat} {t:TypeId} {cs:List AV} (hi:hget h i=some (.tvar t cs)) (hb:E.O i=some b) {x:AV} {v:Value} (hr:Rep w E h x v):
  Chg E h w E (hset h i (.tvar t (cs.set o x))) (w.setCell ⟨b,o,none⟩ v) i∧SatH E (hset h i (.tvar t (cs.set o x))) (w.setCell ⟨b,o,none⟩ v):=by
 have hob:=hs.heap i _ hi
 simp only [RepObj] at hob
 obtain ⟨b',c,T,fz,g1,g2,g3,g4,g5⟩:=hob
 rw [hb] at g1;cases g1
 rw [zcC g2]
 have ch:=zd7 hs hi (cs':=cs.set o x) (by simp) hb (.cells (c.setIfInBounds o v) T fz)
 refine ⟨ch,ch.satH hs (fun ob hob=>?_)⟩
 rw [ze hi] at hob
 cases hob
 simp only [RepObj]
 refine ⟨b,_,T,fz,hb,zbM (Array.getElem?_eq_some_iff.1 g2).1,?_,by simpa using g4,g5⟩
 rw [Array.toList_setIfInBounds]
 exact ch.reps (g3.set hr)
theorem zl6 (hs:SatH E h w) {t:TypeId} {xs:List UInt8} {n:Nat} {v:Value} (hj:hget h j=some (.buf t xs)) (hv:Rep w E h (.bsl j n) v) (hn:n=xs.length):
  w.ownsRow 0 t 1 v xs.length (Lib.byteCells xs)∧(∀g,v.ownBlock=some g→E.O j=some g)∧(v= .slice none 0 0∧E.O j=none∨∃g,v= .slice (some ⟨g,0,none⟩) xs.length (E.C j)∧E.O j=some g):=by
 simp only [Rep] at hv
 obtain ⟨_,t',xs',h1,_,h3⟩:=hv
 rw [hj] at h1;cases h1
 have hob:=hs.heap j _ hj
 simp only [RepObj] at hob
 rcases h3 hn.symm with ⟨⟨h4,h5⟩,rfl⟩|⟨g,h4,rfl⟩
 ·have:xs= []:=List.length_eq_zero_iff.1 (by omega)
  subst this
  exact ⟨World.ownsRow_nil _ _ _ _,fun g hg=>by simp [Value.ownBlock] at hg,.inl ⟨rfl,h4⟩⟩
 ·rcases hob with ⟨q1,_⟩|⟨b',c,T,fz,q1,q2,q3,q4,q5,rfl,rfl,q7⟩
  ·rw [h4] at q1;cases q1
  ·rw [h4] at q1;cases q1
   refine ⟨⟨by simp [Lib.byteCells],.inr ⟨g,E.C j,c,by rw [hn],Nat.zero_le _,q2,q4,by unfold maxLen;omega,q3,by rw [Nat.mul_one];exact q5⟩⟩,fun g' hg=>?_,.inr ⟨g,by rw [hn],h4⟩⟩
   simp [Value.ownBlock] at hg
   rw [h4,hg]
theorem zl7 {t:TypeId} {xs xs':List UInt8} (hj:hget h j=some (.buf t xs)) (g':Option Nat) (cap':Nat) {row:Option Nat} (hgrow:w.grownBy w' row) (hrow:∀g,row=some g→E.O j=some g) (hlen:xs.length≤xs'.length) (hsame:xs'.length=xs.length→g'=E.O j∧cap'=E.C j)
  (hnew:∀g,g'=some g→E.O j=some g∨(w.heap.size≤g∧g<w'.heap.size)):Chg E h w (E.set j g' cap') (hset h j (.buf t xs')) w' j where
 os:=hgrow.os
 tape:=hgrow.tape
 output:=hgrow.output
 size:=hgrow.size
 envO:=fun k e=>by simp [Env.set,e]
 envC:=fun k e=>by simp [Env.set,e]
 M:=rfl
 N:=rfl
 hh:=fun k e=>zr e
 gi:=by
  unfold GoesOn
  rw [hj]
  exact ⟨xs',ze hj,hlen,fun e=>by simpa [Env.set] using hsame e⟩
 blk:=fun b hb hn=>hgrow.block b hb (fun e=>hn ⟨by simp [hj],hrow b e.symm⟩)
 new:=fun b _ hb=>by
  simp only [Env.set,if_true] at hb
  rcases hnew b hb with h1|h1
  ·exact .inl ⟨by simp [hj],h1⟩
  ·exact .inr h1
theorem zfg (l:List UInt8):Lib.strCells ⟨l.toArray⟩=Lib.byteCells l:=by simp [Lib.strCells,Lib.byteCells]
theorem zbn {o:Nat} {T:TypeId} {cs:List AV} {xs l:List UInt8} {n:Nat} (hi:hget h i=some (.tvar T cs)) (c0:cs[o]?=some (.d .nilp)∨cs[o]?=some (.tp i o)) (c1:cs[o+1]?=some (.bsl j n)) (hj:hget h j=some (.buf 5 xs)) (hn:n=xs.length)
  (hl:liesAt Tryz.prog Tryz.prog.depth T (cs.length / Tryz.prog.cellsOf T) o 180 1=true) (hlen:xs.length+l.length≤140737488355328):
  ACallAt Tryz.prog fl 113 [.tp i o,.d (.str l)] h (fun r h'=>r= .tup [.d (.int .i64 l.length),.d .nilif]∧h'=hset (hset h j (.buf 5 (xs++l))) i (.tvar T ((cs.set o (.tp i o)).set (o+1) (.bsl j (xs.length+l.length))))):=by
 refine ⟨zbA Tryz.func113 (by kernel_rfl) rfl,fun E w vs hs hr=>?_⟩
 simp only [Reps] at hr
 obtain ⟨v0,r0,e0,q0,v1,r1,rfl,q1,rfl⟩:=hr
 have q0':=q0
 simp only [Rep,RepD] at q0 q1
 obtain ⟨b,T',cs',hi',hb,rfl⟩:=q0
 rw [hi] at hi';cases hi'
 subst q1
 have hvs:vs= #[.pointer (some ⟨b,o,none⟩),.string ⟨l.toArray⟩]:=by cases vs;simpa using e0
 subst hvs
 have hij:i≠j:=fun e=>by rw [e,hj] at hi;cases hi
 have hob:=hs.heap i _ hi
 simp only [RepObj] at hob
 obtain ⟨b',c,T0,fz,g1,g2,g3,g4,rfl⟩:=hob
 rw [hb] at g1;cases g1
 have hcl:c.size=cs.length:=by have:=Reps.length g3;simpa using this
 obtain ⟨v,hv0,hv⟩:=Reps.get g3 c1
 have hv1:c[o+1]?=some v:=by simpa using hv0
 have hlt1:o+1<c.size:=(Array.getElem?_eq_some_iff.1 hv1).1
 obtain ⟨o1,o2,o3⟩:=zl6 hs hj hv hn
 have hne:v.ownBlock≠some b:=fun e=>hij (hs.inj i j b (by simp [hi]) (by simp [hj]) hb (o2 b e))
 have hfz:∀k,k<c.size→w.frozen? ⟨b,k,none⟩=false:=fun k hk=>by
  rw [zy g2]
  have:=g4 k hk
  simpa using this
 have hptr:Rep w E h (.tp i o) (.pointer (some ⟨b,o,none⟩)):=q0'
 have hc0:c[o]?=some (.pointer none)∨c[o]?=some (.pointer (some ⟨b,o,none⟩)):=by
  rcases c0 with c0|c0
  ·obtain ⟨u,hu,hur⟩:=Reps.get g3 c0
   simp only [Rep,RepD] at hur
   subst hur
   exact .inl (by simpa using hu)
  ·obtain ⟨u,hu,hur⟩:=Reps.get g3 c0
   simp only [Rep] at hur
   obtain ⟨b2,_,_,_,hb2,rfl⟩:=hur
   rw [hb] at hb2;cases hb2
   exact .inr (by simpa using hu)
 refine (ziy b o c.size T0 w v xs.length (Lib.byteCells xs) ⟨l.toArray⟩ (by rw [zn g2];exact hc0) (by rw [zn g2];exact hv1) (by simp [World.shape?,g2]) (by omega) (by rw [hcl];exact hl) (hfz o (by omega)) (hfz (o+1) hlt1) o1 hne (by simpa [ByteArray.size] using hlen)).mono ?_
 rintro e w3 ⟨rfl,w1,v',w2,hw1,hown',hgrow,⟨hnew,hempty⟩,rfl⟩
 have hw1':w1=w.setCell ⟨b,o,none⟩ (.pointer (some ⟨b,o,none⟩)):=by
  rcases hw1 with ⟨rfl,hc⟩|h
  ·rw [zn g2] at hc
   exact (zhw g2 hc).symm
  ·exact h
 subst hw1'
 obtain ⟨ch1,hs1⟩:=pokeT hs hi hb (o:=o) hptr
 have hj1:hget (hset h i (.tvar T0 (cs.set o (.tp i o)))) j=some (.buf 5 xs):=by rw [zr (Ne.symm hij)];exact hj
 rw [zfg] at hown'
 have hsz:(⟨l.toArray⟩:ByteArray).size=l.length:=by simp [ByteArray.size]
 rw [hsz] at hown' hempty
 obtain ⟨g',cap',hv',hg'⟩:∃ (g':Option Nat) (cap':Nat),v'.ownBlock=g'∧((v'= .slice none 0 0∧g'=none∧xs++l= [])∨∃g cur,g'=some g∧v'= .slice (some ⟨g,0,none⟩) (xs.length+l.length) cap'∧w2.heap[g]?=some (.cells cur 5 (0,0))∧xs.length+l.length≤cap'∧cap'≤maxLen∧cur.size=cap'*1∧cur.toList.take ((xs.length+l.length)*1)=Lib.byteCells xs++Lib.byteCells l)∧(l= []→g'=E.O j∧cap'=E.C j):=by
  rcases hown'.2 with ⟨rfl,hz⟩|⟨g,cap',cur,rfl,_,hx⟩
  ·refine ⟨none,E.C j,rfl,.inl ⟨rfl,rfl,?_⟩,fun hl0=>⟨?_,rfl⟩⟩
   ·have h1:xs= []:=List.length_eq_zero_iff.1 (by omega)
    have h2:l= []:=List.length_eq_zero_iff.1 (by omega)
    simp [h1,h2]
   ·have hve:=hempty (by simp [hl0])
    rcases o3 with ⟨_,h1⟩|⟨g,h1,_⟩
    ·exact h1.symm
    ·rw [h1] at hve;cases hve
  ·refine ⟨some g,cap',rfl,.inr ⟨g,cur,rfl,rfl,hx⟩,fun hl0=>?_⟩
   have hve:=hempty (by simp [hl0])
   rcases o3 with ⟨h1,_⟩|⟨g2,h1,h2⟩
   ·rw [h1] at hve;cases hve
   ·rw [h1] at hve
    simp only [Value.slice.injEq,Option.some.injEq,Addr.mk.injEq] at hve
    obtain ⟨⟨rfl,_⟩,_,rfl⟩:=hve
    exact ⟨h2.symm,rfl⟩
 obtain ⟨hg',hsame⟩:=hg'
 have ch2:Chg E (hset h i (.tvar T0 (cs.set o (.tp i o)))) (w.setCell ⟨b,o,none⟩ (.pointer (some ⟨b,o,none⟩))) (E.set j g' cap') (hset (hset h i (.tvar T0 (cs.set o (.tp i o)))) j (.buf 5 (xs++l))) w2 j:=
  zl7 hj1 g' cap' hgrow (fun g hg=>o2 g hg) (by simp) (fun e=>hsame (by simpa using e)) (fun g hg=>by
   rcases hnew g (by rw [hv',hg]) with h1|h1
   ·exact .inl (o2 g h1)
   ·exact .inr h1)
 have hs2:=ch2.satH hs1 (fun ob hob=>by
  rw [ze hj1] at hob
  cases hob
  simp only [RepObj,Env.set,if_true]
  rcases hg' with ⟨_,h1,h2⟩|⟨g,cur,h1,h2,h3,h4,h5,h6,h7⟩
  ·exact .inl ⟨h1,.inl h2⟩
  ·refine .inr ⟨g,cur,5,(0,0),h1,h3,h6,by simpa using h4,?_,rfl,rfl,by unfold maxLen at h5;omega⟩
   rw [Nat.mul_one] at h7
   rw [List.length_append,h7]
   simp [Lib.byteCells])
 have hi2:hget (hset (hset h i (.tvar T0 (cs.set o (.tp i o)))) j (.buf 5 (xs++l))) i=some (.tvar T0 (cs.set o (.tp i o))):=by rw [zr hij];exact ze hi
 have hb2:(E.set j g' cap').O i=some b:=by simp [Env.set,hij,hb]
 have hrv':Rep w2 (E.set j g' cap') (hset (hset h i (.tvar T0 (cs.set o (.tp i o)))) j (.buf 5 (xs++l))) (.bsl j (xs.length+l.length)) v':=by
  simp only [Rep]
  rcases hg' with ⟨h0,h1,h2⟩|⟨g,cur,h1,h2,h3,h4,h5,h6,h7⟩
  ·have h3:xs.length+l.length=0:=by have:=congrArg List.length h2;simpa using this
   exact ⟨⟨_,_,_,h0⟩,_,_,ze hj1,by simp,fun _=> .inl ⟨⟨by simp [Env.set,h1],h3⟩,h0⟩⟩
  ·exact ⟨⟨_,_,_,h2⟩,_,_,ze hj1,by simp,fun _=> .inr ⟨g,by simp [Env.set,h1],by simp [Env.set,h2]⟩⟩
 obtain ⟨ch3,hs3⟩:=pokeT hs2 hi2 hb2 (o:=o+1) hrv'
 have eh:hset (hset (hset h i (.tvar T0 (cs.set o (.tp i o)))) j (.buf 5 (xs++l))) i (.tvar T0 ((cs.set o (.tp i o)).set (o+1) (.bsl j (xs.length+l.length))))=hset (hset h j (.buf 5 (xs++l))) i (.tvar T0 ((cs.set o (.tp i o)).set (o+1) (.bsl j (xs.length+l.length)))):=by
  rw [zhc h hij,zfI]
 refine ⟨_,_,_,_,rfl,⟨rfl,rfl⟩,eh ▸ hs3,?_,eh ▸ ((ch1.evoC (.inl (by simp [hi]))).trans ((ch2.evoC (.inl (by simp [hj1]))).trans (ch3.evoC (.inl (by simp [hi2]))))),fun x y hxy=>eh ▸ ch3.rep (ch2.rep (ch1.rep hxy))⟩
 simp only [Rep,Reps,RepD]
 refine ⟨_,rfl,_,_,rfl,?_,_,_,rfl,rfl,rfl⟩
 rw [hsz]
noncomputable def gone:List UInt8:=List.replicate zdo 0
theorem ziB:gone.length=zdo:=by unfold gone;exact List.length_replicate ..
attribute [irreducible] gone
theorem zeM {o:Nat} {T:TypeId} {cs:List AV} {xs:List UInt8} {n:Nat} (hi:hget h i=some (.tvar T cs)) (c1:cs[o+1]?=some (.bsl j n)) (hj:hget h j=some (.buf 5 xs)) (hn:n=xs.length) (hlen:xs.length≤140737488355328):
  ACallAt Tryz.prog fl 98 [.tp i o] h (fun r h'=>r= .d (.str xs)∧h'=hset h j (.buf 5 gone)):=by
 refine ⟨zbA Tryz.func98 (by kernel_rfl) rfl,fun E w vs hs hr=>?_⟩
 simp only [Reps] at hr
 obtain ⟨v0,r0,e0,q0,rfl⟩:=hr
 have q0':=q0
 simp only [Rep] at q0
 obtain ⟨b,T',cs',hi',hb,rfl⟩:=q0
 rw [hi] at hi';cases hi'
 have hvs:vs= #[.pointer (some ⟨b,o,none⟩)]:=by cases vs;simpa using e0
 subst hvs
 have hob:=hs.heap i _ hi
 simp only [RepObj] at hob
 obtain ⟨b',c,T0,fz,g1,g2,g3,g4,rfl⟩:=hob
 rw [hb] at g1;cases g1
 obtain ⟨v,hv0,hv⟩:=Reps.get g3 c1
 have hv1:c[o+1]?=some v:=by simpa using hv0
 obtain ⟨o1,o2,o3⟩:=zl6 hs hj hv hn
 refine (zhv b o w v xs (by rw [zn g2];exact hv1) o1).mono ?_
 rintro e w3 ⟨rfl,hgrow⟩
 have hgl:=ziB
 have hdl:zdo=9223372036854775808:=rfl
 have ch:Chg E h w (E.set j none 0) (hset h j (.buf 5 gone)) w3 j:=
  zl7 hj none 0 hgrow (fun g hg=>o2 g hg) (by omega) (fun e=>by omega) (fun g hg=>by cases hg)
 have hs2:=ch.satH hs (fun ob hob=>by
  rw [ze hj] at hob
  cases hob
  simp only [RepObj,Env.set,if_true]
  exact .inl ⟨trivial,.inr hgl⟩)
 exact ⟨_,_,_,_,rfl,⟨rfl,rfl⟩,hs2,by simp only [Rep,RepD],ch.evoC (.inl (by simp [hj])),fun x y hxy=>ch.rep hxy⟩
theorem zeN {cx:Cx} {c:Code} {Q:Exit→AS→Prop} {s:AS} (i o:Nat) {T:TypeId} {cs:List AV} (hi:hget s.h i=some (.tvar T cs)) (ho:cs[o]?=some (.nils 1))
    (h:AW cx c Q { s with h:=(fresh cx.fl s.h,.buf 5 [])::hset s.h i (.tvar T (cs.set o (.bsl (fresh cx.fl s.h) 0))) }):AW cx c Q s:=fun E a w hs=>by
  have hne:fresh cx.fl s.h≠i:=fun e=>by
    have:=zai cx.fl s.h
    rw [e,hi] at this;cases this
  have cc:Chg E s.h w (E.set (fresh cx.fl s.h) none 0) ((fresh cx.fl s.h,.buf 5 [])::s.h) w (fresh cx.fl s.h):=
    { os:=rfl,tape:=rfl,output:=rfl,size:=Nat.le_refl _,envO:=fun j e=>by simp [Env.set,e],envC:=fun j e=>by simp [Env.set,e],M:=rfl,N:=rfl,hh:=fun j e=>by simp [hget,Ne.symm e],
      gi:=by simp [GoesOn,zai]
      blk:=fun b hb _=>rfl
      new:=fun b _ hb=>by simp [Env.set] at hb }
  have hs1:=cc.sat (t:=s.t) (g:=s.g) hs (fun o ho=>by
    simp [hget] at ho
    subst ho
    simp only [RepObj]
    exact .inl ⟨by simp [Env.set],.inl trivial⟩)
  have hi1:hget ((fresh cx.fl s.h,.buf 5 [])::s.h) i=some (.tvar T cs):=by simp [hget,hne,hi]
  have e1:(fresh cx.fl s.h,AObj.buf 5 [])::hset s.h i (.tvar T (cs.set o (.bsl (fresh cx.fl s.h) 0)))=hset ((fresh cx.fl s.h,.buf 5 [])::s.h) i (.tvar T (cs.set o (.bsl (fresh cx.fl s.h) 0))):=by
    simp [hset,hne]
  obtain ⟨E1,hE1⟩:∃E1,E1=E.set (fresh cx.fl s.h) none 0:=⟨_,rfl⟩
  rw [← hE1] at hs1 cc
  obtain ⟨b,c',T',fz,g1,g2,g3,g4,g5⟩:=hs1.hp.tvar hi1
  have ch:=zd7 (w:=w) hs1.hp hi1 (cs':=cs.set o (.bsl (fresh cx.fl s.h) 0)) (by simp) g1 (.cells c' T' fz)
  rw [zgw g2] at ch
  have hs2:=ch.sat (t:=s.t) (g:=s.g) hs1 (fun ob hob=>by
    rw [ze hi1] at hob
    cases hob
    simp only [RepObj]
    refine ⟨b,c',T',fz,g1,g2,?_,g4,g5⟩
    obtain ⟨v,hv,hvr⟩:=Reps.get g3 ho
    simp only [Rep] at hvr
    subst hvr
    have:=g3.set (i:=o) (a:= .bsl (fresh cx.fl s.h) 0) (v:= .slice none 0 0) (by
      simp only [Rep]
      refine ⟨⟨_,_,_,rfl⟩,5,[],by simp [hget],by simp,fun _=> .inl ⟨⟨by simp [hE1,Env.set],trivial⟩,trivial⟩⟩)
    have e2:c'.toList.set o (.slice none 0 0)=c'.toList:=by
      obtain ⟨hlt,he⟩:=List.getElem?_eq_some_iff.1 hv
      rw [← he,List.set_getElem_self]
    rw [e2] at this
    exact ch.reps this)
  rw [← e1] at hs2
  refine wpIn_mono (h _ a w hs2) (fun _ _ _ hr=>hr.trans (Evo.trans (cc.evo (.inr (zO _ _))) ?_))
  rw [e1]
  exact ch.evo (.inl (by simp [hi1]))
end
open Go Go.Proofs
theorem zbo {P:Program} {f:FuncId} {fl:Nat} {args:List AV} {r:AV} {h:AHeap} (hc:ACall P f 0 args [] (fun r' _=>r'=r)) (hz:args.map (frz 9 h)=args:=by rfl) (hids:AV.idsL args= []:=by first|rfl|simp [AV.idsL,AV.ids,AV.idsR]) (hri:r.ids= []:=by rfl):ACallAt P fl f args h (fun r' h'=>r'=r∧h'=h):=ACall.data (n:=9) (by rw [hz];exact hc) hids hri
inductive Anyv where
 |u16 (n:Int)
 |u32 (n:Int)
 |u64 (n:Int)
 |str (s:Txt)
def anvR:Anyv→List AV
 | .u16 n=> [.iface 325 (.d (.int .u16 n))]
 | .u32 n=> [.iface 67 (.d (.int .u32 n))]
 | .u64 n=> [.iface 22 (.d (.int .u64 n))]
 | .str s=> [.iface 9 (.d (.str s))]
def anvB:Anyv→Txt
 | .u16 n=>putN n.toNat 2
 | .u32 n=>putN n.toNat 4
 | .u64 n=>putN n.toNat 8
 | .str s=>s
def anvOk:Anyv→Prop
 | .u16 n=>0≤n∧n<65536
 | .u32 n=>0≤n∧n<4294967296
 | .u64 n=>0≤n∧n<18446744073709551616
 | .str s=>s.length≤2000000
def anvsB (l:List Anyv):Txt:=l.flatMap anvB
@[simp, go_sem] theorem zqp:anvsB []= []:=rfl
@[go_sem] theorem zn1:∀l:List Anyv,AV.idsR (l.map anvR)= []
 | []=>rfl
 |v::l=>by
  rw [List.map_cons,AV.idsR,zn1 l]
  cases v<;>rfl
theorem zkA (l:List Anyv) (v:Anyv):anvsB (l++ [v])=anvsB l++anvB v:=by simp [anvsB]
theorem zhC:∀ {l:List Anyv},(∀v∈l,anvOk v)→(anvsB l).length≤2000000*l.length
 | [],_=>Nat.zero_le _
 | v::l,h=>by
  have h1:=zhC (l:=l) (fun y hy=>h y (List.mem_cons_of_mem _ hy))
  have h2:=h v List.mem_cons_self
  have h3:(anvB v).length≤2000000:=by
   cases v<;>simp only [anvB,zaQ,anvOk] at h2 ⊢ <;>omega
  simp only [anvsB,List.flatMap_cons,List.length_append,List.length_cons] at h1 ⊢
  omega
theorem zn2 (l:List Anyv) (h:∀v∈l,anvOk v) (hl:l.length≤10):ACall Tryz.prog 186 0 [.asl 1 (l.map anvR)] [] (fun r _=>r= .d (.str (anvsB l))):=by
 refine fbod Tryz.func186 Tryz.ntmps186 (fun base=>?_)
 have hlm:(l.map anvR).length=l.length:=List.length_map _
 refine' walkW hlm (zb zR <| za _)
 refine zeN 0 1 rfl rfl ?_
 simp only [go_sem,aeq,aeq.aeqF,simprocAttr]
 refine zt (fun q: { i:Nat // i≤l.length } =>⟨[(3,true,.tp 0 0),(10,true,.asl 1 (l.map anvR)),(11,true,.d (.int .i64 l.length)),(12,true,.d (.int .i64 q.1))],[(1,.buf 5 (anvsB (l.take q.1))),(0,.tvar 180 [if q.1=0 then .d .nilp else .tp 0 0,.bsl 1 (anvsB (l.take q.1)).length])],some []⟩) (fun q=>l.length - q.1) ⟨0,Nat.zero_le _⟩ (by simp only [AS.le,leT,leH,zh,AsgK,AV.le,AV.leL,AObj.le,inH,idsT,idsH,AV.ids,AV.idsL,AV.idsR,AObj.ids,lk,hget,go_sem,aeq,aeq.aeqF,simprocAttr,if_true,List.take_zero]<;>and_intros<;>rfl) (fun q=>?_)
 obtain ⟨i,hi⟩:=q
 simp only at hi ⊢
 obtain ⟨b,hb⟩:∃b,b=anvsB (l.take i):=⟨_,rfl⟩
 have hbl:b.length≤20000000:=by
  have:=zhC (l:=l.take i) (fun v hv=>h v (List.mem_of_mem_take hv))
  rw [List.length_take] at this
  rw [hb]
  omega
 rw [← hb]
 rcases Nat.lt_or_ge i l.length with hlt|hge
 ·obtain ⟨v,hv⟩:=zey hlt
  have hrow:=zlI (g:=anvR) hv
  have hcmp:decide ((i:Int)<(l.length:Int))=true:=decide_eq_true (by omega)
  have hwi:=zp (i:=i) (by omega)
  have hvo:=h v (List.mem_of_getElem? hv)
  have hsn:anvsB (l.take (i+1))=b++anvB v:=by rw [zcH hv,zkA,hb]
  have hif:(if i+1=0 then AV.d .nilp else AV.tp 0 0)= .tp 0 0:=if_neg (by omega)
  have hgo:∀t:Txt,t=anvB v→∃q': { i:Nat // i≤l.length },q'.1=i+1∧anvsB (l.take q'.1)=b++t:=by
   rintro t rfl
   exact ⟨⟨i+1,by omega⟩,rfl,hsn⟩
  cases v with
  |u16 n=>
   simp only [anvR,anvOk,anvB] at hrow hvo hsn
   have hw:IntKind.u64.wrap n=n:=zaR (by omega) (by omega)
   have hpn:=zaQ n.toNat 2
   refine' walkW (zA hcmp hrow natC hlm hw @zqk) (zb zR <| za _)
   all_goals first|omega|skip
   refine (zbn (i:=0) (j:=1) (o:=0) (T:=180) (cs:= [if i=0 then .d .nilp else .tp 0 0,.bsl 1 b.length]) (xs:=b) rfl (by by_cases h0:i=0<;>simp [h0]) rfl rfl rfl zdH (by omega)).mono ?_
   rintro r h' ⟨rfl,rfl⟩
   refine' zc fx
   exact ⟨⟨i+1,by omega⟩,by simp only [AS.le,leT,leH,zh,AsgK,AV.le,AV.leL,AObj.le,inH,idsT,idsH,AV.ids,AV.idsL,AV.idsR,AObj.ids,lk,hget,go_sem,aeq,aeq.aeqF,simprocAttr,hwi,hsn,hif,List.length_append],by simp;omega⟩
  |u32 n=>
   simp only [anvR,anvOk,anvB] at hrow hvo hsn
   have hw:IntKind.u64.wrap n=n:=zaR (by omega) (by omega)
   have hpn:=zaQ n.toNat 4
   refine' walkW (zA hcmp hrow natC hlm hw @zoR) (zb zR <| za _)
   all_goals first|omega|skip
   refine (zbn (i:=0) (j:=1) (o:=0) (T:=180) (cs:= [if i=0 then .d .nilp else .tp 0 0,.bsl 1 b.length]) (xs:=b) rfl (by by_cases h0:i=0<;>simp [h0]) rfl rfl rfl zdH (by omega)).mono ?_
   rintro r h' ⟨rfl,rfl⟩
   refine' zc fx
   exact ⟨⟨i+1,by omega⟩,by simp only [AS.le,leT,leH,zh,AsgK,AV.le,AV.leL,AObj.le,inH,idsT,idsH,AV.ids,AV.idsL,AV.idsR,AObj.ids,lk,hget,go_sem,aeq,aeq.aeqF,simprocAttr,hwi,hsn,hif,List.length_append],by simp;omega⟩
  |u64 n=>
   simp only [anvR,anvOk,anvB] at hrow hvo hsn
   have hpn:=zaQ n.toNat 8
   refine' walkW (zad hcmp hrow natC hlm @zhu) (zb zR <| za _)
   all_goals first|omega|skip
   refine (zbn (i:=0) (j:=1) (o:=0) (T:=180) (cs:= [if i=0 then .d .nilp else .tp 0 0,.bsl 1 b.length]) (xs:=b) rfl (by by_cases h0:i=0<;>simp [h0]) rfl rfl rfl zdH (by omega)).mono ?_
   rintro r h' ⟨rfl,rfl⟩
   refine' zc fx
   exact ⟨⟨i+1,by omega⟩,by simp only [AS.le,leT,leH,zh,AsgK,AV.le,AV.leL,AObj.le,inH,idsT,idsH,AV.ids,AV.idsL,AV.idsR,AObj.ids,lk,hget,go_sem,aeq,aeq.aeqF,simprocAttr,hwi,hsn,hif,List.length_append],by simp;omega⟩
  |str s=>
   simp only [anvR,anvOk,anvB] at hrow hvo hsn
   refine' walkW (z7 hcmp hrow natC hlm) (zb zR <| za _)
   all_goals first|omega|skip
   refine (zbn (i:=0) (j:=1) (o:=0) (T:=180) (cs:= [if i=0 then .d .nilp else .tp 0 0,.bsl 1 b.length]) (xs:=b) rfl (by by_cases h0:i=0<;>simp [h0]) rfl rfl rfl zdH (by omega)).mono ?_
   rintro r h' ⟨rfl,rfl⟩
   refine' zc fx
   exact ⟨⟨i+1,by omega⟩,by simp only [AS.le,leT,leH,zh,AsgK,AV.le,AV.leL,AObj.le,inH,idsT,idsH,AV.ids,AV.idsL,AV.idsR,AObj.ids,lk,hget,go_sem,aeq,aeq.aeqF,simprocAttr,hwi,hsn,hif,List.length_append],by simp;omega⟩
 ·have hcmp:decide ((i:Int)<(l.length:Int))=false:=decide_eq_false (by omega)
  have hball:b=anvsB l:=by rw [hb,List.take_of_length_le hge]
  refine' walkW hcmp (zb zR <| za _)
  refine (zeM (i:=0) (j:=1) (o:=0) (T:=180) (cs:= [if i=0 then .d .nilp else .tp 0 0,.bsl 1 b.length]) (xs:=b) rfl rfl rfl rfl (by omega)).mono ?_
  rintro r h' ⟨rfl,rfl⟩
  simp only [go_sem,aeq,aeq.aeqF,simprocAttr,hset]
  refine' zc fx
  rw [hball]
theorem zn3 (e:Int) (hp:0≤e∧e<4294967296):AC 148 [.d (.int .u32 e)] (.d (.str (rfail e))):=by
 obtain ⟨h0,h1⟩:=hp
 refine fbod Tryz.func148 Tryz.ntmps148 (fun base=>?_)
 refine' zc fx
 refine (zbo (zn2 [.u32 e,.u16 0] (by simp [anvOk];omega) (by simp))).mono ?_
 rintro r h' ⟨rfl,rfl⟩
 simp only [go_sem,aeq,aeq.aeqF,simprocAttr]
 refine' zc fx
 simp [anvsB,anvB,rfail]
 rfl
@[go_sem] noncomputable def zkB:Ent Tryz.prog 148:= .m1 (intT .u32) zn3
end Go.Aw
