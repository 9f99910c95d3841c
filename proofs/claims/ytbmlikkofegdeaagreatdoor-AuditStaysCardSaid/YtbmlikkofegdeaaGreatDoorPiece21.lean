/-
  Parts of the proof: BldD, DevP, DevA, DevB, DevC, DevD (short names; the readable texts lie in the repo, under wip).
-/
import Derived.Test.YtbmlikkofegdeaaGreatDoorPiece20
import Derived.Test.YtbmlikkofegdeaaGreatDoorPiece17
import Derived.Test.YtbmlikkofegdeaaGreatDoorPiece18
import Derived.Test.YtbmlikkofegdeaaGreatDoorPiece15
set_option maxRecDepth 100000
set_option maxHeartbeats 2000000
set_option linter.unusedSimpArgs false
set_option linter.unusedVariables false
namespace Go.Aw
open Go Go.Proofs Go.Proofs.YtbmlikkofegdeaaGreatDoor
section
variable {P : Program} {w w' w'' : World} {E E' E'' : Env} {h h' h'' : AHeap} {fl i j : Nat}
theorem EvoC.trans (a:EvoC fl E h w E' h' w') (b:EvoC fl E' h' w' E'' h'' w''):EvoC fl E h w E'' h'' w'' where
 os:=b.os.trans a.os
 tape:=b.tape.trans a.tape
 output:=b.output.trans a.output
 size:=Nat.le_trans a.size b.size
 keep:=λk hk ho=>(b.keep k (Nat.lt_of_lt_of_le hk a.size) (λh=>(a.own k h).elim ho (λh=>by omega))).trans (a.keep k hk ho)
 own:=λk h=>(b.own k h).elim (λh=>a.own k h) (λh=> .inr (Nat.le_trans a.size h))
 m:=b.m.trans a.m
 n:=b.n.trans a.n
 go:=λi hi hl=>by obtain ⟨h1,h2⟩:=b.go i hi hl;obtain ⟨h3,h4⟩:=a.go i hi h1;exact ⟨h3,h4.trans h2⟩
theorem Chg.evoC (c:Chg E h w E' h' w' i) (hf:(hget h i).isSome\/fl<=i):EvoC fl E h w E' h' w':=
 have e:=c.evo (fl:=fl) hf
 ⟨e.os,e.tape,e.output,e.size,λb hb ho=>c.blk b hb (λ⟨h1,h2⟩=>ho ⟨i,h1,h2⟩),e.own,c.M,c.N,e.go⟩
theorem zpy {b:Nat} {c:Array Value} {T:TypeId} {fz:Nat×Nat} (g2:w.heap[b]?=some (.cells c T fz)):World.row w b (.cells c T fz)=w:=by obtain ⟨hlt,hb'⟩:=Array.getElem?_eq_some_iff.1 g2;unfold World.row;rw [<-hb',Array.setIfInBounds_def,dif_pos hlt,Array.set_getElem_self]
theorem zmN {b o:Nat} {c:Array Value} {T:TypeId} {fz:Nat×Nat} {v:Value} (g2:w.heap[b]?=some (.cells c T fz)) (hc:c[o]?=some v):w.setCell ⟨b,o,none⟩ v=w:=by
 rw [zeO g2]
 have:c.setIfInBounds o v=c:=by obtain ⟨hlt,he⟩:=Array.getElem?_eq_some_iff.1 hc;rw [Array.setIfInBounds_def,dif_pos hlt,<-he,Array.set_getElem_self]
 rw [this];exact zpy g2
theorem zhp:∀ (h:AHeap) (i:Nat) (a b:AObj),hset (hset h i a) i b=hset h i b
  | [],_,_,_=>rfl
  | (k,o)::r,i,a,b=>by
    by_cases hk:k=i
    · simp [hset,hk]
    · simp [hset,hk,zhp r]
theorem pokeT (hs:SatH E h w) {o b:Nat} {t:TypeId} {cs:List AV} (hi:hget h i=some (.tvar t cs)) (hb:E.O i=some b) {x:AV} {v:Value} (hr:Rep w E h x v):
  Chg E h w E (hset h i (.tvar t (cs.set o x))) (w.setCell ⟨b,o,none⟩ v) i/\SatH E (hset h i (.tvar t (cs.set o x))) (w.setCell ⟨b,o,none⟩ v):=by have hob:=hs.heap i _ hi;simp only [RepObj] at hob;obtain ⟨b',c,T,fz,g1,g2,g3,g4,g5⟩:=hob;rw [hb] at g1;cases g1;rw [zeO g2];have ch:=zkJ hs hi (cs':=cs.set o x) (by simp) hb (.cells (c.setIfInBounds o v) T fz);refine ⟨ch,ch.satH hs (λob hob=>?_)⟩;rw [zh hi] at hob;cases hob;simp only [RepObj];refine ⟨b,_,T,fz,hb,zel (Array.getElem?_eq_some_iff.1 g2).1,?_,by simpa using g4,g5⟩;rw [Array.toList_setIfInBounds];exact ch.reps (g3.set hr)
theorem zs1 (hs:SatH E h w) {t:TypeId} {xs:List UInt8} {n:Nat} {v:Value} (hj:hget h j=some (.buf t xs)) (hv:Rep w E h (.bsl j n) v) (hn:n=xs.length):
  w.ownsRow 0 t 1 v xs.length (Lib.byteCells xs)/\(∀g,v.ownBlock=some g->E.O j=some g)/\(v= .slice none 0 0/\E.O j=none\/∃g,v= .slice (some ⟨g,0,none⟩) xs.length (E.C j)/\E.O j=some g):=by
 simp only [Rep] at hv;obtain ⟨_,t',xs',h1,_,h3⟩:=hv;rw [hj] at h1;cases h1;have hob:=hs.heap j _ hj;simp only [RepObj] at hob;rcases h3 hn.symm with ⟨⟨h4,h5⟩,rfl⟩|⟨g,h4,rfl⟩
 ·have:xs= []:=List.length_eq_zero_iff.1 (by omega);subst this;exact ⟨World.ownsRow_nil _ _ _ _,λg hg=>by simp [Value.ownBlock] at hg,.inl ⟨rfl,h4⟩⟩
 ·rcases hob with ⟨q1,_⟩|⟨b',c,T,fz,q1,q2,q3,q4,q5,rfl,rfl,q7⟩
  ·rw [h4] at q1;cases q1
  ·rw [h4] at q1;cases q1;refine ⟨⟨by simp [Lib.byteCells],.inr ⟨g,E.C j,c,by rw [hn],Nat.zero_le _,q2,q4,by unfold maxLen;omega,q3,by rw [Nat.mul_one];exact q5⟩⟩,λg' hg=>?_,.inr ⟨g,by rw [hn],h4⟩⟩;simp [Value.ownBlock] at hg;rw [h4,hg]
theorem zs2 {t:TypeId} {xs xs':List UInt8} (hj:hget h j=some (.buf t xs)) (g':Option Nat) (cap':Nat) {row:Option Nat} (hgrow:w.grownBy w' row) (hrow:∀g,row=some g->E.O j=some g) (hlen:xs.length<=xs'.length) (hsame:xs'.length=xs.length->g'=E.O j/\cap'=E.C j)
  (hnew:∀g,g'=some g->E.O j=some g\/(w.heap.size<=g/\g<w'.heap.size)):Chg E h w (E.set j g' cap') (hset h j (.buf t xs')) w' j where
 os:=hgrow.os
 tape:=hgrow.tape
 output:=hgrow.output
 size:=hgrow.size
 envO:=λk e=>by simp [Env.set,e]
 envC:=λk e=>by simp [Env.set,e]
 M:=rfl
 N:=rfl
 hh:=λk e=>zH e
 gi:=by unfold GoesOn;rw [hj];exact ⟨xs',zh hj,hlen,λe=>by simpa [Env.set] using hsame e⟩
 blk:=λb hb hn=>hgrow.block b hb (λe=>hn ⟨by simp [hj],hrow b e.symm⟩)
 new:=λb _ hb=>by
  simp only [Env.set,if_true] at hb;rcases hnew b hb with h1|h1
  ·exact .inl ⟨by simp [hj],h1⟩
  ·exact .inr h1
theorem zjQ (l:List UInt8):Lib.strCells ⟨l.toArray⟩=Lib.byteCells l:=by simp [Lib.strCells,Lib.byteCells]
theorem zvl {o:Nat} {T:TypeId} {cs:List AV} {xs l:List UInt8} {n:Nat} (hi:hget h i=some (.tvar T cs)) (c0:cs[o]?=some (.d .nilp)\/cs[o]?=some (.tp i o)) (c1:cs[o+1]?=some (.bsl j n)) (hj:hget h j=some (.buf 5 xs)) (hn:n=xs.length)
  (hl:liesAt Tryz.prog Tryz.prog.depth T (cs.length / Tryz.prog.cellsOf T) o 223 1=true) (hlen:xs.length+l.length<=140737488355328):
  ACallAt Tryz.prog fl 166 [.tp i o,.d (.str l)] h (λr h'=>r= .tup [.d (.int .i64 l.length),.d .nilif]/\h'=hset (hset h j (.buf 5 (xs++l))) i (.tvar T ((cs.set o (.tp i o)).set (o+1) (.bsl j (xs.length+l.length))))):=by
 refine ⟨zdn Tryz.func166 (by kernel_rfl) rfl,λE w vs hs hr=>?_⟩;simp only [Reps] at hr;obtain ⟨v0,r0,e0,q0,v1,r1,rfl,q1,rfl⟩:=hr;have q0':=q0;simp only [Rep,RepD] at q0 q1;obtain ⟨b,T',cs',hi',hb,rfl⟩:=q0;rw [hi] at hi';cases hi';subst q1;have hvs:vs= #[.pointer (some ⟨b,o,none⟩),.string ⟨l.toArray⟩]:=by cases vs;simpa using e0
 subst hvs;have hij:i≠j:=λe=>by rw [e,hj] at hi;cases hi
 have hob:=hs.heap i _ hi;simp only [RepObj] at hob;obtain ⟨b',c,T0,fz,g1,g2,g3,g4,rfl⟩:=hob;rw [hb] at g1;cases g1;have hcl:c.size=cs.length:=by have:=Reps.length g3;simpa using this
 obtain ⟨v,hv0,hv⟩:=Reps.get g3 c1;have hv1:c[o+1]?=some v:=by simpa using hv0
 have hlt1:o+1<c.size:=(Array.getElem?_eq_some_iff.1 hv1).1;obtain ⟨o1,o2,o3⟩:=zs1 hs hj hv hn;have hne:v.ownBlock≠some b:=λe=>hij (hs.inj i j b (by simp [hi]) (by simp [hj]) hb (o2 b e))
 have hfz:∀k,k<c.size->w.frozen? ⟨b,k,none⟩=false:=λk hk=>by rw [zdN g2];have:=g4 k hk;simpa using this
 have hptr:Rep w E h (.tp i o) (.pointer (some ⟨b,o,none⟩)):=q0'
 have hc0:c[o]?=some (.pointer none)\/c[o]?=some (.pointer (some ⟨b,o,none⟩)):=by
  rcases c0 with c0|c0
  ·obtain ⟨u,hu,hur⟩:=Reps.get g3 c0;simp only [Rep,RepD] at hur;subst hur;exact .inl (by simpa using hu)
  ·obtain ⟨u,hu,hur⟩:=Reps.get g3 c0;simp only [Rep] at hur;obtain ⟨b2,_,_,_,hb2,rfl⟩:=hur;rw [hb] at hb2;cases hb2;exact .inr (by simpa using hu)
 refine (zoe b o c.size T0 w v xs.length (Lib.byteCells xs) ⟨l.toArray⟩ (by rw [zac g2];exact hc0) (by rw [zac g2];exact hv1) (by simp [World.shape?,g2]) (by omega) (by rw [hcl];exact hl) (hfz o (by omega)) (hfz (o+1) hlt1) o1 hne (by simpa [ByteArray.size] using hlen)).mono ?_;rintro e w3 ⟨rfl,w1,v',w2,hw1,hown',hgrow,⟨hnew,hempty⟩,rfl⟩
 have hw1':w1=w.setCell ⟨b,o,none⟩ (.pointer (some ⟨b,o,none⟩)):=by
  rcases hw1 with ⟨rfl,hc⟩|h
  ·rw [zac g2] at hc;exact (zmN g2 hc).symm
  ·exact h
 subst hw1';obtain ⟨ch1,hs1⟩:=pokeT hs hi hb (o:=o) hptr;have hj1:hget (hset h i (.tvar T0 (cs.set o (.tp i o)))) j=some (.buf 5 xs):=by rw [zH (Ne.symm hij)];exact hj
 rw [zjQ] at hown';have hsz:(⟨l.toArray⟩:ByteArray).size=l.length:=by simp [ByteArray.size]
 rw [hsz] at hown' hempty
 obtain ⟨g',cap',hv',hg'⟩:∃ (g':Option Nat) (cap':Nat),v'.ownBlock=g'/\((v'= .slice none 0 0/\g'=none/\xs++l= [])\/∃g cur,g'=some g/\v'= .slice (some ⟨g,0,none⟩) (xs.length+l.length) cap'/\w2.heap[g]?=some (.cells cur 5 (0,0))/\xs.length+l.length<=cap'/\cap'<=maxLen/\cur.size=cap'*1/\cur.toList.take ((xs.length+l.length)*1)=Lib.byteCells xs++Lib.byteCells l)/\(l= []->g'=E.O j/\cap'=E.C j):=by
  rcases hown'.2 with ⟨rfl,hz⟩|⟨g,cap',cur,rfl,_,hx⟩
  ·refine ⟨none,E.C j,rfl,.inl ⟨rfl,rfl,?_⟩,λhl0=>⟨?_,rfl⟩⟩
   ·have h1:xs= []:=List.length_eq_zero_iff.1 (by omega);have h2:l= []:=List.length_eq_zero_iff.1 (by omega);simp [h1,h2]
   ·have hve:=hempty (by simp [hl0]);rcases o3 with ⟨_,h1⟩|⟨g,h1,_⟩
    ·exact h1.symm
    ·rw [h1] at hve;cases hve
  ·refine ⟨some g,cap',rfl,.inr ⟨g,cur,rfl,rfl,hx⟩,λhl0=>?_⟩;have hve:=hempty (by simp [hl0]);rcases o3 with ⟨h1,_⟩|⟨g2,h1,h2⟩
   ·rw [h1] at hve;cases hve
   ·rw [h1] at hve;simp only [Value.slice.injEq,Option.some.injEq,Addr.mk.injEq] at hve;obtain ⟨⟨rfl,_⟩,_,rfl⟩:=hve;exact ⟨h2.symm,rfl⟩
 obtain ⟨hg',hsame⟩:=hg'
 have ch2:Chg E (hset h i (.tvar T0 (cs.set o (.tp i o)))) (w.setCell ⟨b,o,none⟩ (.pointer (some ⟨b,o,none⟩))) (E.set j g' cap') (hset (hset h i (.tvar T0 (cs.set o (.tp i o)))) j (.buf 5 (xs++l))) w2 j:=
  zs2 hj1 g' cap' hgrow (λg hg=>o2 g hg) (by simp) (λe=>hsame (by simpa using e)) (λg hg=>by
   rcases hnew g (by rw [hv',hg]) with h1|h1
   ·exact .inl (o2 g h1)
   ·exact .inr h1)
 have hs2:=ch2.satH hs1 (λob hob=>by
  rw [zh hj1] at hob;cases hob;simp only [RepObj,Env.set,if_true];rcases hg' with ⟨_,h1,h2⟩|⟨g,cur,h1,h2,h3,h4,h5,h6,h7⟩
  ·exact .inl ⟨h1,.inl h2⟩
  ·refine .inr ⟨g,cur,5,(0,0),h1,h3,h6,by simpa using h4,?_,rfl,rfl,by unfold maxLen at h5;omega⟩;rw [Nat.mul_one] at h7;rw [List.length_append,h7];simp [Lib.byteCells])
 have hi2:hget (hset (hset h i (.tvar T0 (cs.set o (.tp i o)))) j (.buf 5 (xs++l))) i=some (.tvar T0 (cs.set o (.tp i o))):=by rw [zH hij];exact zh hi
 have hb2:(E.set j g' cap').O i=some b:=by simp [Env.set,hij,hb]
 have hrv':Rep w2 (E.set j g' cap') (hset (hset h i (.tvar T0 (cs.set o (.tp i o)))) j (.buf 5 (xs++l))) (.bsl j (xs.length+l.length)) v':=by
  simp only [Rep];rcases hg' with ⟨h0,h1,h2⟩|⟨g,cur,h1,h2,h3,h4,h5,h6,h7⟩
  ·have h3:xs.length+l.length=0:=by have:=congrArg List.length h2;simpa using this
   exact ⟨⟨_,_,_,h0⟩,_,_,zh hj1,by simp,λ_=> .inl ⟨⟨by simp [Env.set,h1],h3⟩,h0⟩⟩
  ·exact ⟨⟨_,_,_,h2⟩,_,_,zh hj1,by simp,λ_=> .inr ⟨g,by simp [Env.set,h1],by simp [Env.set,h2]⟩⟩
 obtain ⟨ch3,hs3⟩:=pokeT hs2 hi2 hb2 (o:=o+1) hrv'
 have eh:hset (hset (hset h i (.tvar T0 (cs.set o (.tp i o)))) j (.buf 5 (xs++l))) i (.tvar T0 ((cs.set o (.tp i o)).set (o+1) (.bsl j (xs.length+l.length))))=hset (hset h j (.buf 5 (xs++l))) i (.tvar T0 ((cs.set o (.tp i o)).set (o+1) (.bsl j (xs.length+l.length)))):=by rw [zmc h hij,zhp]
 refine ⟨_,_,_,_,rfl,⟨rfl,rfl⟩,eh ▸ hs3,?_,eh ▸ ((ch1.evoC (.inl (by simp [hi]))).trans ((ch2.evoC (.inl (by simp [hj1]))).trans (ch3.evoC (.inl (by simp [hi2]))))),λx y hxy=>eh ▸ ch3.rep (ch2.rep (ch1.rep hxy))⟩;simp only [Rep,Reps,RepD];refine ⟨_,rfl,_,_,rfl,?_,_,_,rfl,rfl,rfl⟩;rw [hsz]
noncomputable def gone:List UInt8:=List.replicate zid 0
theorem zoh:gone.length=zid:=by unfold gone;exact List.length_replicate ..
attribute [irreducible] gone
theorem zs3 {o:Nat} {T:TypeId} {cs:List AV} {xs:List UInt8} {n:Nat} (hi:hget h i=some (.tvar T cs)) (c1:cs[o+1]?=some (.bsl j n)) (hj:hget h j=some (.buf 5 xs)) (hn:n=xs.length) (hlen:xs.length<=140737488355328):
  ACallAt Tryz.prog fl 168 [.tp i o] h (λr h'=>r= .d (.str xs)/\h'=hset h j (.buf 5 gone)):=by
 refine ⟨zdn Tryz.func168 (by kernel_rfl) rfl,λE w vs hs hr=>?_⟩;simp only [Reps] at hr;obtain ⟨v0,r0,e0,q0,rfl⟩:=hr;have q0':=q0;simp only [Rep] at q0;obtain ⟨b,T',cs',hi',hb,rfl⟩:=q0;rw [hi] at hi';cases hi';have hvs:vs= #[.pointer (some ⟨b,o,none⟩)]:=by cases vs;simpa using e0
 subst hvs;have hob:=hs.heap i _ hi;simp only [RepObj] at hob;obtain ⟨b',c,T0,fz,g1,g2,g3,g4,rfl⟩:=hob;rw [hb] at g1;cases g1;obtain ⟨v,hv0,hv⟩:=Reps.get g3 c1;have hv1:c[o+1]?=some v:=by simpa using hv0
 obtain ⟨o1,o2,o3⟩:=zs1 hs hj hv hn;refine (zmM b o w v xs (by rw [zac g2];exact hv1) o1).mono ?_;rintro e w3 ⟨rfl,hgrow⟩;have hgl:=zoh;have hdl:zid=9223372036854775808:=rfl
 have ch:Chg E h w (E.set j none 0) (hset h j (.buf 5 gone)) w3 j:=
  zs2 hj none 0 hgrow (λg hg=>o2 g hg) (by omega) (λe=>by omega) (λg hg=>by cases hg)
 have hs2:=ch.satH hs (λob hob=>by rw [zh hj] at hob;cases hob;simp only [RepObj,Env.set,if_true];exact .inl ⟨trivial,.inr hgl⟩)
 exact ⟨_,_,_,_,rfl,⟨rfl,rfl⟩,hs2,by simp only [Rep,RepD],ch.evoC (.inl (by simp [hj])),λx y hxy=>ch.rep hxy⟩
theorem zs4 {cx:Cx} {c:Code} {Q:Exit->AS->Prop} {s:AS} (i o:Nat) {T:TypeId} {cs:List AV} (hi:hget s.h i=some (.tvar T cs)) (ho:cs[o]?=some (.nils 1))
    (h:AW cx c Q { s with h:=(fresh cx.fl s.h,.buf 5 [])::hset s.h i (.tvar T (cs.set o (.bsl (fresh cx.fl s.h) 0))) }):AW cx c Q s:=λE a w hs=>by
  have hne:fresh cx.fl s.h≠i:=λe=>by have:=zcO cx.fl s.h;rw [e,hi] at this;cases this
  have cc:Chg E s.h w (E.set (fresh cx.fl s.h) none 0) ((fresh cx.fl s.h,.buf 5 [])::s.h) w (fresh cx.fl s.h):=
    { os:=rfl,tape:=rfl,output:=rfl,size:=Nat.le_refl _,envO:=λj e=>by simp [Env.set,e],envC:=λj e=>by simp [Env.set,e],M:=rfl,N:=rfl,hh:=λj e=>by simp [hget,Ne.symm e],
      gi:=by simp [GoesOn,zcO]
      blk:=λb hb _=>rfl
      new:=λb _ hb=>by simp [Env.set] at hb }
  have hs1:=cc.sat (t:=s.t) (g:=s.g) hs (λo ho=>by simp [hget] at ho;subst ho;simp only [RepObj];exact .inl ⟨by simp [Env.set],.inl trivial⟩)
  have hi1:hget ((fresh cx.fl s.h,.buf 5 [])::s.h) i=some (.tvar T cs):=by simp [hget,hne,hi]
  have e1:(fresh cx.fl s.h,AObj.buf 5 [])::hset s.h i (.tvar T (cs.set o (.bsl (fresh cx.fl s.h) 0)))=hset ((fresh cx.fl s.h,.buf 5 [])::s.h) i (.tvar T (cs.set o (.bsl (fresh cx.fl s.h) 0))):=by simp [hset,hne]
  obtain ⟨E1,hE1⟩:∃E1,E1=E.set (fresh cx.fl s.h) none 0:=⟨_,rfl⟩
  rw [<-hE1] at hs1 cc;obtain ⟨b,c',T',fz,g1,g2,g3,g4,g5⟩:=hs1.hp.tvar hi1;have ch:=zkJ (w:=w) hs1.hp hi1 (cs':=cs.set o (.bsl (fresh cx.fl s.h) 0)) (by simp) g1 (.cells c' T' fz);rw [zpy g2] at ch
  have hs2:=ch.sat (t:=s.t) (g:=s.g) hs1 (λob hob=>by
    rw [zh hi1] at hob;cases hob;simp only [RepObj];refine ⟨b,c',T',fz,g1,g2,?_,g4,g5⟩;obtain ⟨v,hv,hvr⟩:=Reps.get g3 ho;simp only [Rep] at hvr;subst hvr
    have:=g3.set (i:=o) (a:= .bsl (fresh cx.fl s.h) 0) (v:= .slice none 0 0) (by simp only [Rep];refine ⟨⟨_,_,_,rfl⟩,5,[],by simp [hget],by simp,λ_=> .inl ⟨⟨by simp [hE1,Env.set],trivial⟩,trivial⟩⟩)
    have e2:c'.toList.set o (.slice none 0 0)=c'.toList:=by obtain ⟨hlt,he⟩:=List.getElem?_eq_some_iff.1 hv;rw [<-he,List.set_getElem_self]
    rw [e2] at this;exact ch.reps this)
  rw [<-e1] at hs2;refine wpIn_mono (h _ a w hs2) (λ_ _ _ hr=>hr.trans (Evo.trans (cc.evo (.inr (zbb _ _))) ?_));rw [e1];exact ch.evo (.inl (by simp [hi1]))
end
open Go Go.Proofs
abbrev Txt:=List UInt8
abbrev PutR:=Int×Txt
def putD (q:PutR):List D:= [.int .i64 q.1,.str q.2]
theorem zk8:∀a b,putD a=putD b->a=b:=by rintro ⟨a,b⟩ ⟨a',b'⟩ h;simpa [putD] using h
structure Disk where
 data:Txt
 cache:List PutR
 fuse:Int
 off:Bool
 bad:List Int
 deriving DecidableEq
def diskA (d:Disk):AV:= .agg [.d (.str d.data),.d (.sl 2 (d.cache.map putD)),.d (.int .i64 d.fuse),.d (.bool d.off),.d (.sl 1 (d.bad.map intD))]
attribute [go_sem] diskA
def diskC (d:Disk):List AV:= [.d (.str d.data),.d (.sl 2 (d.cache.map putD)),.d (.int .i64 d.fuse),.d (.bool d.off),.d (.sl 1 (d.bad.map intD))]
attribute [go_sem] diskC
theorem zuz (d:Disk):Disk.mk d.data d.cache d.fuse d.off d.bad=d:=rfl
noncomputable def zu:PT Disk:=aggT (consL strT (consL (slT 2 putD zk8) (consL (intT .i64) (consL boolT (consL (slT 1 intD zc7) nilL))))) (λp=>⟨p.1,p.2.1,p.2.2.1,p.2.2.2.1,p.2.2.2.2.1⟩) (λx=>(x.data,x.cache,x.fuse,x.off,x.bad,())) (λ_=>rfl)
attribute [go_sem] zu
noncomputable def zsb:PT Disk:=dpT (consL strT (consL (slT 2 putD zk8) (consL (intT .i64) (consL boolT (consL (slT 1 intD zc7) nilL))))) (λp=>⟨p.1,p.2.1,p.2.2.1,p.2.2.2.1,p.2.2.2.2.1⟩) (λx=>(x.data,x.cache,x.fuse,x.off,x.bad,())) (λ_=>rfl)
attribute [go_sem] zsb
attribute [go_sem] zuz
structure DiskOk (d:Disk):Prop where
 data:d.data.length<=9223372036854775807
 cache:d.cache.length<=9223372036854775807
 bad:d.bad.length<=9223372036854775807
 fuse0: -9223372036854775808<=d.fuse
 fuse1:d.fuse<=9223372036854775807
def dsize (d:Disk):Nat:=d.data.length / 64
def there (d:Disk) (at_:Int):Bool:=decide (0<=at_)&&decide (at_<(dsize d:Int))
theorem there_iff {d:Disk} {at_:Int} :there d at_=true↔0<=at_/\at_<((d.data.length / 64:Nat):Int):=by rw [there,Bool.and_eq_true];exact and_congr decide_eq_true_iff decide_eq_true_iff
def zc8 (d:Disk):List Int->Option Int->Bool
 | [],_=>true
 |a::l,p=>there d a&&(match p with|none=>true|some b=>decide (b<a))&&zc8 d l (some a)
def putOk (d:Disk) (q:PutR):Bool:=there d q.1&&((q.2.length:Int)==64)
def dfit (d:Disk):Bool:=
 decide (1<=dsize d)&&decide (dsize d<=1024)&&(d.data.length % 64==0)&&decide (d.cache.length<=4096)&&d.cache.all (putOk d)&&zc8 d d.bad none
def isPut (at_:Int) (q:PutR):Bool:=q.1==at_
def sees (d:Disk) (at_:Int):Txt:=
 match d.cache.reverse.find? (isPut at_) with
 |some q=>q.2
 |none=>(d.data.drop (at_*64).toNat).take 64
def dread (d:Disk) (at_:Int):Txt×Int:=
 if d.off then ([],12) else if !there d at_ then ([],10) else if d.bad.contains at_ then ([],13) else (sees d at_,0)
def burnt (d:Disk):Disk:=if 0<d.fuse then { d with fuse:=d.fuse - 1 } else d
def zM (d:Disk) (at_:Int) (s:Txt):Disk×Int:=
 if d.off then (d,12) else if !there d at_ then (d,10) else if (s.length:Int)≠64 then (d,11)
 else if d.fuse=0 then ({ d with off:=true },12) else if d.bad.contains at_ then (d,13) else if 4096<=(d.cache.length:Int) then (d,16)
 else (burnt { d with cache:=d.cache++ [(at_,s)] },0)
def lay (b:Txt) (at_:Nat) (s:Txt):Txt:=b.take at_++s++b.drop (at_+s.length)
def zcA (b:Txt) (l:List PutR):Txt:=l.foldl (λb q=>lay b (q.1*64).toNat q.2) b
def dflush (d:Disk):Disk×Int:=
 if d.off then (d,12) else if d.fuse=0 then ({ d with off:=true },12)
 else (burnt { d with data:=zcA d.data d.cache,cache:= [] },0)
def dnew (n:Int):Disk×Int:=if n<1\/1024<n then (⟨[],[],0,false,[]⟩,11) else (⟨List.replicate (n*64).toNat 0,[], -1,false,[]⟩,0)
theorem zwj {n:Nat} (h:n<=9223372036854775807):IntKind.i64.wrap ((n:Int).tdiv 64)=((n / 64:Nat):Int):=by
 rw [Int.tdiv_eq_ediv_of_nonneg (by omega),IntKind.wrap_i64];omega
theorem zpj {d:Disk} (h:DiskOk d):DiskOk (burnt d):=by
 obtain ⟨h1,h2,h3,h4,h5⟩:=h;unfold burnt;split
 ·exact ⟨h1,h2,h3,by simp only;omega,by simp only;omega⟩
 ·exact ⟨h1,h2,h3,h4,h5⟩
open Go Go.Proofs
theorem zsc (d:Disk) (hd:DiskOk d):AC 93 [diskA d] (.d (.int .i64 (dsize d))):=by refine bod Tryz.func93 Tryz.ntmps93 (λbase=>?_);refine' zc (zwj hd.data);rfl
@[go_sem] noncomputable def zbs:Ent Tryz.prog 93:= .m1 zu zsc
theorem zqe (d:Disk) (at_:Int) (hd:DiskOk d):AC 153 [diskA d,.d (.int .i64 at_)] (.d (.bool (there d at_))):=by refine bod Tryz.func153 Tryz.ntmps153 (λbase=>?_);refine' walkW fx (za zbs <| zb _);rfl
@[go_sem] noncomputable def zbK:Ent Tryz.prog 153:= .m2 zu (intT .i64) zqe
theorem zuB (d:Disk) (at_:Int) (hd:DiskOk d):AC 170 [diskA d,.d (.int .i64 at_)] (.d (.bool (d.bad.contains at_))):=by
 refine bod Tryz.func170 Tryz.ntmps170 (λbase=>?_);refine' zc fx;have hb:=hd.bad;refine zq (λq: { i:Nat // i<=d.bad.length/\d.bad.contains at_=(d.bad.drop i).contains at_ } =>⟨[(1,true,.d (.int .i64 at_)),(2,true,.vp 0 0),(5,true,.d (.int .i64 q.1))],[(0,.var [.d (.str d.data),.d (.sl 2 (d.cache.map putD)),.d (.int .i64 d.fuse),.d (.bool d.off),.d (.sl 1 (d.bad.map intD))])],some []⟩) (λq=>d.bad.length - q.1) ⟨0,Nat.zero_le _,rfl⟩ le1 (λq=>?_);obtain ⟨i,hi,hf⟩:=q;simp only at hi hf ⊢;rcases zP intD d.bad i hi with ⟨m,hq,hlt,hcmp,hrow,hdr,htk⟩|⟨hend,hcmp⟩
 ·simp only [intD] at hrow;have hwi:=zr (i:=i) (by omega);rw [hdr,List.contains_cons] at hf;refine' zc (zn hcmp hrow)
  ·rw [hf,BEq.comm,hc];rfl
  ·rw [BEq.comm,hc,Bool.false_or] at hf;exact ⟨⟨i+1,by omega,hf⟩,lew,by simp;omega⟩
 ·refine' zc hcmp;rw [hf,hend,List.drop_length];rfl
@[go_sem] noncomputable def zhe:Ent Tryz.prog 170:= .m2 zu (intT .i64) zuB
theorem zqf (d:Disk) (hd:DiskOk d):AC 171 [diskA d] (diskA (burnt d)):=by
 refine fbod Tryz.func171 Tryz.ntmps171 (λbase=>?_);have h1:=hd.fuse1;refine' zc fx
 ·have h0:0<d.fuse:=by simpa using hc
  rw [burnt,if_pos h0,zg (by omega) (by omega)]
 ·have h0:¬0<d.fuse:=by simpa using hc
  rw [burnt,if_neg h0]
@[go_sem] noncomputable def zec:Ent Tryz.prog 171:= .m1 zu zqf
theorem zuC {l:List PutR} {i:Nat} {q:PutR} {at_:Int} (hq:l[i]?=some q):(l.take (i+1)).reverse.find? (isPut at_)=if q.1=at_ then some q else (l.take i).reverse.find? (isPut at_):=by
 rw [zb7 hq,List.reverse_append,List.reverse_singleton,List.singleton_append,List.find?_cons];by_cases h:q.1=at_
 ·simp [isPut,h]
 ·have:isPut at_ q=false:=by simp [isPut,h]
  rw [this,if_neg h]
theorem zsd (d:Disk) (at_:Int) (hp:DiskOk d/\there d at_=true):AC 209 [diskA d,.d (.int .i64 at_)] (.d (.str (sees d at_))):=by
 obtain ⟨hd,ht⟩:=hp;refine bod Tryz.func209 Tryz.ntmps209 (λbase=>?_);refine' zc fx;have hcl:=hd.cache;have hdl:=hd.data;have hw0:IntKind.i64.wrap ((d.cache.length:Int) - 1)=(d.cache.length:Int) - 1:=zg (by omega) (by omega);refine zq (λq: { i:Nat // i<=d.cache.length/\d.cache.reverse.find? (isPut at_)=(d.cache.take i).reverse.find? (isPut at_) } =>⟨[(1,true,.d (.int .i64 at_)),(2,true,.vp 0 0),(5,true,.d (.int .i64 ((q.1:Int) - 1)))],[(0,.var [.d (.str d.data),.d (.sl 2 (d.cache.map putD)),.d (.int .i64 d.fuse),.d (.bool d.off),.d (.sl 1 (d.bad.map intD))])],some []⟩) (λq=>q.1) ⟨d.cache.length,Nat.le_refl _,by rw [zgz]⟩ (by simp only [AS.le,leT,leH,zf,AsgK,AV.le,AV.leL,AObj.le,inH,idsT,idsH,AV.ids,AV.idsL,AV.idsR,AObj.ids,lk,hget,go_sem,aeq,aeq.aeqF,simprocAttr,hw0]) (λq=>?_);obtain ⟨i,hi,hf⟩:=q;simp only at hi hf ⊢;cases i with
 | zero=>
  have hz:decide ((0:Int)<=((0:Nat):Int) - 1)=false:=by decide
  obtain ⟨ht0,ht1⟩:=there_iff.mp ht;have hm:IntKind.i64.wrap (at_*64)=at_*64:=zg (by omega) (by omega);have hm1:IntKind.i64.wrap (at_+1)=at_+1:=zg (by omega) (by omega);have hm2:IntKind.i64.wrap ((at_+1)*64)=(at_+1)*64:=zg (by omega) (by omega)
  have hs:(d.data.take ((at_+1)*64).toNat).drop (at_*64).toNat=sees d at_:=by rw [sees,hf,List.take_zero,List.reverse_nil,List.find?_nil,List.drop_take];congr 1;omega
  refine' zc (zbj hz hm hm1 hm2 hs)
 | succ i=>
  have hz:decide ((0:Int)<=((i+1:Nat):Int) - 1)=true:=decide_eq_true (by omega);have hi1:(((i+1:Nat):Int) - 1)=(i:Int):=by omega
  have hwi:IntKind.i64.wrap ((i:Int) - 1)=(i:Int) - 1:=zg (by omega) (by omega);obtain ⟨⟨n,s⟩,hq⟩:=zas (l:=d.cache) (i:=i) (by omega);have hrow:=zco (g:=putD) hq;simp only [putD] at hrow;rw [zuC hq] at hf;refine' zc (zah hz hi1 hrow natC)
  ·have hn:n=at_:=by simpa using hc
   rw [sees,hf,if_pos hn]
  ·have hn:¬n=at_:=by simpa using hc
   rw [if_neg hn] at hf;exact ⟨⟨i,by omega,hf⟩,lew,by simp⟩
@[go_sem] noncomputable def zgl:Ent Tryz.prog 209:= .m2 zu (intT .i64) zsd
open Go Go.Proofs
theorem zse (d:Disk) (at_:Int) (hd:DiskOk d):AC 149 [diskA d,.d (.int .i64 at_)] (.tup [.d (.str (dread d at_).1),.d (.int .i64 (dread d at_).2)]):=by refine bod Tryz.func149 Tryz.ntmps149 (λbase=>?_);refine' walkW fx (za zbK <| za zhe <| za zec <| za zgl <| zb _);all_goals simp_all [dread]
@[go_sem] noncomputable def ziE:Ent Tryz.prog 149:= .m2 zu (intT .i64) zse
theorem zbt (l:List UInt8):(zj l).all zl3=true:=by
 simp [zj,zfk,zl3,List.all_map]
theorem zap (l:List UInt8):bytesOf (zj l)=l:=by
 unfold bytesOf zj;rw [List.map_map]
 have:((λr=>UInt8.ofNat (numOf r).toNat) ∘ zfk)=id:=by funext b;simp [zfk,numOf]
 rw [this,List.map_id]
theorem zex (m:Nat):List.replicate m [D.int .u8 0]=zj (List.replicate m 0):=by
 rw [zj,List.map_replicate];rfl
theorem ziF (m:Nat):List.take m (zj (List.replicate m 0))=zj (List.replicate m 0):=by
 exact List.take_of_length_le (by simp [zj])
theorem zla (m:Nat):(m=(zj (List.replicate m 0)).length)=True:=by
 simp [zj]
theorem zuD (n:Int) (_:True):AC 103 [.d (.int .i64 n)] (.tup [diskA (dnew n).1,.d (.int .i64 (dnew n).2)]):=by
 refine fbod Tryz.func103 Tryz.ntmps103 (λbase=>?_);by_cases h:n<1\/1024<n
 ·have hdec:(decide (n<1)||decide (1024<n))=true:=by simpa using h
  refine' zc hdec;rw [dnew,if_pos h];rfl
 ·have hdec:(decide (n<1)||decide (1024<n))=false:=by simpa using h
  have hm:IntKind.i64.wrap (n*64)=n*64:=zg (by omega) (by omega);refine' zc (zL hdec hm @zex @ziF @zla @if_true.{1})
  ·exact zbt _
  ·rw [dnew,if_neg h,zap];rfl
@[go_sem] noncomputable def zqg:Ent Tryz.prog 103:= .m1 (intT .i64) zuD
theorem zqh (d:Disk) (at_:Int) (s:Txt) (hd:DiskOk d):AC 100 [diskA d,.d (.int .i64 at_),.d (.str s)] (.tup [diskA (zM d at_ s).1,.d (.int .i64 (zM d at_ s).2)]):=by
 refine fbod Tryz.func100 Tryz.ntmps100 (λbase=>?_);refine' zgF (zav 17) fx (za zbK <| za zhe <| za zec <| za zgl <| zb _);all_goals first|(simp_all [zM];done)|(simp_all;omega)|skip
 have hk:DiskOk { d with cache:=d.cache++ [(at_,s)] } :=⟨hd.data,by simp_all;omega,hd.bad,hd.fuse0,hd.fuse1⟩
 have hr:d.cache.map putD++ [[.int .i64 at_,.str s]]=(d.cache++ [(at_,s)]).map putD:=by simp [putD]
 have hl:(d.cache.length+1=(d.cache++ [(at_,s)]).length)=True:=by simp
 have htk:List.take (d.cache.length+1) ((d.cache++ [(at_,s)]).map putD)=(d.cache++ [(at_,s)]).map putD:=List.take_of_length_le (by simp);refine zaN 2 rfl ?_;simp only [go_sem,aeq,aeq.aeqF,simprocAttr,hr,hl,htk];refine' walkW fx (za zbK <| za zhe <| za zec <| za zgl <| zb _);clear hr hl htk hk;by_cases h6:4096<=(d.cache.length:Int)
 ·exfalso;simp_all
 ·simp only [zM,if_neg h6];simp_all
@[go_sem] noncomputable def zbL:Ent Tryz.prog 100:= .m3 zu (intT .i64) strT zqh
theorem zpk (b:Txt) (k:Nat) (s:Txt):rput (zj b) k (zj s)=zj (lay b k s):=by
 simp [rput,lay,zj,List.map_append,List.map_take,List.map_drop]
theorem zlb {b:Txt} {k:Nat} {s:Txt} (h:k+s.length<=b.length):(lay b k s).length=b.length:=by
 simp [lay];omega
theorem zmi {b:Txt} {l:List PutR} {i:Nat} {q:PutR} (hq:l[i]?=some q):zcA b (l.take (i+1))=lay (zcA b (l.take i)) (q.1*64).toNat q.2:=by
 simp [zcA,zb7 hq,List.foldl_append]
theorem zwk {d:Disk} {i:Nat} {q:PutR} (hf:d.cache.all (putOk d)=true) (hq:d.cache[i]?=some q):0<=q.1/\q.1<((d.data.length / 64:Nat):Int)/\q.2.length=64:=by have:=List.all_eq_true.1 hf q (List.mem_of_getElem? hq);rw [putOk,Bool.and_eq_true] at this;obtain ⟨h1,h2⟩:=this;exact ⟨(there_iff.1 h1).1,(there_iff.1 h1).2,by have:=eq_of_beq h2;omega⟩
theorem zsf (d:Disk) (hd:DiskOk d) (hf:d.cache.all (putOk d)=true):ACall Tryz.prog 175 0 [diskA d,.d (.bool true),.d (.sl 1 [])] [] (λr _=>r= .d (.str (zcA d.data d.cache))):=by
 refine fbod Tryz.func175 Tryz.ntmps175 (λbase=>?_);refine' zc fx;have hcl:=hd.cache;have hdl:=hd.data;refine zq (λq: { q:Nat×Txt // q.1<=d.cache.length/\q.2=zcA d.data (d.cache.take q.1)/\q.2.length=d.data.length } =>⟨[(1,true,.d (.bool true)),(2,true,.d (.sl 1 [])),(3,true,.vp 0 0),(7,true,.osl 1 1 (List.length d.data) 0 (List.length d.data)),(8,true,.d (.int .i64 q.1.1))],[(1,.arr 1 (zj q.1.2)),(0,.var [.d (.str d.data),.d (.sl 2 (d.cache.map putD)),.d (.int .i64 d.fuse),.d (.bool d.off),.d (.sl 1 (d.bad.map intD))])],some []⟩) (λq=>d.cache.length - q.1.1) ⟨(0,d.data),Nat.zero_le _,rfl,rfl⟩ le1 (λq=>?_);obtain ⟨⟨i,b⟩,hi,hb,hbl⟩:=q;simp only at hi hb hbl ⊢;rcases zP putD d.cache i hi with ⟨⟨m,s⟩,hq,hlt,hcmp,hrow,hdr,htk⟩|⟨hend,hcmp⟩
 ·simp only [putD] at hrow;obtain ⟨p1,p2,p3⟩:=zwk hf hq;simp only at p1 p2 p3;have hwi:=zr (i:=i) (by omega);have hwm:IntKind.i64.wrap (m*64)=m*64:=zg (by omega) (by omega);have hst:=zmi (b:=d.data) hq;rw [<-hb] at hst;have hll:(lay b (m*64).toNat s).length=b.length:=zlb (by omega);have hb0:(zj b).length=d.data.length:=by rw [zj,List.length_map,hbl]
  refine' zc (zbj hcmp hrow hwm @zpk hb0)
  ·rw [zj,List.length_map];omega
  ·exact ⟨⟨(i+1,lay b (m*64).toNat s),by omega,hst.symm,hll.trans hbl⟩,lew,by simp;omega⟩
 ·have hb1:(d.data.length=(zj b).length)=True:=eq_true (by rw [zj,List.length_map,hbl]);have hb2:List.take d.data.length (zj b)=zj b:=List.take_of_length_le (by rw [zj,List.length_map,hbl];omega);refine' zc (zL hcmp hb1 hb2 @if_true.{1} @zap @zbt);rw [hb,hend,zgz]
@[go_sem] noncomputable def znM:Ent Tryz.prog 175:= .ofL (consL zu (consL (zew (.d (.bool true))) (consL (zew (.d (.sl 1 []))) nilL))) (λ(d,_,_,_)=>(DiskOk d)/\(d.cache.all (putOk d)=true)) (λ(d,_,_,_)=> .d (.str (zcA d.data d.cache))) (λ(d,_,_,_) hp=>⟨rfl,zsf d hp.1 hp.2⟩)
theorem ziG {d:Disk} :∀ (l:List PutR) (b:Txt),b.length=d.data.length->l.all (putOk d)=true->(zcA b l).length=b.length
 | [],_,_,_=>rfl
 |q::l,b,hb,h=>by
  rw [List.all_cons,Bool.and_eq_true] at h;obtain ⟨h1,h2⟩:=h;rw [putOk,Bool.and_eq_true] at h1;have h3:=there_iff.1 h1.1;have h4:q.2.length=64:=by have:=eq_of_beq h1.2;omega
  have h5:(lay b (q.1*64).toNat q.2).length=b.length:=zlb (by omega);rw [zcA,List.foldl_cons];exact (ziG l _ (h5.trans hb) h2).trans h5
theorem zhf {d:Disk} (h:d.cache.all (putOk d)=true):(zcA d.data d.cache).length=d.data.length:=ziG (d:=d) _ _ rfl h
theorem zqi (d:Disk) (hp:DiskOk d/\d.cache.all (putOk d)=true):AC 107 [diskA d] (.tup [diskA (dflush d).1,.d (.int .i64 (dflush d).2)]):=by
 obtain ⟨hd,hf⟩:=hp;refine fbod Tryz.func107 Tryz.ntmps107 (λbase=>?_);have hk:DiskOk { d with data:=zcA d.data d.cache,cache:= [] } :=⟨by simp only [zhf hf];exact hd.data,by simp,hd.bad,hd.fuse0,hd.fuse1⟩
 refine' walkW fx (za znM <| za zec <| zb _);all_goals simp_all [dflush]
@[go_sem] noncomputable def zbM:Ent Tryz.prog 107:= .m1 zu zqi
open Go Go.Proofs
theorem zsg {n:Nat} :((n:Int).tmod 64 !=0)= !(n % 64==0):=by
 rw [Int.tmod_eq_emod_of_nonneg (by omega)];by_cases h:n % 64=0
 ·have:(n:Int) % 64=0:=by omega
  simp [h,this]
 ·have:¬(n:Int) % 64=0:=by omega
  rw [bne,beq_eq_false_iff_ne.mpr this,beq_eq_false_iff_ne.mpr h]
theorem zwl {x:Bool} {n m:Int} :(!x||(n !=m))= !(x&&(n==m)):=by
 rw [Bool.not_and];rfl
theorem or_le {x:Bool} {n m:Int} :(!x||decide (n<=m))= !(x&&decide (m<n)):=by
 rw [Bool.not_and];congr 1;by_cases h:m<n
 ·rw [decide_eq_true h,decide_eq_false (by omega)];rfl
 ·rw [decide_eq_false h,decide_eq_true (by omega)];rfl
theorem zuE (d:Disk) (hd:DiskOk d):AC 78 [diskA d] (.d (.bool (dfit d))):=by
 refine bod Tryz.func78 Tryz.ntmps78 (fun base=>?_)
 refine' walkW fx (za zbs <| za zbK <| zb _)
 ·rw [zsg] at hc
  rw [dfit]
  simp only [Bool.or_eq_true,decide_eq_true_eq,Bool.not_eq_true'] at hc
  congr 2
  rcases hc with ((hc|hc)|hc)|hc
  ·rw [decide_eq_false (p:=1≤dsize d) (by omega)];simp
  ·rw [decide_eq_false (p:=dsize d≤1024) (by omega)];simp
  ·rw [hc];simp
  ·rw [decide_eq_false (p:=d.cache.length≤4096) (by omega)];simp
 have hcl:=hd.cache
 have hbl:=hd.bad
 rw [zsg] at hc
 simp only [Bool.or_eq_false_iff,decide_eq_false_iff_not,Bool.not_eq_false'] at hc
 have hfit:dfit d=(d.cache.all (putOk d)&&zc8 d d.bad none):=by
  rw [dfit,hc.1.2,decide_eq_true (p:=1≤dsize d) (by omega),decide_eq_true (p:=dsize d≤1024) (by omega),decide_eq_true (p:=d.cache.length≤4096) (by omega)]
  simp
 refine zq (fun q: { i:Nat // i≤d.cache.length∧d.cache.all (putOk d)=(d.cache.drop i).all (putOk d) } =>⟨[(1,true,.vp 0 0),(4,true,.d (.int .i64 q.1))],[(0,(.var [.d (.str d.data),.d (.sl 2 (d.cache.map putD)),.d (.int .i64 d.fuse),.d (.bool d.off),.d (.sl 1 (d.bad.map intD))]))],some []⟩) (fun q=>d.cache.length - q.1) ⟨0,Nat.zero_le _,rfl⟩ le1 (fun q=>?_)
 obtain ⟨i,hi,hf⟩:=q
 simp only at hi hf ⊢
 rcases zP putD d.cache i hi with ⟨⟨m,s⟩,hq,hlt,hcmp,hrow,hdr,htk⟩|⟨hend,hcmp⟩
 ·simp only [putD] at hrow
  have hwi:=zr (i:=i) (by omega)
  rw [hdr,List.all_cons,putOk] at hf
  refine' walkW (zn hcmp hrow) (za zbs <| za zbK <| zb _)
  ·have hc:(there d m&&((s.length:Int)==64))=false:=by rw [zwl] at hc;simp only [Bool.not_eq_true',Bool.not_eq_false'] at hc;exact hc
   rw [hfit,hf]
   simp only [hc,Bool.false_and]
  ·have hc:(there d m&&((s.length:Int)==64))=true:=by rw [zwl] at hc;simp only [Bool.not_eq_true',Bool.not_eq_false'] at hc;exact hc
   exact ⟨⟨i+1,by omega,by rw [hf];simp only [hc,Bool.true_and]⟩,lew,by simp;omega⟩
 ·rw [hend,List.drop_length] at hf
  refine' zc hcmp
  refine zq (fun q: { i:Nat // i≤d.bad.length∧zc8 d d.bad none=zc8 d (d.bad.drop i) (if i=0 then none else d.bad[i - 1]?) } =>⟨[(1,true,.vp 0 0),(5,true,.d (.int .i64 q.1))],[(0,(.var [.d (.str d.data),.d (.sl 2 (d.cache.map putD)),.d (.int .i64 d.fuse),.d (.bool d.off),.d (.sl 1 (d.bad.map intD))]))],some []⟩) (fun q=>d.bad.length - q.1) ⟨0,Nat.zero_le _,rfl⟩ le1 (fun q=>?_)
  obtain ⟨j,hj,hg⟩:=q
  simp only at hj hg ⊢
  rcases zP intD d.bad j hj with ⟨m,hq,hlt,hcmp,hrow,hdr,htk⟩|⟨hend,hcmp⟩
  ·simp only [intD] at hrow
   have hwi:=zr (i:=j) (by omega)
   rw [hdr] at hg
   cases j with
   | zero=>
    have hz:decide ((0:Int)<((0:Nat):Int))=false:=by decide
    simp only [if_pos,zc8,Bool.and_true] at hg
    have hcmp0:decide ((0:Int)<(d.bad.length:Int))=true:=hcmp
    refine' walkW (zB hcmp0 hrow hz) (za zbs <| za zbK <| zb _)
    ·have hc:there d m=false:=by simpa using hc
     rw [hfit,hg,hc,Bool.false_and,Bool.and_false]
    ·have hc:there d m=true:=by simpa using hc
     rw [hc,Bool.true_and] at hg
     exact ⟨⟨0+1,by omega,by rw [if_neg (by omega),Nat.zero_add,Nat.sub_self,hq];exact hg⟩,lev,by simp;omega⟩
   | succ j=>
    have hz:decide ((0:Int)<((j+1:Nat):Int))=true:=decide_eq_true (by omega)
    obtain ⟨m',hq'⟩:=zas (l:=d.bad) (i:=j) (by omega)
    have hrow':=zco (g:=intD) hq'
    simp only [intD] at hrow'
    have hwj:IntKind.i64.wrap (((j+1:Nat):Int) - 1)=(j:Int):=by rw [zg (by omega) (by omega)];omega
    rw [if_neg (by omega),Nat.add_sub_cancel,hq'] at hg
    simp only [zc8] at hg
    refine' walkW (zbj hcmp hrow hz hrow' hwj) (za zbs <| za zbK <| zb _)
    ·have hc:(there d m&&decide (m'<m))=false:=by rw [or_le] at hc;simp only [Bool.not_eq_true',Bool.not_eq_false'] at hc;exact hc
     rw [hfit,hg,hc,Bool.false_and,Bool.and_false]
    ·have hc:(there d m&&decide (m'<m))=true:=by rw [or_le] at hc;simp only [Bool.not_eq_true',Bool.not_eq_false'] at hc;exact hc
     rw [hc,Bool.true_and] at hg
     exact ⟨⟨j+1+1,by omega,by rw [if_neg (by omega),Nat.add_sub_cancel,hq];exact hg⟩,lew,by simp;omega⟩
  ·rw [hend,List.drop_length] at hg
   refine' zc hcmp
   rw [hfit,hf,hg]
   rfl
@[go_sem] noncomputable def zey:Ent Tryz.prog 78:= .m1 zu zuE
open Go Go.Proofs
def idxP {α:Type} (p:α->Bool):List α->Nat->Int
 | [],_=> -1
 |q::l,k=>if p q=true then (k:Int) else idxP p l (k+1)
abbrev Idst {α:Type} (p:α->Bool) (l:List α):= { i:Nat // i<=l.length/\idxP p l 0=idxP p (l.drop i) i }
theorem zhg {α:Type} (p:α->Bool):∀ (l:List α) (k:Nat),decide ((0:Int)<=idxP p l k)=l.any p
 | [],k=>rfl
 |q::l,k=>by
  rw [idxP,List.any_cons];by_cases h:p q=true
  ·rw [if_pos h,h,decide_eq_true (by omega)];rfl
  ·rw [if_neg h,zhg p l (k+1)];simp [h]
theorem zhL {α:Type} [BEq α] [LawfulBEq α] (x:α):∀ (l:List α),l.any (λq=>x==q)=l.contains x
 | []=>rfl
 |q::l=>by rw [List.any_cons,zhL x l,List.contains_cons]
theorem znN (l:List Int) (x:Int) (hl:l.length<=9223372036854775807):AC 195 [.d (.sl 1 (l.map intD)),.d (.int .i64 x)] (.d (.int .i64 (idxP (λq=>x==q) l 0))):=by
 refine bod Tryz.func195 Tryz.ntmps195 (λbase=>?_);refine' zc fx;refine zq (λq:Idst (λq=>x==q) l=>⟨[(0,true,.d (.sl 1 (l.map intD))),(1,true,.d (.int .i64 x)),(7,true,.d (.int .i64 l.length)),(8,true,.d (.int .i64 q.1))],[],some []⟩) (λq=>l.length - q.1) ⟨0,Nat.zero_le _,rfl⟩ le1 (λq=>?_);obtain ⟨i,hi,hf⟩:=q;simp only at hi hf ⊢;rcases zP intD l i hi with ⟨m,hq,hlt,hcmp,hrow,hdr,htk⟩|⟨hend,hcmp⟩
 ·simp only [intD] at hrow;have hwi:=zr (i:=i) (by omega);refine' zc (zn hcmp hrow)
  ·rw [hf,hdr,idxP,if_pos (by simpa using hc)]
  ·exact ⟨⟨i+1,by omega,by rw [hf,hdr,idxP,if_neg (by simpa using hc)]⟩,lew,by simp;omega⟩
 ·refine' zc hcmp;rw [hf,hend,List.drop_length];rfl
@[go_sem] noncomputable def zbu:Ent Tryz.prog 195:= .m2 (slT 1 intD zc7) (intT .i64) znN
theorem zjI (l:List Int) (x:Int) (hl:l.length<=9223372036854775807):AC 207 [.d (.sl 1 (l.map intD)),.d (.int .i64 x)] (.d (.bool (l.contains x))):=by refine bod Tryz.func207 Tryz.ntmps207 (λbase=>?_);refine' walkW fx (za zbu <| zb _);rw [zhg,zhL]
@[go_sem] noncomputable def zdk:Ent Tryz.prog 207:= .m2 (slT 1 intD zc7) (intT .i64) zjI
theorem zwO (d:Disk) (hd:DiskOk d):AC 251 [diskA d] (.d (.int .i64 (dsize d))):=by refine bod Tryz.func251 Tryz.ntmps251 (λbase=>?_);refine' zc (zwj hd.data);rfl
@[go_sem] noncomputable def zsh:Ent Tryz.prog 251:= .m1 zu zwO
theorem zyh (d:Disk) (at_:Int):(decide (at_<0)||decide (((dsize d:Nat):Int)<=at_))= !there d at_:=by
 rw [there,Bool.not_and];congr 1
 ·by_cases h:at_<0
  ·rw [decide_eq_true h,decide_eq_false (by omega)];rfl
  ·rw [decide_eq_false h,decide_eq_true (by omega)];rfl
 ·by_cases h:at_<(dsize d:Int)
  ·rw [decide_eq_true h,decide_eq_false (by omega)];rfl
  ·rw [decide_eq_false h,decide_eq_true (by omega)];rfl
theorem zyi (d:Disk) (at_:Int) (hd:DiskOk d):AC 206 [diskA d,.d (.int .i64 at_)] (.d (.bool (!there d at_))):=by refine bod Tryz.func206 Tryz.ntmps206 (λbase=>?_);refine' walkW fx (za zsh <| zb _);rw [zyh]
@[go_sem] noncomputable def zlc:Ent Tryz.prog 206:= .m2 zu (intT .i64) zyi
end Go.Aw
