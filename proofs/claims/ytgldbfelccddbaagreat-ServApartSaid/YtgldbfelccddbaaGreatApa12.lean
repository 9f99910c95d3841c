/- Lemmas. -/
import Derived.Test.YtgldbfelccddbaaGreatApa9
set_option linter.all false
set_option maxRecDepth 100000
set_option maxHeartbeats 2000000
namespace Go.Proofs
open Go.Shelf
def Tryz.lays137_ren:Go.Shelf.Ren:=⟨fun|137=>353|217=>394|266=>429|n=>n,fun|9=>9|5=>5|3=>3|n=>n,fun|n=>n⟩
def Tryz.lays137:Go.Proofs.Lays.n137 Tryz.prog Tryz.lays137_ren:= {
 mixed:=fX
 f137:=Tryz.func353.trans (congrArg some fX)
 f217:=Tryz.func394.trans (congrArg some fX)
 f266:=Tryz.func429.trans (congrArg some fX)
 t3:=Tryz.underlying3
 a3:=Tryz.isAgg3
 z3:=Tryz.sizeOf3
 v3:=Tryz.zeroValue3
 t5:=Tryz.underlying5
 a5:=Tryz.isAgg5
 z5:=Tryz.sizeOf5
 v5:=Tryz.zeroValue5
 t9:=Tryz.underlying9
 a9:=Tryz.isAgg9
 z9:=Tryz.sizeOf9
 v9:=Tryz.zeroValue9 }
open Go.RowKit in
def Tryz.strings_IndexByte (s:ByteArray) (c:Int) (w:World):
  Calls Tryz.prog 353 #[.string s,.int .u8 c] w λe w'=>e= .returned (.int .i64 (Lib.indexByte s.data.toList c.toNat.toUInt8))/\w'=w:=Any.strings_IndexByte Tryz.lays137 s c w
end Go.Proofs
namespace Go.Aw
open Go Go.Proofs Go.RowKit
def zhT {P:Program} {f:FuncId} {args:List AV} {r:AV} {v:Value} (ix:zfe P f) (h:∀E w (vs:Array Value),Reps w E [] args vs.toList->Calls P f vs w (λe w'=>e= .returned v/\Below w.heap.size w w')) (hr:∀w E,Rep w E [] r v):ACall P f 0 args [] (λr' _=>r'=r):=by refine ⟨ix,λE w vs hs xm=>(h E w vs xm).mono ?_⟩;rintro e w' ⟨rfl,J⟩;have jo:∀b,¬Own E [] b:=λb ⟨i,hi,_⟩=>gK;refine ⟨v,E,r,[],rfl,rfl,⟨λi o ho=>ky,λi j b h1=>mO,λb J=>absurd J (jo b),λb hm=>aE (hs.mlt b hm) J.size,λb hm=>aE (hs.nlt b hm) J.size⟩,hr w' E,?_⟩;exact ⟨J.os,J.tape,J.output,J.size,λk hk _=>J.block k hk,λb ho=> .inl ho,rfl,rfl,λi _ hi=>gK⟩
def zsL (n:Nat) (hn:n<=140737488355328):ACall Tryz.prog 253 0 [.d (.str [0]),.d (.int .i64 n)] [] (λr _=>r= .d (.str (List.replicate n 0))):=by refine zhT (v:= .string ⟨(List.replicate n 0).toArray⟩) (zcR Tryz.func253 fX rfl) ?_ (λw E=>iI);refine' EU;have iY:vs= #[.string ⟨#[0]⟩,.int .i64 n]:=rh;subst iY;have:=Tryz.strings_Repeat ⟨#[0]⟩ n w fT (by simpa [ByteArray.size] using hn);refine this.mono ?_;rintro e w' ⟨rfl,hb⟩;refine ⟨?_,hb⟩;have:=Lib.repeatL_replicate 0 1 n;simp only [List.replicate_one,cF,Nat.one_mul] at this;show Ending.returned (.string ⟨(Lib.repeatL [0] n).toArray⟩)=_;rw [this]
def zoA (s p:List UInt8) (_:True):AC 218 [.d (.str s),.d (.str p)] (.d (.bool (p.isPrefixOf s))):=by refine zhT (v:= .bool (p.isPrefixOf s)) (zcR Tryz.func218 fX rfl) ?_ (λw E=>iI);refine' EU;have iY:vs= #[.string ⟨s.toArray⟩,.string ⟨p.toArray⟩]:=rh;subst iY;have:=Tryz.strings_HasPrefix ⟨s.toArray⟩ ⟨p.toArray⟩ w;refine this.mono ?_;rintro e w' ⟨rfl,rfl⟩;exact ⟨by simp [Lib.hasPrefix],Below.refl _ _⟩
@[go_sem] noncomputable def zhw:Ent Tryz.prog 218:= .m2 strT strT zoA
end Go.Aw
namespace Go.Proofs.YtgldbfelccddbaaGreat
open Go Go.RowKit
def bsize:∃j,Tryz.prog.info? 180=some j/\j.size=2:=by obtain ⟨j,J,oq⟩:=bF.1 (show (Tryz.prog.info? 180).map (·.size)=some 2 by kernel_rfl);exact ⟨j,J,oq⟩
def zwa (b o:Nat) (w:World) (h0:w.cell? ⟨b,o,none⟩=some (.pointer (some ⟨b,o,none⟩))):
  Calls Tryz.prog 188 #[.pointer (some ⟨b,o,none⟩)] w λe w'=>e= .returned (.tuple #[])/\w'=w:=by
 obtain ⟨j,J,oq⟩:=bsize
 go_enter Tryz.func188,Tryz.ntmps188
 go_wp2
 rw [Lib.run_neq_ptr_same w _ Tryz.underlying178 J]
 go_wp2
 go_end0
 refine' Iu
def ztV (b o n:Nat) (T:TypeId) (w:World) (h0:w.cell? ⟨b,o,none⟩=some (.pointer none)) (ly:w.shape? b=some (T,n)) (J:o<n) (hl:liesAt Tryz.prog Tryz.prog.depth T (n / Tryz.prog.cellsOf T) o 180 1=true) (mo:w.frozen? ⟨b,o,none⟩=false):
  Calls Tryz.prog 188 #[.pointer (some ⟨b,o,none⟩)] w λe w'=>e= .returned (.tuple #[])/\w'=w.setCell ⟨b,o,none⟩ (.pointer (some ⟨b,o,none⟩)):=by
 obtain ⟨j,hj,oq⟩:=bsize
 go_enter Tryz.func188,Tryz.ntmps188
 go_wp2
 rw [Lib.run_to_unsafe w ⟨b,o,none⟩ Tryz.underlying178 Tryz.underlying375 hj (by rw [oq];decide) ly J];simp only [Result.andThen];rw [fE]
 go_wp2
 rw [run_callFunc_extern Tryz.func257 fX fX fX (e:=Extern.AbiNoEscape.same) fX];rw [Lib.run_noEscape];simp only [Result.andThen];rw [fE]
 go_wp2
 rw [Lib.run_from_unsafe w ⟨b,o,none⟩ Tryz.underlying375 Tryz.underlying178 hj ly hl];simp only [Result.andThen];rw [fE]
 go_wp2
 go_end0
 refine' Iu
end Go.Proofs.YtgldbfelccddbaaGreat
namespace Go.Proofs.YtgldbfelccddbaaGreat
open Go
section
variable {P : Program}
open Go.Lib
def zj8 (w:World) (base:Nat) (t u ty e:TypeId) (i:TypeInfo) (ht:P.underlying t=some (.slice e)) (hu:P.underlying u=some .string) (hi:P.info? e=some i) (hz:i.zero=some (.int .u8 0))
  (p9:i.size=1) (kj:i.bytes=1)
  (v:Value) (n:Nat) (xs:List Value) (ik:w.ownsRow base e 1 v n xs) (s:ByteArray)
  (qa:n+s.size<=maxLen) (ve:n+s.size<=140737488355328) (sJ:base<=w.heap.size):
  ∃v' w',(Builtin.append_ #[t,u] ty #[v,.string s]).run P w= .ok v' w'/\w'.ownsRow base e 1 v' (n+s.size) (xs++strCells s)/\w.grownBy w' v.ownBlock/\
   ((∀g,v'.ownBlock=some g->v.ownBlock=some g\/(w.heap.size<=g/\g<w'.heap.size))/\(s.size=0->v'=v)):=by
 have BA:n+s.size<=9223372036854775807:=by simp only [maxLen] at qa;omega
 have jG:xs.length=n:=by simpa using ik.1
 have hlen:(xs++strCells s).length=(n+s.size)*1:=by rw [ae,jG,strCells_length,cF]
 have grown:∀ (old:Nat),old<n+s.size->∀ (row:Option Nat),
   (w.drew.alloc (.cells (xs.toArray++(strCells s).toArray++Builtin.zeroCells (Value.int .u8 0).cells (grownCap w (n+s.size) old e - (n+s.size))) e)).ownsRow base e 1
    (.slice (some ⟨w.heap.size,0,none⟩) (n+s.size) (grownCap w (n+s.size) old e)) (n+s.size) (xs++strCells s)/\
   w.grownBy (w.drew.alloc (.cells (xs.toArray++(strCells s).toArray++Builtin.zeroCells (Value.int .u8 0).cells (grownCap w (n+s.size) old e - (n+s.size))) e)) row:=by
  intro old ho row;have gU:=dQ w (n+s.size) old e;have j5:grownCap w (n+s.size) old e<=maxLen:=grownCap_le_maxLen w (n+s.size) old e qa;refine ⟨⟨hlen,.inr ⟨w.heap.size,_,_,rfl,sJ,Go.heap_alloc_new w.drew _,gU,j5,?_,?_⟩⟩,⟨rfl,rfl,rfl,fZ,λk hk _=>Go.heap_alloc_old w.drew _ hk⟩⟩
  .have lR:(Value.int IntKind.u8 0).cells.size=1:=rfl;simp only [eE,dR,dP,lR,jG,strCells_length];omega
  .simp only [cS,aY];rw [<-aY,<-hlen];exact List.take_left
 rcases ik.2 with ⟨rfl,rfl⟩|⟨g,cap,cur,rfl,mq,J,vf,j5,lA,sL⟩
 .have hx:xs= []:=fR jG;subst hx;by_cases hm:s.size=0
  .have hn:strCells s= []:=fR (by rw [strCells_length];exact hm);refine ⟨.slice none 0 0,w,?_,by rw [hm,hn];exact World.ownsRow_nil w base e 1,⟨rfl,rfl,rfl,aj _,λ_ _ _=>rfl⟩,λg J=> .inl J,λ_=>rfl⟩;have hf:=run_firstCells_string (P:=P) w 1 s;rw [hm] at hf;simp [Builtin.append_,run_underlying ht,run_underlying hu,sizeOf,typeInfo,hi,p9,Builtin.lenOf,hm,hf]
  .have hr:=run_append_nil_string (P:=P) w t u ty e i (.int .u8 0) ht hu hi hz s fT fT (by rw [kj];omega);have ps:=grown 0 fT (Value.ownBlock (.slice none 0 0));simp only [bL,bh,Array.empty_append] at ps |-
   have e1:(s.data.map λb=>Value.int .u8 b.toNat)=(strCells s).toArray:=by apply Array.ext';simp [strCells]
   rw [e1] at hr;exact ⟨_,_,hr,ps.1,ps.2,λg J=> .inr AF,λe=>absurd e hm⟩
 .by_cases pv:n+s.size<=cap
  .have BB:cur.size=cap:=by simpa using lA
   have hr:=run_append_room_string (P:=P) w t u ty e i ht hu hi p9 g n cap cur J s pv fT;refine ⟨_,_,hr,⟨hlen,.inr ⟨g,cap,_,rfl,mq,setRow_heap w g cur _ e _ J,pv,j5,?_,?_⟩⟩,⟨rfl,rfl,rfl,fZ,λk _ hk=>setRow_other w g k _ (λe=>hk (by simp [Value.ownBlock,e]))⟩,λg J=> .inl J,λe=>by rw [e];rfl⟩
   .simp only [dR,ae,az,ak,fh,strCells_length];omega
   .have xn:cur.toList.take n=xs:=by simpa using sL
    rw [xn,<-hlen];exact List.take_left
  .have holds:∀j u,xs[j]?=some u->w.cell? ((⟨g,0,none⟩:Addr).add j)=some u:=ik.cells (g:=g) rfl;have hr:=run_append_grow_string (P:=P) w t u ty e i (.int .u8 0) ht hu hi hz ⟨g,0,none⟩ n cap xs (by rw [p9];simpa using jG) holds s fT fT (by rw [kj];exact growslice_fits fT fT);have ps:=grown cap fT (Value.ownBlock (.slice (some ⟨g,0,none⟩) n cap));exact ⟨_,_,hr,ps.1,ps.2,λg J=> .inr AF,λe=>fT⟩
def zh4 (w:World) {ops:Array Oper} {rest:List Oper} {o:Oper} {a:Act} {Q:Exit->Act->World->Prop} (J:o.guard=none) (sl x:Operand) (t u:TypeId)
  (ho:o.op= .call { callee:= .builtin .append,args:= #[sl,x],argTypes:= #[t,u] })
  (base:Nat) (e:TypeId) (i:TypeInfo) (ht:P.underlying t=some (.slice e)) (hu:P.underlying u=some .string) (hi:P.info? e=some i) (hz:i.zero=some (.int .u8 0))
  (p9:i.size=1) (kj:i.bytes=1)
  (v:Value) (n:Nat) (xs:List Value) (hs:a.eval sl=v) (ik:w.ownsRow base e 1 v n xs) (s:ByteArray) (hx:a.eval x= .string s)
  (qa:n+s.size<=maxLen) (ve:n+s.size<=140737488355328) (sJ:base<=w.heap.size)
  (h:∀v' w',w'.ownsRow base e 1 v' (n+s.size) (xs++strCells s)->w.grownBy w' v.ownBlock->((∀g,v'.ownBlock=some g->v.ownBlock=some g\/(w.heap.size<=g/\g<w'.heap.size))/\(s.size=0->v'=v))->wpList P ops Q rest (a.put o.dst v') w'):wpList P ops Q (o::rest) a w:=by refine wpList_plain J λK hK=>?_;obtain ⟨v',w',hr,h2,h3,h4⟩:=zj8 (P:=P) w base t u o.type e i ht hu hi hz p9 kj v n xs ik s qa ve sJ;unfold Oper.wp execOp;simp only [ho,resolve,invoke,builtin,ai,ar,ah,List.map_toArray,au,bM,hs,hx,hr];exact hK _ _ (h v' w' h2 h3 h4)
end
open Go.RowKit
def zli {w:World} {b o J:Nat} {v:Value} (h:o≠J):(w.setCell ⟨b,o,none⟩ v).cell? ⟨b,J,none⟩=w.cell? ⟨b,J,none⟩:=by
 unfold World.setCell World.cell?;simp only [dW,av];cases w.heap[b]? with
 |none=>rfl
 |some ob=>
  cases ob<;>simp [fe h]
def zjE {w:World} {b o J:Nat} {v:Value} :(w.setCell ⟨b,o,none⟩ v).frozen? ⟨b,J,none⟩=w.frozen? ⟨b,J,none⟩:=by
 unfold World.setCell World.frozen?;simp only [dW,av];cases w.heap[b]? with
 |none=>rfl
 |some ob=>
  cases ob<;>simp
def zqr {w:World} {e:TypeId} {v:Value} {k:Nat} {bs:List Value} {b o:Nat} {x:Value} (h:w.ownsRow 0 e 1 v k bs) (b5:v.ownBlock≠some b):(w.setCell ⟨b,o,none⟩ x).ownsRow 0 e 1 v k bs:=by
 refine ⟨h.1,?_⟩;rcases h.2 with J|⟨g,cap,cur,rfl,hb,rf,rest⟩
 .exact .inl J
 .refine .inr ⟨g,cap,cur,rfl,hb,?_,rest⟩;have:b≠g:=λe=>b5 (by simp [Value.ownBlock,e]);unfold World.setCell;rw [dW,U this];exact rf
def ztW (b o n:Nat) (T:TypeId) (w:World) (h0:w.cell? ⟨b,o,none⟩=some (.pointer none)\/w.cell? ⟨b,o,none⟩=some (.pointer (some ⟨b,o,none⟩))) (ly:w.shape? b=some (T,n)) (J:o<n) (hl:liesAt Tryz.prog Tryz.prog.depth T (n / Tryz.prog.cellsOf T) o 180 1=true) (mo:w.frozen? ⟨b,o,none⟩=false):
  Calls Tryz.prog 188 #[.pointer (some ⟨b,o,none⟩)] w λe w'=>e= .returned (.tuple #[])/\((w'=w/\w.cell? ⟨b,o,none⟩=some (.pointer (some ⟨b,o,none⟩)))\/w'=w.setCell ⟨b,o,none⟩ (.pointer (some ⟨b,o,none⟩))):=by
 rcases h0 with h0|h0
 .refine (ztV b o n T w h0 ly J hl mo).mono ?_;rintro e w' ⟨rfl,rfl⟩;exact ⟨rfl,.inr rfl⟩
 .refine (zwa b o w h0).mono ?_;rintro e w' ⟨rfl,rfl⟩;exact ⟨rfl,.inl ⟨rfl,h0⟩⟩
def zqs (b o n:Nat) (T:TypeId) (w:World) (v:Value) (k:Nat) (bs:List Value) (s:ByteArray) (h0:w.cell? ⟨b,o,none⟩=some (.pointer none)\/w.cell? ⟨b,o,none⟩=some (.pointer (some ⟨b,o,none⟩))) (h1:w.cell? ⟨b,o+1,none⟩=some v)
  (ly:w.shape? b=some (T,n)) (J:o<n) (hl:liesAt Tryz.prog Tryz.prog.depth T (n / Tryz.prog.cellsOf T) o 180 1=true) (mo:w.frozen? ⟨b,o,none⟩=false) (vg:w.frozen? ⟨b,o+1,none⟩=false)
  (ik:w.ownsRow 0 5 1 v k bs) (b5:v.ownBlock≠some b) (hlen:k+s.size<=140737488355328):
  Calls Tryz.prog 113 #[.pointer (some ⟨b,o,none⟩),.string s] w λe w'=>e= .returned (.tuple #[.int .i64 s.size,.nilIface])/\
   ∃w1 v' w2,((w1=w/\w.cell? ⟨b,o,none⟩=some (.pointer (some ⟨b,o,none⟩)))\/w1=w.setCell ⟨b,o,none⟩ (.pointer (some ⟨b,o,none⟩)))/\w2.ownsRow 0 5 1 v' (k+s.size) (bs++Lib.strCells s)/\w1.grownBy w2 v.ownBlock/\((∀g,v'.ownBlock=some g->v.ownBlock=some g\/(w1.heap.size<=g/\g<w2.heap.size))/\(s.size=0->v'=v))/\w'=w2.setCell ⟨b,o+1,none⟩ v':=by
 obtain ⟨i0,hi,jA⟩:=bF.1 (show (Tryz.prog.info? 5).map (λi=>(i.zero,i.size,i.bytes))=some (some (.int .u8 0),1,1) by kernel_rfl);simp only [aJ] at jA;obtain ⟨jA,lR,qb⟩:=jA
 go_enter Tryz.func113,Tryz.ntmps113
 go_wp2_with (go_at_call 188;refine (ztW b o n T _ h0 ly J hl mo).mono ?_)
 rintro e w1 ⟨rfl,ab⟩
 have c1:w1.cell? ⟨b,o+1,none⟩=some v:=by
  rcases ab with ⟨rfl,_⟩|rfl
  .exact h1
  .rw [zli fT];exact h1
 have f1:w1.frozen? ⟨b,o+1,none⟩=false:=by
  rcases ab with ⟨rfl,_⟩|rfl
  .exact vg
  .rw [zjE];exact vg
 have xo:w1.ownsRow 0 5 1 v k bs:=by
  rcases ab with ⟨rfl,_⟩|rfl
  .exact ik
  .exact zqr ik b5
 go_wp2_with (at_builtin;refine zh4 _ rfl _ _ 60 9 rfl 0 5 i0 Tryz.underlying60 Tryz.underlying9 hi jA lR qb _ _ _ rfl xo s rfl ?c3 ?c4 ?c5 ?_)
 case c3=>unfold maxLen;omega
 case c4=>omega
 case c5=>omega
 intro v' w2 pw lB m9 xq
 have ri:b<w1.heap.size:=by
  rcases aO b w1.heap.size with h'|h'
  .exact h'
  .simp [World.cell?,Array.getElem?_eq_none h'] at c1
 have b3:w2.heap[b]?=w1.heap[b]?:=lB.block b ri (λe=>b5 e.symm)
 have d1:w2.cell? ⟨b,o+1,none⟩=some v:=by rw [<-c1];simp only [World.cell?,b3]
 have f2:w2.frozen? ⟨b,o+1,none⟩=false:=by rw [<-f1];simp only [World.frozen?,b3]
 obtain ⟨ao,n',cap,rfl⟩:∃ao n' cap,v'= .slice ao n' cap:=by
  rcases pw.2 with ⟨hv,_⟩|⟨g,cap,cur,hv,_⟩
  .exact ⟨_,_,_,hv⟩
  .exact ⟨_,_,_,hv⟩
 go_wp2
 go_ret2
 exact ⟨rfl,w1,_,w2,ab,pw,lB,⟨m9,λe=>xq (by simpa using e)⟩,rfl⟩
end Go.Proofs.YtgldbfelccddbaaGreat
namespace Go.Aw
open Go Go.Proofs Go.Proofs.YtgldbfelccddbaaGreat
section
variable {P : Program} {w w' w'' : World} {E E' E'' : Env} {h h' h'' : AHeap} {fl i j : Nat}
def EvoC.trans (a:EvoC fl E h w E' h' w') (b:EvoC fl E' h' w' E'' h'' w''):EvoC fl E h w E'' h'' w'' where
 os:=b.os.trans a.os
 tape:=b.tape.trans a.tape
 output:=b.output.trans a.output
 size:=aD a.size b.size
 keep:=λk J ho=>(b.keep k (aE J a.size) (λh=>(a.own k h).elim ho (λh=>fT))).trans (a.keep k J ho)
 own:=λk h=>(b.own k h).elim (λh=>a.own k h) (λh=> .inr (aD a.size h))
 m:=b.m.trans a.m
 n:=b.n.trans a.n
 go:=λi hi hl=>by obtain ⟨h1,h2⟩:=b.go i hi hl;obtain ⟨h3,h4⟩:=a.go i hi h1;exact ⟨h3,h4.trans h2⟩
def Chg.evoC (c:Chg E h w E' h' w' i) (J:(hget h i).isSome\/fl<=i):EvoC fl E h w E' h' w':=
 have e:=c.evo (fl:=fl) J
 ⟨e.os,e.tape,e.output,e.size,λb hb ho=>c.blk b hb (λ⟨h1,h2⟩=>ho ⟨i,h1,h2⟩),e.own,c.M,c.N,e.go⟩
def zmX {b:Nat} {c:Array Value} {T:TypeId} {fz:Nat×Nat} (g2:w.heap[b]?=some (.cells c T fz)):World.row w b (.cells c T fz)=w:=by obtain ⟨J,ib⟩:=aI.1 g2;unfold World.row;rw [<-ib,ez,dif_pos J,eA]
def zoy {b o:Nat} {c:Array Value} {T:TypeId} {fz:Nat×Nat} {v:Value} (g2:w.heap[b]?=some (.cells c T fz)) (hc:c[o]?=some v):w.setCell ⟨b,o,none⟩ v=w:=by
 rw [zfY g2]
 have:c.setIfInBounds o v=c:=by obtain ⟨J,he⟩:=aI.1 hc;rw [ez,dif_pos J,<-he,eA]
 rw [this];exact zmX g2
def ziK:∀ (h:AHeap) (i:Nat) (a b:AObj),hset (hset h i a) i b=hset h i b
  | [],_,_,_=>rfl
  | (k,o)::r,i,a,b=>by
    by_cases J:k=i
    · simp [hset,J]
    · simp [hset,J,ziK r]
def pokeT (J:SatH E h w) {o b:Nat} {t:TypeId} {cs:List AV} (hi:hget h i=some (.tvar t cs)) (hb:E.O i=some b) {x:AV} {v:Value} (hr:Rep w E h x v):
  Chg E h w E (hset h i (.tvar t (cs.set o x))) (w.setCell ⟨b,o,none⟩ v) i/\SatH E (hset h i (.tvar t (cs.set o x))) (w.setCell ⟨b,o,none⟩ v):=by have ec:=J.heap i _ hi;refine' Hs;obtain ⟨b',c,T,fz,g1,g2,g3,g4,g5⟩:=ec;rw [hb] at g1;cases g1;rw [zfY g2];have ch:=zjG J hi (cs':=cs.set o x) fZ hb (.cells (c.setIfInBounds o v) T fz);refine ⟨ch,ch.satH J (λob ec=>?_)⟩;rw [zi hi] at ec;cases ec;simp only [RepObj];refine ⟨b,_,T,fz,hb,zfu (aI.1 g2).1,?_,by simpa using g4,g5⟩;rw [fy];exact ch.reps (g3.set hr)
def zwx (hs:SatH E h w) {t:TypeId} {xs:List UInt8} {n:Nat} {v:Value} (hj:hget h j=some (.buf t xs)) (hv:Rep w E h (.bsl j n) v) (hn:n=xs.length):
  w.ownsRow 0 t 1 v xs.length (Lib.byteCells xs)/\(∀g,v.ownBlock=some g->E.O j=some g)/\(v= .slice none 0 0/\E.O j=none\/∃g,v= .slice (some ⟨g,0,none⟩) xs.length (E.C j)/\E.O j=some g):=by
 simp only [Rep] at hv;obtain ⟨_,t',xs',h1,_,h3⟩:=hv;rw [hj] at h1;cases h1;have ec:=hs.heap j _ hj;refine' Hs;rcases h3 hn.symm with ⟨⟨J,h5⟩,rfl⟩|⟨g,J,rfl⟩
 .have:xs= []:=du.1 fT;subst this;exact ⟨World.ownsRow_nil _ _ _ _,λg hg=>by simp [Value.ownBlock] at hg,.inl ⟨rfl,J⟩⟩
 .rcases ec with ⟨q1,_⟩|⟨b',c,T,fz,q1,q2,q3,q4,q5,rfl,rfl,q7⟩
  .rw [J] at q1;cases q1
  .rw [J] at q1;cases q1;refine ⟨⟨by simp [Lib.byteCells],.inr ⟨g,E.C j,c,by rw [hn],ad _,q2,q4,by unfold maxLen;omega,q3,by rw [cF];exact q5⟩⟩,λg' hg=>?_,.inr ⟨g,by rw [hn],J⟩⟩;simp [Value.ownBlock] at hg;rw [J,hg]
def zwy {t:TypeId} {xs xs':List UInt8} (hj:hget h j=some (.buf t xs)) (g':Option Nat) (j7:Nat) {row:Option Nat} (lB:w.grownBy w' row) (J:∀g,row=some g->E.O j=some g) (hlen:xs.length<=xs'.length) (rj:xs'.length=xs.length->g'=E.O j/\j7=E.C j)
  (m9:∀g,g'=some g->E.O j=some g\/(w.heap.size<=g/\g<w'.heap.size)):Chg E h w (E.set j g' j7) (hset h j (.buf t xs')) w' j where
 os:=lB.os
 tape:=lB.tape
 output:=lB.output
 size:=lB.size
 envO:=λk e=>gY
 envC:=λk e=>gY
 M:=rfl
 N:=rfl
 hh:=λk e=>zS e
 gi:=by unfold GoesOn;rw [hj];exact ⟨xs',zi hj,hlen,λe=>by simpa [Env.set] using rj e⟩
 blk:=λb hb hn=>lB.block b hb (λe=>hn ⟨pz,J b e.symm⟩)
 new:=λb _ hb=>by
  simp only [Env.set,av] at hb;rcases m9 b hb with h1|h1
  .exact .inl ⟨pz,h1⟩
  .exact .inr h1
def zll (l:List UInt8):Lib.strCells ⟨l.toArray⟩=Lib.byteCells l:=by simp [Lib.strCells,Lib.byteCells]
def zdv {o:Nat} {T:TypeId} {cs:List AV} {xs l:List UInt8} {n:Nat} (hi:hget h i=some (.tvar T cs)) (c0:cs[o]?=some (.d .nilp)\/cs[o]?=some (.tp i o)) (c1:cs[o+1]?=some (.bsl j n)) (hj:hget h j=some (.buf 5 xs)) (hn:n=xs.length)
  (hl:liesAt Tryz.prog Tryz.prog.depth T (cs.length / Tryz.prog.cellsOf T) o 180 1=true) (hlen:xs.length+l.length<=140737488355328):
  ACallAt Tryz.prog fl 113 [.tp i o,.d (.str l)] h (λr h'=>r= .tup [.d (.int .i64 l.length),.d .nilif]/\h'=hset (hset h j (.buf 5 (xs++l))) i (.tvar T ((cs.set o (.tp i o)).set (o+1) (.bsl j (xs.length+l.length))))):=by
 refine ⟨zcR Tryz.func113 fX rfl,λE w vs hs hr=>?_⟩;simp only [Reps] at hr;obtain ⟨v0,r0,e0,q0,v1,r1,rfl,q1,rfl⟩:=hr;have px:=q0;simp only [Rep,RepD] at q0 q1;obtain ⟨b,T',cs',kA,J,rfl⟩:=q0;rw [hi] at kA;cases kA;subst q1;have iY:vs= #[.pointer (some ⟨b,o,none⟩),.string ⟨l.toArray⟩]:=od;subst iY;have py:i≠j:=λe=>by rw [e,hj] at hi;cases hi
 have ec:=hs.heap i _ hi;refine' Hs;obtain ⟨b',c,T0,fz,g1,g2,g3,g4,rfl⟩:=ec;rw [J] at g1;cases g1;have c6:c.size=cs.length:=by have:=Reps.length g3;simpa using this
 obtain ⟨v,lU,hv⟩:=Reps.get g3 c1;have mX:c[o+1]?=some v:=by simpa using lU
 have ri:o+1<c.size:=(aI.1 mX).1;obtain ⟨o1,o2,o3⟩:=zwx hs hj hv hn;have b5:v.ownBlock≠some b:=λe=>py (hs.inj i j b nz pz J (o2 b e))
 have mo:∀k,k<c.size->w.frozen? ⟨b,k,none⟩=false:=λk hk=>by rw [zai g2];have:=g4 k hk;simpa using this
 have xr:Rep w E h (.tp i o) (.pointer (some ⟨b,o,none⟩)):=px
 have bo:c[o]?=some (.pointer none)\/c[o]?=some (.pointer (some ⟨b,o,none⟩)):=by
  rcases c0 with c0|c0
  .obtain ⟨u,hu,qc⟩:=Reps.get g3 c0;simp only [Rep,RepD] at qc;subst qc;exact .inl (by simpa using hu)
  .obtain ⟨u,hu,qc⟩:=Reps.get g3 c0;simp only [Rep] at qc;obtain ⟨b2,_,_,_,b3,rfl⟩:=qc;rw [J] at b3;cases b3;exact .inr (by simpa using hu)
 refine (zqs b o c.size T0 w v xs.length (Lib.byteCells xs) ⟨l.toArray⟩ (by rw [zI g2];exact bo) (by rw [zI g2];exact mX) (by simp [World.shape?,g2]) fT (by rw [c6];exact hl) (mo o fT) (mo (o+1) ri) o1 b5 (by simpa [ByteArray.size] using hlen)).mono ?_;rintro e w3 ⟨rfl,w1,v',w2,ab,pw,lB,⟨m9,sM⟩,rfl⟩
 have xu:w1=w.setCell ⟨b,o,none⟩ (.pointer (some ⟨b,o,none⟩)):=by
  rcases ab with ⟨rfl,hc⟩|h
  .rw [zI g2] at hc;exact (zoy g2 hc).symm
  .exact h
 subst xu;obtain ⟨lV,bs⟩:=pokeT hs hi J (o:=o) xr;have qd:hget (hset h i (.tvar T0 (cs.set o (.tp i o)))) j=some (.buf 5 xs):=by rw [zS (bx py)];exact hj
 rw [zll] at pw;refine' FY;rw [gd] at pw sM
 obtain ⟨g',j7,vi,nM⟩:∃ (g':Option Nat) (j7:Nat),v'.ownBlock=g'/\((v'= .slice none 0 0/\g'=none/\xs++l= [])\/∃g cur,g'=some g/\v'= .slice (some ⟨g,0,none⟩) (xs.length+l.length) j7/\w2.heap[g]?=some (.cells cur 5 (0,0))/\xs.length+l.length<=j7/\j7<=maxLen/\cur.size=j7*1/\cur.toList.take ((xs.length+l.length)*1)=Lib.byteCells xs++Lib.byteCells l)/\(l= []->g'=E.O j/\j7=E.C j):=by
  rcases pw.2 with ⟨rfl,hz⟩|⟨g,j7,cur,rfl,_,hx⟩
  .refine ⟨none,E.C j,rfl,.inl ⟨rfl,rfl,?_⟩,λlW=>⟨?_,rfl⟩⟩
   .have h1:xs= []:=du.1 fT;have h2:l= []:=du.1 fT;simp [h1,h2]
   .have nN:=sM (by simp [lW]);rcases o3 with ⟨_,h1⟩|⟨g,h1,_⟩
    .exact h1.symm
    .rw [h1] at nN;cases nN
  .refine ⟨some g,j7,rfl,.inr ⟨g,cur,rfl,rfl,hx⟩,λlW=>?_⟩;have nN:=sM (by simp [lW]);rcases o3 with ⟨h1,_⟩|⟨g2,h1,h2⟩
   .rw [h1] at nN;cases nN
   .rw [h1] at nN;simp only [Value.slice.injEq,aB,Addr.mk.injEq] at nN;obtain ⟨⟨rfl,_⟩,_,rfl⟩:=nN;exact ⟨h2.symm,rfl⟩
 obtain ⟨nM,rj⟩:=nM
 have mu:Chg E (hset h i (.tvar T0 (cs.set o (.tp i o)))) (w.setCell ⟨b,o,none⟩ (.pointer (some ⟨b,o,none⟩))) (E.set j g' j7) (hset (hset h i (.tvar T0 (cs.set o (.tp i o)))) j (.buf 5 (xs++l))) w2 j:=
  zwy qd g' j7 lB (λg hg=>o2 g hg) fZ (λe=>rj (by simpa using e)) (λg hg=>by
   rcases m9 g (by rw [vi,hg]) with h1|h1
   .exact .inl (o2 g h1)
   .exact .inr h1)
 have eg:=mu.satH bs (λob ec=>by
  rw [zi qd] at ec;cases ec;simp only [RepObj,Env.set,av];rcases nM with ⟨_,h1,h2⟩|⟨g,cur,h1,h2,h3,h4,h5,h6,h7⟩
  .exact .inl ⟨h1,.inl h2⟩
  .refine .inr ⟨g,cur,5,(0,0),h1,h3,h6,by simpa using h4,?_,rfl,rfl,by unfold maxLen at h5;omega⟩;rw [cF] at h7;rw [ae,h7];simp [Lib.byteCells])
 have lr:hget (hset (hset h i (.tvar T0 (cs.set o (.tp i o)))) j (.buf 5 (xs++l))) i=some (.tvar T0 (cs.set o (.tp i o))):=by rw [zS py];exact zi hi
 have b3:(E.set j g' j7).O i=some b:=by simp [Env.set,py,J]
 have xv:Rep w2 (E.set j g' j7) (hset (hset h i (.tvar T0 (cs.set o (.tp i o)))) j (.buf 5 (xs++l))) (.bsl j (xs.length+l.length)) v':=by
  refine' Fg;rcases nM with ⟨h0,h1,h2⟩|⟨g,cur,h1,h2,h3,h4,h5,h6,h7⟩
  .have h3:xs.length+l.length=0:=by have:=congrArg List.length h2;simpa using this
   exact ⟨⟨_,_,_,h0⟩,_,_,zi qd,fZ,λ_=> .inl ⟨⟨by simp [Env.set,h1],h3⟩,h0⟩⟩
  .exact ⟨⟨_,_,_,h2⟩,_,_,zi qd,fZ,λ_=> .inr ⟨g,by simp [Env.set,h1],by simp [Env.set,h2]⟩⟩
 obtain ⟨nc,kB⟩:=pokeT eg lr b3 (o:=o+1) xv
 have eh:hset (hset (hset h i (.tvar T0 (cs.set o (.tp i o)))) j (.buf 5 (xs++l))) i (.tvar T0 ((cs.set o (.tp i o)).set (o+1) (.bsl j (xs.length+l.length))))=hset (hset h j (.buf 5 (xs++l))) i (.tvar T0 ((cs.set o (.tp i o)).set (o+1) (.bsl j (xs.length+l.length)))):=by rw [zos h py,ziK]
 refine ⟨_,_,_,_,rfl,⟨rfl,rfl⟩,eh ▸ kB,?_,eh ▸ ((lV.evoC (.inl nz)).trans ((mu.evoC (.inl (by simp [qd]))).trans (nc.evoC (.inl (by simp [lr]))))),λx y jI=>eh ▸ nc.rep (mu.rep (lV.rep jI))⟩;simp only [Rep,Reps,RepD];refine ⟨_,rfl,_,_,rfl,?_,_,_,rfl,rfl,rfl⟩;rw [gd]
noncomputable def gone:List UInt8:=List.replicate zhJ 0
def zqC:gone.length=zhJ:=by unfold gone;exact bB ..
attribute [irreducible] gone
def zfF {o:Nat} {T:TypeId} {cs:List AV} {xs:List UInt8} {n:Nat} (hi:hget h i=some (.tvar T cs)) (c1:cs[o+1]?=some (.bsl j n)) (J:hget h j=some (.buf 5 xs)) (hn:n=xs.length) (hlen:xs.length<=140737488355328):
  ACallAt Tryz.prog fl 98 [.tp i o] h (λr h'=>r= .d (.str xs)/\h'=hset h j (.buf 5 gone)):=by
 refine ⟨zcR Tryz.func98 fX rfl,λE w vs hs hr=>?_⟩;refine' Gt;rw [hi] at kA;cases kA;have iY:vs= #[.pointer (some ⟨b,o,none⟩)]:=od;subst iY;have ec:=hs.heap i _ hi;refine' Hs;obtain ⟨b',c,T0,fz,g1,g2,g3,g4,rfl⟩:=ec;rw [hb] at g1;cases g1;obtain ⟨v,lU,hv⟩:=Reps.get g3 c1;have mX:c[o+1]?=some v:=by simpa using lU
 obtain ⟨o1,o2,o3⟩:=zwx hs J hv hn;refine (zop b o w v xs (by rw [zI g2];exact mX) o1).mono ?_;rintro e w3 ⟨rfl,lB⟩;have xw:=zqC;have gw:zhJ=9223372036854775808:=rfl
 have ch:Chg E h w (E.set j none 0) (hset h j (.buf 5 gone)) w3 j:=
  zwy J none 0 lB (λg hg=>o2 g hg) fT (λe=>fT) (λg hg=>by cases hg)
 have eg:=ch.satH hs (λob ec=>by rw [zi J] at ec;cases ec;simp only [RepObj,Env.set,av];exact .inl ⟨trivial,.inr xw⟩)
 exact ⟨_,_,_,_,rfl,⟨rfl,rfl⟩,eg,by simp only [Rep,RepD],ch.evoC (.inl (by simp [J])),λx y jI=>ch.rep jI⟩
def zfG {cx:Cx} {c:Code} {Q:Exit->AS->Prop} {s:AS} (i o:Nat) {T:TypeId} {cs:List AV} (hi:hget s.h i=some (.tvar T cs)) (ho:cs[o]?=some (.nils 1))
    (h:AW cx c Q { s with h:=(fresh cx.fl s.h,.buf 5 [])::hset s.h i (.tvar T (cs.set o (.bsl (fresh cx.fl s.h) 0))) }):AW cx c Q s:=λE a w hs=>by
  have b5:fresh cx.fl s.h≠i:=λe=>by have:=zcj cx.fl s.h;rw [e,hi] at this;cases this
  have cc:Chg E s.h w (E.set (fresh cx.fl s.h) none 0) ((fresh cx.fl s.h,.buf 5 [])::s.h) w (fresh cx.fl s.h):=
    { os:=rfl,tape:=rfl,output:=rfl,size:=aj _,envO:=λj e=>gY,envC:=λj e=>gY,M:=rfl,N:=rfl,hh:=λj e=>kT,
      gi:=mK
      blk:=λb hb _=>rfl
      new:=λb _ hb=>by simp [Env.set] at hb }
  have J:=cc.sat (t:=s.t) (g:=s.g) hs (λo ho=>by refine' DD;exact .inl ⟨gM,.inl trivial⟩)
  have ia:hget ((fresh cx.fl s.h,.buf 5 [])::s.h) i=some (.tvar T cs):=by simp [hget,b5,hi]
  have e1:(fresh cx.fl s.h,AObj.buf 5 [])::hset s.h i (.tvar T (cs.set o (.bsl (fresh cx.fl s.h) 0)))=hset ((fresh cx.fl s.h,.buf 5 [])::s.h) i (.tvar T (cs.set o (.bsl (fresh cx.fl s.h) 0))):=by simp [hset,b5]
  refine' EX;obtain ⟨b,c',T',fz,g1,g2,g3,g4,g5⟩:=J.hp.tvar ia;have ch:=zjG (w:=w) J.hp ia (cs':=cs.set o (.bsl (fresh cx.fl s.h) 0)) fZ g1 (.cells c' T' fz);rw [zmX g2] at ch
  have eg:=ch.sat (t:=s.t) (g:=s.g) J (λob ec=>by
    rw [zi ia] at ec;cases ec;refine' Gu
    have:=g3.set (i:=o) (a:= .bsl (fresh cx.fl s.h) 0) (v:= .slice none 0 0) (by refine' Fg;refine ⟨⟨_,_,_,rfl⟩,5,[],iJ,fZ,λ_=> .inl ⟨⟨by simp [nO,Env.set],trivial⟩,trivial⟩⟩)
    have e2:c'.toList.set o (.slice none 0 0)=c'.toList:=by obtain ⟨br,he⟩:=bP.1 hv;rw [<-he,List.set_getElem_self]
    rw [e2] at this;exact ch.reps this)
  refine' FG
end
open Go Go.Proofs
def zxB {α:Type} {x y:α} {r J:List α} (h:r.length=J.length):putL (x::y::r) 2 J=x::y::J:=by rw [zj4 _ _ _ gh];simp;omega
def zxF {p:Nat->Bool} {h:AHeap} (iq:inH (hsel p h) (idsH (hsel p h))):Closed p h:=λi o J hp j hj=>by
 have h1:hget (hsel p h) i=some o:=by rw [zE,aa hp];exact J
 have:=zfW iq j (zg3 h1 j hj);rw [zE] at this;cases hb:p j with
 |true=>rfl
 |false=>rw [hb] at this;simp at this
def cutN:Nat->Nat->Nat->List (Nat×Nat×Nat)
 |0,_,_=> []
 |k+1,a,n=>if n=0 then [] else (a / 128,a % 128,min n (128 - a % 128))::cutN k (a+min n (128 - a % 128)) (n - min n (128 - a % 128))
def cuts (a n:Nat):List (Nat×Nat×Nat):=cutN n a n
def zxG (k:Nat):∀ (j a n:Nat),n<=k->k<=j->cutN j a n=cutN k a n:=by
 induction k with
 |zero=>
  intro j a n h1 h2;have:n=0:=fT;subst this;cases j<;>simp [cutN]
 | succ k J=>
  intro j a n h1 h2;obtain ⟨j,rfl⟩:∃i,j=i+1:=⟨j - 1,fT⟩
  simp only [cutN];split
  .rfl
  .rename_i h0;rw [J j _ _ fT fT]
def zgU (a:Nat):cuts a 0= []:=rfl
def zgf (a n:Nat) (h:0<n):cuts a n=(a / 128,a % 128,min n (128 - a % 128))::cuts (a+min n (128 - a % 128)) (n - min n (128 - a % 128)):=by
 unfold cuts;obtain ⟨k,rfl⟩:∃k,n=k+1:=⟨n - 1,fT⟩
 rw [cutN,U fT];congr 1;exact zxG _ _ _ _ (aj _) fT
def znl (n:Nat):∀a,(cuts a n).length<=n:=by
 induction n using Nat.strongRecOn with
 | _ n J=>
  intro a;rcases cy n with rfl|h
  .simp [zgU]
  .rw [zgf a n h];simp only [aC];have:=J (n - min n (128 - a % 128)) fT (a+min n (128 - a % 128));omega
def cutD (q:Nat×Nat×Nat):List D:= [.int .i64 q.1,.int .i64 q.2.1,.int .i64 q.2.2]
def zcV (q:Nat×Nat×Nat):List AV:= [.agg [.d (.int .i64 q.1),.d (.int .i64 q.2.1),.d (.int .i64 q.2.2)]]
def zrk (a n:Nat) (h:0<n) (xs:List (List AV)) {items:List (List AV)} (e:xs++(cuts a n).map zcV=items):(xs++ [zcV (a / 128,a % 128,min n (128 - a % 128))])<+:items/\
  (xs++ [zcV (a / 128,a % 128,min n (128 - a % 128))])++(cuts (a+min n (128 - a % 128)) (n - min n (128 - a % 128))).map zcV=items:=by
 rw [zgf a n h] at e
 have J:(xs++ [zcV (a / 128,a % 128,min n (128 - a % 128))])++(cuts (a+min n (128 - a % 128)) (n - min n (128 - a % 128))).map zcV=items:=by rw [<-e];simp
 exact ⟨⟨_,J⟩,J⟩
abbrev Pst (items:List (List AV)) (b:Nat):= { q:List (List AV)×Nat×Nat // q.1++(cuts q.2.1 q.2.2).map zcV=items/\q.2.1+q.2.2<=b }
@[go_sem] abbrev hPc (a n:Nat):AHeap:= [(1,.var [.d (.int .i64 n)]),(0,.var [.d (.int .i64 a)])]
def znm (a n:Nat) (hb:a+n<=1100000000):AIter Tryz.prog 304 4 [] [.vp 1 0,.vp 0 0] (hPc a n) ((cuts a n).map zcV) (λg h'=>(∀xs,g=some xs->xs=(cuts a n).map zcV)/\∃u v:Nat,h'=hPc u v):=by
 refine itr Tryz.func304 Tryz.ntmps304 (λbase y=>?_);refine' zaQ fx;refine zk (λq:Pst ((cuts a n).map zcV) (a+n)=>⟨[(0,true,.fn (.yield y.yl) [] []),(1,true,.vp 1 0),(2,true,.vp 0 0)],hPc q.1.2.1 q.1.2.2,some q.1.1⟩) (λq=>q.1.2.2) ⟨([],a,n),rfl,aj _⟩ (lxb @hPc.eq_1) (λq=>?_);obtain ⟨⟨xs,a',n'⟩,he,sN⟩:=q;simp only at he sN |-;rcases cy n' with kX|kX
 .have J:decide ((0:Int)<(n':Int))=false:=ag fT;refine' zaQ J;all_goals first|exact ⟨_,_,rfl⟩|skip
  subst kX;rw [zgU] at he
  .rintro zs rfl;rw [<-he];simp
 .have J:decide ((0:Int)<(n':Int))=true:=af fT;obtain ⟨m,hm⟩:∃m,m=min n' (128 - a' % 128):=⟨_,rfl⟩
  have hq:IntKind.i64.wrap ((a':Int).tdiv 128)=((a' / 128:Nat):Int):=by rw [ct fT,bz];omega
  have hr:(a':Int).tmod 128=((a' % 128:Nat):Int):=by rw [bX fT];omega
  refine' I8
  have nP:imin (n':Int) ((128 - a' % 128:Nat):Int)=(m:Int):=by unfold imin;split<;>omega
  refine' F5;obtain ⟨nf,kY⟩:=zrk a' n' kX xs he;rw [<-hm] at nf kY;simp only [zcV] at nf;refine' zaQ (zr J hq hr hs nP (zg rk rl))
  .exact ⟨⟨⟨_,a'+m,n' - m⟩,kY,gH⟩,lxb (lan @hPc.eq_1 @zcV.eq_1),gH⟩
  .exact ⟨_,_,rfl⟩
def cutR (x:List AV):List D:=match x with
 | [.agg [.d a,.d b,.d c]]=> [a,b,c]
 |_=> []
def zAG (l:List (Nat×Nat×Nat)):(l.map zcV).map cutR=l.map cutD:=by rw [bZ];rfl
@[go_sem] abbrev hC3 (u v:Nat) (l:List (List D)):AHeap:= [(1,.var [.d (.int .i64 v)]),(0,.var [.d (.int .i64 u)]),(3,.arr 3 l),(2,.var [.osl 3 3 l.length 0 l.length])]
def znn (a n:Nat) (J:a+n<=1100000000) (hn:n<=100000):ACall Tryz.prog 303 2 [.nils 3,.fn (.func 304) [] [.vp 1 0,.vp 0 0]] (hPc a n) (λr h'=>r= .osl 3 3 (cuts a n).length 0 (cuts a n).length/\∃u v:Nat,h'=hC3 u v ((cuts a n).map cutD)):=by
 refine bod Tryz.func303 Tryz.ntmps303 (λbase=>?_);have c6:=znl n a;refine' G8;refine zeX 2 0 3 (cs:= [.nils 3]) rfl rfl ?_;refine' Cl;obtain ⟨I,hI⟩:∃I:List (List AV)->AHeap×Option (List (List AV)),I=λxs=>([(3,.arr 3 (xs.map cutR)),(2,.var [.osl 3 3 xs.length 0 xs.length])],some []):=⟨_,rfl⟩
 refine zjh (Kit:=λg h'=>(∀xs,g=some xs->xs=(cuts a n).map zcV)/\∃u v:Nat,h'=hPc u v) (items:=(cuts a n).map zcV) (fl:=4) (λi=>decide (i<2)) I (λ_ _ _=>False) rfl rfl (znm a n J) (zV rfl) nq (zxF ?_) gD ?_ ?_ lS ?_ (λ_ _ _ h=>h.elim) ?_ iK nq ?_ ?_ (λ_ _ _ _ _ h=>h.elim)
 .simp [hsel,inH,idsH,AObj.ids,AV.idsL,AV.ids,hget]
 .rw [hI];simp [hsel,leH,hget,AObj.le,AV.leL,AV.le]
 .rw [hI];simp [inH,idsH,AObj.ids,AV.idsL,AV.ids,hget]
 .intro xs _ i hi;rw [hI] at hi;simp only [hget] at hi;repeat' split at hi
  all_goals first|(simp;omega)|simp at hi
 .rintro gg h' ⟨h1,u,v,rfl⟩;refine ⟨λi hi=>?_,h1⟩;simp only [hget] at hi;repeat' split at hi
  all_goals first|(simp;omega)|simp at hi
 .intro xs x bu l1 r1;obtain ⟨q,hq,rfl⟩:=ba.1 (bu.subset (fv _ (bp.2 rfl)));have jG:=bu.length_le;simp only [ae,al,aC,aM] at jG;obtain ⟨m,d',b'⟩:=q;simp only [zcV];refine aw_le ⟨[(7,true,.agg [.d (.int .i64 m),.d (.int .i64 d'),.d (.int .i64 b')]),(2,true,.vp 2 0)],[(3,.arr 3 (xs.map cutR)),(2,.var [.osl 3 3 xs.length 0 xs.length])],some []⟩ om ?_;refine' zau hI;all_goals first|omega|(simp;done)|skip
  all_goals (rw [aG];rfl)
 .rintro h1 ⟨_,u,v,rfl⟩;rw [hI];simp only [zAG,al];refine' G8;exact ⟨u,v,fZ⟩
def zrl (a n:Nat) (J:a+n<=1100000000) (hn:n<=100000):ACall Tryz.prog 246 2 [.fn (.func 304) [] [.vp 1 0,.vp 0 0]] (hPc a n) (λr h'=>r= .osl 3 3 (cuts a n).length 0 (cuts a n).length/\∃u v:Nat,h'=hC3 u v ((cuts a n).map cutD)):=by
 refine bod Tryz.func246 Tryz.ntmps246 (λbase=>?_);refine' Ds;refine ((znn a n J hn).whole (zV rfl) (aj _) ?_).mono ?_
 .rintro r h' ⟨_,u,v,rfl⟩ i hi;simp only [hget] at hi |-;repeat' split at hi
  all_goals first|(simp_all;done)|skip
 rintro r h' ⟨rfl,u,v,rfl⟩;refine' Ds;exact ⟨u,v,rfl⟩
def zuR (a n:Nat):ACall Tryz.prog 247 0 [.d (.int .i64 a),.d (.int .i64 n)] [] (λr h'=>r= .fn (.func 304) [] [.vp 1 0,.vp 0 0]/\h'=hPc a n):=by refine bod Tryz.func247 Tryz.ntmps247 (λbase=>?_);refine' Ds
def cutsL (a n:Int):List (Nat×Nat×Nat):=if a<0\/n<0\/1073741824<a\/65536<n then [] else cuts a.toNat n.toNat
def zC2 (a n:Int) (_:True):AC 179 [.d (.int .i64 a),.d (.int .i64 n)] (.d (.sl 3 ((cutsL a n).map cutD))):=by
 refine fbod Tryz.func179 Tryz.ntmps179 (λbase=>?_);cases J:(decide (a<0)||decide (n<0)||decide (1073741824<a)||decide (65536<n)) with
 |true=>
  refine' zc J;rw [cutsL,aa (by simpa [dA] using J)];rfl
 | false=>
  refine' Ff;have c6:=znl y x;refine' zc J;refine ((zuR x y).whole (zV rfl) (aj _) (by rintro r h' _ i hi;simp [hget] at hi)).mono ?_;refine' Cp;simp only [go_sem,aeq,aeq.aeqF,simprocAttr,hPc];refine ((zrl x y fT fT).whole (zV rfl) (ad _) ?_).mono ?_
  .rintro r h' ⟨_,u,v,rfl⟩ i hi;simp only [hget] at hi |-;repeat' split at hi
   all_goals first|(simp_all;done)|skip
  rintro r h' ⟨rfl,u,v,rfl⟩;simp only [go_sem,aeq,aeq.aeqF,simprocAttr,hC3];refine' Ds;rw [cutsL,U ib];rfl
@[go_sem] noncomputable def zci:Ent Tryz.prog 179:= .m2 (intT .i64) (intT .i64) zC2
end Go.Aw
namespace Go.Proofs.YtgldbfelccddbaaGreat
open Go Go.RowKit Go.Aw
def noKey (mes:List MapEntry) (n:Int):Bool:=mes.all λe=>match e.key with| .int _ m=>n !=m|_=>false
def keyD (e:MapEntry):D:=match e.key with| .int k m=> .int k m|_=> .nilp
def u32K (mes:List MapEntry):Bool:=mes.all λe=>match e.key with| .int .u32 _=>true|_=>false
def zty {n:Int} :∀ {mes:List MapEntry},noKey mes n=true->aix (.int .u32 n) (mes.map keyD)=none
 | [],_=>rfl
 | e::r,h=>by
  simp only [noKey,bq,aq] at h;simp only [au,aix,zty (mes:=r) h.2];have h1:=h.1;split at h1
  .rename_i k m J;simp only [keyD,J,sameS];rw [U sv];rfl
  .cases h1
def zgY (w:World) (mes:Array MapEntry) (c:Nat) (n:Int) (v:Value) (h:(noKey mes.toList n&&u32K mes.toList)=true):
  (Instr.mapUpdate 279 (.map (some w.heap.size)) (.int .u32 n) v).run Tryz.prog (w.alloc (.map mes c))= .ok () (w.alloc (.map (mes.push ⟨.int .u32 n,v,c⟩) (c+1))):=by
 simp only [aq] at h;have ht:(ty Tryz.prog 279).td= .map 67 1:=fX;have hu:(ty Tryz.prog 67).td= .int .u32:=fX;have hb:(w.alloc (.map mes c)).heap[w.heap.size]?=some (.map mes c):=dB w _;have J:alike (ty Tryz.prog 67).td (.int .u32 n)=true:=by rw [hu];rfl
 have rm:mes.toList.map (·.key)=(mes.toList.map keyD).map valD/\((mes.toList.map keyD).all λp=>alike (ty Tryz.prog 67).td p)=true:=by
  have h2:=h.2;rw [hu];generalize mes.toList=l at h2;induction l with
  |nil=>exact ⟨rfl,rfl⟩
  | cons e r ih=>
   simp only [u32K,bq,aq] at h2;obtain ⟨i1,i2⟩:=ih h2.2;have h3:=h2.1;split at h3
   .rename_i m hm;refine ⟨by simp only [au,i1,keyD,hm,valD],by rw [au,bq,i2];simp only [keyD,hm,alike,beq_self_eq_true,cG]⟩
   .cases h3
 have hf:(Instr.findKey 67 (.int .u32 n) mes.toList).run Tryz.prog (w.alloc (.map mes c))= .ok none (w.alloc (.map mes c)):=by obtain ⟨d,hd,he⟩:=zg6 J;have h4:=J;have h5:=rm.2;rw [<-he] at h4 h5;unfold Instr.findKey;rw [ai,run_underlying hd,ah,show (Value.int .u32 n)=valD (.int .u32 n) from rfl,zj1 h4 _ mes.toList 0 h5 rm.1,zty h.1];rfl
 unfold Instr.mapUpdate;simp only [ai,run_underlying (zmt ht),ah,zlB hb,show (Value.int .u32 n)=valD (.int .u32 n) from rfl,zeA J];rw [show valD (.int .u32 n)=(Value.int .u32 n) from rfl,hf];simp only [ah,ziD hb];refine congrArg (Result.ok ()) (congrArg (λg=>({ w with heap:=g } :World)) ?_);apply Array.toList_inj.1;rw [fy,World.alloc,Array.toList_push,Array.toList_push,List.set_append_right _ _ fZ];simp
abbrev ent (p:Addr) (k:Int) (f c:Nat):MapEntry:=⟨.int .u32 k,Value.func (.func f) #[.pointer (some p)] #[],c⟩
def zny (p:Addr) (w:World):
  Calls Tryz.prog 174 #[.pointer (some p)] w λe w'=>e= .returned (.map (some w.heap.size))/\∃mes c,w'=w.alloc (.map mes c)/\mes.toList.map (·.key)= [1,2,3,6,7,8,9,10].map (Value.int .u32)/\mes.toList.map (·.val)= [238,239,240,241,241,242,243,243].map λf=>Value.func (.func f) #[.pointer (some p)] #[]:=by
 have qf:∀ (fn:Fn) (first cap:Array Value) (w:World),(Instr.makeFunc fn first cap).run Tryz.prog w= .ok (.func fn first cap) w:=λ_ _ _ _=>rfl;have mv:(Instr.makeMap 279 none).run Tryz.prog w= .ok (.map (some w.heap.size)) (w.alloc (.map #[] 0)):=rfl;have i0:(Instr.mapUpdate 279 (.map (some w.heap.size)) (.int .u32 1) (Value.func (.func 238) #[.pointer (some p)] #[])).run Tryz.prog (w.alloc (.map #[] 0))= .ok () (w.alloc (.map #[ent p 1 238 0] 1)):=zgY w _ _ _ _ rfl;have i1:(Instr.mapUpdate 279 (.map (some w.heap.size)) (.int .u32 2) (Value.func (.func 239) #[.pointer (some p)] #[])).run Tryz.prog (w.alloc (.map #[ent p 1 238 0] 1))= .ok () (w.alloc (.map #[ent p 1 238 0,ent p 2 239 1] 2)):=zgY w _ _ _ _ rfl;have i2:(Instr.mapUpdate 279 (.map (some w.heap.size)) (.int .u32 3) (Value.func (.func 240) #[.pointer (some p)] #[])).run Tryz.prog (w.alloc (.map #[ent p 1 238 0,ent p 2 239 1] 2))= .ok () (w.alloc (.map #[ent p 1 238 0,ent p 2 239 1,ent p 3 240 2] 3)):=zgY w _ _ _ _ rfl;have i3:(Instr.mapUpdate 279 (.map (some w.heap.size)) (.int .u32 6) (Value.func (.func 241) #[.pointer (some p)] #[])).run Tryz.prog (w.alloc (.map #[ent p 1 238 0,ent p 2 239 1,ent p 3 240 2] 3))= .ok () (w.alloc (.map #[ent p 1 238 0,ent p 2 239 1,ent p 3 240 2,ent p 6 241 3] 4)):=zgY w _ _ _ _ rfl;have i4:(Instr.mapUpdate 279 (.map (some w.heap.size)) (.int .u32 7) (Value.func (.func 241) #[.pointer (some p)] #[])).run Tryz.prog (w.alloc (.map #[ent p 1 238 0,ent p 2 239 1,ent p 3 240 2,ent p 6 241 3] 4))= .ok () (w.alloc (.map #[ent p 1 238 0,ent p 2 239 1,ent p 3 240 2,ent p 6 241 3,ent p 7 241 4] 5)):=zgY w _ _ _ _ rfl;have i5:(Instr.mapUpdate 279 (.map (some w.heap.size)) (.int .u32 8) (Value.func (.func 242) #[.pointer (some p)] #[])).run Tryz.prog (w.alloc (.map #[ent p 1 238 0,ent p 2 239 1,ent p 3 240 2,ent p 6 241 3,ent p 7 241 4] 5))= .ok () (w.alloc (.map #[ent p 1 238 0,ent p 2 239 1,ent p 3 240 2,ent p 6 241 3,ent p 7 241 4,ent p 8 242 5] 6)):=zgY w _ _ _ _ rfl;have i6:(Instr.mapUpdate 279 (.map (some w.heap.size)) (.int .u32 9) (Value.func (.func 243) #[.pointer (some p)] #[])).run Tryz.prog (w.alloc (.map #[ent p 1 238 0,ent p 2 239 1,ent p 3 240 2,ent p 6 241 3,ent p 7 241 4,ent p 8 242 5] 6))= .ok () (w.alloc (.map #[ent p 1 238 0,ent p 2 239 1,ent p 3 240 2,ent p 6 241 3,ent p 7 241 4,ent p 8 242 5,ent p 9 243 6] 7)):=zgY w _ _ _ _ rfl;have i7:(Instr.mapUpdate 279 (.map (some w.heap.size)) (.int .u32 10) (Value.func (.func 243) #[.pointer (some p)] #[])).run Tryz.prog (w.alloc (.map #[ent p 1 238 0,ent p 2 239 1,ent p 3 240 2,ent p 6 241 3,ent p 7 241 4,ent p 8 242 5,ent p 9 243 6] 7))= .ok () (w.alloc (.map #[ent p 1 238 0,ent p 2 239 1,ent p 3 240 2,ent p 6 241 3,ent p 7 241 4,ent p 8 242 5,ent p 9 243 6,ent p 10 243 7] 8)):=zgY w _ _ _ _ rfl
 go_enter Tryz.func174,Tryz.ntmps174
 go_wp2
 go_ret
 exact ⟨rfl,_,_,rfl,rfl,rfl⟩
end Go.Proofs.YtgldbfelccddbaaGreat
namespace Go.Aw
open Go Go.Proofs
def zBq {X:List (List D)} {i:Nat} {z:List D} (hi:i<X.length):rput (rput X i (X.drop (i+1))) (X.length - 1) [z]=X.eraseIdx i++ [z]:=by
 have e:rput X i (X.drop (i+1))=X.eraseIdx i++X.drop (X.length - 1):=by unfold rput;rw [dC,ak,show i+(X.length - (i+1))=X.length - 1 by omega]
 have J:(X.eraseIdx i).length=X.length - 1:=fF hi;rw [e];unfold rput;rw [dO fT,aA fT,bQ (by rw [ae,ak];simp;omega),bm]
end Go.Aw
