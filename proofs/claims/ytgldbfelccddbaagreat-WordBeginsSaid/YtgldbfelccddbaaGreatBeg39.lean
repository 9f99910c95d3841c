/-
 Pieces judged: what tells of a range, and any piece.
-/
import Derived.Test.YtgldbfelccddbaaGreatBeg36
set_option maxRecDepth 100000
set_option maxHeartbeats 2000000
set_option linter.unusedSimpArgs false
set_option linter.unusedVariables false
namespace Go.Aw
open Go Go.Proofs
theorem zj8:∀l:List Ext,(∀e∈l,0≤e.len∧e.len<4294967296)→0≤lenS l∧lenS l≤4294967296*l.length
 | [],_=>⟨Int.le_refl _,Int.le_refl _⟩
 |e::r,h=>by
  have ih:=zj8 r (fun x hx=>h x (List.mem_cons_of_mem _ hx))
  have he:=h e List.mem_cons_self
  simp only [lenS,List.map_cons,List.sum_cons,List.length_cons] at ih ⊢
  omega
theorem znk (l:List Ext) (e:Ext):lenS (l++ [e])=lenS l+e.len:=by simp [lenS,List.map_append,List.sum_append]
theorem zow (s:Txt):(stRd s).2.1.length≤500∧∀e∈(stRd s).2.1,0≤e.len∧e.len<4294967296:=by
 unfold stRd
 split
 ·exact ⟨by decide,fun e he=>by cases he⟩
 split
 ·exact ⟨by decide,fun e he=>by cases he⟩
 ·have:=zem ((s.length - 4) / 8) (s.drop 4)
  exact ⟨by simp only;omega,this.2⟩
theorem zk6 (j:Jdg) (c:Chk) (k:Nat) (h:JdgOk j) (hk:k≤2000000) (hs:c.data.length≤9223372036854775807):ACall Tryz.prog 150 0 [jdgA j,chkA c,.d (.int .i64 k)] [] (fun r _=>r= .tup [.d (.bool (jStat j c k).1),.d (.bool (jStat j c k).2)]):=by
 obtain ⟨h1,h2,h3,h4,h5⟩:=h
 obtain ⟨V,hV⟩:∃V,V=jStat j c k:=⟨_,rfl⟩
 rw [← hV]
 unfold jStat at hV
 have hwk:=zp (i:=k) (by omega)
 have hwl:IntKind.i64.wrap j.q.len=j.q.len:=zf (by omega) (by omega)
 refine fbod Tryz.func150 Tryz.ntmps150 (fun base=>?_)
 by_cases hkm:j.n.metas.length≤k
 ·have hc:decide ((j.n.metas.length:Int)≤(k:Int))=true:=decide_eq_true (by omega)
  rw [if_pos hkm] at hV
  refine' zc hc
  rw [hV]
 rw [if_neg hkm] at hV
 have hc:decide ((j.n.metas.length:Int)≤(k:Int))=false:=decide_eq_false (by omega)
 obtain ⟨R,hR⟩:∃R,R=stRd c.data:=⟨_,rfl⟩
 have hRr:=zow c.data
 rw [← hR] at hV hRr
 obtain ⟨B,hB⟩:∃B,B=decide (k+1=j.n.metas.length):=⟨_,rfl⟩
 have hBB:((((k+1:Nat):Int))==(j.n.metas.length:Int))=B:=by
  rw [hB]
  by_cases e:k+1=j.n.metas.length
  ·rw [decide_eq_true e,e];exact beq_self_eq_true _
  ·rw [decide_eq_false e];exact beq_eq_false_iff_ne.2 (by omega)
 rw [← hB] at hV
 refine' walkW (z7 hc hR.symm hwk hBB) (zb zgR <| za _)
 obtain ⟨L,hL⟩:∃L,L=R.2.1:=⟨_,rfl⟩
 rw [← hL] at hV hRr ⊢
 refine zt (fun q: { i:Nat // i≤L.length } =>⟨[(2,true,.d (.int .i64 k)),(3,true,.vp 0 0),(4,true,.vp 1 0),(8,true,.d (.bool B)),(9,true,.d (.int .u32 R.1)),(10,true,.d (.sl 2 (L.map extD))),(11,true,.d (.int .i64 R.2.2)),(12,true,.d (.int .i64 (lenS (L.take q.1)))),(36,true,.d (.sl 2 (L.map extD))),(37,true,.d (.int .i64 L.length)),(38,true,.d (.int .i64 q.1))],
  [(1,.var [.d (.bool c.done),.d (.int .i64 c.kind),.d (.int .u64 c.cookie),.d (.str c.data)]),(0,.var [.d (.int .i64 j.q.flags),.d (.int .i64 j.q.kind),.d (.int .u64 j.q.cookie),.d (.int .u64 j.q.frm),.d (.int .u32 j.q.len),.d (.str j.q.data),.d (.int .i64 j.n.phase),.d (.str j.n.buf),.d (.bool j.n.brief),.d (.bool j.n.chunks),.d (.sl 1 (j.n.metas.map u32D)),.d (.int .u32 j.err)])],some []⟩) (fun q=>L.length - q.1) ⟨0,Nat.zero_le _⟩ le1 (fun q=>?_)
 obtain ⟨i,hi⟩:=q
 simp only at hi ⊢
 have htr:=zj8 (L.take i) (fun e he=>hRr.2 e (List.mem_of_mem_take he))
 have htl:(L.take i).length=i:=by rw [List.length_take];omega
 rw [htl] at htr
 rcases zaw extD L i hi with ⟨m,hq,hlt,hcmp,hrow,hdr,htk⟩|⟨hend,hcmp⟩
 ·simp only [extD] at hrow
  have hm:=hRr.2 m (List.mem_of_getElem? hq)
  have hwi:=zp (i:=i) (by omega)
  have hws:IntKind.i64.wrap (lenS (L.take i)+m.len)=lenS (L.take (i+1)):=by rw [htk,znk,zf (by omega) (by omega)]
  refine' zc (zF hcmp hrow hws)
  exact ⟨⟨i+1,by omega⟩,lew,by simp;omega⟩
 ·subst hend
  rw [List.take_length] at htr ⊢
  have hkk:k<j.n.metas.length:=by omega
  have hmk:(j.n.metas.map u32D).getD k []= [.int .u32 (j.n.metas.getD k 0)]:=by
   rw [List.getD_eq_getElem?_getD,List.getElem?_map,List.getElem?_eq_getElem hkk,List.getD_eq_getElem?_getD,List.getElem?_eq_getElem hkk]
   rfl
  rw [zoV] at hV
  by_cases hf:ibits .and .i64 j.q.flags 8=0
  ·have hfc:(ibits .and .i64 j.q.flags 8 !=0)=false:=by rw [hf];rfl
   rw [if_neg (fun e=>e hf)] at hV
   refine' zc (z7 hcmp hfc hwl hmk)
   rw [hV]
  ·have hfc:(ibits .and .i64 j.q.flags 8 !=0)=true:=bne_iff_ne.2 hf
   rw [if_pos hf] at hV
   refine' zc (z7 hcmp hfc hwl hmk)
   have hl1:((L.length:Int)==1)=decide (L.length=1):=by
    by_cases e:L.length=1
    ·rw [decide_eq_true e,e];rfl
    ·rw [decide_eq_false e];exact beq_eq_false_iff_ne.2 (by omega)
   rw [hV,hl1]
noncomputable def zcg:Ent Tryz.prog 150:=Ent.of 150 (fun x:(Jdg)×(Chk)×(Nat)=>(fun (j:Jdg) (c:Chk) (k:Nat)=>([jdgA j,chkA c,.d (.int .i64 k)]:List AV)) x.1 x.2.1 x.2.2) (fun x:(Jdg)×(Chk)×(Nat)=>(fun (j:Jdg) (c:Chk) (k:Nat)=>((JdgOk j)∧(k≤2000000)∧(c.data.length≤9223372036854775807):Prop)) x.1 x.2.1 x.2.2) (fun x:(Jdg)×(Chk)×(Nat)=>(fun (j:Jdg) (c:Chk) (k:Nat)=>(.tup [.d (.bool (jStat j c k).1),.d (.bool (jStat j c k).2)]:AV)) x.1 x.2.1 x.2.2) (fun x hp=>⟨rfl,zk6 x.1 x.2.1 x.2.2 hp.1 hp.2.1 hp.2.2⟩)
theorem zh1:∀x y:(Jdg)×(Chk)×(Nat),(fun x:(Jdg)×(Chk)×(Nat)=>(fun (j:Jdg) (c:Chk) (k:Nat)=>([jdgA j,chkA c,.d (.int .i64 k)]:List AV)) x.1 x.2.1 x.2.2) x=(fun x:(Jdg)×(Chk)×(Nat)=>(fun (j:Jdg) (c:Chk) (k:Nat)=>([jdgA j,chkA c,.d (.int .i64 k)]:List AV)) x.1 x.2.1 x.2.2) y→x=y:=by
 intro x y h
 obtain ⟨⟨⟨_,_,_,_,_,_⟩,⟨_,_,_,_,_⟩,_⟩,⟨_,_,_,_⟩,_⟩:=x
 obtain ⟨⟨⟨_,_,_,_,_,_⟩,⟨_,_,_,_,_⟩,_⟩,⟨_,_,_,_⟩,_⟩:=y
 simpa only [chkA,jdgA,Rq.mk.injEq,Ng.mk.injEq,Chk.mk.injEq,Jdg.mk.injEq,List.cons.injEq,AV.d.injEq,AV.agg.injEq,AV.dp.injEq,AV.fn.injEq,AV.tup.injEq,AV.asl.injEq,Int.natCast_inj,D.int.injEq,D.str.injEq,D.bool.injEq,D.sl.injEq,Prod.mk.injEq,and_true,true_and,and_assoc,zis zee] using h
@[go_sem] theorem zox (j_q_flags:Int) (j_q_kind:Int) (j_q_cookie:Int) (j_q_frm:Int) (j_q_len:Int) (j_q_data:Txt) (j_n_phase:Int) (j_n_buf:Txt) (j_n_brief:Bool) (j_n_chunks:Bool) (j_n_metas:List Int) (j_err:Int) (c_done:Bool) (c_kind:Int) (c_cookie:Int) (c_data:Txt) (k:Nat):(zcg).e [.agg [.d (.int .i64 j_q_flags),.d (.int .i64 j_q_kind),.d (.int .u64 j_q_cookie),.d (.int .u64 j_q_frm),.d (.int .u32 j_q_len),.d (.str j_q_data),.d (.int .i64 j_n_phase),.d (.str j_n_buf),.d (.bool j_n_brief),.d (.bool j_n_chunks),.d (.sl 1 (j_n_metas.map u32D)),.d (.int .u32 j_err)],.agg [.d (.bool c_done),.d (.int .i64 c_kind),.d (.int .u64 c_cookie),.d (.str c_data)],.d (.int .i64 k)]=some ((JdgOk (Jdg.mk (Rq.mk j_q_flags j_q_kind j_q_cookie j_q_frm j_q_len j_q_data) (Ng.mk j_n_phase j_n_buf j_n_brief j_n_chunks j_n_metas) j_err))∧(k≤2000000)∧((Chk.mk c_done c_kind c_cookie c_data).data.length≤9223372036854775807),.tup [.d (.bool (jStat (Jdg.mk (Rq.mk j_q_flags j_q_kind j_q_cookie j_q_frm j_q_len j_q_data) (Ng.mk j_n_phase j_n_buf j_n_brief j_n_chunks j_n_metas) j_err) (Chk.mk c_done c_kind c_cookie c_data) k).1),.d (.bool (jStat (Jdg.mk (Rq.mk j_q_flags j_q_kind j_q_cookie j_q_frm j_q_len j_q_data) (Ng.mk j_n_phase j_n_buf j_n_brief j_n_chunks j_n_metas) j_err) (Chk.mk c_done c_kind c_cookie c_data) k).2)]):=Ent.of_app zh1 ((Jdg.mk (Rq.mk j_q_flags j_q_kind j_q_cookie j_q_frm j_q_len j_q_data) (Ng.mk j_n_phase j_n_buf j_n_brief j_n_chunks j_n_metas) j_err),(Chk.mk c_done c_kind c_cookie c_data),k)
theorem znl (s:Txt):0≤IntKind.u32.wrap (takeS s 4).1∧IntKind.u32.wrap (takeS s 4).1<4294967296:=by
 rw [IntKind.wrap_u32]
 omega
theorem znm (j:Jdg) (c:Chk) (k:Nat) (h:JdgOk j) (hk:k≤2000000) (hs:c.data.length≤9223372036854775807) (hj:j.err=0→0≤j.q.kind∧j.q.kind<8):ACall Tryz.prog 79 0 [jdgA j,chkA c,.d (.int .i64 k)] [] (fun r _=>r= .tup [.d (.bool (zbY j c k).1),.d (.bool (zbY j c k).2)]):=by
 obtain ⟨V,hV⟩:∃V,V=zbY j c k:=⟨_,rfl⟩
 rw [← hV]
 unfold zbY at hV
 refine fbod Tryz.func79 Tryz.ntmps79 (fun base=>?_)
 by_cases hck:c.cookie=j.q.cookie
 rotate_left
 ·have hc:(c.cookie !=j.q.cookie)=true:=bne_iff_ne.2 hck
  rw [if_pos hck] at hV
  refine' zc hc
  rw [hV]
 have hc:(c.cookie !=j.q.cookie)=false:=by rw [hck];exact bne_self_eq_false _
 rw [if_neg (fun e=>e hck)] at hV
 by_cases hk0:c.kind=32769∧k=0
 ·have hc2:(c.kind==32769&&(k:Int)==0)=true:=by rw [hk0.1,hk0.2];rfl
  rw [if_pos hk0] at hV
  have hu:=znl c.data
  refine' walkW (zu hc hc2) (zb zab <| zb zkB <| zb zcM <| za _)
  rw [hV]
  rfl
 ·have hc2:(c.kind==32769&&(k:Int)==0)=false:=by
   rw [Bool.and_eq_false_iff]
   by_cases e:c.kind=32769
   ·exact .inr (beq_eq_false_iff_ne.2 (fun e2=>hk0 ⟨e,by omega⟩))
   ·exact .inl (beq_eq_false_iff_ne.2 e)
  rw [if_neg hk0] at hV
  by_cases hz:j.err=0
  rotate_left
  ·have hzc:(j.err !=0)=true:=bne_iff_ne.2 hz
   rw [if_pos hz] at hV
   refine' walkW (zF hc hc2 hzc) (zb zcz <| zb zcg <| zb zfJ <| za _)
   rw [hV]
  have hzc:(j.err !=0)=false:=by rw [hz];rfl
  rw [if_neg (fun e=>e hz)] at hV
  obtain ⟨g1,g2⟩:=hj hz
  have hkk:j.q.kind=0∨j.q.kind=1∨j.q.kind=2∨j.q.kind=3∨j.q.kind=4∨j.q.kind=5∨j.q.kind=6∨j.q.kind=7:=by omega
  clear g1 g2 hj
  obtain ⟨⟨f0,kd,f2,f3,f4,f5⟩,n,er⟩:=j
  simp only at*
  rcases hkk with rfl|rfl|rfl|rfl|rfl|rfl|rfl|rfl
  all_goals refine' walkW (zF hc hc2 hzc) (zb zcz <| zb zcg <| zb zfJ <| za _)
  all_goals (rw [hV];rfl)
noncomputable def zcU:Ent Tryz.prog 79:=Ent.of 79 (fun x:(Jdg)×(Chk)×(Nat)=>(fun (j:Jdg) (c:Chk) (k:Nat)=>([jdgA j,chkA c,.d (.int .i64 k)]:List AV)) x.1 x.2.1 x.2.2) (fun x:(Jdg)×(Chk)×(Nat)=>(fun (j:Jdg) (c:Chk) (k:Nat)=>((JdgOk j)∧(k≤2000000)∧(c.data.length≤9223372036854775807)∧(j.err=0→0≤j.q.kind∧j.q.kind<8):Prop)) x.1 x.2.1 x.2.2) (fun x:(Jdg)×(Chk)×(Nat)=>(fun (j:Jdg) (c:Chk) (k:Nat)=>(.tup [.d (.bool (zbY j c k).1),.d (.bool (zbY j c k).2)]:AV)) x.1 x.2.1 x.2.2) (fun x hp=>⟨rfl,znm x.1 x.2.1 x.2.2 hp.1 hp.2.1 hp.2.2.1 hp.2.2.2⟩)
theorem zi5:∀x y:(Jdg)×(Chk)×(Nat),(fun x:(Jdg)×(Chk)×(Nat)=>(fun (j:Jdg) (c:Chk) (k:Nat)=>([jdgA j,chkA c,.d (.int .i64 k)]:List AV)) x.1 x.2.1 x.2.2) x=(fun x:(Jdg)×(Chk)×(Nat)=>(fun (j:Jdg) (c:Chk) (k:Nat)=>([jdgA j,chkA c,.d (.int .i64 k)]:List AV)) x.1 x.2.1 x.2.2) y→x=y:=by
 intro x y h
 obtain ⟨⟨⟨_,_,_,_,_,_⟩,⟨_,_,_,_,_⟩,_⟩,⟨_,_,_,_⟩,_⟩:=x
 obtain ⟨⟨⟨_,_,_,_,_,_⟩,⟨_,_,_,_,_⟩,_⟩,⟨_,_,_,_⟩,_⟩:=y
 simpa only [chkA,jdgA,Rq.mk.injEq,Ng.mk.injEq,Chk.mk.injEq,Jdg.mk.injEq,List.cons.injEq,AV.d.injEq,AV.agg.injEq,AV.dp.injEq,AV.fn.injEq,AV.tup.injEq,AV.asl.injEq,Int.natCast_inj,D.int.injEq,D.str.injEq,D.bool.injEq,D.sl.injEq,Prod.mk.injEq,and_true,true_and,and_assoc,zis zee] using h
@[go_sem] theorem zoY (j_q_flags:Int) (j_q_kind:Int) (j_q_cookie:Int) (j_q_frm:Int) (j_q_len:Int) (j_q_data:Txt) (j_n_phase:Int) (j_n_buf:Txt) (j_n_brief:Bool) (j_n_chunks:Bool) (j_n_metas:List Int) (j_err:Int) (c_done:Bool) (c_kind:Int) (c_cookie:Int) (c_data:Txt) (k:Nat):(zcU).e [.agg [.d (.int .i64 j_q_flags),.d (.int .i64 j_q_kind),.d (.int .u64 j_q_cookie),.d (.int .u64 j_q_frm),.d (.int .u32 j_q_len),.d (.str j_q_data),.d (.int .i64 j_n_phase),.d (.str j_n_buf),.d (.bool j_n_brief),.d (.bool j_n_chunks),.d (.sl 1 (j_n_metas.map u32D)),.d (.int .u32 j_err)],.agg [.d (.bool c_done),.d (.int .i64 c_kind),.d (.int .u64 c_cookie),.d (.str c_data)],.d (.int .i64 k)]=some ((JdgOk (Jdg.mk (Rq.mk j_q_flags j_q_kind j_q_cookie j_q_frm j_q_len j_q_data) (Ng.mk j_n_phase j_n_buf j_n_brief j_n_chunks j_n_metas) j_err))∧(k≤2000000)∧((Chk.mk c_done c_kind c_cookie c_data).data.length≤9223372036854775807)∧((Jdg.mk (Rq.mk j_q_flags j_q_kind j_q_cookie j_q_frm j_q_len j_q_data) (Ng.mk j_n_phase j_n_buf j_n_brief j_n_chunks j_n_metas) j_err).err=0→0≤(Jdg.mk (Rq.mk j_q_flags j_q_kind j_q_cookie j_q_frm j_q_len j_q_data) (Ng.mk j_n_phase j_n_buf j_n_brief j_n_chunks j_n_metas) j_err).q.kind∧(Jdg.mk (Rq.mk j_q_flags j_q_kind j_q_cookie j_q_frm j_q_len j_q_data) (Ng.mk j_n_phase j_n_buf j_n_brief j_n_chunks j_n_metas) j_err).q.kind<8),.tup [.d (.bool (zbY (Jdg.mk (Rq.mk j_q_flags j_q_kind j_q_cookie j_q_frm j_q_len j_q_data) (Ng.mk j_n_phase j_n_buf j_n_brief j_n_chunks j_n_metas) j_err) (Chk.mk c_done c_kind c_cookie c_data) k).1),.d (.bool (zbY (Jdg.mk (Rq.mk j_q_flags j_q_kind j_q_cookie j_q_frm j_q_len j_q_data) (Ng.mk j_n_phase j_n_buf j_n_brief j_n_chunks j_n_metas) j_err) (Chk.mk c_done c_kind c_cookie c_data) k).2)]):=Ent.of_app zi5 ((Jdg.mk (Rq.mk j_q_flags j_q_kind j_q_cookie j_q_frm j_q_len j_q_data) (Ng.mk j_n_phase j_n_buf j_n_brief j_n_chunks j_n_metas) j_err),(Chk.mk c_done c_kind c_cookie c_data),k)
end Go.Aw
