/-
 Requests, the program's: a step, a run.
-/
import Derived.Test.YtgldbfelccddbaaGreatApa38
set_option linter.all false
set_option maxRecDepth 100000
set_option maxHeartbeats 2000000
namespace Go.Aw
open Go Go.Proofs
def zyO (s:Tw) (h:ImgF s.x) (g0:0<=s.x.geom.guest) (hm:s.x.maps.length<=5000) (J:RqOk s.q) (hf:s.q.frm<=1000000) (me:s.ms.length<=1000) (oX:∀m∈s.ms,0<=m/\m<4294967296) (hk:s.q.kind=7):ACall Tryz.prog 108 30 [.vp 4 0] [(4,.var (twV s (.nils 2)))] (λr h'=>∃aZ,h'= [(4,aZ)]/\∃L,r= .d (.int .i64 (tctxL s.x s.q s.ms []).2)/\((tctxL s.x s.q s.ms []).2=0->L=(tctxL s.x s.q s.ms []).1)/\aZ= .var (twV s (.d (.sl 2 (L.map spnD))))):=by refine bod Tryz.func108 Tryz.ntmps108 (λbase=>?_);have hb:(s.q.kind==7)=true:=pd;refine' zc hb;refine ((zvv s h g0 hm J hf me oX).one rfl rfl (zV rfl) rfl (zfs rfl) gD fT).mono ?_;rintro r h' ⟨aZ,⟨L,rfl,hL,rfl⟩,rfl⟩;refine' IP;refine' Ds;all_goals first|exact ⟨_,rfl,L,rfl,hL,rfl⟩|exact ⟨_,rfl,L,hL,rfl⟩|skip
def zyP (s:Tw) (h:ImgF s.x) (hk:s.q.kind≠7):ACall Tryz.prog 108 30 [.vp 4 0] [(4,.var (twV s (.nils 2)))] (λr h'=>∃aZ,h'= [(4,aZ)]/\r= .d (.int .i64 (tlast s.x s.q s.ms).2.2)/\aZ= .var (twV { s with x:=(tlast s.x s.q s.ms).1 } (.nils 2))):=by
 refine bod Tryz.func108 Tryz.ntmps108 (λbase=>?_);have hb:(s.q.kind==7)=false:=pd;rw [tlast,U hk];cases b3:(s.q.kind==3||(ibits .and .i64 s.q.flags 1 !=0)) with
 | true=>
  have J:s.q.kind=3\/hasF s.q.flags 1=true:=by simp only [aH,aF] at b3;exact b3
  rw [aa J];refine' zc (zg hb b3);refine (zcq (fix1 (zyN s h)) gb rfl (zfs rfl) gD).mono ?_;refine' Cp;refine' Cl;refine' Ds;all_goals first|exact ⟨_,rfl,rfl,rfl⟩|exact ⟨_,rfl,rfl⟩|skip
 | false=>
  have J:¬(s.q.kind=3\/hasF s.q.flags 1=true):=by rw [<-cb] at b3;simp only [aH,aF] at b3;exact b3
  rw [U J];refine' zc (zg hb b3);all_goals first|exact ⟨_,rfl,rfl,rfl⟩|exact ⟨_,rfl,rfl⟩|skip
def zBj (x:Img) (t:Tsk) (ms:List Int) (h:TkOk x t) (hm:ms.length<=1000) (hr:∀m∈ms,0<=m/\m<4294967296):ACall Tryz.prog 50 0 [imgA x,tskA t,.d (.sl 1 (ms.map u32D))] [] (λr _=>r= .tup [imgA (tstep x t ms).1,tskA (tstep x t ms).2]):=by
 refine fbod Tryz.func50 Tryz.ntmps50 (λbase=>?_);refine' FL;have qF:=h.hi;have jl:=h.len;have gw:=h.data;have lb:=znC t.q.flags 1;cases hd:t.done with
 |true=>
  rw [zl3 hd] at J;refine' zc hd;all_goals first|(rw [J];done)|(rw [J,<-hd];done)|(rw [J,<-hd];rfl)|skip
 |false=>
 have ef:=h.spans hd;by_cases hl:t.loc<t.cuts.length
 .have hb:decide (t.loc<(t.cuts.length:Int))=true:=af hl;rw [ztD hd fT] at J;obtain ⟨k,hk⟩:∃k:Nat,t.loc=k:=⟨t.loc.toNat,fT⟩
  obtain ⟨⟨c0,c1,c2⟩,hc⟩:=zaD (l:=t.cuts) (i:=k) fT;have ab:=zbB (g:=cutD) hc;simp only [cutD] at ab;have kM:t.loc.toNat=k:=fT;obtain ⟨j4,jg,kk⟩:=h.cut _ (ay hc);simp only at j4 jg kk;rw [tpcG,aN,kM,hc] at J;refine' HH;have fW:IntKind.i64.wrap (t.loc+1)=t.loc+1:=zf fT fT;have hW:TwOk ⟨t.q,t.cuts,t.loc,t.err,t.data,[],false,x,ms,c0,c1,c2⟩:=⟨gC,k5,oy,r5,fZ,fZ,fZ,gH,gH,λgx=>by have:=kk gx;simp only;omega,gw⟩
  rcases h.kind (by intro e;rw [e] at hc;cases hc) with hq|hq|hq|hq
  .have o6:Int.toNat t.q.kind=0:=by rw [hq];rfl
   refine' HB;rw [ld] at J;simp only at J;refine' zc (zat hd hb ab kM o6);refine (zcq (fix1 (zBg _ hW)) gb rfl (zfs rfl) gD).mono ?_;refine' Cp;simp only [<-hR];cases he:(R.2 !=0) with
   |true=>
    rw [aa gp,tfail] at J;refine' Cl;refine' Ht;all_goals first|(rw [aa (beqP hc)] at J;rw [J];done)|(rw [aa (beqP hc)] at J;rw [J];rfl)|(rw [U (beqN hc)] at J;rw [J];done)|(rw [U (beqN hc)] at J;rw [J];rfl)|skip
   |false=>
    rw [U gp] at J;refine' Cl;refine' Ht;all_goals first|(rw [J,ef];done)|(rw [J,ef];rfl)|(rw [J];done)|(rw [J];rfl)|skip
  .have o6:Int.toNat t.q.kind=1:=by rw [hq];rfl
   refine' Ga;refine' G6;have oc:=zyM _ hW hq;simp only [<-hs,<-hR] at oc;refine' Fx;refine' Cp;cases he:(R.2 !=0) with
   |true=>
    rw [aa gp,tfail] at J;refine' Cl;refine' Ht;all_goals first|(rw [aa (beqP hc)] at J;rw [J];done)|(rw [aa (beqP hc)] at J;rw [J];rfl)|(rw [U (beqN hc)] at J;rw [J];done)|(rw [U (beqN hc)] at J;rw [J];rfl)|skip
   |false=>
    rw [U gp] at J;refine' Cl;refine' Ht;all_goals first|(rw [J,ef];done)|(rw [J,ef];rfl)|(rw [J];done)|(rw [J];rfl)|skip
  .have o6:Int.toNat t.q.kind=4:=by rw [hq];rfl
   obtain ⟨R,hR⟩:∃R,R=zco true (c0,c1,c2) x:=⟨_,rfl⟩
   have ld:P=(R.1,[],R.2):=by rw [hP,tpc,U kW,U kW,hR,hq];rfl
   rw [ld] at J;simp only [bm] at J;have oc:=zBh _ hW c0 c1 c2 rfl rfl rfl;simp only [<-hR] at oc;refine' Fx;refine' Cp;cases he:(R.2 !=0) with
   |true=>
    rw [aa gp,tfail] at J;refine' Cl;refine' Ht;all_goals first|(rw [aa (beqP hc)] at J;rw [J];done)|(rw [aa (beqP hc)] at J;rw [J];rfl)|(rw [U (beqN hc)] at J;rw [J];done)|(rw [U (beqN hc)] at J;rw [J];rfl)|skip
   |false=>
    rw [U gp] at J;refine' Cl;refine' Ht;all_goals first|(rw [J,ef];done)|(rw [J,ef];rfl)|(rw [J];done)|(rw [J];rfl)|skip
  .have o6:Int.toNat t.q.kind=6:=by rw [hq];rfl
   obtain ⟨R,hR⟩:∃R,R=zco (!hasF t.q.flags 2) (c0,c1,c2) x:=⟨_,rfl⟩
   have ld:P=(R.1,[],R.2):=by rw [hP,tpc,U kW,U kW,hR,hq];rfl
   rw [ld] at J;simp only [bm] at J;have oc:=zBi _ hW c0 c1 c2 rfl rfl rfl;simp only [<-hR] at oc;refine' Fx;refine' Cp;cases he:(R.2 !=0) with
   |true=>
    rw [aa gp,tfail] at J;refine' Cl;refine' Ht;all_goals first|(rw [aa (beqP hc)] at J;rw [J];done)|(rw [aa (beqP hc)] at J;rw [J];rfl)|(rw [U (beqN hc)] at J;rw [J];done)|(rw [U (beqN hc)] at J;rw [J];rfl)|skip
   |false=>
    rw [U gp] at J;refine' Cl;refine' Ht;all_goals first|(rw [J,ef];done)|(rw [J,ef];rfl)|(rw [J];done)|(rw [J];rfl)|skip
 have hb:decide (t.loc<(t.cuts.length:Int))=false:=ag hl;rw [zmb hd fT,zyq] at J;by_cases h7:t.q.kind=7
 .have ue:=zyO ⟨t.q,t.cuts,t.loc,t.err,t.data,[],false,x,ms,0,0,0⟩ k5 oy r5 gC k3 hm hr h7;rw [tlast,aa h7] at J;simp only at ue J;obtain ⟨S,hS⟩:∃S,S=tctxL x t.q ms []:=⟨_,rfl⟩
  rw [<-hS] at ue J;refine' zc (zg hd hb);refine (ue.one rfl rfl (zV rfl) rfl (zfs rfl) gD fT).mono ?_;rintro r h' ⟨aZ,⟨L,rfl,hL,rfl⟩,rfl⟩;cases he:(S.2 !=0) with
  |true=>
   rw [aa gp,tfail] at J;refine' IP;refine' zc he;all_goals first|(rw [aa (beqP hc)] at J;rw [J];done)|(rw [aa (beqP hc)] at J;rw [J];rfl)|(rw [U (beqN hc)] at J;rw [J];done)|(rw [U (beqN hc)] at J;rw [J];rfl)|skip
  |false=>
   rw [U gp] at J;rw [hL gp];refine' IP;refine' zc he;all_goals first|(rw [J];done)|(rw [J];rfl)|(rw [J];done)|(rw [J];rfl)|skip
 .have uf:=zyP ⟨t.q,t.cuts,t.loc,t.err,t.data,[],false,x,ms,0,0,0⟩ k5 h7
  have e8:(tlast x t.q ms).2.1= []:=by rw [tlast,U h7];split<;>rfl
  simp only at uf;obtain ⟨S,hS⟩:∃S,S=tlast x t.q ms:=⟨_,rfl⟩
  rw [<-hS] at uf J e8;refine' zc (zg hd hb);refine (zcq (fix1 uf) gb rfl (zfs rfl) gD).mono ?_;refine' Cp;cases he:(S.2.2 !=0) with
  |true=>
   rw [aa gp,tfail] at J;refine' Cl;refine' zc he;all_goals first|(rw [aa (beqP hc)] at J;rw [J];done)|(rw [aa (beqP hc)] at J;rw [J];rfl)|(rw [U (beqN hc)] at J;rw [J];done)|(rw [U (beqN hc)] at J;rw [J];rfl)|skip
  |false=>
   rw [U gp,e8] at J;refine' Cl;refine' zc he;all_goals first|(rw [J];done)|(rw [J];rfl)|(rw [J];done)|(rw [J];rfl)|skip
@[go_sem] noncomputable def zvw:Ent Tryz.prog 50:= .ofL (consL za9 (consL zii (consL (slT 1 u32D zjS) nilL))) (λ(x,t,ms,_)=>(TkOk x t)/\(ms.length<=1000)/\(∀m∈ms,0<=m/\m<4294967296)) (λ(x,t,ms,_)=> .tup [imgA (tstep x t ms).1,tskA (tstep x t ms).2]) (λ(x,t,ms,_) hp=>⟨rfl,zBj x t ms hp.1 hp.2.1 hp.2.2⟩)
end Go.Aw
