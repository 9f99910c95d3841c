/- Lemmas. -/
import Derived.Test.YtgldbfelccddbaaGreatApa28
set_option linter.all false
set_option maxRecDepth 100000
set_option maxHeartbeats 2000000
namespace Go.Aw
noncomputable section
open Go Go.Proofs Go.Proofs.Tryz
def zkW {op:BinOp} {n m:Nat} (hn:n<65536) (hm:m<9223372036854775808):ibits .and .i64 (n:Int) (m:Int)=((n&&& m:Nat):Int)/\ibits .andNot .i64 (n:Int) (m:Int)=((BitVec.ofNat 64 n&&& ~~~BitVec.ofNat 64 m).toNat:Int):=by
 have e:∀k:Nat,BitVec.ofInt 64 (k:Int)=BitVec.ofNat 64 k:=λk=>cL 64 k
 have J:(BitVec.ofNat 64 n&&& BitVec.ofNat 64 m).toNat=n&&& m:=by rw [dx,bR,bR,bC fT,bC fT]
 have h1:n&&& m<=n:=Nat.and_le_left
 have h2:(BitVec.ofNat 64 n&&& ~~~BitVec.ofNat 64 m).toNat<=n:=by rw [dx,bR,bC fT];exact Nat.and_le_left
 constructor
 .show IntKind.i64.wrap ((BitVec.ofInt 64 (n:Int)&&& BitVec.ofInt 64 (m:Int)).toNat:Int)=_;rw [e,e,J,zf fT fT]
 .show IntKind.i64.wrap ((BitVec.ofInt 64 (n:Int)&&& ~~~BitVec.ofInt 64 (m:Int)).toNat:Int)=_;rw [e,e,zf fT fT]
def zym {n i:Nat} (hn:n<65536) (hi:i<16):ibits .and .i64 (ishr .i64 (n:Int) i) 1=if n.testBit i then 1 else 0:=by
 have e1:ishr .i64 (n:Int) i=((n / 2 ^ i:Nat):Int):=by show (n:Int).fdiv (2 ^ (min (i:Int).toNat 64))=_;rw [aw,ca fT,eP _ (Int.pow_nonneg gb)];norm_cast
 have J:n / 2 ^ i<65536:=fM (Nat.div_le_self _ _) hn;rw [e1,show (1:Int)=((1:Nat):Int) from rfl,(zkW (op:= .and) J (m:=1) gb).1,Nat.and_one_is_mod,Nat.testBit_eq_decide_div_mod_eq];have:=Nat.mod_two_eq_zero_or_one (n / 2 ^ i);rcases this with e|e<;>rw [e]<;>rfl
def zpy {n m i:Nat} (J:n<65536) (hm:m<65536) (hi:i<16):cbad1 n m i=(n.testBit i&& !m.testBit i):=by unfold cbad1;rw [zym J hi,zym hm hi];cases n.testBit i<;>cases m.testBit i<;>rfl
def zpz {f may:Int} :∀ (k i:Nat),cbadL f may i k=true↔ ∃j,i<=j/\j<i+k/\cbad1 f may j=true
 |0,i=>by simp only [cbadL];constructor;(· intro h;cases h);(· rintro ⟨j,h1,h2,_⟩;omega)
 | k+1,i=>by
  rw [cbadL,aH,zpz k (i+1)];constructor
  .rintro (h|⟨j,h1,h2,J⟩)
   .exact ⟨i,aj _,fT,h⟩
   .exact ⟨j,fT,fT,J⟩
  .rintro ⟨j,h1,h2,J⟩;by_cases e:j=i
   .exact .inl (e ▸ J)
   .exact .inr ⟨j,fT,fT,J⟩
def zDd {n m:Nat} (J:n<65536) (hm:m<65536):(ibits .andNot .i64 (ibits .and .i64 (n:Int) 65535) (m:Int) !=0)=cbad n m:=by
 have e0:ibits .and .i64 (n:Int) 65535=(n:Int):=by have:=(zkW (op:= .and) J (m:=65535) gb).1;rw [show ((65535:Nat):Int)=65535 from rfl] at this;rw [this];have e:=dX n 16;rw [show (2:Nat) ^ 16 - 1=65535 from rfl] at e;rw [e,bC (by exact J)]
 rw [e0,(zkW (op:= .and) J (m:=m) fT).2,bV,cbad,zpz];rw [bD];constructor
 .intro h;apply cN;intro jo;apply h
  have:BitVec.ofNat 64 n&&& ~~~BitVec.ofNat 64 m=0#64:=by
   apply ea;intro i hi;rw [cZ,fC,fN,fN,BitVec.getLsbD_zero];by_cases jC:i<16
   .have hc:=zpy J hm jC
    have:cbad1 n m i=false:=by
     cases hb:cbad1 n m i with
     |false=>rfl
     |true=>exact absurd ⟨i,ad _,fT,hb⟩ jo
    rw [this] at hc;simp only [hi,decide_true,bU];exact hc.symm
   .have:n.testBit i=false:=Nat.testBit_lt_two_pow (aE J (eN (n:=2) (i:=16) gb fT));simp [this]
  rw [this];rfl
 .rintro ⟨j,_,jC,h⟩ hz;rw [zpy J hm fT] at h;have qb:BitVec.ofNat 64 n&&& ~~~BitVec.ofNat 64 m=0#64:=fD (by simpa using hz);have:=congrArg (λb=>b.getLsbD j) qb;simp only [cZ,fC,fN,BitVec.getLsbD_zero] at this;simp only [show j<64 by omega,decide_true,bU] at this;rw [this,Nat.zero_testBit] at h;cases h
def zrF (kind:Int) (c:Bool):ACall Tryz.prog 138 0 [.d (.int .i64 kind),.d (.bool c)] [] (λr _=>r= .d (.int .i64 (zcS kind c))):=by
 by_cases h:0<=kind/\kind<8
 .have J:kind=0\/kind=1\/kind=2\/kind=3\/kind=4\/kind=5\/kind=6\/kind=7:=by omega
  rcases J with rfl|rfl|rfl|rfl|rfl|rfl|rfl|rfl<;>cases c<;>
  .refine fbod func138 ntmps138 (λbase=>?_);refine' Ds;all_goals rfl
 .have e:zcS kind c= -1:=by unfold zcS;rw [U fT,U fT,U fT,U fT,U fT]
  rw [e];have hc:(decide (kind<0)||decide (8<=kind))=true:=gh;refine fbod func138 ntmps138 (λbase=>?_);refine' zc hc
def zjy:List (Bool×Int)->Int
 | []=>0
 |r::l=>if r.1 then r.2 else zjy l
def ruleD (r:Bool×Int):List D:= [.bool r.1,.int .u32 r.2]
def zA3 (l:List (Bool×Int)) (hl:l.length<=1000):ACall Tryz.prog 139 0 [.d (.sl 2 (l.map ruleD))] [] (λr _=>r= .d (.int .u32 (zjy l))):=by
 refine fbod func139 ntmps139 (λbase=>?_);refine' Ds;refine zk (λq: { i:Nat // i<=l.length/\zjy l=zjy (l.drop i) } =>⟨[(5,true,.d (.sl 2 (l.map ruleD))),(6,true,.d (.int .i64 l.length)),(7,true,.d (.int .i64 q.1))],[],some []⟩) (λq=>l.length - q.1) ⟨0,ad _,rfl⟩ le1 (λq=>?_);refine' Di;rcases zw ruleD l i hi with ⟨⟨b,m⟩,hq,aZ,J,ab,b4,a7⟩|⟨ao,J⟩
 .simp only [ruleD] at ab;refine' CO;rw [b4,zjy] at hf;cases b
  .refine' zc (zg J ab);refine' Gh
  .refine' zc (zg J ab);rw [hf];rfl
 .subst ao;rw [aP,zjy] at hf;refine' zc J;rw [hf]
@[go_sem] def znA:Ent Tryz.prog 138:= .ofL (consL (intT .i64) (consL boolT nilL)) (λ(kind,c,_)=>True) (λ(kind,c,_)=> .d (.int .i64 (zcS kind c))) (λ(kind,c,_) hp=>⟨rfl,zrF kind c⟩)
def zyn (k:Int) (c:Bool):zcS k c<=8:=by
 unfold zcS;repeat' split
 all_goals omega
def chkL (q:Rq) (size:Int) (ch:Bool) (ms:List Int) (E:Int):List (Bool×Int):= [(decide (zcS q.kind ch<0)||(ibits .andNot .i64 (ibits .and .i64 q.flags 65535) (zcS q.kind ch) !=0),22),(q.kind==2,0),(q.kind==3&&(q.frm !=0||q.len !=0),22),(q.kind==3,0),(q.len==0,22),(decide (1024<q.len),75),(decide (size<q.frm)||decide (IntKind.u64.wrap (size - q.frm)<IntKind.u64.wrap q.len),E),(q.kind==7&&(!ch||((ms.length:Int)==0)),22)]
def zyo {q:Rq} {size:Int} {ch:Bool} {ms:List Int} {E:Int} (hE:E=if q.kind=1 then 28 else 22) (f0:0<=q.flags) (f1:q.flags<65536) (c0:0<=q.len) (c1:q.len<4294967296) (g0:0<=q.frm) (s1:size<18446744073709551616):zjy (chkL q size ch ms E)=za2 q size ch ms:=by
 have hm:=zyn q.kind ch;unfold za2 chkL;simp only [zjy];by_cases h1:zcS q.kind ch<0
 .rw [aa h1,af h1];rfl
 rw [U h1,ag h1,cB];have hb:=zDd (n:=q.flags.toNat) (m:=(zcS q.kind ch).toNat) fT fT;rw [eY f0,eY fT] at hb;rw [hb];split
 .rfl
 by_cases k2:q.kind=2
 .rw [aa k2,aa (by simpa using k2)]
 rw [U k2,U (by simpa using k2)];by_cases k3:q.kind=3
 .rw [aa k3,beq_iff_eq.mpr k3,bU,aa rfl];by_cases J:q.frm≠0\/q.len≠0
  .rw [aa J,aa gQ]
  .rw [U J,U gQ]
 rw [U k3,ej k3,cD,U gb,U gb];by_cases l0:q.len=0
 .rw [aa l0,aa (by simpa using l0)]
 rw [U l0,U (by simpa using l0)];by_cases l1:1024<q.len
 .rw [aa l1,aa (by simpa using l1)]
 rw [U l1,U (by simpa using l1),zA c0 fT];by_cases hs:size<q.frm
 .rw [af hs,dD,aa rfl,aa (Or.inl hs),hE]
 .rw [ag hs,cB,zA fT fT];by_cases ht:size - q.frm<q.len
  .rw [aa (af ht),aa (Or.inr ht),hE]
  .rw [U (show ¬decide (size - q.frm<q.len)=true by simpa using ht),U (show ¬(size<q.frm\/size - q.frm<q.len) by omega)];by_cases h7:q.kind=7/\(ch=false\/ms.length=0)
   .rw [aa h7];obtain ⟨e1,e2⟩:=h7;rw [aa];rw [e1];rcases e2 with e2|e2<;>rw [e2]<;>simp
   .rw [U h7];rw [U];intro e;apply h7;simp only [aq,aH,aF,bI] at e;exact ⟨e.1,e.2.imp id (λe=>fT)⟩
structure ChkOk (q:Rq):Prop where
 f0:0<=q.flags
 f1:q.flags<65536
 c0:0<=q.len
 c1:q.len<4294967296
 g0:0<=q.frm
def XpOk (x:Xp):Prop:=0<=x.size/\x.size<18446744073709551616
def zA4 (q:Rq) (x:Xp) (n:Ng) (h:ChkOk q) (J:XpOk x):ACall Tryz.prog 73 0 [rqA q,xpA x,ngA n] [] (λr _=>r= .d (.int .u32 (za2 q x.size n.chunks n.metas))):=by
 refine fbod func73 ntmps73 (λbase=>?_);refine' zfh (zL 6) fx (za znA <| zb _)
 all_goals
  refine zfx noTab (zb _) 71 3 (λK hK=>?_);refine' Cl;refine ⟨λh=>⟨h,λh2=>by rw [h,h2];rfl⟩,λh=>⟨h,λh2=>by rw [h,h2];rfl⟩,_,rfl,?_⟩;refine' Cl;refine (zaE (zA3 (chkL q x.size n.chunks n.metas _) (by simp [chkL]))).mono ?_;refine' Cp;refine' Cl;refine' Ds;rw [zyo _ h.f0 h.f1 h.c0 h.c1 h.g0 J.2]
 .exact (aa (beq_iff_eq.mp hc)).symm
 .exact (U gA).symm
@[go_sem] def zhq:Ent Tryz.prog 73:= .ofL (consL rqA_T (consL xpA_T (consL ngA_T nilL))) (λ(q,x,n,_)=>(ChkOk q)/\(XpOk x)) (λ(q,x,n,_)=> .d (.int .u32 (za2 q x.size n.chunks n.metas))) (λ(q,x,n,_) hp=>⟨rfl,zA4 q x n hp.1 hp.2⟩)
def zp6 (q:Rq) (x:Xp) (n:Ng) (hp:RqOk q/\0<=x.size/\x.size<9223372036854775808/\n.metas.length<=9223372036854775807):AC 120 [rqA q,xpA x,ngA n] (.d (.int .u32 (za2 q x.size n.chunks n.metas))):=by
 obtain ⟨h,h0,h1,hm⟩:=hp;obtain ⟨size,names⟩:=x;obtain ⟨ph,bu,br,ch,ms⟩:=n;simp only at h0 h1 hm |-;refine fbod func120 ntmps120 (λbase=>?_);obtain ⟨Z,hZ⟩:∃Z,Z=za2 q size ch ms:=⟨_,rfl⟩
 rw [<-hZ];rw [za2] at hZ;refine' HR;have hw:IntKind.u64.wrap q.len=q.len:=zA fT fT;obtain ⟨m,tU⟩:∃m,m=zcS q.kind ch:=⟨_,rfl⟩
 rw [<-tU] at hZ;cases e0:decide (m<0) with
 |true=>
  refine' walkW (zg tU.symm e0) (za zam <| zb _);rw [hZ,aa (bd e0)]
 |false=>
 rw [U (aQ e0)] at hZ;refine' walkW (zg tU.symm e0) (za zam <| zb _);refine zk (λq': { i:Nat // i<=16/\cbad q.flags m=cbadL q.flags m i (16 - i) } =>⟨[(3,true,.vp 0 0),(4,true,.vp 1 0),(5,true,.vp 2 0),(7,true,.d (.int .i64 m)),(8,true,.d (.int .i64 q'.1))],[(2,.var [.d (.int .i64 ph),.d (.str bu),.d (.bool br),.d (.bool ch),.d (.sl 1 (ms.map u32D))]),(1,.var [.d (.int .u64 size),.d (.sl 1 (names.map strD))]),(0,.var [.d (.int .i64 q.flags),.d (.int .i64 q.kind),.d (.int .u64 q.cookie),.d (.int .u64 q.frm),.d (.int .u32 q.len),.d (.str q.data)])],some []⟩) (λq'=>16 - q'.1) ⟨0,ad _,rfl⟩ le1 (λq'=>?_);obtain ⟨i,hi,hf⟩:=q';simp only at hi hf |-;rcases aO i 16 with cl|gU
 .have J:decide ((i:Int)<16)=true:=af fT;refine' CO;rw [show 16 - i=(15 - i)+1 by omega,cbadL] at hf;cases hb:cbad1 q.flags m i with
  |true=>
   have b3:=hb;unfold cbad1 at b3;rw [hb,dD] at hf;rw [aa hf] at hZ;refine' walkW (zg J b3) (za zam <| zb _);rw [hZ]
  |false=>
   have b3:=hb;unfold cbad1 at b3;rw [hb,cB] at hf;refine' walkW (zg J b3) (za zam <| zb _);exact ⟨⟨i+1,fT,by rw [hf,show 16 - (i+1)=15 - i by omega]⟩,lev,gh⟩
 .have J:decide ((i:Int)<16)=false:=ag fT;rw [show 16 - i=0 by omega,cbadL] at hf;rw [hf,U gb] at hZ;cases e2:(q.kind==2) with
  |true=>
   refine' walkW (zg J e2) (za zam <| zb _);rw [hZ,aa (beqP e2)]
  |false=>
  rw [U (beqN e2)] at hZ;cases e3:(q.kind==3) with
  | true=>
   rw [aa (beqP e3)] at hZ;cases e4:(q.frm !=0||q.len !=0) with
   |true=>
    refine' walkW (zB J e2 e3 e4) (za zam <| zb _);rw [hZ,aa (by simpa using e4)]
   |false=>
    refine' walkW (zB J e2 e3 e4) (za zam <| zb _);rw [hZ,U (by simpa using e4)]
  |false=>
  rw [U (beqN e3)] at hZ;cases e5:(q.len==0) with
  |true=>
   refine' walkW (zB J e2 e3 e5) (za zam <| zb _);rw [hZ,aa (beqP e5)]
  |false=>
  rw [U (beqN e5)] at hZ;cases e6:decide (1024<q.len) with
  |true=>
   refine' walkW (zat J e2 e3 e5 e6) (za zam <| zb _);rw [hZ,aa (bd e6)]
  |false=>
  rw [U (aQ e6)] at hZ
  have e7:(decide (size<q.frm)||decide (IntKind.u64.wrap (size - q.frm)<q.len))=decide (size<q.frm\/size - q.frm<q.len):=by
   rcases ei size q.frm with h2|h2
   .rw [af h2,af (Or.inl h2),dD]
   .rw [zA fT fT,ag (by omega:¬size<q.frm),cB];simp only [show ¬size<q.frm by omega,false_or]
  by_cases h7:size<q.frm\/size - q.frm<q.len
  .rw [aa h7] at hZ;rw [af h7] at e7;cases e8:(q.kind==1) with
   |true=>
    refine' E9;rw [hZ,aa (beqP e8)]
   |false=>
    refine' E9;rw [hZ,U (beqN e8)]
  .rw [U h7] at hZ;rw [ag h7] at e7;cases e8:(q.kind==7) with
   |false=>
    refine' E9;rw [hZ,U (λh=>beqN e8 h.1)]
   |true=>
   cases ch with
   |false=>
    refine' E9;rw [hZ,aa ⟨beqP e8,.inl rfl⟩]
   | true=>
    cases e9:((ms.length:Int)==0) with
    |true=>
     refine' walkW (zr J e2 e3 e5 e6 (zB hw e7 e8 e9)) (za zam <| zb _);rw [hZ,aa ⟨beqP e8,.inr (by have:=beqP e9;omega)⟩]
    |false=>
     refine' walkW (zr J e2 e3 e5 e6 (zB hw e7 e8 e9)) (za zam <| zb _);rw [hZ,U (λh=>beqN e9 (by rcases h.2 with h|h;cases h;omega))]
@[go_sem] def zc8:Ent Tryz.prog 120:= .m3 rqA_T xpA_T ngA_T zp6
end
end Go.Aw
