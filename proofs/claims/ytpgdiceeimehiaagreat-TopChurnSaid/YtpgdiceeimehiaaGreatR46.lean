/- Part 46 of the proof of spotop.TopChurn. -/
import Derived.Test.YtpgdiceeimehiaaGreatR45
set_option maxRecDepth 100000
set_option maxHeartbeats 16000000
set_option linter.all false
open Go.Proofs.Tryz
namespace Go.Proofs.YtpgdiceeimehiaaGreat
open RowKit
namespace jH
open Ac (Vl dx Wr aA)
open fG (fF tb up)
section
variable{E:gb}{Nq:N}{m:aW.St}{s:Ac.St}{y y':dw.St}{o o':Pg}{p p':bW}{t:gJ}{z beh' r nt' gr gr':Bool}{an bg v:Option Th}{es:N->List iG}{tf:N->dq.dy}{g l i k:N}{th:Th}{tn mv:Bool}{w:Option iG}
def LM(E:gb)(i:N):bW:=if i+1=E.F then .fin else .jR (i+1)
def Bv(E:gb)(i:N)(y:dw.St):dw.St:=if i+1=E.F then{y with dp:=10,aM:=0,i:=0}else{y with i:=i+1}
def qQ(tf:N->dq.dy)(ys:Bool)(i:N):N->dq.dy:=if(tf i).st=2/\(tf i).ah≠ys then up tf i ⟨0,false,false⟩else tf
def lR(S:Sp.St)(tf:N->dq.dy)(ys:Bool)(i:N):Sp.St:=if(tf i).st=2/\(tf i).ah≠ys then{S with l:=S.l.set i ⟨0,false,false⟩,fr:=S.fr.set i true}else S
theorem EE(hE:E.Ok)(h:dR E Nq m s y o ⟨.jR i,t,z,r,gr,an,bg,v,es,tf,g⟩):iL E Nq s ⟨.jR i,t,z,r,gr,an,bg,v,es,tf,g⟩ {m with s:=lR m.s tf y.ah i} (Bv E i y) o:=by
 obtain rfl:=h.mF T;obtain rfl:=h.mH T;have P:=h.gX;have a8:=P.cY;have B:=h.mB;have hh:=h.kN;have ht:=h.jp.eG;have n:=h.lw;have u:=h.ft;have G:=h.kQ;have hm:=h.mem;simp only at P B hh ht n u G hm;have hi:i<E.F:=P.pA;have hF:=hE.BG;have a9:=G.cu;have a3:=G.DS T;have Q:∀th,an=some th->∀f∈th.fs,(tf f).ah=y.ah:=λth e=>by
  rcases u.Cc rfl rfl th e with e|e
  ·cases e
  ·exact e
 have a6:∀{sp:N} {e:iG},sp<2->e∈es sp->e∈es m.s.an:=by
  intro sp e A S;by_cases h:sp=m.s.an
  ·rw[<-h];exact S
  ·have:sp=1-m.s.an:=by omega
   rw[this,a3]at S;cases S
 have d:∀x,(tf x).ah=y.ah->qQ tf y.ah i x=tf x:=by
  intro x F;unfold qQ;split
  ·rename_i hw;exact fG.xx (λe=>hw.2 (e▸F))
  ·rfl
 have K:∀x,(tf x).st≠2->qQ tf y.ah i x=tf x:=by
  intro x F;unfold qQ;split
  ·rename_i hw;exact fG.xx (λe=>F (e▸hw.1))
  ·rfl
 have W:∀x,(qQ tf y.ah i x).st=2->qQ tf y.ah i x=tf x:=by
  intro x F;unfold qQ at F ⊢;split
  ·rename_i hw;rw[af hw]at F;by_cases e:x=i
   ·subst e;rw[fG.xw]at F;simp at F
   ·exact fG.xx e
  ·rfl
 have X:xP E (lR m.s tf y.ah i).l (lR m.s tf y.ah i).fr (lR m.s tf y.ah i).sx an none v es (qQ tf y.ah i):=by
  refine⟨?_,?_,λx F=>?_,?_,λth e=>?_,λth e=>(by cases e),λth e=>?_,n.uv,λth b0 _ e=>(by cases e),λsp A e S=>?_,n.oW,n.oX⟩
  ·unfold lR qQ;split
   ·simp only;rw[n.l,fG.sP]
   ·exact n.l
  ·unfold lR qQ;split
   ·simp only;rw[n.fr,fG.sP];refine fG.kR λx _=>?_;unfold up;split<;>simp
   ·exact n.fr
  ·by_cases A:(qQ tf y.ah i x).st=2
   ·omega
   ·unfold qQ at A ⊢;split
    ·by_cases e:x=i
     ·subst e;rw[fG.xw];simp
     ·rw[fG.xx e];exact n.le x F
    ·exact n.le x F
  ·obtain⟨q,q1,q2,q3,q4⟩:=n.sx;refine⟨q,?_,q2,q3,λx=>?_⟩
   ·unfold lR;split<;>exact q1
   ·rw[q4];by_cases h1:(tf x).st=2
    ·have:¬(qQ tf y.ah i x).st=1:=by
      unfold qQ;split
      ·by_cases e:x=i
       ·subst e;rw[fG.xw];simp
       ·rw[fG.xx e];omega
      ·omega
     constructor
     ·rintro⟨-,h⟩;omega
     ·rintro⟨-,h⟩;exact absurd h this
    ·rw[K x h1]
  ·obtain⟨a,b,c⟩:=n.an th e;have hb:=Q th e;exact⟨a,λf H=>by rw[d f (hb f H)];exact b f H,by rw[d _ (hb _ (a.sz hE).kV)];exact c⟩
  ·obtain⟨a,b⟩:=n.pd th e;exact⟨a,λf H=>by rw[d f (u.Cp rfl rfl th e f H)];exact b f H⟩
  ·have:=u.jw T e (a6 A S);rw[d _ this];exact n.jw sp A e S
 have a1:(lR m.s tf y.ah i).en=m.s.en/\(lR m.s tf y.ah i).cm=m.s.cm/\(lR m.s tf y.ah i).an=m.s.an/\(lR m.s tf y.ah i).size=m.s.size/\(lR m.s tf y.ah i).u=m.s.u/\(lR m.s tf y.ah i).kept=m.s.kept:=by
  unfold lR;split<;>exact⟨T,T,T,T,T,T⟩
 obtain⟨r1,r2,r3,r4,r5,r6⟩:=a1;have a4:∀j,j<i+1->(qQ tf y.ah i j).st=2->(qQ tf y.ah i j).ah=y.ah:=by
  intro j hj A;have e:=W j A;rw[e]at A ⊢;by_cases a7:j=i
  ·subst a7;by_cases hw:(tf j).ah=y.ah
   ·exact hw
   ·have:qQ tf y.ah j j=⟨0,false,false⟩:=by
     unfold qQ;rw[af ⟨A,hw⟩,fG.xw]
    rw[this]at e;rw[<-e]at A;simp at A
  ·exact u.sw j (by simp only[bW.sw];omega) A
 have a2:∀e∈es m.s.an,(qQ tf y.ah i e.1).ah=y.ah:=λe S=>by
  have:=u.jw T e S;rw[d _ this];exact this
 have a5:r=true->∀x,x<E.F->(qQ tf y.ah i x).st=2->(qQ tf y.ah i x).ah=y.ah->∃th,an=some th/\x∈th.fs:=by
  intro hn x F A hs;have e:=W x A;rw[e]at A hs;exact u.wh hn T x F A hs
 by_cases hl:i+1=E.F
 ·have hy:Bv E i y={y with dp:=10,aM:=0,i:=0}:=by unfold Bv;rw[af hl]
  rw[hy];refine⟨⟨.fin,t,false,r,gr,an,none,v,es,qQ tf y.ah i,g⟩,⟨⟨⟨T,T⟩,trivial,trivial,P.st,P.se,trivial,by simp only;omega⟩,hh,⟨B.bZ,B.bg,B.mark,B.qM,B.cb,B.xs,by show(lR m.s tf y.ah i).cm=_;rw[r2];exact B.cm⟩,by show EX E (Nq+1) (lR m.s tf y.ah i).en s _ _ _ _ _ _ _ _;rw[r1];exact ht,X,?_,?_,?_,λtt e=>(by cases e),λtt e=>(by cases e)⟩,eI rfl (by simp only[R];omega)⟩
  ·show xI E y.ah true false false true 0 r (lR m.s tf y.ah i).an an none v es _;rw[r3];exact⟨λ_ j hj A=>a4 j (by omega) A,λe=>(by cases e),λe=>(by cases e),λe=>(by cases e),λth e=>(by cases e),λe=>(by cases e),λj hj=>by omega,λhn _=>a5 hn,λ_ th e=>(by cases e)⟩
  ·show vD E (lR m.s tf y.ah i).size (lR m.s tf y.ah i).an (lR m.s tf y.ah i).u (lR m.s tf y.ah i).kept _ _ _ _ _ _ _ _ _ _;rw[r3,r4,r5,r6];exact G
  ·show Mem E m.am s.bz (lR m.s tf y.ah i).an _ _ _ _ _ _ _;rw[r3];exact hm
 ·have hy:Bv E i y={y with i:=i+1}:=by unfold Bv;rw[aa hl]
  rw[hy];refine⟨⟨.jR (i+1),t,false,r,gr,an,none,v,es,qQ tf y.ah i,g⟩,⟨⟨P.pos,T,(by show i+1<E.F;omega),P.st,P.se,trivial,by simp only;omega⟩,hh,⟨B.bZ,B.bg,B.mark,B.qM,B.cb,B.xs,by show(lR m.s tf y.ah i).cm=_;rw[r2];exact B.cm⟩,by show EX E (Nq+1) (lR m.s tf y.ah i).en s _ _ _ _ _ _ _ _;rw[r1];exact ht,X,?_,?_,?_,λtt e=>(by cases e),λtt e=>(by cases e)⟩,eI rfl (by simp only[R];omega)⟩
  ·show xI E y.ah false false true true (i+1) r (lR m.s tf y.ah i).an an none v es _;rw[r3];refine⟨λe=>(by cases e),λe=>(by cases e),λ_ _ th e f H=>?_,λ_ _ th e=>.inr λf H=>?_,λth e=>(by cases e),λ_=>a2,a4,λhn _=>a5 hn,λ_ th e=>(by cases e)⟩
   ·have:=u.Cp T T th e f H;show(qQ tf y.ah i f).ah=_;rw[d f this];exact this
   ·have:=Q th e f H;show(qQ tf y.ah i f).ah=_;rw[d f this];exact this
  ·show vD E (lR m.s tf y.ah i).size (lR m.s tf y.ah i).an (lR m.s tf y.ah i).u (lR m.s tf y.ah i).kept _ _ _ _ _ _ _ _ _ _;rw[r3,r4,r5,r6];exact G
  ·show Mem E m.am s.bz (lR m.s tf y.ah i).an _ _ _ _ _ _ _;rw[r3];exact hm
theorem xg(u:E.Ok)(j:th.o∈E.Lq)(f:th.fs.length=fE E.ba th.o):th.gE=!(decide (jT E.ba th.o=0)||Sk.eP (Po.aI th.fs)):=by
 have hz:=EG u j f;have F:=u.op _ j;obtain⟨kd,s0,G⟩:=F.sh u;have A:Po.aI th.fs=Pl.aI th.fs:=rfl;rw[A];have a:=G.al;rcases F.aE with d|d
 ·have q:th.gE=false:=by unfold Th.gE;rw[d];rfl
  have H:jT E.ba th.o=0:=by
   rw[d]at a;have e:((1:N)==2)=false:=rfl;rw[e]at a;unfold cE at a;rw[af (.inr (.inl rfl))]at a;omega
  rw[q,H];simp
 ·obtain⟨P,-,B,-⟩:=hz.jY d;obtain⟨b,K⟩:=G.one d;have q:th.gE=(th.md==1):=by unfold Th.gE;rw[d];rfl
  rw[q];rw[d,K]at a;have n:(jT E.ba th.o:V)=if(th.d:V)<=4 then 0 else(th.d:V)+2:=by
   rw[<-a];unfold cE;rw[B];by_cases c:(th.d:V)<=4
   ·rw[af (js c),af c]
   ·rw[aa,aa c];rintro(h|h|h)
    ·simp[gZ]at h
    ·simp at h
    ·exact c h
  have x:th.md=if(th.d:V)<=4 then 0 else if Sk.eP (Pl.aI th.fs)then 2 else 1:=by unfold Th.md Pl.jh;rw[B]
  rw[x];by_cases c:(th.d:V)<=4
  ·rw[af c]at n;have:jT E.ba th.o=0:=by omega
   rw[af c,this];simp
  ·rw[aa c]at n;have:jT E.ba th.o≠0:=by omega
   rw[aa c];cases Sk.eP (Pl.aI th.fs)<;>simp[this]
structure Ib(E:gb)(tf tf':N->dq.dy)(xs:List Nat)(se:Bool):Prop where
 free:∀x∈xs,(tf x).st≠2
 new:∀x∈xs,tf' x=⟨2,false,se⟩
 same:∀x,(tf x).st=2->tf' x=tf x
 no:∀x,x∉xs->(tf x).st≠2->(tf' x).st≠2
def qJ(es:N->List iG)(cu:N)(th:Th):N->List iG:=λsp=>if sp=cu/\th.gE=true then es sp++[(th.hd,th.d)]else es sp
theorem ny{a sp:N}{e:iG}(h:e∈qJ es a th sp):e∈es sp\/(sp=a/\th.gE=true/\e=(th.hd,th.d)):=by
 unfold qJ at h;split at h
 ·rename_i b;rcases iE.1 h with h|h
  ·exact .inl h
  ·simp only[jr]at h;exact .inr ⟨b.1,b.2,h⟩
 ·exact .inl h
theorem I0{b sp off a d:N}(h:ce (qJ es b th sp) off a d):ce (es sp) off a d\/(sp=b/\th.gE=true/\off=fu (es sp)/\a=th.hd/\d=th.d):=by
 unfold qJ at h;split at h
 ·rename_i c;rcases h.zE with h|h
  ·exact .inl h
  ·exact .inr ⟨c.1,c.2,h⟩
 ·exact .inl h
theorem rG{b sp off a d:N}(h:ce (es sp) off a d):ce (qJ es b th sp) off a d:=by
 unfold qJ;split
 ·exact h.eG _
 ·exact h
theorem xP.alloc(Q:E.Ok){ll K:List dq.dy}{fr G:List Bool}{sx sx':List Int}{tf':N->dq.dy}{se:Bool}{cu:N}(h:xP E ll fr sx an bg none es tf)(X:ie E th)(A:Ib E tf tf' th.fs se)(hl:K=tb E.F tf')(x:G=tb E.F (λi=>decide ((tf' i).st=0)))(S:∀i,i<E.F->(tf' i).st<=2)
  (W:∃q:List Nat,sx'=Po.aI q/\q.Nodup/\q.length<=E.Cq/\∀i,i∈q↔i<E.F/\(tf' i).st=1):xP E K G sx' an bg (some th) (qJ es cu th) tf':=by
 have hz:=X.sz Q;have u:∀d:Th,(∀f∈d.fs,(tf f).st=2)->∀f∈th.fs,f∉d.fs:=λd hu f x R=>A.free f x (hu f R);refine⟨hl,x,S,W,λd e=>?_,λd e=>?_,λd e=>?_,λa1 d n e=>?_,λa1 d n e=>?_,λP H e j=>?_,λP H e j d n B=>?_,λP H e j d n B=>?_⟩
 ·obtain⟨a,b,c⟩:=h.an d e;have F:=a.sz Q;exact⟨a,λf x=>by rw[A.same f (b f x)];exact b f x,by rw[A.same _ (b _ F.kV)];exact c⟩
 ·obtain⟨a,b,c⟩:=h.bg d e;have F:=a.sz Q;exact⟨a,λf x=>by rw[A.same f (b f x)];exact b f x,by rw[A.same _ (b _ F.kV)];exact c⟩
 ·injection e with e;subst e;exact⟨X,λf x=>by rw[A.new f x];exact⟨T,T⟩⟩
 ·injection n with n;subst n;exact u d (h.an d e).2.1
 ·injection n with n;subst n;exact u d (h.bg d e).2.1
 ·rcases ny j with j|⟨-,-,j⟩
  ·obtain⟨a,b⟩:=h.jw P H e j;exact⟨a,by rw[A.same _ b];exact b⟩
  ·subst j;exact⟨X.lt _ hz.kV,by rw[A.new _ hz.kV]⟩
 ·rcases ny j with j|⟨-,-,j⟩
  ·exact h.oW P H e j d n B
  ·subst j;exact absurd B (u d (h.an d n).2.1 _ hz.kV)
 ·injection n with n;subst n;rcases ny j with j|⟨-,hs,j⟩
  ·exact absurd (h.jw P H e j).2 (A.free _ B)
  ·subst j;exact⟨T,hs,T⟩
theorem xI.alloc{P se Q B S wb:Bool}{sw G:N}{tf':N->dq.dy}(h:xI E P Q B S wb sw r G an bg none es tf)(u:Ib E tf tf' th.fs se)(H:B=false->se=P)(hB:B=true->se=!P)(X:∀a,an=some a->∀f∈a.fs,(tf f).st=2)(a7:∀a,bg=some a->(tf a.hd).st=2)(a5:∀e∈es G,(tf e.1).st=2)(a6:th.hd∈th.fs)(a4:S=true->B=false)(a8:0<sw->B=false)(W:Q=true->B=false):xI E P Q B S wb sw false G an bg (some th) (qJ es G th) tf':=by
 have b:∀{x:N},(tf' x).st=2->(x∈th.fs/\tf' x=⟨2,false,se⟩)\/((tf x).st=2/\tf' x=tf x):=by
  intro x hx;by_cases hm:x∈th.fs
  ·exact .inl ⟨hm,u.new x hm⟩
  ·by_cases n:(tf x).st=2
   ·exact .inr ⟨n,u.same x n⟩
   ·exact absurd hx (u.no x hm n)
 refine⟨λq i hi n=>?_,λc i hi n=>?_,λ_ c a e f K=>?_,λq c a e=>?_,λa e=>?_,λA e F=>?_,λj hj n=>?_,λe=>(by cases e),λe=>(by cases e)⟩
 ·rcases b n with⟨-,e⟩|⟨d,e⟩
  ·rw[e];exact H (W q)
  ·rw[e];exact h.A q i hi d
 ·rcases b n with⟨-,e⟩|⟨d,e⟩
  ·rw[e];exact hB c
  ·rw[e];exact h.B c i hi d
 ·injection e with e;subst e;rw[u.new f K];exact H c
 ·rcases h.Cc q c a e with R|R
  ·exact .inl R
  ·exact .inr λf K=>by rw[u.same f (X a e f K)];exact R f K
 ·rw[u.same _ (a7 a e)];refine⟨(h.bg a e).1,λhs=>?_⟩;obtain⟨sp,off,a1,a2,a3⟩:=(h.bg a e).2 hs;exact⟨sp,off,a1,rG a2,a3⟩
 ·rcases ny F with F|⟨-,-,F⟩
  ·rw[u.same _ (a5 e F)];exact h.jw A e F
  ·subst F;rw[u.new _ a6];exact H (a4 A)
 ·rcases b n with⟨-,e⟩|⟨d,e⟩
  ·rw[e];exact H (a8 (by omega))
  ·rw[e];exact h.sw j hj d
theorem vD.alloc(hE:E.Ok){size kept:V}{f:N}{u u':N->V}{tn H mv:Bool}{w:Option iG}{kk:N}(h:vD E size f u kept tn H mv w kk r an none es g)(ht:ie E th)(hd:∀sp,sp<2->∀e∈es sp,e.1≠th.hd)(hu:u'=if th.gE=true then Co.eG u f ((th.d+2:N):V)else u)(n:th.gE=true->(fu (es f):V)+kept+((th.d+2:N):V)<=(E.S:V))(W:th.gE=true->th.aM=((E.aC f+fu (es f):N):V)):vD E size f u' kept tn H mv w kk false an (some th) (qJ es f th) g:=by
 have hz:=ht.sz hE;have Q:=h.cu;have F:qJ es f th (1-f)=es (1-f):=by
  unfold qJ;rw[aa (by omega)]
 have q:fu (qJ es f th f)=fu (es f)+if th.gE=true then th.d+2 else 0:=by
  unfold qJ;split
  ·rename_i X;rw[jG,af X.2];simp[fu]
  ·rename_i X;rw[aa (λe=>X ⟨rfl,e⟩)];rfl
 have A:∀sp,sp≠f->qJ es f th sp=es sp:=λsp c=>by unfold qJ;rw[aa (λe=>c e.1)]
 refine⟨h.size,Q,λsp j=>?_,λsp j=>?_,h.k0,?_,λsp j=>?_,λe=>by rw[F];exact h.DS e,λsp j e B=>?_,λe=>by rw[F];exact h.qv e,λe=>by rw[F];exact h.pe e,λoff a1 d B hk=>?_,λS e P=>?_,λS e P=>?_,λe=>(by cases e)⟩
 ·by_cases c:sp=f
  ·subst c;rw[q,hu];have:=h.u sp j;split
   ·unfold Co.eG;rw[af rfl,this]
    push_cast
    omega
   ·rw[this];simp
  ·rw[A sp c,hu];have:=h.u sp j;split
   ·unfold Co.eG;rw[aa c,this]
   ·exact this
 ·by_cases c:sp=f
  ·subst c;rw[q];have:=h.le sp j;have:=h.k0;split
   ·have:=n (by assumption);omega
   ·omega
  ·rw[A sp c];exact h.le sp j
 ·rw[q];have:=h.room;split
  ·have:=n (by assumption)
   push_cast
   omega
  ·simpa using this
 ·by_cases c:sp=f
  ·subst c;unfold qJ;split
   ·rw[cV,ew];refine⟨h.nd sp j,by simp,λa ha b hb e=>?_⟩;simp only[ev,List.map_nil,jr]at hb;obtain⟨x,K,G⟩:=aX.1 ha;exact hd sp j x K (by rw[G,e,hb])
   ·exact h.nd sp j
  ·rw[A sp c];exact h.nd sp j
 ·rcases ny B with B|⟨-,P,B⟩
  ·exact h.d5 sp j e B
  ·subst B;exact(hz.Lo P).1
 ·rw[F]at B;rcases h.kF off a1 d B hk with hn|hn
  ·left;intro R;obtain⟨x,K,G⟩:=aX.1 R;rcases ny K with K|⟨-,-,K⟩
   ·exact hn (aX.2 ⟨x,K,G⟩)
   ·subst K;exact hd (1-f) (by omega) _ B.mem G.symm
  ·exact .inr hn
 ·obtain⟨sp,off,j,h3,h4,h5⟩:=h.an S e P;exact⟨sp,off,j,rG h3,h4,h5⟩
 ·injection e with e;subst e;refine⟨f,fu (es f),Q,?_,W P,.inl T⟩;unfold qJ;rw[af ⟨rfl,P⟩];exact ce.jz _ _ _
theorem Mem.alloc{am:List (Nat × Nat)}{bz a:List Wr}{c:N}{w:Option iG}{t':gJ}(h:Mem E am bz c w t an bg none es g)(A:t'=.write->a=th.wr E.ba/\0<(th.wr E.ba).length)(q:t'≠.born):Mem E am a c w t' an bg (some th) (qJ es c th) g:=by
 refine⟨h.len,h.fC,h.an,h.bg,λe=>?_,λe=>absurd e q,λB off u d j b x=>?_⟩
 ·obtain⟨f,n⟩:=A e;exact⟨th,0,T,by rw[f];rfl,n,fG.fF.zero _ _⟩
 ·rcases I0 b with b|⟨-,-,-,b,-⟩
  ·rcases h.jw B off u d j b x with⟨F,e,-⟩|e|e
   ·cases e
   ·exact .inr (.inl e)
   ·exact js e
  ·exact .inl ⟨th,T,b⟩
theorem AZ:∀{l Uq:List Nat},l.Nodup->(∀x∈l,x∈Uq)->l.length<=Uq.length:=by
 intro l
 induction l with
 | nil=>intro Uq _ _;simp
 | cons a l j =>
  intro Uq h d;have c:=d a (by simp);have b:=List.nodup_cons.1 h;have:=j (Uq:=Uq.erase a) b.2 (λx f=>(List.mem_erase_of_ne (λe:x=a=>b.1 (e▸f))).2 (d x (by simp[f])));have n:=List.length_erase_of_mem c;have q:0<Uq.length:=List.length_pos_of_mem c;simp only[bu];omega
theorem Ct(f:N->dq.dy)(Uq:List Nat)(n:N)(b:∀i,i<n->(f i).st≠0->i∈Uq):n<=Po.cY (tb n (λi=>decide ((f i).st=0)))+Uq.length:=by
 rw[fG.IQ];have c:(List.range n).countP (λi=>decide ((f i).st=0))+(List.range n).countP (λi=>!decide ((f i).st=0))=n:=by
  have:=List.length_eq_countP_add_countP (λi=>decide ((f i).st=0)) (l:=List.range n);simp only[List.length_range,Bool.not_eq_true,Bool.decide_eq_false]at this;omega
 have d:(List.range n).countP (λi=>!decide ((f i).st=0))<=Uq.length:=by
  rw[List.countP_eq_length_filter];refine AZ (List.Pairwise.filter _ List.nodup_range) λx a=>?_;simp only[List.mem_filter,List.mem_range,Bool.not_eq_true',cL]at a;exact b x a.1 a.2
 omega
theorem ye(B:E.Ok){o:dx}(ho:o∈E.Lq)(d:xP E m.s.l m.s.fr m.s.sx an bg v es tf)(b:vD E m.s.size m.s.an m.s.u m.s.kept tn true mv w 0 true an v es g)(S:∀i,i<E.F->(tf i).st=2->∃th,an=some th/\i∈th.fs):Sp.gY m.s (fE E.ba o) (jT E.ba o)=true:=by
 have F:=B.op _ ho;have hh:=F.CP;have a5:=F.sp;obtain⟨q,q1,q2,q3,q4⟩:=d.sx;have a1:E.Cq<=E.Tq*E.Cq:=Nat.le_mul_of_pos_left _ B.T1.1;obtain⟨G,a2,Q⟩:∃G:List Nat,2*G.length+E.Tq*E.Cq<=E.F/\∀i,i<E.F->(tf i).st=2->i∈G:=by
  cases an with
  | none=>exact⟨[],by simp;omega,λi x n=>by obtain⟨th,e,-⟩:=S i x n;cases e⟩
  | some th =>
   obtain⟨a,-,-⟩:=d.an th T;have:=(B.op _ a.op).CP;rw[<-a.len]at this;exact⟨th.fs,this,λi x n=>by obtain⟨R,e,h⟩:=S i x n;injection e with e;subst e;exact h⟩
 have hc:=Ct tf (G++q) E.F (λi x h0=>by
  have:=d.le i x;by_cases n:(tf i).st=2
  ·exact List.mem_append_left _ (Q i x n)
  ·exact List.mem_append_right _ ((q4 i).2 ⟨x,by omega⟩))
 rw[<-d.fr,iB]at hc;have A:(jT E.ba o:V)<=Sp.room m.s:=by
  unfold Sp.room;rw[b.size,b.u _ b.cu,(b.qv rfl).1];have a4:2*fu (es m.s.an)<=E.S:=by
   have j:=b.nd _ b.cu;have c:=b.Jk T T;have u:=d.oW _ b.cu
   match a3:es m.s.an,j,c,u with
   | [],_,_,_=>simp[fu]
   | [e],_,c,u =>
    obtain⟨th,H,K⟩:=c e (by simp);obtain⟨a,-,-⟩:=d.an th H;have hz:=a.sz B;obtain⟨-,W,b3⟩:=u e (by simp) th H (by rw[K];exact hz.kV);have:=(hz.Lo W).2;have:=(B.op _ a.op).sp;simp only[fu];omega
   | e::e'::l,j,c,_ =>
    obtain⟨th,H,K⟩:=c e (by simp);obtain⟨R,f,P⟩:=c e' (by simp);rw[H]at f;injection f with f;subst f;simp only[ev,List.nodup_cons,dr]at j;exact absurd (.inl (by rw[K,P])) j.1
  omega
 unfold Sp.gY;have X:decide (fE E.ba o<=Po.cY m.s.fr)=true:=fN (by omega);have n:decide ((jT E.ba o:V)<=Sp.room m.s)=true:=fN A;rw[X,n];simp
end
end jH
namespace jH
open Ac (Vl dx Wr aA)
open fG (fF tb up)
section
variable{E:gb}{q:N}{m m':aW.St}{s:Ac.St}{y y':dw.St}{o o':Pg}{p p':bW}{t:gJ}{c beh' j nt' n gr':Bool}{an bg g:Option Th}{es:N->List iG}{tf:N->dq.dy}{f l i k:N}{th:Th}{h v:Hl.St}
theorem iw(a:h.pc<=5):(bW.cP h).cp=none:=by show(if 6<=h.pc then some (h.k,h.head)else none)=none;rw[aa (by omega)]
theorem nU(a:6<=h.pc):(bW.cP h).cp=some (h.k,h.head):=by show(if 6<=h.pc then some (h.k,h.head)else none)=_;rw[af a]
theorem yx(X:E.Ok){A:N}{ll:List dq.dy}{fr:List Bool}{sx:List Int}{size kept:V}{u:N->V}{tn z:Bool}{K:Option iG}{kk:N}{off Q d:N}(x:xP E ll fr sx an bg g es tf)(r:vD E size A u kept tn z false K kk j an g es f)(R:ce (es (1-A)) off Q d)(hk:f<=off)(F:∀e,K=some e->(tf e.2).head=true):¬∃th,g=some th/\Q=th.hd:=by
 rintro⟨th,e,rfl⟩;obtain⟨a,b⟩:=x.pd th e;have hz:=a.sz X;obtain⟨-,hs,-⟩:=x.oX (1-A) (by have:=r.cu;omega) _ R.mem th e hz.kV;obtain⟨sp,S,B,W,-,w⟩:=r.pd th e hs;have H:sp=A:=by
  rcases w with w|w
  ·exact w
  ·cases w
 rcases r.kF off _ d R hk with G|G
 ·exact G (aX.2 ⟨_,H▸W.mem,T⟩)
 ·have P:=F _ G;have B:=(b th.hd hz.kV).2;simp only at P;rw[P]at B;cases B
theorem yh(H:E.Ok)(x:dR E q m s y o ⟨.cP h,t,c,j,n,an,bg,g,es,tf,f⟩)(b:h.pc<=5){F r:List iG}{w d:N}(z:es (1-m.s.an)=F++(w,d)::r)(K:fu F=h.k):G8 m.am (E.aC (1-m.s.an)+h.k) w d:=by
 have A:=x.qt h T;have a:=x.kQ;have u:=x.lw;simp only at A a u;have G:ce (es (1-m.s.an)) h.k w d:=by rw[z,<-K];exact ce.AI _ _ _ _
 have B:=yx H u a G (Nat.le_of_eq A.dk) (by rw[iw b];intro e h;cases h);rcases x.mem.jw (1-m.s.an) h.k w d (by have:=a.cu;omega) G (.inr (Nat.le_of_eq A.dk))with e|⟨-,k,e⟩|e
 ·exact absurd e B
 ·simp only at e;rw[iw b]at e;cases e
 ·exact e
theorem mX(a:dR E q m s y o ⟨.cP h,t,c,j,n,an,bg,g,es,tf,f⟩)(u:J9 E m.am y.ah m.s.an m.s.kept es tf f v)(b:(bW.cP v).cp=(bW.cP h).cp)(w:hz v<hz h):iL E q s ⟨.cP h,t,c,j,n,an,bg,g,es,tf,f⟩ m y (.hl v):=by
 obtain rfl:=a.mF T;have d:=a.gX;have r:=d.cY;refine⟨⟨.cP v,t,false,j,n,an,bg,g,es,tf,f⟩,⟨⟨d.pos,trivial,trivial,d.st,d.se,T,by omega⟩,a.kN,a.mB,a.jp.eG,a.lw,a.ft,?_,?_,λz e=>(by cases e),λx e=>by injection e with e;subst e;exact u⟩,eI T (by simp only[R];omega)⟩
 ·show vD E _ _ _ _ true true false (bW.cP v).cp 2 _ _ _ _ _;rw[b];exact a.kQ
 ·show Mem E _ _ _ (bW.cP v).cp _ _ _ _ _ _;rw[b];exact a.mem
theorem nu(E:gb)(a:N)(h:a<2):E.aC a=8*E.F+a*E.S/\(a=0\/a=1):=⟨T,by omega⟩
structure HV(E:gb)(am:List (Nat × Nat))(ys:Bool)(cu:N)(kp:V)(ee:N->List iG)(tf:N->dq.dy)(h:Hl.St)(dn:List iG)(dd:N)(r:List iG):Prop where
 es:ee (1-cu)=dn++(h.head,dd)::r
 k:fu dn=h.k
 d:2<=h.pc->h.d=dd
 kept:h.pc<=5->kp=((dd+2+fu r:N):V)
 bF:h.pc=3\/5<=h.pc->(tf h.head).ah=ys/\(tf h.head).head=true
 mx:6<=h.pc->kp=(fu r:V)/\ce (ee cu) h.dst h.head dd
 w0:7<=h.pc->am[E.aC cu+h.dst]?=some (bi h.head)
 w1:8<=h.pc->am[E.aC cu+h.dst+1]?=some (bH (dd:V))/\(h.pc<=9->h.j<dd)/\(h.pc=10->h.j=dd)/\∀i,i<h.j->am[E.aC cu+h.dst+2+i]?=am[E.aC (1-cu)+h.k+2+i]?
 no:h.pc=4->(tf h.head).ah=ys->(tf h.head).head=false
 rd:h.pc=9->am[E.aC (1-cu)+h.k+2+h.j]?=some h.w
 le:h.k+dd+2+fu r=h.fX
 d5:5<=dd
 vY:h.fX<=E.S
theorem gj(A:dR E q m s y o ⟨.cP h,t,c,j,n,an,bg,g,es,tf,f⟩)(a1:1<=h.pc):∃w d r,HV E m.am y.ah m.s.an m.s.kept es tf h w d r:=by
 have u:=A.qt h T;have a:=A.kQ;simp only at u a;have X:=a.cu;obtain⟨w,B,x,F,e3|⟨-,d,r,G,H,z,K,P,Q,R,S,W⟩⟩:=u.KU
 ·omega
 ·subst G;have b:=u.fX;rw[x,jG]at b;simp only[fu]at b z;refine⟨w,d,r,x,F,H,λe=>by rw[z e],K,P,Q,R,S,W,by omega,a.d5 (1-m.s.an) (by omega) (h.head,d) (by rw[x];simp),?_⟩;rw[u.fX];exact a.le _ (by omega)
theorem KG(S:E.Ok)(x:dR E q m s y o ⟨.cP h,t,c,j,n,an,bg,g,es,tf,f⟩)(H:h.pc=0):∃u,u<E.F/\h.k<E.S/\h.fX≠0/\m.am[E.aC (1-m.s.an)+h.k]?=some (bi u)/\iL E q s ⟨.cP h,t,c,j,n,an,bg,g,es,tf,f⟩ m y (.hl {h with head:=u,pc:=1}):=by
 have b:=x.qt h T;have w:=x.kQ;have B:=x.lw;simp only at b w B;have W:=w.cu;obtain⟨Q,P,F,K,⟨-,G,R⟩|G⟩:=b.KU
 ·obtain⟨⟨u,d⟩,r,rfl⟩:=eS R;have X:=yh S x (by omega) F K;have A:(u,d)∈es (1-m.s.an):=by rw[F];simp
  have z:=w.le (1-m.s.an) (by omega);have a:=b.fX;rw[F,jG]at a z;simp only[fu]at a z G;refine⟨u,(B.jw _ (by omega) _ A).1,by omega,by omega,X.h0,?_⟩;refine mX x ⟨b.from_,b.fX,b.ah,b.dF,b.dk,by simp,Q,(u,d)::r,F,K,.inr ⟨by simp,d,r,T,λe=>?_,λ_=>by simpa[fu]using G,λe=>?_,λe=>?_,λe=>?_,λe=>?_,λe=>?_,λe=>?_⟩⟩ (by rw[iw (by simp),iw (by omega)]) ?_
  all_goals try(exfalso;simp only at e;omega)
  unfold hz;simp[H]<;>omega
 ·omega
theorem KH(z:E.Ok)(u:dR E q m s y o ⟨.cP h,t,c,j,n,an,bg,g,es,tf,f⟩)(w:h.pc=1):∃d,h.k+1<E.S/\h.k+d+2<=h.fX/\m.am[E.aC (1-m.s.an)+h.k+1]?=some (bH (d:V))/\iL E q s ⟨.cP h,t,c,j,n,an,bg,g,es,tf,f⟩ m y (.hl {h with d:=d,pc:=2}):=by
 have b:=u.qt h T;simp only at b;obtain⟨x,d,r,a⟩:=gj u (by omega);have A:=yh z u (by omega) a.es a.k;have B:=a.le;have F:=a.vY;refine⟨d,by omega,by omega,A.h1,?_⟩;refine mX u ⟨b.from_,b.fX,b.ah,b.dF,b.dk,by simp,x,(h.head,d)::r,a.es,a.k,.inr ⟨by simp,d,r,T,λe=>T,λ_=>?_,λe=>?_,λe=>?_,λe=>?_,λe=>?_,λe=>?_,λe=>?_⟩⟩ (by rw[iw (by simp),iw (by omega)]) ?_
 all_goals try(exfalso;simp only at e;omega)
 ·simpa[fu]using a.kept (by omega)
 ·unfold hz;simp[w]<;>omega
theorem KI(z:dR E q m s y o ⟨.cP h,t,c,j,n,an,bg,g,es,tf,f⟩)(B:h.pc=2):m.s.l[h.head]?=some (tf h.head)/\∀a:Bool,((tf h.head).head&&(decide ((tf h.head).st=2)&&(tf h.head).ah==h.ah))=a->iL E q s ⟨.cP h,t,c,j,n,an,bg,g,es,tf,f⟩ m y (.hl {h with pc:=if a=true then 3 else 4}):=by
 have u:=z.qt h T;have w:=z.lw;have F:=z.kQ;simp only at u w F;have S:=F.cu;obtain⟨P,d,r,x⟩:=gj z (by omega);have W:=x.le;have A:(h.head,d)∈es (1-m.s.an):=by rw[x.es];simp
 obtain⟨Q,R⟩:=w.jw _ (by omega) _ A;refine⟨by rw[w.l,fG.iq Q],λa b=>?_⟩;have H:(if a=true then(3:V)else 4)=3\/(if a=true then(3:V)else 4)=4:=by split<;>simp
 refine mX z ⟨u.from_,u.fX,u.ah,u.dF,u.dk,by simp only;omega,P,(h.head,d)::r,x.es,x.k,.inr ⟨by simp only;omega,d,r,T,λe=>x.d (by omega),λ_=>?_,λe=>?_,λe=>?_,λe=>?_,λe=>?_,λe=>?_,λe=>?_⟩⟩ (by rw[iw (by simp only;omega),iw (by omega)]) ?_
 ·simpa[fu]using x.kept (by omega)
 ·have:a=true:=by
   cases a
   ·simp at e
   ·rfl
  subst this;simp only[bt,beq_iff_eq]at b;exact⟨by rw[<-u.ah];exact b.2.2,b.1⟩
 ·exfalso;simp only at e;omega
 ·exfalso;simp only at e;omega
 ·exfalso;simp only at e;omega
 ·intro K;have:a=false:=by
   cases a
   ·rfl
   ·simp at e
  subst this;have G:(tf h.head).st=2:=R;rw[<-u.ah]at K;simpa[G,K]using b
 ·exfalso;simp only at e;omega
 ·unfold hz;rcases H with e|e
  ·simp only[e];simp[B];omega
  ·simp only[e];simp[B];omega
theorem KJ(F:E.Ok)(u:dR E q m s y o ⟨.cP h,t,c,j,n,an,bg,g,es,tf,f⟩)(x:h.pc=3):h.k<E.S/\h.head<E.F/\m.am[8*h.head+4]?=some (bH ((E.aC (1-m.s.an)+h.k:N):V))/\iL E q s ⟨.cP h,t,c,j,n,an,bg,g,es,tf,f⟩ m y (.hl {h with pc:=5}):=by
 have b:=u.qt h T;have A:=u.lw;have z:=u.kQ;simp only at b A z;have G:=z.cu;obtain⟨B,d,r,a⟩:=gj u (by omega);have H:=yh F u (by omega) a.es a.k;have K:=a.le;have P:=a.vY;have w:(h.head,d)∈es (1-m.s.an):=by rw[a.es];simp
 refine⟨by omega,(A.jw _ (by omega) _ w).1,H.ow,?_⟩;refine mX u ⟨b.from_,b.fX,b.ah,b.dF,b.dk,by simp,B,(h.head,d)::r,a.es,a.k,.inr ⟨by simp,d,r,T,λe=>a.d (by omega),λ_=>?_,λe=>a.bF (.inl x),λe=>?_,λe=>?_,λe=>?_,λe=>?_,λe=>?_⟩⟩ (by rw[iw (by simp),iw (by omega)]) ?_
 all_goals try(exfalso;simp only at e;omega)
 ·simpa[fu]using a.kept (by omega)
 ·unfold hz;simp[x]<;>omega
theorem KO(B:dR E q m s y o ⟨.cP h,t,c,j,n,an,bg,g,es,tf,f⟩)(u:m.am.length=8*E.F+2*E.S+E.g)(F:h.pc=8):∃z,h.k+2+h.j<E.S/\m.am[E.aC (1-m.s.an)+h.k+2+h.j]?=some z/\iL E q s ⟨.cP h,t,c,j,n,an,bg,g,es,tf,f⟩ m y (.hl {h with w:=z,pc:=9}):=by
 have b:=B.qt h T;have A:=B.kQ;simp only at b A;have P:=A.cu;obtain⟨H,d,r,a⟩:=gj B (by omega);have X:=a.le;have h2:=a.vY;obtain⟨R,S,w3,W⟩:=a.w1 (by omega);have Q:=S (by omega);have G:=nu E (1-m.s.an) (by omega);have K:(1-m.s.an)*E.S<=E.S:=by rcases G.2 with e|e<;>rw[e]<;>omega
 have x:E.aC (1-m.s.an)+h.k+2+h.j<m.am.length:=by rw[u,G.1];omega
 refine⟨m.am[E.aC (1-m.s.an)+h.k+2+h.j],by omega,cR x,?_⟩;refine mX B ⟨b.from_,b.fX,b.ah,b.dF,b.dk,by simp,H,(h.head,d)::r,a.es,a.k,.inr ⟨by simp,d,r,T,λe=>a.d (by omega),λe=>?_,λe=>a.bF (.inr (by omega)),λe=>a.mx (by omega),λe=>a.w0 (by omega),λe=>⟨R,λ_=>Q,λe=>?_,W⟩,λe=>?_,λe=>cR x⟩⟩ (by rw[nU (by simp),nU (by omega)]) ?_
 all_goals try(exfalso;simp only at e;omega)
 unfold hz;simp[F]<;>omega
end
end jH
namespace jH
open Ac (Vl dx Wr aA)
open fG (fF tb up)
def kW(an cur':Option Th):Prop:=(an=none/\cur'=none)\/∃th A,an=some th/\cur'=some {th with aM:=A}
section
variable{E:gb}{H:N}{m m':aW.St}{s:Ac.St}{y y':dw.St}{o o':Pg}{p p':bW}{t:gJ}{u beh' z nt' B gr':Bool}{an cur' bg g:Option Th}{es:N->List iG}{w:N->dq.dy}{F l i k:N}{th:Th}{h G:Hl.St}
theorem kW.refl(an:Option Th):kW an an:=by
 cases an with
 | none=>exact .inl ⟨T,T⟩
 | some th=>exact .inr ⟨th,th.aM,T,T⟩
theorem kW.of{a:Th}(h:kW an cur')(e:cur'=some a):∃th,an=some th/\a.fs=th.fs/\a.hd=th.hd/\a.gE=th.gE/\a.d=th.d/\a.o=th.o:=by
 rcases h with⟨-,h⟩|⟨th,A,b,c⟩
 ·rw[h]at e;cases e
 ·rw[c]at e;injection e with e;subst e;exact⟨th,b,T,T,T,T,T⟩
theorem kW.to(h:kW an cur')(e:an=some th):∃a,cur'=some a/\a.fs=th.fs/\a.hd=th.hd:=by
 rcases h with⟨h,-⟩|⟨a,A,b,c⟩
 ·rw[h]at e;cases e
 ·rw[b]at e;injection e with e;subst e;exact⟨_,c,T,T⟩
theorem wo(hi:dR E H m s y o ⟨.cP h,t,u,z,B,an,bg,g,es,w,F⟩){dn r:List iG}{d:N}(hv:HV E m.am y.ah m.s.an m.s.kept es w h dn d r)(e9:4<=h.pc)(v:List (Nat × Nat))(mv:N)(e5:mv<=h.k+d+2)
  (P:kW an cur') (c6:∀c,cur'=some c->ie E c)
  (b5:∀c,cur'=some c->c.gE=true->∃sp off,sp<2/\ce (es sp) off c.hd c.d/\c.aM=((E.aC sp+off:N):V)/\(sp=m.s.an\/(sp=1-m.s.an/\h.k+d+2<=off)))
  (a6:∀off hd d',ce (es (1-m.s.an)) off hd d'->h.k+d+2<=off->hd∉(es m.s.an).map Prod.fst)
  (a8:Mem E v s.bz m.s.an none t cur' none g es (h.k+d+2)) (g0:hz {h with k:=h.k+d+2,pc:=0,dF:=mv}<hz h) :
  ∃n:V,n=(fu r:V)/\((r=[]/\(Hl.iR {h with dF:=mv}).pc=11/\iL E H s ⟨.cP h,t,u,z,B,an,bg,g,es,w,F⟩ {m with am:=v,s:={m.s with kept:=n}} {y with aM:=2} (.hl (Hl.iR {h with dF:=mv}))) \/
   (r≠[]/\(Hl.iR {h with dF:=mv}).pc≠11/\iL E H s ⟨.cP h,t,u,z,B,an,bg,g,es,w,F⟩ {m with am:=v,s:={m.s with kept:=n}} y (.hl (Hl.iR {h with dF:=mv})))):=by
 obtain rfl:=hi.mF T;obtain rfl:=hi.mH T;have hc:=hi.gX;have e8:=hc.cY;have hg:=hi.mB;have hh:=hi.kN;have ht:=hi.jp.eG;have f:=hi.lw;have K:=hi.ft;have q:=hi.kQ;have X:=hi.qt h T;simp only at hc hg hh ht f K q X;have c7:=q.cu;have b9:=hv.le;have e0:=hv.d (by omega);have c9:t.bZ=false:=by
  cases e:t.bZ
  ·rfl
  ·have:=(hg.bZ e).1;simp[bW.st]at this
 have b6:Ll m.cb m.s.cm m.xs s.bZ 4 false false false t.bZ t.jz false cur' none:=⟨λe=>(by rw[c9]at e;cases e),hg.bg,hg.mark,hg.qM,hg.cb,hg.xs,hg.cm⟩;have c5:EX E (H+1) m.s.en s false false 4 t z B cur' g:=by
  refine⟨ht.aM,ht.own,?_,ht.op,ht.en,ht.sr,ht.wn⟩;rw[ht.loc];rcases P with⟨e1,e2⟩|⟨th,A,e1,e2⟩
  ·rw[e1,e2]
  ·rw[e1,e2];rfl
 have b0:xP E m.s.l m.s.fr m.s.sx cur' none g es w:=by
  refine⟨f.l,f.fr,f.le,f.sx,λc e=>?_,f.bg,f.pd,λe6 c e1 e=>?_,f.Ax,f.jw,λsp h2 e he c e1 b7=>?_,f.oX⟩
  ·obtain⟨th,Q,S,a3,a4,a5⟩:=P.of e;obtain⟨b1,b2,b3⟩:=f.an th Q;exact⟨c6 c e,by rw[S];exact b2,by rw[a3];exact b3⟩
  ·obtain⟨th,Q,S,a3,a4,a5⟩:=P.of e;rw[S];exact f.uv e6 th e1 Q
  ·obtain⟨th,Q,S,a3,a4,a5,-⟩:=P.of e1;rw[S]at b7;rw[a3,a4,a5];exact f.oW sp h2 e he th Q b7
 have W:xI E y.ah false false true true 0 z m.s.an cur' none g es w:=by
  refine⟨λe=>(by cases e),λe=>(by cases e),K.Cp,λa b c e=>?_,λth e=>(by cases e),K.jw,λj hj=>by omega,λhn _ x hx h2 hs=>?_,λ_ th e=>(by cases e)⟩
  ·obtain⟨th,Q,S,-⟩:=P.of e;rcases K.Cc a b th Q with e|e
   ·cases e
   ·exact .inr (by rw[S];exact e)
  ·obtain⟨th,Q,S⟩:=K.wh hn T x hx h2 hs;obtain⟨c,b1,b2,-⟩:=P.to Q;exact⟨c,b1,by rw[b2];exact S⟩
 have c3:z=true->∀e∈es m.s.an,∃th,cur'=some th/\e.1=th.hd:=λhn e he=>by
  obtain⟨th,Q,S⟩:=q.Jk hn T e he;obtain⟨c,b1,-,b3⟩:=P.to Q;exact⟨c,b1,by rw[b3];exact S⟩
 have b4:(fu (es m.s.an):V)+(fu r:V)<=(E.S:V):=by
  have h1:=q.room;by_cases h5:h.pc<=5
  ·have:=hv.kept h5
   push_cast at this
   omega
  ·have:=(hv.mx (by omega)).1;omega
 have c8:es (1-m.s.an)=(dn++[(h.head,d)])++r:=by rw[hv.es];simp
 have c4:fu (dn++[(h.head,d)])=h.k+d+2:=by rw[jG,hv.k];simp[fu];omega
 have e7:=X.fX;have a9:∀(kk:N) (kp:V),kp=(fu r:V)->(kk=0->r=[])->kk≠1->vD E m.s.size m.s.an m.s.u kp true true false none kk z cur' g es (h.k+d+2):=by
  intro kk kp b8 e3 e4;refine⟨q.size,c7,q.u,q.le,by omega,by rw[b8];exact b4,q.nd,q.DS,q.d5,λe=>?_,λe=>absurd e e4,λoff hd d' he hk=>.inl (a6 off hd d' he hk),λc e hs=>?_,q.pd,λhn _=>c3 hn⟩
  ·have:=e3 e;subst this;refine⟨by rw[b8];rfl,?_⟩;simp only[fu]at b9;omega
  ·obtain⟨sp,off,h2,h3,h4,h5⟩:=b5 c e hs;refine⟨sp,off,h2,h3,h4,?_⟩;rcases h5 with h5|h5
   ·exact .inl ⟨h5,λk e=>by cases e⟩
   ·exact .inr h5
 refine⟨_,T,?_⟩;by_cases hr:r=[]
 ·left;have a7:=b9;rw[hr]at a7;simp only[fu]at a7;refine⟨hr,by unfold Hl.iR;simp only;rw[af (by omega)],⟨.post 0,t,false,z,B,cur',none,g,es,w,h.k+d+2⟩,⟨⟨⟨hc.pos.1,T⟩,trivial,by simp[bW.pA],hc.st,hc.se,trivial,by simp only;omega⟩,hh,b6,c5,b0,W,a9 0 _ T (λ_=>hr) (by omega),a8,λtt e=>(by cases e),λtt e=>(by cases e)⟩,eI rfl (by simp only[R];omega)⟩
 ·right;have h0:0<fu r:=by
   obtain⟨e,l,rfl⟩:=eS hr;simp only[fu];omega
  have c2:Hl.iR {h with dF:=mv}={h with k:=h.k+d+2,pc:=0,dF:=mv}:=by
   unfold Hl.iR;simp only[e0];rw[aa (by omega)]
  refine⟨hr,by rw[c2];simp,?_⟩;rw[c2];refine⟨⟨.cP {h with k:=h.k+d+2,pc:=0,dF:=mv},t,false,z,B,cur',none,g,es,w,h.k+d+2⟩,⟨⟨hc.pos,trivial,trivial,hc.st,hc.se,rfl,by omega⟩,hh,b6,c5,b0,W,?_,?_,λtt e=>(by cases e),λh1 e=>?_⟩,eI rfl ?_⟩
  ·show vD E _ _ _ _ true true false (bW.cP _).cp 2 _ _ _ _ _;rw[iw (by simp)];exact a9 2 _ T (λe=>by omega) (by omega)
  ·show Mem E _ _ _ (bW.cP _).cp _ _ _ _ _ _;rw[iw (by simp)];exact a8
  ·injection e with e;subst e;exact⟨X.from_,X.fX,X.ah,e5,T,by simp,dn++[(h.head,d)],r,c8,c4,.inl ⟨T,T,hr⟩⟩
  ·simp only[R];omega
theorem KK(hE:E.Ok)(A:dR E H m s y o ⟨.cP h,t,u,z,B,an,bg,g,es,w,F⟩)(X:h.pc=4):(h.d:V)+2<=m.s.kept/\h.k+h.d+2<=1000000 /\
  (((Hl.iR h).pc=11/\iL E H s ⟨.cP h,t,u,z,B,an,bg,g,es,w,F⟩ {m with s:={m.s with kept:=m.s.kept-((h.d+2:N):V)}} {y with aM:=2} (.hl (Hl.iR h))) \/
  ((Hl.iR h).pc≠11/\iL E H s ⟨.cP h,t,u,z,B,an,bg,g,es,w,F⟩ {m with s:={m.s with kept:=m.s.kept-((h.d+2:N):V)}} y (.hl (Hl.iR h)))):=by
 obtain⟨dn,d,r,v⟩:=gj A (by omega);obtain rfl:=A.mH T;have c:=A.qt h T;have j:=A.kQ;have q:=A.lw;have x:=A.ft;have K:=A.mem;simp only at c j q x K;have a5:=j.cu;have a7:=v.le;have a4:=v.vY;have hS:=hE.S2;have R:=v.d (by omega);have hk:=v.kept (by omega);have a2:m.s.kept-((h.d+2:N):V)=(fu r:V):=by rw[hk,R];push_cast;omega
 have a6:({h with dF:=h.dF}:Hl.St)=h:=rfl;have Q:ce (es (1-m.s.an)) h.k h.head d:=by rw[v.es,<-v.k];exact ce.AI _ _ _ _
 have f:=j.kF;have a3:=wo (cur':=an) A v (by omega) m.am h.dF (by have:=c.dF;omega) (kW.refl an) (λth e=>(q.an th e).1) (λth e hs=>?_) (λoff hd d' he W=>?_) ?_ ?_
 ·obtain⟨n,hn,a1⟩:=a3;subst hn;rw[a2];refine⟨by rw[hk,R];push_cast;omega,by omega,?_⟩;rcases a1 with⟨-,a,b⟩|⟨-,a,b⟩
  ·exact .inl ⟨a,b⟩
  ·exact .inr ⟨a,b⟩
 ·obtain⟨sp,off,h2,h3,h4,P⟩:=j.an th e hs;refine⟨sp,off,h2,h3,h4,?_⟩;rcases P with P|⟨P,h6⟩
  ·exact .inl P.1
  ·right;refine⟨P,?_⟩;subst P;rcases h3.apart Q with⟨e1,e2,e3⟩|e1|e1
   ·exfalso;have S:=(q.an th e).2.2;rcases x.Cc rfl rfl th e with e4|e4
    ·cases e4
    ·have hz:=(q.an th e).1.sz hE;have:=v.no X (by rw[<-e2];exact e4 _ hz.kV);rw[<-e2,S]at this;cases this
   ·rw[c.dk]at h6;omega
   ·omega
 ·have:=f off hd d' he (by rw[c.dk];omega);rw[iw (by omega)]at this;rcases this with e|e
  ·exact e
  ·cases e
 ·refine⟨K.len,K.fC,K.an,K.bg,K.write,K.born,λsp off hd d' h2 he W=>?_⟩;have:=K.jw sp off hd d' h2 he (by rcases W with e|e;exact .inl e;exact .inr (by rw[c.dk];omega));rw[iw (by omega)]at this;exact this
 ·have P:=v.d5;unfold hz;simp[X]<;>omega
theorem uU(hE:E.Ok){b:N}(r:b<2)(ht:ie E th){dst d q sp off:N}(hq:q<d+2)(R:dst+d+2<=E.S)(W:th.gE=true->sp<2/\off+(th.d+2)<=E.S/\th.aM=((E.aC sp+off:N):V)/\(sp=b->off+(th.d+2)<=dst\/dst+(d+2)<=off)){a:N}(Q:Ff E th a):a≠E.aC b+dst+q:=by
 intro e;have n:=nu E b r;rcases Q with⟨f,S,c⟩|⟨hs,q',X,c⟩
 ·have:=ht.lt f S;rw[e,n.1]at c;omega
 ·obtain⟨A,h3,K,P⟩:=W hs;have j:=nu E sp A;rw[K,e]at c;by_cases v:sp=b
  ·subst v;have:=P T;omega
  ·rw[n.1,j.1]at c;rcases n.2 with c1|c1<;>rcases j.2 with x|x<;>rw[c1,x]at c<;>omega
theorem ui{d:N}(e:d<2){a b:N}(f:a<E.S)(j:b<E.S):E.aC (1-d)+a≠E.aC d+b:=by
 unfold gb.aC;rcases(show d=0\/d=1 by omega)with c|c<;>rw[c]<;>simp<;>omega
theorem uE(hE:E.Ok)(hi:dR E H m s y o ⟨.cP h,t,u,z,B,an,bg,g,es,w,F⟩){dn r:List iG}{d:N}(hv:HV E m.am y.ah m.s.an m.s.kept es w h dn d r)(b0:6<=h.pc)(q:N)(hq:q<d+2)(v:Nat × Nat)(b5:6<=G.pc)(b3:G.k=h.k/\G.head=h.head)
  (b8:J9 E (m.am.set (E.aC m.s.an+h.dst+q) v) y.ah m.s.an m.s.kept es w F G) (c7:hz G<hz h) :
  iL E H s ⟨.cP h,t,u,z,B,an,bg,g,es,w,F⟩ {m with am:=m.am.set (E.aC m.s.an+h.dst+q) v} y (.hl G):=by
 obtain rfl:=hi.mF T;obtain rfl:=hi.mH T;have hc:=hi.gX;have c4:=hc.cY;have f:=hi.lw;have n:=hi.kQ;have hm:=hi.mem;simp only at hc f n hm;have A:=n.cu;obtain⟨c5,Q⟩:=hv.mx b0;have a7:=Q;have b1:=hv.bF (.inr (by omega));have a5:h.dst+d+2<=E.S:=by have:=Q.le;have:=n.le _ A;omega
 have hb:=nu E m.s.an A;have b2:(bW.cP G).cp=(bW.cP h).cp:=by rw[nU b5,nU b0,b3.1,b3.2]
 have a6:(bW.cP h).cp=some (h.k,h.head):=nU b0;have c:∀{a:N},a≠E.aC m.s.an+h.dst+q->(m.am.set (E.aC m.s.an+h.dst+q) v)[a]?=m.am[a]?:=λha=>kT (λe=>ha e.symm);have a8:∀th,an=some th->th.gE=true->∃sp off,sp<2/\off+(th.d+2)<=E.S/\th.aM=((E.aC sp+off:N):V)/\(sp=m.s.an->off+(th.d+2)<=h.dst\/h.dst+(d+2)<=off):=by
  intro th e hs;obtain⟨sp,off,K,h3,h4,h5⟩:=n.an th e hs;refine⟨sp,off,K,by have:=h3.le;have:=n.le _ K;omega,h4,λX=>?_⟩;rcases h5 with h5|h5
  ·subst X;rcases h3.apart Q with⟨-,e2,-⟩|P|P
   ·have:=h5.2 h.k;rw[a6]at this;simp only[e2]at this;exact absurd T this
   ·exact .inl P
   ·exact .inr P
  ·omega
 have b6:∀th,g=some th->th.gE=true->∃sp off,sp<2/\off+(th.d+2)<=E.S/\th.aM=((E.aC sp+off:N):V)/\(sp=m.s.an->off+(th.d+2)<=h.dst\/h.dst+(d+2)<=off):=by
  intro th e hs;obtain⟨sp,off,K,h3,h4,h5⟩:=n.pd th e hs;refine⟨sp,off,K,by have:=h3.le;have:=n.le _ K;omega,h4,λX=>?_⟩;subst X;rcases h3.apart Q with⟨-,e2,-⟩|P|P
  ·obtain⟨a,b⟩:=f.pd th e;have:=(b th.hd (a.sz hE).kV).2;rw[e2,b1.2]at this;cases this
  ·exact .inl P
  ·exact .inr P
 have a9:∀th,an=some th->∀a,Ff E th a->(m.am.set (E.aC m.s.an+h.dst+q) v)[a]?=m.am[a]?:=by
  intro th e a ha;by_cases hs:th.gE=true
  ·obtain⟨sp,off,h1,K,h3,h4⟩:=a8 th e hs;exact c (uU hE A (f.an th e).1 hq a5 (λ_=>⟨h1,K,h3,h4⟩) ha)
  ·exact c (uU (sp:=0) (off:=0) hE A (f.an th e).1 hq a5 (λh=>absurd h hs) ha)
 have b7:∀th,g=some th->∀a,Ff E th a->(m.am.set (E.aC m.s.an+h.dst+q) v)[a]?=m.am[a]?:=by
  intro th e a ha;by_cases hs:th.gE=true
  ·obtain⟨sp,off,h1,K,h3,h4⟩:=b6 th e hs;exact c (uU hE A (f.pd th e).1 hq a5 (λ_=>⟨h1,K,h3,h4⟩) ha)
  ·exact c (uU (sp:=0) (off:=0) hE A (f.pd th e).1 hq a5 (λh=>absurd h hs) ha)
 have S:∀th j,g=some th->fF (th.wr E.ba) j m.am->fF (th.wr E.ba) j (m.am.set (E.aC m.s.an+h.dst+q) v):=by
  intro th j e hd k x hk hx;obtain⟨a,ha,ho,-⟩:=vB hE (f.pd th e).1 hx;have:=hd k x hk hx;rw[ha]at this ⊢;simp only[iY]at this ⊢;rw[b7 th e a ho];exact this
 refine⟨⟨.cP G,t,false,z,B,an,none,g,es,w,F⟩,⟨⟨hc.pos,trivial,trivial,hc.st,hc.se,T,by omega⟩,hi.kN,hi.mB,hi.jp.eG,f,hi.ft,?_,?_,λtt e=>(by cases e),λh1 e=>by injection e with e;subst e;exact b8⟩,eI T (by simp only[R];omega)⟩
 ·show vD E _ _ _ _ true true false (bW.cP G).cp 2 _ _ _ _ _;rw[b2];exact n
 ·show Mem E _ _ _ (bW.cP G).cp _ _ _ _ _ _;rw[b2];refine⟨by rw[iC];exact hm.len,λi b9=>?_,λth e=>(hm.an th e).aj hE (f.an th e).1 (a9 th e),λth e=>(by cases e),λe=>?_,λe=>?_,λsp off hd d' K he Q=>?_⟩
  ·refine(c ?_).trans (hm.fC i b9);rw[hb.1];rcases hb.2 with c1|c1<;>rw[c1]<;>omega
  ·obtain⟨th,j,a1,a2,a3,a4⟩:=hm.write e;exact⟨th,j,a1,a2,a3,S th j a1 a4⟩
  ·obtain⟨th,a1,a2⟩:=hm.born e;exact⟨th,a1,S th _ a1 a2⟩
  ·rcases hm.jw sp off hd d' K he Q with a|a|a
   ·exact .inl a
   ·exact .inr (.inl a)
   ·
    have he:ce (es sp) off hd d':=he;by_cases W:sp=m.s.an/\off=h.dst
    ·obtain⟨rfl,rfl⟩:=W;right;left;rcases he.apart a7 with⟨-,e2,-⟩|P|P
     ·exact⟨T,h.k,by rw[a6,e2]⟩
     ·omega
     ·omega
    ·right;right;have c6:=he.le;have c2:=n.le _ K;have c3:=nu E sp K;have b4:∀q',q'<d'+2->E.aC sp+off+q'≠E.aC m.s.an+h.dst+q:=by
      intro q' c8 e;by_cases X:sp=m.s.an
      ·subst X;rcases he.apart a7 with⟨P,-,-⟩|P|P
       ·exact W ⟨T,P⟩
       ·omega
       ·omega
      ·obtain rfl:sp=1-m.s.an:=by omega
       have:=ui (E:=E) A (a:=off+q') (b:=h.dst+q) (by omega) (by omega);omega
     refine a.aj (c (b4 0 (by omega))) (c (b4 1 (by omega))) (c ?_);have:=(f.jw sp K _ he.mem).1;simp only at this;rw[hb.1];rcases hb.2 with c1|c1<;>rw[c1]<;>omega
