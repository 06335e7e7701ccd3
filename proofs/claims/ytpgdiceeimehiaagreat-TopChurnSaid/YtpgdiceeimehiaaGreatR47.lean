/- Part 47 of the proof of spotop.TopChurn. -/
import Derived.Test.YtpgdiceeimehiaaGreatR46
set_option maxRecDepth 100000
set_option maxHeartbeats 16000000
set_option linter.all false
open Go.Proofs.Tryz
namespace Go.Proofs.YtpgdiceeimehiaaGreat
open RowKit
namespace jH
open Ac (Vl dx Wr aA)
open fG (fF tb up)
section
variable{E:gb}{A:N}{m m':aW.St}{s:Ac.St}{y y':dw.St}{o o':Pg}{p p':bW}{t:gJ}{f beh' x nt' w gr':Bool}{an cur' bg z:Option Th}{es:N->List iG}{n:N->dq.dy}{g l i k:N}{th:Th}{h h':Hl.St}
theorem aK{ws:List (Nat × Nat)}{a b:N}{v:Nat × Nat}(h:a≠b):(ws.set b v)[a]?=ws[a]?:=kT (λe=>h e.symm)
structure HP(E:gb)(m:aW.St)(h:Hl.St)(q:N):Prop where
 lt:h.dst+q<E.S
 len:E.aC m.s.an+h.dst+q<m.am.length
theorem qV(G:E.Ok)(u:dR E A m s y o ⟨.cP h,t,f,x,w,an,bg,z,es,n,g⟩){B r:List iG}{d:N}(F:HV E m.am y.ah m.s.an m.s.kept es n h B d r)(e:6<=h.pc){q:N}(H:q<d+2):HP E m h q:=by
 have a:=u.kQ;have v:=u.mem;simp only at a v;have b:=a.cu;have:=(F.mx e).2.le;have:=a.le _ b;have j:=nu E m.s.an b;refine⟨by omega,?_⟩;rw[v.len,j.1];rcases j.2 with c|c<;>rw[c]<;>omega
theorem KM(B:E.Ok)(c:dR E A m s y o ⟨.cP h,t,f,x,w,an,bg,z,es,n,g⟩)(v:h.pc=6):HP E m h 0/\h.head<E.F/\iL E A s ⟨.cP h,t,f,x,w,an,bg,z,es,n,g⟩ {m with am:=m.am.set (E.aC m.s.an+h.dst) (bi h.head)} y (.hl {h with pc:=7}):=by
 obtain⟨G,d,r,b⟩:=gj c (by omega);have a:=c.qt h T;have u:=c.lw;have j:=c.kQ;simp only at a u j;have F:=qV B c b (q:=0) (by omega) (by omega);have H:=b.le;refine⟨F,(u.jw (1-m.s.an) (by have:=j.cu;omega) (h.head,d) (by rw[b.es];simp)).1,?_⟩;refine uE B c b (by omega) 0 (by omega) _ (by simp) ⟨T,T⟩ ⟨a.from_,a.fX,a.ah,a.dF,a.dk,by simp,G,(h.head,d)::r,b.es,b.k,.inr ⟨by simp,d,r,T,λ_=>b.d (by omega),λe=>?_,λ_=>b.bF (.inr (by omega)),λ_=>b.mx (by omega),λ_=>kS F.len,λe=>?_,λe=>?_,λe=>?_⟩⟩ ?_
 all_goals try(exfalso;simp only at e;omega)
 unfold hz;simp[v]<;>omega
theorem KN(v:E.Ok)(u:dR E A m s y o ⟨.cP h,t,f,x,w,an,bg,z,es,n,g⟩)(F:h.pc=7):HP E m h 1/\h.d<=1000000/\iL E A s ⟨.cP h,t,f,x,w,an,bg,z,es,n,g⟩ {m with am:=m.am.set (E.aC m.s.an+h.dst+1) (bH (h.d:V))} y (.hl {h with j:=0,pc:=if 0=h.d then 10 else 8}):=by
 obtain⟨K,d,r,b⟩:=gj u (by omega);have a:=u.qt h T;simp only at a;have G:=qV v u b (q:=1) (by omega) (by omega);have P:=b.le;have Q:=b.vY;have S:=v.S2;have H:=b.d (by omega);have R:=b.d5;have c:(if 0=h.d then(10:V)else 8)=8:=aa (by omega);refine⟨G,by omega,?_⟩;rw[c];refine uE v u b (by omega) 1 (by omega) _ (by simp) ⟨T,T⟩ ⟨a.from_,a.fX,a.ah,a.dF,a.dk,by simp,K,(h.head,d)::r,b.es,b.k,.inr ⟨by simp,d,r,T,λ_=>H,λe=>?_,λ_=>b.bF (.inr (by omega)),λ_=>b.mx (by omega),λ_=>(aK (by simp only;omega)).trans (b.w0 (by omega)),λ_=>⟨?_,λ_=>by simp only;omega,λe=>?_,λi B=>?_⟩,λe=>?_,λe=>?_⟩⟩ ?_
 all_goals try(exfalso;simp only at e;omega)
 ·rw[H];exact kS G.len
 ·simp only at B;omega
 ·unfold hz;simp[F]<;>omega
theorem KP(Q:E.Ok)(H:dR E A m s y o ⟨.cP h,t,f,x,w,an,bg,z,es,n,g⟩)(B:h.pc=9):HP E m h (2+h.j)/\h.d<=1000000/\iL E A s ⟨.cP h,t,f,x,w,an,bg,z,es,n,g⟩ {m with am:=m.am.set (E.aC m.s.an+h.dst+(2+h.j)) h.w} y (.hl {h with j:=h.j+1,pc:=if h.j+1=h.d then 10 else 8}):=by
 obtain⟨X,d,r,u⟩:=gj H (by omega);have c:=H.qt h T;have F:=H.kQ;simp only at c F;have G:=F.cu;obtain⟨w1,w2,w3,w4⟩:=u.w1 (by omega);have hj:=w2 (by omega);have S:=qV Q H u (q:=2+h.j) (by omega) (by omega);have h1:=u.le;have h2:=u.vY;have hS:=Q.S2;have hd:=u.d (by omega);have a1:=(u.mx (by omega)).2.le;have W:=F.le _ G;have v:(if h.j+1=h.d then(10:V)else 8)=10/\h.j+1=h.d\/(if h.j+1=h.d then(10:V)else 8)=8/\h.j+1<h.d:=by
  by_cases e:h.j+1=h.d
  ·left;rw[af e];exact⟨T,e⟩
  ·right;rw[aa e];exact⟨T,by omega⟩
 generalize(if h.j+1=h.d then(10:V)else 8)=a2 at v;refine⟨S,by omega,?_⟩;refine uE Q H u (by omega) (2+h.j) (by omega) _ (by simp only;omega) ⟨T,T⟩ ⟨c.from_,c.fX,c.ah,c.dF,c.dk,by simp only;omega,X,(h.head,d)::r,u.es,u.k,.inr ⟨by simp only;omega,d,r,T,λ_=>hd,λe=>?_,λ_=>u.bF (.inr (by omega)),λ_=>u.mx (by omega),λ_=>(aK (by simp only;omega)).trans (u.w0 (by omega)),λ_=>⟨(aK (by simp only;omega)).trans w1,λe=>?_,λe=>?_,λi R=>?_⟩,λe=>?_,λe=>?_⟩⟩ ?_
 ·exfalso;simp only at e;omega
 ·simp only at e ⊢;omega
 ·simp only at e ⊢;omega
 ·simp only at R ⊢;have K:(m.am.set (E.aC m.s.an+h.dst+(2+h.j)) h.w)[E.aC (1-m.s.an)+h.k+2+i]?=m.am[E.aC (1-m.s.an)+h.k+2+i]?:=by
   refine aK ?_;have:=ui (E:=E) G (a:=h.k+2+i) (b:=h.dst+(2+h.j)) (by omega) (by omega);omega
  rw[K];by_cases e:i=h.j
  ·subst e;rw[show E.aC m.s.an+h.dst+2+h.j=E.aC m.s.an+h.dst+(2+h.j)by omega,kS S.len];exact(u.rd B).symm
  ·rw[aK (by omega)];exact w4 i (by omega)
 ·exfalso;simp only at e;omega
 ·exfalso;simp only at e;omega
 ·unfold hz;rcases v with⟨P,e2⟩|⟨P,e2⟩
  ·subst P;simp[B]<;>omega
  ·subst P;simp[B]<;>omega
def AB(es:N->List iG)(cu hd d:N):N->List iG:=λsp=>if sp=cu then es sp++[(hd,d)]else es sp
theorem I1(es:N->List iG)(a b d:N):AB es a b d a=es a++[(b,d)]:=af T
theorem I2{es:N->List iG}{a b d sp:N}(h:sp≠a):AB es a b d sp=es sp:=aa h
theorem KL(hE:E.Ok)(X:dR E A m s y o ⟨.cP h,t,f,x,w,an,bg,z,es,n,g⟩)(b5:h.pc=5):(h.d:V)+2<=m.s.kept/\m.s.u m.s.an=(fu (es m.s.an):V)/\fu (es m.s.an)+(h.d+2)<=2048 /\
  iL E A s ⟨.cP h,t,f,x,w,an,bg,z,es,n,g⟩ {m with s:={m.s with u:=Co.eG m.s.u m.s.an ((h.d+2:N):V),kept:=m.s.kept-((h.d+2:N):V)}} y (.hl {h with dst:=fu (es m.s.an),pc:=6}):=by
 obtain rfl:=X.mF T;obtain rfl:=X.mH T;obtain⟨dn,d,r,hv⟩:=gj X (by omega);have hc:=X.gX;have b6:=hc.cY;have P:=X.qt h T;have q:=X.lw;have F:=X.ft;have j:=X.kQ;have hm:=X.mem;simp only at hc P q F j hm;have b3:=j.cu;have a1:=hv.bF (.inr (by omega));have h1:=hv.le;have K:=hv.vY;have hS:=hE.S2;have hd:=hv.d (by omega);have h5:=hv.d5;have hk:=hv.kept (by omega);have B:=j.room;have G:ce (es (1-m.s.an)) h.k h.head d:=by rw[hv.es,<-hv.k];exact ce.AI _ _ _ _
 have a8:h.head∉(es m.s.an).map Prod.fst:=by
  have:=j.kF h.k h.head d G (Nat.le_of_eq P.dk);rw[iw (by omega)]at this;rcases this with e|e
  ·exact e
  ·cases e
 have a6:=q.jw (1-m.s.an) (by omega) _ G.mem;simp only at a6;have W:∀{v:N} {e:iG},e∈(AB es m.s.an h.head d v)->e∈es v\/(v=m.s.an/\e=(h.head,d)):=by
  intro v e c;unfold AB at c;split at c
  ·rcases iE.1 c with c|c
   ·exact .inl c
   ·exact .inr ⟨by assumption,by simpa using c⟩
  ·exact .inl c
 have a4:∀{v off hd d':N},ce (es v) off hd d'->ce (AB es m.s.an h.head d v) off hd d':=by
  intro v off hd d' c;unfold AB;split
  ·exact c.eG _
  ·exact c
 have b0:AB es m.s.an h.head d m.s.an=es m.s.an++[(h.head,d)]:=I1 _ _ _ _;have b2:AB es m.s.an h.head d (1-m.s.an)=es (1-m.s.an):=I2 (by omega);have a5:fu (es m.s.an++[(h.head,d)])=fu (es m.s.an)+(d+2):=by rw[jG];simp[fu]
 have a7:(bW.cP {h with dst:=fu (es m.s.an),pc:=6}).cp=some (h.k,h.head):=nU (by simp);have b4:m.s.kept-((h.d+2:N):V)=(fu r:V):=by rw[hk,hd];push_cast;omega
 rw[b4];refine⟨by rw[hk,hd];push_cast;omega,j.u _ b3,by rw[hk]at B;push_cast at B;omega,⟨.cP {h with dst:=fu (es m.s.an),pc:=6},t,false,x,w,an,none,z,AB es m.s.an h.head d,n,g⟩,⟨⟨hc.pos,trivial,trivial,hc.st,hc.se,rfl,by omega⟩,X.kN,X.mB,X.jp.eG,?_,?_,?_,?_,λtt e=>(by cases e),λh1 e=>?_⟩,eI rfl ?_⟩
 ·refine⟨q.l,q.fr,q.le,q.sx,q.an,q.bg,q.pd,q.uv,q.Ax,λv K e c=>?_,λv K e c th Q a3=>?_,λv K e c th Q a3=>?_⟩
  ·rcases W c with c|⟨-,c⟩
   ·exact q.jw v K e c
   ·subst c;exact a6
  ·rcases W c with c|⟨-,c⟩
   ·exact q.oW v K e c th Q a3
   ·subst c;exact q.oW _ (by omega) _ G.mem th Q a3
  ·rcases W c with c|⟨-,c⟩
   ·exact q.oX v K e c th Q a3
   ·subst c;exact q.oX _ (by omega) _ G.mem th Q a3
 ·refine⟨λe=>(by cases e),λe=>(by cases e),F.Cp,F.Cc,λth e=>(by cases e),λ_ e c=>?_,F.sw,F.wh,F.J4⟩;rcases W c with c|⟨-,c⟩
  ·exact F.jw T e c
  ·subst c;exact a1.1
 ·show vD E m.s.size m.s.an _ _ true true false (bW.cP {h with dst:=fu (es m.s.an),pc:=6}).cp 2 _ _ _ _ _;rw[a7];refine⟨j.size,b3,λv K=>?_,λv K=>?_,Int.natCast_nonneg _,?_,λv K=>?_,λe=>(by cases e),λv K e c=>?_,λe=>(by cases e),λe=>(by cases e),λoff a2 d' c S=>?_,λth e hs=>?_,λth e hs=>?_,λhn _ e c=>?_⟩
  ·unfold Co.eG;simp only;unfold AB;split
   ·rename_i e;subst e;rw[a5,j.u _ K,hd];push_cast;omega
   ·exact j.u v K
  ·simp only;unfold AB;split
   ·rename_i e;subst e;rw[a5];rw[hk]at B;push_cast at B;omega
   ·exact j.le v K
  ·simp only;rw[b0,a5];rw[hk]at B
   push_cast at B ⊢
   omega
  ·simp only;unfold AB;split
   ·rename_i e;subst e;rw[cV,ew];refine⟨j.nd _ K,by simp,λa ha b hb e=>?_⟩;simp only[ev,List.map_nil,jr]at hb;rw[e,hb]at ha;exact a8 ha
   ·exact j.nd v K
  ·rcases W c with c|⟨-,c⟩
   ·exact j.d5 v K e c
   ·subst c;exact h5
  ·simp only at c ⊢;rw[b2]at c;rw[b0];rcases c.apart G with⟨Q,e2,-⟩|Q|Q
   ·right;rw[Q,e2]
   ·have S:g<=off:=S;rw[P.dk]at S;omega
   ·left;intro H;rw[cV]at H;rcases iE.1 H with H|H
    ·have:=j.kF off a2 d' c S;rw[iw (by omega)]at this;rcases this with e|e
     ·exact e H
     ·cases e
    ·simp only[ev,List.map_nil,jr]at H;subst H;have:=(c.EP (j.nd _ (by omega)) G).1;omega
  ·obtain⟨v,off,K,h3,h4,a9⟩:=j.an th e hs;refine⟨v,off,K,a4 h3,h4,?_⟩;rcases a9 with⟨a,-⟩|a
   ·refine .inl ⟨a,λk e=>?_⟩;injection e with e;injection e with Q e2;subst a;exact a8 (aX.2 ⟨_,h3.mem,e2.symm⟩)
   ·exact .inr a
  ·obtain⟨v,off,K,h3,h4,a9⟩:=j.pd th e hs;exact⟨v,off,K,a4 h3,h4,a9⟩
  ·rcases W c with c|⟨-,c⟩
   ·exact j.Jk hn T e c
   ·subst c;obtain⟨th,Q,e2⟩:=F.wh hn T h.head a6.1 a6.2 a1.1;exact⟨th,Q,(q.oW _ (by omega) _ G.mem th Q e2).1⟩
 ·show Mem E _ _ _ (bW.cP {h with dst:=fu (es m.s.an),pc:=6}).cp _ _ _ _ _ _;rw[a7];refine⟨hm.len,hm.fC,hm.an,hm.bg,hm.write,hm.born,λv off a2 d' K c S=>?_⟩;have b1:ce (es v) off a2 d'\/(v=m.s.an/\a2=h.head):=by
   simp only at c;unfold AB at c;split at c
   ·rcases c.zE with c|⟨-,e2,-⟩
    ·exact .inl c
    ·exact .inr ⟨by assumption,e2⟩
   ·exact .inl c
  rcases b1 with b1|⟨Q,e2⟩
  ·have:=hm.jw v off a2 d' K b1 S;rw[iw (by omega)]at this;rcases this with e|⟨-,k,e⟩|e
   ·exact .inl e
   ·cases e
   ·exact js e
  ·exact .inr (.inl ⟨Q,h.k,by rw[e2]⟩)
 ·injection e with e;subst e;refine⟨P.from_,by simp only;rw[b2];exact P.fX,P.ah,P.dF,P.dk,by simp,dn,(h.head,d)::r,by simp only;rw[b2];exact hv.es,hv.k,.inr ⟨by simp,d,r,T,λ_=>hd,λe=>?_,λ_=>a1,λ_=>⟨T,by simp only;rw[b0];exact ce.jz _ _ _⟩,λe=>?_,λe=>?_,λe=>?_,λe=>?_⟩⟩
  all_goals(exfalso;simp only at e;omega)
 ·simp only[R];unfold hz;simp[b5]<;>omega
end
end jH
namespace jH
open Ac (Vl dx Wr aA)
open fG (fF tb up)
section
variable{E:gb}{F:N}{m m':aW.St}{s:Ac.St}{y y':dw.St}{o o':Pg}{p p':bW}{t:gJ}{c beh' z nt' w gr':Bool}{an cur' bg g:Option Th}{es:N->List iG}{B:N->dq.dy}{u l i k:N}{th:Th}{h h':Hl.St}
def DB(hd:N)(A:N)(th:Th):Th:={th with aM:=if th.hd=hd then(A:V)else th.aM}
theorem uO{a A:N}(h:th.hd≠a):DB a A th=th:=by unfold DB;rw[aa h]
theorem sc{a A:N}(h:th.hd=a):DB a A th={th with aM:=(A:V)}:=by unfold DB;rw[af h]
theorem I8(hE:E.Ok)(hi:dR E F m s y o ⟨.cP h,t,c,z,w,an,bg,g,es,B,u⟩)(c2:h.pc=10):HP E m h 0/\h.head<E.F/\h.dF<=1000000/\h.k+h.d+2<=1000000 /\
  (((Hl.iR {h with dF:=h.dF+1}).pc=11/\iL E F s ⟨.cP h,t,c,z,w,an,bg,g,es,B,u⟩ {m with am:=m.am.set (8*h.head+4) (bH ((E.aC m.s.an+h.dst:N):V))} {y with aM:=2} (.hl (Hl.iR {h with dF:=h.dF+1}))) \/
  ((Hl.iR {h with dF:=h.dF+1}).pc≠11/\iL E F s ⟨.cP h,t,c,z,w,an,bg,g,es,B,u⟩ {m with am:=m.am.set (8*h.head+4) (bH ((E.aC m.s.an+h.dst:N):V))} y (.hl (Hl.iR {h with dF:=h.dF+1})))):=by
 obtain⟨dn,d,r,W⟩:=gj hi (by omega);obtain rfl:=hi.mH T;have a8:=hi.qt h T;have K:=hi.kQ;have G:=hi.lw;have hm:=hi.mem;simp only at a8 K G hm;have b0:=K.cu;have e6:=W.le;have c9:=W.vY;have hS:=hE.S2;have e5:=W.d (by omega);have h5:=W.d5;have e7:=a8.dF;obtain⟨hk,a7⟩:=W.mx (by omega);obtain⟨w1,-,w3,w4⟩:=W.w1 (by omega);have hj:=w3 c2;have w0:=W.w0 (by omega);have b7:=W.bF (.inr (by omega));have H:ce (es (1-m.s.an)) h.k h.head d:=by rw[W.es,<-W.k];exact ce.AI _ _ _ _
 have c6:h.head<E.F:=(G.jw _ (by omega) _ H.mem).1;have hP:=qV hE hi W (q:=0) (by omega) (by omega);have a5:(bW.cP h).cp=some (h.k,h.head):=nU (by omega);have e0:h.dst+d+2<=E.S:=by have:=a7.le;have:=K.le _ b0;omega
 have a9:∀Q:N,8*E.F<=E.aC Q:=λQ=>by unfold gb.aC;omega
 have A:∀{a:N},a≠8*h.head+4->(m.am.set (8*h.head+4) (bH ((E.aC m.s.an+h.dst:N):V)))[a]?=m.am[a]?:=λha=>aK ha;have b5:∀th,an=some th->th.hd=h.head->th.gE=true/\th.d=d/\th.aM=((E.aC (1-m.s.an)+h.k:N):V):=by
  intro th e v;have hz:=(G.an th e).1.sz hE;obtain⟨-,hs,S⟩:=G.oW _ (by omega) _ H.mem th e (by rw[<-v];exact hz.kV);obtain⟨Q,off,h2,h3,h4,h5⟩:=K.an th e hs;refine⟨hs,S.symm,?_⟩;rcases h5 with⟨-,h5⟩|⟨h5,h6⟩
  ·exact absurd (by rw[a5,v]) (h5 h.k)
  ·subst h5;rw[v]at h3;rw[h4,((h3.EP (K.nd _ h2) H).1)]
 have P:∀th,ie E th->h.head∉th.fs->∀a,Ff E th a->a≠8*h.head+4:=by
  intro th ht hn a ha e;rcases ha with⟨f,hf,h1⟩|⟨hs,q,hq,h1⟩
  ·have:f=h.head:=by omega
   exact hn (this▸hf)
  ·obtain⟨Q,off,h2,h3,h4⟩:=ht.aM hs;have:=a9 Q;rw[h4]at h1;omega
 have c3:∀th,g=some th->h.head∉th.fs:=by
  intro th e b1;obtain⟨e1,-,-⟩:=G.oX _ (by omega) _ H.mem th e b1;have:=((G.pd th e).2 _ b1).2;simp only at e1;rw[b7.2]at this;cases this
 have a6:∀th j,g=some th->fF (th.wr E.ba) j m.am->fF (th.wr E.ba) j (m.am.set (8*h.head+4) (bH ((E.aC m.s.an+h.dst:N):V))):=by
  intro th j e S k x hk hx;obtain⟨a,ha,ho,-⟩:=vB hE (G.pd th e).1 hx;have:=S k x hk hx;rw[ha]at this ⊢;simp only[iY]at this ⊢;rw[A (P th (G.pd th e).1 (c3 th e) a ho)];exact this
 have b3:8*h.head+4<m.am.length:=by rw[hm.len];omega
 have c5:∀th,an=some th->th.hd≠h.head->h.head∉th.fs:=λth e c7 b1=>c7 (G.oW _ (by omega) _ H.mem th e b1).1.symm;have c8:=wo (cur':=an.map (DB h.head (E.aC m.s.an+h.dst))) hi W (by omega) (m.am.set (8*h.head+4) (bH ((E.aC m.s.an+h.dst:N):V))) (h.dF+1) (by omega) ?_ (λc4 e=>?_) (λc4 e hs=>?_) (λoff S d' he R=>?_) ?_ ?_
 ·obtain⟨n,hn,b4⟩:=c8;subst hn;rw[<-hk]at b4;refine⟨hP,c6,by omega,by omega,?_⟩;rcases b4 with⟨-,a,b⟩|⟨-,a,b⟩
  ·exact .inl ⟨a,b⟩
  ·exact .inr ⟨a,b⟩
 ·cases an with
  | none=>exact .inl ⟨T,T⟩
  | some th=>exact .inr ⟨th,_,T,T⟩
 ·cases an with
  | none=>cases e
  | some th =>
   injection e with e;subst e;by_cases v:th.hd=h.head
   ·rw[sc v];obtain⟨X,a2,a3⟩:=b5 th T v;exact(G.an th T).1.move m.s.an h.dst b0 (by rw[a2];omega)
   ·rw[uO v];exact(G.an th T).1
 ·cases an with
  | none=>cases e
  | some th =>
   injection e with e;subst e;by_cases v:th.hd=h.head
   ·rw[sc v];obtain⟨X,a2,a3⟩:=b5 th T v;refine⟨m.s.an,h.dst,b0,?_,T,.inl T⟩;show ce _ _ th.hd th.d;rw[v,a2];exact a7
   ·rw[uO v]at hs ⊢;obtain⟨Q,off,h2,h3,h4,h6⟩:=K.an th T hs;refine⟨Q,off,h2,h3,h4,?_⟩;rcases h6 with h6|⟨h6,h7⟩
    ·exact .inl h6.1
    ·right;refine⟨h6,?_⟩;subst h6;rcases h3.apart H with⟨-,e3,-⟩|e3|e3
     ·exact absurd e3 v
     ·rw[a8.dk]at h7;omega
     ·omega
 ·have:=K.kF off S d' he (by rw[a8.dk];omega);rw[a5]at this;rcases this with e|e
  ·exact e
  ·injection e with e;injection e with e1 v;omega
 ·refine⟨by rw[iC];exact hm.len,λi b8=>?_,λc4 e=>?_,λth e=>(by cases e),λe=>?_,λe=>?_,λQ off S d' h2 he R=>?_⟩
  ·exact(A (by omega)).trans (hm.fC i b8)
  ·cases an with
   | none=>cases e
   | some th =>
    injection e with e;subst e;have ht:=(G.an th T).1;by_cases v:th.hd=h.head
    ·rw[sc v];obtain⟨X,a2,a3⟩:=b5 th T v;have b6:th.bb=E.aC (1-m.s.an)+h.k:=by
      unfold Th.bb;rw[af (pF X).2,a3];exact iY _
     rw[<-v];refine(hm.an th T).move hE ht X m.s.an h.dst b0 (by rw[a2];omega) (by rw[v];exact b3) (by rw[v];exact w0) (by rw[a2];exact w1) (λi b8=>?_);rw[b6];exact w4 i (by rw[hj];omega)
    ·rw[uO v];exact(hm.an th T).aj hE ht (λa ha=>A (P th ht (c5 th T v) a ha))
  ·obtain⟨th,j,X,a2,a3,a4⟩:=hm.write e;exact⟨th,j,X,a2,a3,a6 th j X a4⟩
  ·obtain⟨th,X,a2⟩:=hm.born e;exact⟨th,X,a6 th _ X a2⟩
  ·have b9:(∃th,g=some th/\S=th.hd)\/S=h.head/\Q=m.s.an\/S≠h.head/\G8 m.am (E.aC Q+off) S d':=by
    by_cases v:S=h.head
    ·by_cases b2:Q=m.s.an
     ·exact .inr (.inl ⟨v,b2⟩)
     ·exfalso;obtain rfl:Q=1-m.s.an:=by omega
      rcases R with R|R
      ·exact b2 R
      ·rw[v]at he;have:=(he.EP (K.nd _ h2) H).1;omega
    ·rcases hm.jw Q off S d' h2 he (by rcases R with e|e;exact .inl e;exact .inr (by rw[a8.dk];omega))with a|⟨-,k,a⟩|a
     ·exact .inl a
     ·rw[a5]at a;injection a with a;injection a with X a3;exact absurd a3.symm v
     ·exact .inr (.inr ⟨v,a⟩)
   rcases b9 with a|⟨v,b2⟩|⟨v,a⟩
   ·exact .inl a
   ·right;right;subst b2;rw[v]at he ⊢;obtain⟨e3,e4⟩:=he.EP (K.nd _ h2) a7;rw[e3,e4];refine⟨(A (by have:=a9 m.s.an;omega)).trans w0,(A (by have:=a9 m.s.an;omega)).trans w1,kS b3⟩
   ·right;right;have:=a9 Q;exact a.aj (A (by omega)) (A (by omega)) (A (by omega))
 ·unfold hz;simp[c2]<;>omega
theorem CQ(S:E.Ok)(f:dR E F m s y o ⟨.jZ,t,c,z,w,an,bg,g,es,B,u⟩):(fu (es (1-m.s.an))=0/\∀(v:Value) (h':Hl.St),iL E F s ⟨.jZ,t,c,z,w,an,bg,g,es,B,u⟩ m {y with h:=v,aM:=2} (.hl h')) \/
  (∃j,fu (es (1-m.s.an))≠0/\0<E.S/\j<E.F/\m.am[E.aC (1-m.s.an)]?=some (bi j)/\∀v:Value,iL E F s ⟨.jZ,t,c,z,w,an,bg,g,es,B,u⟩ m {y with h:=v} (.hl ⟨1-m.s.an,fu (es (1-m.s.an)),y.ah,1,0,0,j,0,0,(0,0),0⟩)):=by
 obtain rfl:=f.mF T;obtain rfl:=f.mH T;have x:=f.gX;have a1:=x.cY;have a:=f.kQ;have q:=f.lw;have P:=f.mem;simp only at x a q P;have A:=a.cu;obtain⟨W,G⟩:=a.pe T
 match b:es (1-m.s.an)with
 | [] =>
  left;refine⟨T,λv h'=>⟨⟨.post 0,t,false,z,w,an,none,g,es,B,u⟩,⟨⟨⟨x.pos.1,T⟩,trivial,by simp[bW.pA],x.st,x.se,trivial,by simp only;omega⟩,f.kN,f.mB,f.jp.eG,q,f.ft,⟨a.size,A,a.u,a.le,a.k0,a.room,a.nd,a.DS,a.d5,λ_=>⟨by rw[W,b];rfl,by show u=fu (es (1-m.s.an));rw[G,b];rfl⟩,λe=>(by cases e),a.kF,a.an,a.pd,a.Jk⟩,P,λX e=>(by cases e),λX e=>(by cases e)⟩,eI rfl (by simp[R])⟩⟩
 | (j,d)::r =>
  right;have n:ce (es (1-m.s.an)) 0 j d:=by rw[b];exact⟨[],r,T,T⟩
  have K:=n.mem;have H:=a.le (1-m.s.an) (by omega);rw[b]at H;simp only[fu]at H;have Q:=yx S q a n (by omega) (λe h=>by cases h);have hw:G8 m.am (E.aC (1-m.s.an)+0) j d:=by
   rcases P.jw (1-m.s.an) 0 j d (by omega) n (.inr (by omega))with e|⟨-,k,e⟩|e
   ·exact absurd e Q
   ·cases e
   ·exact e
  have hS:=S.S2;refine⟨j,by simp[fu],by omega,(q.jw _ (by omega) _ K).1,hw.h0,λv=>⟨⟨.cP ⟨1-m.s.an,fu ((j,d)::r),y.ah,1,0,0,j,0,0,(0,0),0⟩,t,false,z,w,an,none,g,es,B,u⟩,⟨⟨x.pos,trivial,trivial,x.st,x.se,T,by simp only;omega⟩,f.kN,f.mB,f.jp.eG,q,f.ft,?_,?_,λX e=>(by cases e),λh1 e=>?_⟩,eI rfl ?_⟩⟩
  ·show vD E _ _ _ _ true true false (bW.cP _).cp 2 _ _ _ _ _;rw[iw (by simp)];exact⟨a.size,A,a.u,a.le,a.k0,a.room,a.nd,a.DS,a.d5,λe=>(by cases e),λe=>(by cases e),a.kF,a.an,a.pd,a.Jk⟩
  ·show Mem E _ _ _ (bW.cP _).cp _ _ _ _ _ _;rw[iw (by simp)];exact P
  ·injection e with e;subst e;refine⟨T,ay fu b.symm,T,ci _,G,by simp,[],(j,d)::r,b,T,.inr ⟨by simp,d,r,T,λe=>?_,λ_=>by rw[W,b],λe=>?_,λe=>?_,λe=>?_,λe=>?_,λe=>?_,λe=>?_⟩⟩
   all_goals(exfalso;simp only at e;omega)
  ·simp only[R,hz,fu];simp;omega
end
end jH
namespace jH
open Ac (Vl dx Wr aA)
open fG (fF tb up)
section
variable{E:gb}{r:N}{m m':aW.St}{s:Ac.St}{y y':dw.St}{o:Pg}{c:dx}{p p':bW}{t:gJ}{d beh' j nt' f gr':Bool}{an cur' bg n:Option Th}{es:N->List iG}{tf:N->dq.dy}{g l i k kk:N}{th:Th}{tn v mv:Bool}{cp:Option iG}
def cM(E:gb)(S:Sp.St)(o:dx):Th:=⟨o,Po.take S.fr (fE E.ba o),Sp.vF E.c S (fE E.ba o) (jT E.ba o)⟩
structure BZ(E:gb)(S:Sp.St)(o:dx)(es:N->List iG)(tf:N->dq.dy):Prop where
 ok:ie E (cM E S o)
 free:∀x∈(cM E S o).fs,x<E.F/\(tf x).st=0
 u:Sp.uX S (fE E.ba o) (jT E.ba o)=if(cM E S o).gE=true then Co.eG S.u S.an (((cM E S o).d+2:N):V)else S.u
 room:(cM E S o).gE=true->(fu (es S.an):V)+S.kept+(((cM E S o).d+2:N):V)<=(E.S:V)
 aM:(cM E S o).gE=true->(cM E S o).aM=((E.aC S.an+fu (es S.an):N):V)
theorem rs(K:E.Ok){S:Sp.St}(W:c∈E.Lq)(Q:xP E S.l S.fr S.sx an bg n es tf)(z:vD E S.size S.an S.u S.kept tn v mv cp kk j an n es g)(q:Sp.gY S (fE E.ba c) (jT E.ba c)=true):BZ E S c es tf:=by
 have X:=K.op _ W;have h1:=X.DD;have B:=z.cu;unfold Sp.gY at q;simp only[bt,Bool.or_eq_true,aQ]at q;obtain⟨hc,F⟩:=q;obtain⟨t1,t2,t3⟩:=fG.Bx h1 hc;have u:∀x∈Po.take S.fr (fE E.ba c),x<E.F/\(tf x).st=0:=by
  intro x hx;have:=t2 x hx;rw[Q.fr]at this;obtain⟨a,b⟩:=fG.zW this;exact⟨a,of_decide_eq_true b⟩
 have hz:Ca E (cM E S c):=EG K W t3;have A:=xg (th:=cM E S c) K W t3;have h:(cM E S c).gE=!Sp.flat S (fE E.ba c) (jT E.ba c):=A;have H:(cM E S c).gE=true->(jT E.ba c:V)<=Sp.room S:=by
  intro e;have R:(decide (jT E.ba c=0)||Sk.eP (Po.aI (Po.take S.fr (fE E.ba c))))=false:=by
   have h3:true=!(decide (jT E.ba c=0)||Sk.eP (Po.aI (Po.take S.fr (fE E.ba c)))):=e.symm.trans A;generalize(decide (jT E.ba c=0)||Sk.eP (Po.aI (Po.take S.fr (fE E.ba c))))=b at h3 ⊢;cases b
   ·rfl
   ·cases h3
  simp only[Bool.or_eq_false_iff,cL]at R;rcases F with F|F|F
  ·exact absurd F R.1
  ·have:=Sp.xf (l:=S.fr) h1 (by rw[Q.fr,fG.iK];have:=K.BG;omega) F;rw[this]at R;cases R.2
  ·exact F
 have w:(cM E S c).gE=true->(fu (es S.an):V)+S.kept+(((cM E S c).d+2:N):V)<=(E.S:V):=by
  intro e;have:=H e;unfold Sp.room at this;rw[z.size,z.u _ B]at this;have h2:=(hz.Lo e).2;simp only[cM]at h2 ⊢;omega
 have P:(cM E S c).gE=true->(cM E S c).aM=((E.aC S.an+fu (es S.an):N):V):=by
  intro e;rw[e]at h;have G:Sp.flat S (fE E.ba c) (jT E.ba c)=false:=by
   cases hb:Sp.flat S (fE E.ba c) (jT E.ba c)
   ·rfl
   ·rw[hb]at h;cases h
  show Sp.vF E.c S _ _=_;unfold Sp.vF;rw[G,aa (by simp),K.F,K.S,z.u _ B];unfold gb.aC
  push_cast
  rfl
 refine⟨⟨W,t3,t1,λx hx=>(u x hx).1,λe=>⟨S.an,fu (es S.an),B,?_,P e⟩⟩,u,?_,w,P⟩
 ·have:=w e;have:=z.k0;omega
 ·unfold Sp.uX;rw[h];cases G:Sp.flat S (fE E.ba c) (jT E.ba c)
  ·have e:(cM E S c).gE=true:=by rw[h,G];rfl
   have:=(hz.Lo e).2;simp only[gx,bG,Bool.not_false,bP];congr 1;simp only[cM]at this ⊢;omega
  ·simp
def tu(tf:N->dq.dy)(xs:List Nat)(se:Bool):N->dq.dy:=λi=>if i∈xs then⟨2,false,se⟩else tf i
theorem vn{xs:List Nat}{se:Bool}(h:∀x∈xs,(tf x).st≠2):Ib E tf (tu tf xs se) xs se:=by
 refine⟨h,λx a=>af a,λx a=>aa (λe=>h x e a),λx a b=>?_⟩;unfold tu;rw[aa a];exact b
theorem sD(h:dR E r m s y o ⟨.serve,t,d,j,f,an,bg,n,es,tf,g⟩)(H:t.hH=true->f=false->j=false):iL E r s ⟨.serve,t,d,j,f,an,bg,n,es,tf,g⟩ m {y with finished:=y.finished+1,dp:=0,aM:=0,i:=0} o:=by
 obtain rfl:=h.mF T;obtain rfl:=h.mH T;have u:=h.gX;have F:=u.cY;have q:=h.jp.eG;have a:=h.kQ;simp only at u q a;have x:j=false:=by
  cases b:t.hH
  ·exact(q.en b).2.2
  ·cases f
   ·exact H b T
   ·obtain⟨c,-,w,-⟩:=q.op (kr b);obtain⟨e,-,b⟩:=w b;exact(b.cG T).1
 subst x;refine⟨⟨.idle,t,false,false,f,an,none,n,es,tf,g⟩,⟨⟨⟨T,T⟩,trivial,trivial,u.st,u.se,trivial,by simp only;omega⟩,h.kN,h.mB,?_,h.lw,h.ft,⟨a.size,a.cu,a.u,a.le,a.k0,a.room,a.nd,a.DS,a.d5,a.qv,a.pe,a.kF,a.an,a.pd,λe=>(by cases e)⟩,h.mem,λK e=>(by cases e),λK e=>(by cases e)⟩,zA (by simp[R,bW.zero])⟩;refine⟨q.aM,q.own,q.loc,?_,q.en,q.sr,q.wn⟩;intro B;obtain⟨c,z,w,A⟩:=q.op B;refine⟨c,z,λb=>?_,A⟩;obtain⟨e,G,b⟩:=w b;exact⟨e,G,⟨b.th,b.fr,b.sp,b.st,λe=>by rw[b.cy e];simp,b.JY,λe=>by rw[b.ka e];simp,λ_ e=>(by cases e),b.cG⟩⟩
theorem lJ(hE:E.Ok){e:Ln.En}{gv:Value}(h:dR E r m s y o ⟨.serve,t,d,j,f,an,bg,n,es,tf,g⟩)(K:t.hH=true)(a7:f=false)(Q:E.Lq[s.next]?=some c)(a5:m.s.en=[e])(a1:Sp.gY m.s (fE E.ba c) (jT E.ba c)=true):iL E r s ⟨.serve,t,d,j,f,an,bg,n,es,tf,g⟩ {m with s:={m.s with l:=Sp.de m.s.l (Po.take m.s.fr (fE E.ba c)) 2 y.ah,fr:=Po.off m.s.fr (Po.take m.s.fr (fE E.ba c)),u:=Sp.uX m.s (fE E.ba c) (jT E.ba c),en:=[Ln.granted e gv (Po.aI (Po.take m.s.fr (fE E.ba c))) (Sp.vF E.c m.s (fE E.ba c) (jT E.ba c))]}} y o:=by
 subst a7;obtain rfl:=h.mF T;obtain rfl:=h.mH T;obtain⟨W,a2,b2⟩:=Ck h;have X:=h.gX;have hh:=h.kN;have b1:=X.cY;have R:=h.jp.eG;have F:=h.kQ;have w:=h.lw;have H:=h.ft;have hm:=h.mem;simp only at X hh R F w H hm;have z:t.made=false:=by cases t<;>first|rfl|simp[gJ.hH]at K
 obtain rfl:=R.sr z T;have a3:c∈E.Lq:=cZ Q;have B:=rs hE a3 w F a1;have hz:=B.ok.sz hE;have S:Ib E tf (tu tf (cM E m.s c).fs y.ah) (cM E m.s c).fs y.ah:=vn (λx hx=>by rw[(B.free x hx).2];omega);have b0:Sp.de m.s.l (cM E m.s c).fs 2 y.ah=tb E.F (tu tf (cM E m.s c).fs y.ah):=by rw[w.l,fG.lK];rfl
 have a6:Po.off m.s.fr (cM E m.s c).fs=tb E.F (λi=>decide ((tu tf (cM E m.s c).fs y.ah i).st=0)):=by
  rw[w.fr,fG.sj];refine fG.kR λi _=>?_;unfold tu;split<;>simp
 have a4:xP E (Sp.de m.s.l (cM E m.s c).fs 2 y.ah) (Po.off m.s.fr (cM E m.s c).fs) m.s.sx an none (some (cM E m.s c)) (qJ es m.s.an (cM E m.s c)) (tu tf (cM E m.s c).fs y.ah):=by
  refine w.alloc hE B.ok S b0 a6 (λi hi=>?_) ?_
  ·unfold tu;split
   ·simp
   ·exact w.le i hi
  ·obtain⟨q,q1,q2,q3,q4⟩:=w.sx;refine⟨q,q1,q2,q3,λi=>?_⟩;rw[q4];unfold tu;split
   ·rename_i a9;have:=(B.free i a9).2;simp[this]
   ·rfl
 have a8:∀sp,sp<2->∀e∈es sp,e.1≠(cM E m.s c).hd:=by
  intro sp h2 e he e2;have:=(w.jw sp h2 e he).2;rw[e2,(B.free _ hz.kV).2]at this;cases this
 refine⟨⟨.serve,t,false,false,true,an,none,some (cM E m.s c),qJ es m.s.an (cM E m.s c),tu tf (cM E m.s c).fs y.ah,g⟩,⟨⟨X.pos,trivial,trivial,X.st,X.se,trivial,by omega⟩,hh,h.mB,?_,a4,?_,?_,?_,λtt e=>(by cases e),λtt e=>(by cases e)⟩,?_⟩
 ·refine⟨R.aM,R.own,R.loc,?_,λe=>absurd (K.symm.trans e) (by simp),λ_ e=>(by cases e),λ_=>⟨a2,λe=>absurd (W.symm.trans e) (by simp),.inl (by rw[hh.aY];simp[bW.st])⟩⟩;intro _;obtain⟨b3,h1,h2,h3⟩:=R.op (kr K);rw[Q]at h1;injection h1 with h1;subst h1;refine⟨c,Q,λ_=>?_,λe=>absurd (z.symm.trans e) (by simp)⟩;obtain⟨e',A,G⟩:=h2 K;rw[a5]at A;injection A with A;subst A;exact⟨_,T,⟨G.th,G.fr,G.sp,T,λe=>(by cases e),G.JY,λe=>(by cases e),λe=>(by cases e),λ_=>⟨rfl,_,rfl,rfl,rfl,rfl⟩⟩⟩
 ·exact H.alloc S (λ_=>T) (λe=>(by cases e)) (λth e=>(w.an th e).2.1) (λth e=>(by cases e)) (λe he=>(w.jw _ F.cu e he).2) hz.kV (λe=>(by cases e)) (λe=>by simp[bW.sw]at e) (λ_=>rfl)
 ·exact F.alloc hE B.ok a8 B.u B.room B.aM
 ·exact hm.alloc (λe=>by subst e;simp[gJ.hH]at K) (λe=>by subst e;simp[gJ.hH]at K)
 ·refine⟨?_,λe=>by simp[vH]at e⟩;obtain⟨a,b,hb,P⟩:=Jh K;simp only;rw[(P .serve false false true _).1,(P .serve false j false _).2];unfold tj;simp only[bP,gx,bG];have:a<=3:=by cases t<;>simp[gJ.hH]at K<;>(have:=(P .serve false false true 0).1;simp[qd,tj]at this;omega)
  omega
theorem yP(u:E.Ok)(h:dR E r m s y o ⟨.serve,t,d,true,f,an,bg,n,es,tf,g⟩)(b:c∈E.Lq):Sp.gY m.s (fE E.ba c) (jT E.ba c)=true:=by
 have a:=h.ft;exact ye u b h.lw h.kQ (λi q e=>a.wh T T i q e (a.A T i q e))
end
end jH
namespace jH
open Ac (Vl dx Wr aA)
open fG (fF tb up)
def kC(G G':Gh)(l l':N):Prop:=pk G'.p G'.t G'.ib G'.nt G'.gr l'<=qd G.p G.t G.ib G.nt G.gr l/\(vH G.t G.ib G.gr=true->pk G'.p G'.t G'.ib G'.nt G'.gr l'<qd G.p G.t G.ib G.nt G.gr l)
def vE(E:gb)(Nq:N)(y:dw.St)(o:Pg)(G:Gh)(l:N)(m':aW.St)(s':Ac.St):Prop:=∃G',dR E Nq m' s' y o G'/\kC G G' l s'.bz.length
section
variable{E:gb}{A:N}{m m':aW.St}{s s':Ac.St}{y y':dw.St}{o:Pg}{B:dx}{p p':bW}{t t':gJ}{d u v nt' q gr':Bool}{an cur' bg r:Option Th}{es:N->List iG}{z:N->dq.dy}{x l l' i k kk:N}{th:Th}
theorem ig(h:t.jz=t'.jz):iQ p t d=iQ p t' d:=by unfold iQ;rw[h]
theorem dR.owned{G:Gh}{n:N}(h:dR E A m s y o G)(f:s.own=(n:V)):dR E (A+1) m {s with own:=((n+1:N):V)} y o G:=by
 have a:=h.jp;obtain⟨b,c,e⟩:=a.own;have:b=n:=by omega
 subst this;exact⟨h.gX.mf,h.kN,h.mB,⟨a.aM,⟨b+1,T,by omega⟩,a.loc,a.op,a.en,a.sr,a.wn⟩,h.lw,h.ft,h.kQ,h.mem,h.BM,h.qt⟩
theorem dR.bj{stats':List Int}(h:dR E A m s y o ⟨p,t,d,v,q,an,bg,r,es,z,x⟩)(X:LO E stats' s'.aY s'.ah s'.seen y.ah p.st p.mM t'.mu u)(W:Ll m.cb m.s.cm m.xs s'.bZ p.st p.wP p.mz p.Hk t'.bZ t'.jz u an bg)(ht:EX E A m.s.en s' p.sv p.zero p.st t' v q an r)
  (f:iQ p t' u=iQ p t d\/iQ p t' u=false/\an=none/\r=none/\bg=none/\iQ p t d=true/\p.eb=false/\p.sw=0) (c:p.mv u=p.mv d\/r=none) (F:t'≠.write/\t'≠.born) :
  dR E A {m with bA:=stats'} s' y o ⟨p,t',u,v,q,an,bg,r,es,z,x⟩:=by
 have b:=h.ft;have a:=h.kQ;have g:=h.mem;simp only at b a g;refine⟨h.gX,X,W,ht,h.lw,?_,?_,⟨g.len,g.fC,g.an,g.bg,λe=>absurd e F.1,λe=>absurd e F.2,g.jw⟩,h.BM,h.qt⟩
 ·simp only;rcases f with f|⟨G,H,K,P,Q,R,S⟩
  ·rw[f];exact b
  ·rw[G,R,S];subst H K P;rw[Q]at b;refine⟨b.A,λe=>(by cases e),λ_ _ th e=>(by cases e),λ_ _ th e=>(by cases e),λth e=>(by cases e),λe=>(by cases e),λj hj=>by omega,λ_ _ i hi n w=>?_,λ_ th e=>(by cases e)⟩;have:=b.B T i hi n;rw[this]at w;exact absurd w (by cases y.ah<;>simp)
 ·simp only;rcases c with c|c
  ·rw[c];exact a
  ·subst c;exact⟨a.size,a.cu,a.u,a.le,a.k0,a.room,a.nd,a.DS,a.d5,a.qv,a.pe,a.kF,a.an,λth e=>(by cases e),a.Jk⟩
theorem mJ(a b c:V)(h:t.pos=(a,b,c))(e:s.bn=a)(f:a=2->s.aM=c)(g:a≠2->s.pc=b):t.at s:=by
 unfold gJ.at;rw[h,e];exact⟨T,f,g⟩
theorem GQ(b:E.Lq[s.next]?=some B)(h:dR E A m s y o ⟨p,.je,false,v,q,an,bg,r,es,z,x⟩):vE E A y o ⟨p,.je,false,v,q,an,bg,r,es,z,x⟩ l m {s with bn:=2,own:=0,aM:=0,f:=.pointer none,addr:=0,DZ:=false,bg:=(0,0),w:=(0,0),tv:=Z none 0 0,wv:=Z none 0 0,cG:=[],bz:=[]}:=by
 have a:=h.jp;simp only at a;refine⟨⟨p,.start,false,v,q,an,bg,r,es,z,x⟩,h.bj (stats':=m.bA) h.kN h.mB ⟨mJ 2 0 0 T T (λ_=>T) (λe=>absurd T e),⟨0,T,aw _⟩,a.loc,?_,a.en,a.sr,λe=>?_⟩ (.inl (ig T)) (.inl T) ⟨by simp,by simp⟩,by simp[kC,pk,qd]⟩
 ·exact λ_=>⟨B,b,λe=>(by cases e),λe=>(by cases e)⟩
 ·have:=(a.en T).2.1;rw[this]at e;cases e
theorem JR(h:dR E A m s y o ⟨p,.fZ,d,v,false,an,bg,r,es,z,x⟩):vE E A y o ⟨p,.fZ,d,v,false,an,bg,r,es,z,x⟩ l m {s with pc:=0}:=by
 have a:=h.jp;simp only at a;obtain⟨b,j,n⟩:=a.aM;have g:s.bn=3:=b;refine⟨⟨p,.nk,d,v,false,an,bg,r,es,z,x⟩,h.bj (stats':=m.bA) h.kN h.mB ⟨mJ 3 0 0 T b (λe=>by omega) (λ_=>T),a.own,a.loc,?_,λe=>(by cases e),a.sr,λe=>(by cases e)⟩ (.inl (ig rfl)) (.inl rfl) ⟨by simp,by simp⟩,?_⟩
 ·obtain⟨B,c,f,w⟩:=a.op T;exact λ_=>⟨B,c,f,λe=>(by cases e)⟩
 ·cases d<;>simp[kC,pk,qd,tj,vH,gJ.hH]
theorem JQ(h:dR E A m s y o ⟨p,.nk,false,v,q,an,bg,r,es,z,x⟩):vE E A y o ⟨p,.nk,false,v,q,an,bg,r,es,z,x⟩ l m {s with pc:=5}:=by
 have a:=h.jp;simp only at a;obtain⟨c,n,w⟩:=a.aM;have j:s.bn=3:=c;refine⟨⟨p,.fZ,false,v,q,an,bg,r,es,z,x⟩,h.bj (stats':=m.bA) h.kN h.mB ⟨mJ 3 5 0 T c (λe=>by omega) (λ_=>T),a.own,a.loc,?_,λe=>(by cases e),a.sr,λe=>?_⟩ (.inl (ig rfl)) (.inl rfl) ⟨by simp,by simp⟩,?_⟩
 ·obtain⟨B,f,g,H⟩:=a.op T;exact λ_=>⟨B,f,g,λe=>(by cases e)⟩
 ·obtain⟨F,G,b⟩:=a.wn e;exact⟨T,λe=>(by cases e),by rcases b with b|b;exact .inl b;exact .inr ⟨b.1,T⟩⟩
 ·cases q<;>simp[kC,pk,qd,tj,vH,gJ.hH]
theorem uM(g:p.mM=true)(f:p.pA E):p.zK=false/\(p.st=1->∀b,p.mv b=false)/\((p.st=3/\p.eb=false/\p.sw=0/\∀t b,iQ p t b=(b&&!t.jz))\/(p.st≠3/\∀t b t' c,iQ p t b=iQ p t' c)):=by
 cases p with
 | fC i=>exact⟨T,λ_ _=>rfl,.inl ⟨T,T,T,λ_ _=>rfl⟩⟩
 | eN k i =>
  have a:=f.1
  match k,a with
  | 0,_=>exact⟨T,λ_ _=>rfl,.inr ⟨by simp[bW.st],λ_ _ _ _=>rfl⟩⟩
  | 1,_=>exact⟨T,λ_ _=>rfl,.inr ⟨by simp[bW.st],λ_ _ _ _=>rfl⟩⟩
  | 2,_=>exact⟨T,λ_ _=>rfl,.inr ⟨by simp[bW.st],λ_ _ _ _=>rfl⟩⟩
  | 3,_=>exact⟨T,λ_ _=>rfl,.inl ⟨T,T,T,λ_ _=>rfl⟩⟩
  | 4,_=>exact⟨T,λe=>by simp[bW.st]at e,.inr ⟨by simp[bW.st],λ_ _ _ _=>rfl⟩⟩
 | _=>simp[bW.mM]at g
def BJ(t:gJ)(g:Bool):gJ:=match t with
 | .je=>if g=true then .mw else .qH
 | _=>if g=true then .nj else .pI
theorem iH{st pc:V}{gv':Value}{gy:List Int}{g:Bool}(h:dR E A m s y o ⟨p,t,true,v,q,an,bg,r,es,z,x⟩)(b:t=.je\/t=.nk)(S:p.st=st)(Q:pc=if g=true then 1 else 2)
  (hg:g=true->p.st=3/\∃th,an=some th/\gy=[(th.hd:V)]) (a6:g=false->p.st=3->an=none) :
  vE E A y o ⟨p,t,true,v,q,an,bg,r,es,z,x⟩ l m {s with seen:=st,gv:=gv',bZ:=gy,pc:=pc,ah:=if st=1 then m.se else s.ah}:=by
 have n:=h.jp;have G:=h.kN;have c:=h.mB;have hc:=h.gX;simp only at n G c hc;obtain⟨W,a2,a3⟩:=n.aM;have P:=G.mM T;obtain⟨b0,-,K⟩:=uM P hc.pA;have f:t.mu=false/\t.jz=false/\t.bZ=false:=by rcases b with rfl|rfl<;>exact⟨T,T,T⟩
 have F:bg=none:=by
  cases bg with
  | none=>rfl
  | some th=>have:=c.qM (by simp) T;rw[f.2.1]at this;cases this
 have a:(BJ t g).mu=true/\(BJ t g).bZ=g/\(BJ t g).hH=t.hH/\(BJ t g).made=false/\(BJ t g).jz=!g/\BJ t g≠.write/\BJ t g≠.born:=by
  rcases b with rfl|rfl<;>cases g<;>simp[BJ,gJ.mu,gJ.bZ,gJ.hH,gJ.made,gJ.jz]
 have a4:(BJ t g).vO=t.vO:=by rcases b with rfl|rfl<;>cases g<;>rfl
 have w:q=true->p.st=1:=by
  intro e;obtain⟨-,-,j⟩:=n.wn e;have R:=G.aY;simp only[bP]at R;have a8:t≠.fZ:=by rcases b with rfl|rfl<;>simp
  have H:s.aY=0:=by rcases j with j|j;exact j;exact absurd j.2 a8
  rw[R]at H;unfold mA at H;split at H<;>omega
 refine⟨⟨p,BJ t g,true,v,q,an,bg,r,es,z,x⟩,h.bj (stats':=m.bA) (s':={s with seen:=st,gv:=gv',bZ:=gy,pc:=pc,ah:=if st=1 then m.se else s.ah}) ⟨G.bA,G.aY,G.mM,?_,λ_=>⟨rfl,S.symm⟩⟩ ⟨?_,c.bg,c.mark,λe=>absurd F e,c.cb,c.xs,c.cm⟩ ⟨?_,n.own,n.loc,?_,?_,?_,?_⟩ ?_ (.inl rfl) ⟨a.2.2.2.2.2.1,a.2.2.2.2.2.2⟩,?_⟩
 ·rw[a.1];simp only[Bool.true_eq_false,and_false,bG];have R:=G.ah;rw[f.1]at R;show(if st=1 then m.se else s.ah)=y.ah;by_cases e1:st=1
  ·rw[af e1];exact hc.se
  ·rw[aa e1,R,aa (λe=>e1 (by rw[<-S];exact e.2.1))]
 ·intro e;rw[a.2.1]at e;exact hg e
 ·rcases b with rfl|rfl<;>cases g<;>(simp only[gx,bG,bP]at Q;subst Q)
  ·exact mJ 1 2 0 T W (λe=>by omega) (λ_=>T)
  ·exact mJ 1 1 0 T W (λe=>by omega) (λ_=>T)
  ·exact mJ 3 2 0 T W (λe=>by omega) (λ_=>T)
  ·exact mJ 3 1 0 T W (λe=>by omega) (λ_=>T)
 ·intro hb;obtain⟨B,h1,h2,h3⟩:=n.op (by rw[<-a4];exact hb);exact⟨B,h1,λe=>h2 (by rw[<-a.2.2.1];exact e),λe=>(by rw[a.2.2.2.1]at e;cases e)⟩
 ·intro e;rw[a.2.2.1]at e;exact n.en e
 ·intro _;have:t.made=false:=by rcases b with rfl|rfl<;>rfl
  exact n.sr this
 ·intro e;obtain⟨b1,b2,j⟩:=n.wn e;have h1:=w e;refine⟨?_,λ_=>h1,?_⟩
  ·rw[a.2.1];cases g
   ·rfl
   ·have:=(hg T).1;omega
  ·rcases j with j|j
   ·exact .inl j
   ·rcases b with rfl|rfl<;>simp at j
 ·cases g
  ·
   rcases K with⟨h3,h4,h5,X⟩|⟨-,X⟩
   ·have a5:=a6 T h3;have a7:q=false:=by
     cases q
     ·rfl
     ·have:=w T;omega
    have a9:r=none:=n.sr (by rcases b with rfl|rfl<;>rfl) a7;exact .inr ⟨by rw[X,a.2.2.2.2.1];rfl,a5,a9,F,by rw[X,f.2.1];rfl,h4,h5⟩
   ·exact .inl (X _ _ _ _)
  ·exact .inl (ig (by rw[a.2.2.2.2.1,f.2.1];rfl))
 ·rcases b with rfl|rfl
  ·cases g<;>simp[kC,BJ,pk,qd]
  ·cases g<;>cases q<;>simp[kC,BJ,pk,qd,tj]
theorem tV(h:dR E A m s y o ⟨p,t,d,v,q,an,bg,r,es,z,x⟩)(c:(t=.qH/\t'=.je/\k=0)\/(t=.pI/\t'=.fZ/\k=5)):vE E A y o ⟨p,t,d,v,q,an,bg,r,es,z,x⟩ l {m with bA:=m.bA.set 0 s.seen} {s with aY:=s.seen,pc:=(k:V)}:=by
 have g:=h.jp;have F:=h.kN;have f:=h.mB;have X:=h.gX;simp only at g F f X;obtain⟨W,a2,a3⟩:=g.aM;have b:t.mu=true/\t.jz=true/\t.bZ=false:=by rcases c with⟨rfl,-⟩|⟨rfl,-⟩<;>exact⟨T,T,T⟩
 obtain⟨Q,n⟩:=F.mu b.1;subst Q;have H:=F.mM T;obtain⟨S,w,G⟩:=uM H X.pA;have a:t'.mu=false/\t'.bZ=false/\t'.hH=t.hH/\t'.made=false/\t'.jz=false/\t'≠.write/\t'≠.born:=by
  rcases c with⟨rfl,rfl,-⟩|⟨rfl,rfl,-⟩<;>simp[gJ.mu,gJ.bZ,gJ.hH,gJ.made,gJ.jz]
 have R:t'.vO=t.vO:=by rcases c with⟨rfl,rfl,-⟩|⟨rfl,rfl,-⟩<;>rfl
 have j:t.made=false:=by rcases c with⟨rfl,-⟩|⟨rfl,-⟩<;>rfl
 have hs:=F.aY;simp only[bP]at hs;refine⟨⟨p,t',false,v,q,an,bg,r,es,z,x⟩,h.bj (stats':=m.bA.set 0 s.seen) ⟨?_,?_,λe=>(by cases e),?_,λe=>?_⟩ ⟨λe=>?_,f.bg,f.mark,λ_ e=>(by cases e),f.cb,f.xs,f.cm⟩ ⟨?_,g.own,g.loc,?_,?_,λ_=>g.sr j,?_⟩ ?_ ?_ ⟨a.2.2.2.2.2.1,a.2.2.2.2.2.2⟩,?_⟩
 ·rw[F.bA];rfl
 ·simp only[gx,bG];exact n
 ·have:=F.ah;rw[b.1,aa (by simp)]at this;simp only[gx,false_and,bG];exact this
 ·rw[a.1]at e;cases e
 ·rw[a.2.1]at e;cases e
 ·rcases c with⟨rfl,rfl,rfl⟩|⟨rfl,rfl,rfl⟩
  ·exact mJ 1 0 0 T W (λe=>by omega) (λ_=>T)
  ·exact mJ 3 5 0 T W (λe=>by omega) (λ_=>T)
 ·intro Q;obtain⟨B,P,h2,h3⟩:=g.op (by rw[<-R];exact Q);exact⟨B,P,λe=>h2 (by rw[<-a.2.2.1];exact e),λe=>(by rw[a.2.2.2.1]at e;cases e)⟩
 ·intro e;rw[a.2.2.1]at e;exact g.en e
 ·intro e;obtain⟨b1,b2,b3⟩:=g.wn e;have P:=b2 b.1;refine⟨a.2.1,λe=>(by rw[a.1]at e;cases e),.inr ⟨by show s.seen=1;rw[n,P],?_⟩⟩;rcases c with⟨rfl,rfl,-⟩|⟨rfl,rfl,-⟩
  ·have:=(g.en T).2.1;rw[this]at e;cases e
  ·rfl
 ·left;rcases G with⟨h3,h4,h5,K⟩|⟨-,K⟩
  ·rw[K,K,b.2.1];rfl
  ·exact K _ _ _ _
 ·by_cases e:q=true
  ·left;rw[w ((g.wn e).2.1 b.1),w ((g.wn e).2.1 b.1)]
  ·exact .inr (g.sr j (by simpa using e))
 ·rcases c with⟨rfl,rfl,-⟩|⟨rfl,rfl,-⟩
  ·simp[kC,pk,qd,S]
  ·cases q<;>simp[kC,pk,qd,tj]
