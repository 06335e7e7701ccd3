/- Part 48 of the proof of spotop.TopChurn. -/
import Derived.Test.YtpgdiceeimehiaaGreatR47
set_option maxRecDepth 100000
set_option maxHeartbeats 16000000
set_option linter.all false
open Go.Proofs.Tryz
namespace Go.Proofs.YtpgdiceeimehiaaGreat
open RowKit
namespace jH
open Ac (Vl dx Wr aA)
open fG (fF tb up)
section
variable{E:gb}{u:N}{m m':aW.St}{s s':Ac.St}{y y':dw.St}{o:Pg}{od:dx}{p p':bW}{t t':gJ}{a beh' n nt' v gr':Bool}{an cur' bg q:Option Th}{es:N->List iG}{c tf':N->dq.dy}{g l l' i k kk:N}{th:Th}
theorem yV(hE:E.Ok){pv' gv':Value}(h:dR E u m s y o ⟨p,t,a,n,v,an,bg,q,es,c,g⟩)(G:(t=.mw/\t'=.qH)\/(t=.nj/\t'=.pI)):∃th,an=some th/\th.hd<E.F/\s.bZ=[(th.hd:V)]/\m.s.l[th.hd]?=some (c th.hd)/\Sd.nZ (c th.hd) s.ah=true/\(c th.hd).st=2/\m.xs=[] /\
   vE E u y o ⟨p,t,a,n,v,an,bg,q,es,c,g⟩ l {m with pv:=pv',xs:=m.xs++[(th.hd:V)],s:={m.s with l:=m.s.l.set th.hd {c th.hd with ah:=s.ah}}} {s with gv:=gv',bZ:=[],pc:=2}:=by
 have S:=h.jp;have R:=h.kN;have B:=h.mB;have hc:=h.gX;have H:=h.lw;have F:=h.ft;have hm:=h.mem;simp only at S R B hc H F hm;obtain⟨a1,a2,a3⟩:=S.aM;have w:t.mu=true/\t.jz=false/\t.bZ=true/\t.made=false:=by rcases G with⟨rfl,-⟩|⟨rfl,-⟩<;>exact⟨T,T,T,T⟩
 have r:t'.mu=true/\t'.bZ=false/\t'.hH=t.hH/\t'.made=false/\t'.jz=true/\t'≠.write/\t'≠.born:=by
  rcases G with⟨rfl,rfl⟩|⟨rfl,rfl⟩<;>simp[gJ.mu,gJ.bZ,gJ.hH,gJ.made,gJ.jz]
 have a9:t'.vO=t.vO:=by rcases G with⟨rfl,rfl⟩|⟨rfl,rfl⟩<;>rfl
 obtain⟨hb,X⟩:=R.mu w.1;subst hb;have A:=R.mM T;obtain⟨h3,th,rfl,b6⟩:=B.bZ w.2.2.1;obtain⟨b8,-,a5⟩:=uM A hc.pA;obtain⟨b4,b7,a4⟩:p.eb=false/\p.sw=0/\∀t b,iQ p t b=(b&&!t.jz):=by
  rcases a5 with⟨-,b1,b2,b3⟩|⟨b1,-⟩
  ·exact⟨b1,b2,b3⟩
  ·exact absurd h3 b1
 have a6:bg=none:=by
  cases bg with
  | none=>rfl
  | some th=>have:=B.qM (by simp) T;rw[w.2.1]at this;cases this
 subst a6;have b5:v=false:=by
  cases v
  ·rfl
  ·have:=(S.wn T).1;rw[w.2.2.1]at this;cases this
 subst b5;obtain rfl:=S.sr w.2.2.2 T;obtain⟨b1,b2,b3⟩:=H.an th T;have hz:=b1.sz hE;have W:=b1.lt _ hz.kV;have Q:iQ p t true=true:=by rw[a4,w.2.1];rfl
 have z:s.ah=y.ah:=by
  have:=R.ah
  rwa [aa (λe=>by rw[h3]at e;have:=e.2.1;omega)]at this
 have K:(c th.hd).ah=!y.ah:=F.B Q _ W (b2 _ hz.kV);have a8:m.xs=[]:=by rw[B.xs];unfold uV;cases p.mz<;>rfl
 have b0:nv p=false:=by cases p<;>first|rfl|(simp[bW.mM]at A)
 have a7:p.wP=true/\p.mz=true/\p.Hk=false:=by
  cases p with
  | fC i=>exact⟨T,T,T⟩
  | eN k i =>
   obtain rfl:k=3:=by simp only[bW.st]at h3;omega
   exact⟨T,T,T⟩
  | _=>simp[bW.mM]at A
 have hu:=sR (f:=c) (j:=th.hd) (b:=s.ah);have d:=H.part th.hd s.ah;refine⟨th,T,W,b6,by rw[H.l,fG.iq W],?_,b2 _ hz.kV,a8,⟨p,t',true,n,false,some th,some th,none,es,up c th.hd {c th.hd with ah:=s.ah},g⟩,⟨hc,⟨R.bA,R.aY,R.mM,?_,λ_=>⟨rfl,X⟩⟩,⟨λe=>?_,λ_=>a7.1,λe=>by simp,λ_ _=>r.2.2.2.2.1,B.cb,?_,B.cm⟩,⟨?_,S.own,S.loc,?_,?_,λ_ _=>rfl,λe=>(by cases e)⟩,⟨d.l,d.fr,d.le,d.sx,d.an,λP e=>?_,d.pd,d.uv,λb9 P e=>(by cases e),d.jw,d.oW,d.oX⟩,?_,h.kQ,⟨hm.len,hm.fC,hm.an,λP e=>?_,λe=>absurd e r.2.2.2.2.2.1,λe=>absurd e r.2.2.2.2.2.2,hm.jw⟩,λtt e=>?_,λR e=>?_⟩,?_⟩
 ·simp[Sd.nZ,b3,b2 _ hz.kV,z,K]
 ·rw[aa (λe=>by rw[h3]at e;have:=e.2.1;omega)];exact z
 ·rw[r.2.1]at e;cases e
 ·show m.xs++[(th.hd:V)]=_;rw[a8,a7.2.1];rfl
 ·rcases G with⟨rfl,rfl⟩|⟨rfl,rfl⟩
  ·exact mJ 1 2 0 T a1 (λe=>by omega) (λ_=>T)
  ·exact mJ 3 2 0 T a1 (λe=>by omega) (λ_=>T)
 ·intro hb;obtain⟨od,h1,h2,h3⟩:=S.op (by rw[<-a9];exact hb);exact⟨od,h1,λe=>h2 (by rw[<-r.2.2.1];exact e),λe=>by rw[r.2.2.2.1]at e;cases e⟩
 ·intro e;rw[r.2.2.1]at e;exact S.en e
 ·injection e with e;subst e;exact d.an th T
 ·show xI E y.ah (nv p) (iQ p t' true) p.eb (Aa p (iQ p t' true)) p.sw n m.s.an (some th) (some th) none es _;rw[a4,r.2.2.2.2.1,b4,b7,b0];refine⟨λe=>(by cases e),λe=>(by cases e),λ_ _ th e=>(by cases e),λ_ _ P e=>.inl e,λP e=>?_,λe=>(by cases e),λj hj=>by omega,λ_ _ x hx h2 hs=>?_,λ_ _ e=>e⟩
  ·injection e with e;subst e;rw[(hu _).2.2,af rfl];refine⟨z,λhs=>?_⟩;obtain⟨sp,off,a1,a2,a3,-⟩:=h.kQ.an th T hs;exact⟨sp,off,a1,a2,a3⟩
  ·rw[(hu x).1]at h2;rw[(hu x).2.2]at hs;split at hs
   ·rename_i e;subst e;exact⟨th,T,hz.kV⟩
   ·have:=F.B Q x hx h2;rw[this]at hs;exact absurd hs (by cases y.ah<;>simp)
 ·injection e with e;subst e;exact hm.an th T
 ·subst e;simp[bW.mM]at A
 ·subst e;simp[bW.mM]at A
 ·rcases G with⟨rfl,rfl⟩|⟨rfl,rfl⟩<;>simp[kC,pk,qd,tj]
theorem IV(h:dR E u m s y o ⟨p,t,a,n,v,an,bg,q,es,c,g⟩)(x:t.mu=false):(iQ p t a=false->ft s=y.ah)/\(iQ p t a=true->ft s=!y.ah)/\(nv p=true->iQ p t a=false)/\(p.eb=true->iQ p t a=false)/\(0<p.sw->iQ p t a=false):=by
 have f:=h.kN;have w:=h.gX;simp only at f w;have r:=f.aY;have d:=f.ah;have j:t.jz=false:=by cases t<;>first|rfl|simp[gJ.mu]at x
 have b:=f.mM;have e:=w.pA;rw[x]at d;unfold ft;clear h w f;cases a
 ·simp only[gx,bG,false_and]at r d;rw[r,d];cases p with
  | post k =>
   have e:k<=4:=e
   match k,e with
   | 0,_=>simp[iQ,nv,bW.st,bW.eb,bW.tn,bW.sw]
   | 1,_=>simp[iQ,nv,bW.st,bW.eb,bW.tn,bW.sw]
   | 2,_=>simp[iQ,nv,bW.st,bW.eb,bW.tn,bW.sw]
   | 3,_=>simp[iQ,nv,bW.st,bW.eb,bW.tn,bW.sw]
   | 4,_=>simp[iQ,nv,bW.st,bW.eb,bW.tn,bW.sw]
  | eN k i =>
   have e:=e.1
   match k,e with
   | 0,_=>simp[iQ,nv,bW.st,bW.eb,bW.tn,bW.sw]
   | 1,_=>simp[iQ,nv,bW.st,bW.eb,bW.tn,bW.sw]
   | 2,_=>simp[iQ,nv,bW.st,bW.eb,bW.tn,bW.sw]
   | 3,_=>simp[iQ,nv,bW.st,bW.eb,bW.tn,bW.sw]
   | 4,_=>simp[iQ,nv,bW.st,bW.eb,bW.tn,bW.sw]
  | _=>simp[iQ,nv,bW.st,bW.eb,bW.tn,bW.sw]
 ·simp only[bP,true_and,and_true]at r d;rw[r,d];have b:=b T;cases p with
  | fC i=>simp[iQ,nv,bW.st,bW.eb,bW.tn,bW.sw,mA,j]
  | eN k i =>
   have e:=e.1
   match k,e with
   | 0,_=>simp[iQ,nv,bW.st,bW.eb,bW.tn,bW.sw,mA]
   | 1,_=>simp[iQ,nv,bW.st,bW.eb,bW.tn,bW.sw,mA]
   | 2,_=>simp[iQ,nv,bW.st,bW.eb,bW.tn,bW.sw,mA]
   | 3,_=>simp[iQ,nv,bW.st,bW.eb,bW.tn,bW.sw,mA,j]
   | 4,_=>simp[iQ,nv,bW.st,bW.eb,bW.tn,bW.sw,mA]
  | _=>simp[bW.mM]at b
theorem xQ.congr{W:Bool}{S:Tr.St}(h:xQ E W c th S)(ht:∀x∈th.fs,(tf' x).ah=(c x).ah):xQ E W tf' th S:=by
 have r:∀{i x:N},th.fs[i]?=some x->(tf' x).ah=(c x).ah:=λe=>ht _ (cZ e);obtain⟨h1,h2,d⟩:=h;refine⟨h1,h2,?_⟩;rcases d with d|⟨F,G,H,X,a5,d⟩|⟨F,G,H,d⟩
 ·exact .inl d
 ·refine .inr (.inl ⟨F,G,H,X,a5,?_⟩);rcases d with⟨f,j,K,b4,w⟩|⟨f,j,K,w⟩|⟨f,w⟩
  ·exact .inl ⟨f,j,K,b4,λi x e b=>(r b).trans (w i x e b)⟩
  ·exact .inr (.inl ⟨f,j,K,λi x e b=>(r b).trans (w i x e b)⟩)
  ·exact .inr (.inr ⟨f,λi x e b=>(r b).trans (w i x e b)⟩)
 ·refine .inr (.inr ⟨F,G,H,?_⟩);rcases d with d|⟨f,j,d|⟨c1,B,d|⟨P,⟨z,Q,A⟩|⟨R,⟨z,A⟩|⟨z,Q,A,e4,e5⟩⟩⟩⟩⟩
  ·exact .inl d
  ·exact .inr ⟨f,j,.inl d⟩
  ·exact .inr ⟨f,j,.inr ⟨c1,B,.inl d⟩⟩
  ·exact .inr ⟨f,j,.inr ⟨c1,B,.inr ⟨P,.inl ⟨z,Q,λi x e b=>(r b).trans (A i x e b)⟩⟩⟩⟩
  ·exact .inr ⟨f,j,.inr ⟨c1,B,.inr ⟨P,.inr ⟨R,.inl ⟨z,λi x e b=>(r b).trans (A i x e b)⟩⟩⟩⟩⟩
  ·exact .inr ⟨f,j,.inr ⟨c1,B,.inr ⟨P,.inr ⟨R,.inr ⟨z,Q,A,e4,λi x e b=>(r b).trans (e5 i x e b)⟩⟩⟩⟩⟩
theorem xE(b:E.Ok)(d:ie E th):(th.wr E.ba).length<=600/\0<(th.wr E.ba).length:=by
 have hz:=d.sz b;have e:=hz.pos;have f:=hz.eT;rw[nr];split<;>omega
theorem Hu(hE:E.Ok){b:Sp.St}{wv' tv':Value}(h:dR E u m s y o ⟨p,.start,a,n,v,an,bg,q,es,c,g⟩)(B:ie E th)(a8:E.Lq[s.next]?=some th.o)(z:Ib E c tf' th.fs (ft s))(R:xP E b.l b.fr b.sx an bg (some th) (qJ es m.s.an th) tf')
  (hS:b.en=m.s.en/\b.cm=m.s.cm/\b.an=m.s.an/\b.size=m.s.size/\b.kept=m.s.kept) (hu:b.u=if th.gE=true then Co.eG m.s.u m.s.an ((th.d+2:N):V)else m.s.u) (F:th.gE=true->(fu (es m.s.an):V)+m.s.kept+((th.d+2:N):V)<=(E.S:V)) (a2:th.gE=true->th.aM=((E.aC m.s.an+fu (es m.s.an):N):V)) :
  vE E u y o ⟨p,.start,a,n,v,an,bg,q,es,c,g⟩ l {m with s:=b} {s with bn:=2,aM:=7,wv:=wv',bz:=th.wr E.ba,tv:=tv',cG:=Pl.aI th.fs}:=by
 have Q:=h.jp;have hc:=h.gX;have j:=h.mB;have w:=h.lw;have A:=h.ft;have H:=h.kQ;have hm:=h.mem;simp only at Q hc j w A H hm;obtain⟨c1,c2,c3,c4,c5⟩:=IV h T;obtain⟨r1,r2,r3,r4,r5⟩:=hS;obtain⟨a4,a5,a7⟩:=Q.en T;subst a5 a7;obtain rfl:=Q.sr T T;have hz:=B.sz hE;have a3:=H.cu;have S:=xE hE B;have P:qJ es m.s.an th (1-m.s.an)=es (1-m.s.an):=by unfold qJ;rw[aa (by omega)]
 have a6:∀sp,sp<2->∀e∈es sp,e.1≠th.hd:=by
  intro sp h2 e he e2;exact z.free _ hz.kV (by rw[<-e2];exact(w.jw sp h2 e he).2)
 refine⟨⟨p,.write,a,false,false,an,bg,some th,qJ es m.s.an th,tf',g⟩,⟨hc,h.kN,⟨j.bZ,j.bg,j.mark,j.qM,j.cb,j.xs,by show b.cm=_;rw[r2];exact j.cm⟩,⟨mJ 2 0 7 T T (λ_=>T) (λe=>absurd T e),Q.own,Q.loc,λ_=>⟨th.o,a8,λe=>(by cases e),λ_=>⟨th,rfl,rfl,rfl⟩⟩,λ_=>⟨by show b.en=_;rw[r1];exact a4,T,T⟩,λe=>(by cases e),λe=>(by cases e)⟩,R,?_,?_,?_,λtt e=>?_,λK e=>?_⟩,?_⟩
 ·show xI E y.ah (nv p) (iQ p .write a) p.eb (Aa p (iQ p .write a)) p.sw false b.an an bg (some th) _ _;rw[r3,ig (t:=.write) (t':=.start) rfl];exact A.alloc z c1 c2 (λth e=>(w.an th e).2.1) (λX e=>(w.bg X e).2.1 _ ((w.bg X e).1.sz hE).kV) (λe he=>(w.jw _ a3 e he).2) hz.kV c4 c5 c3
 ·show vD E b.size b.an b.u b.kept _ _ _ _ _ _ _ _ _ _;rw[r3,r4,r5];exact H.alloc hE B a6 hu F a2
 ·show Mem E m.am _ b.an _ _ _ _ _ _ _;rw[r3];exact hm.alloc (λ_=>⟨T,S.2⟩) (by simp)
 ·obtain⟨a1,e0,h0⟩:=h.BM tt e;exact⟨a1,e0,h0.congr λx hx=>ay dq.dy.ah (z.same x ((w.bg a1 e0).2.1 x hx))⟩
 ·have f:=h.qt K e;simp only at f;have G:∀d,(K.head,d)∈es (1-m.s.an)->tf' K.head=c K.head:=λd hd=>z.same _ (w.jw _ (by omega) _ hd).2;show J9 E m.am y.ah b.an b.kept (qJ es m.s.an th) tf' g K;rw[r3,r5];refine⟨f.from_,by rw[P];exact f.fX,f.ah,f.dF,f.dk,f.pc,?_⟩;obtain⟨dn,W,e1,e2,e3⟩:=f.KU;refine⟨dn,W,by rw[P];exact e1,e2,?_⟩;rcases e3 with e3|⟨f0,d,r,f1,f2,f3,f4,f5,f6,f7,f8,f9⟩
  ·exact .inl e3
  ·have hs:=G d (by rw[e1,f1];simp);exact .inr ⟨f0,d,r,f1,f2,f3,λe=>by rw[hs];exact f4 e,λe=>⟨(f5 e).1,rG (f5 e).2⟩,f6,f7,λe=>by rw[hs];exact f8 e,f9⟩
 ·have:=S.1;simp only[kC,pk,qd];exact⟨by omega,λ_=>by omega⟩
theorem tX(R:E.Ok){lv' wv' tv':Value}(h:dR E u m s y o ⟨p,.fZ,a,n,true,an,bg,q,es,c,g⟩):∃e th,m.s.en=[e]/\e.bx=0/\e.bE=1/\q=some th/\ie E th/\E.Lq[s.next]?=some th.o/\e.cG=Pl.aI th.fs/\e.aM=th.aM /\
  vE E u y o ⟨p,.fZ,a,n,true,an,bg,q,es,c,g⟩ l {m with s:={m.s with lv:=lv',en:=[]}} {s with bn:=2,aM:=7,wv:=wv',bz:=th.wr E.ba,tv:=tv',cG:=Pl.aI th.fs}:=by
 have B:=h.jp;have P:=h.gX;have x:=h.mB;have d:=h.lw;have b:=h.ft;have z:=h.kQ;have f:=h.mem;simp only at B P x d b z f;obtain⟨od,K,Q,W⟩:=B.op T;obtain⟨e,S,H⟩:=Q T;obtain⟨rfl,th,w,G,j,F⟩:=H.cG T;have r:=(d.pd th w).1;have A:=xE R r;subst G;subst w;refine⟨e,th,S,H.th,H.st,T,r,K,j,F,⟨p,.write,a,false,false,an,bg,some th,es,c,g⟩,⟨P,h.kN,x,⟨mJ 2 0 7 T T (λ_=>T) (λe=>absurd T e),B.own,B.loc,λ_=>⟨th.o,K,λe=>(by cases e),λ_=>⟨th,rfl,rfl,rfl⟩⟩,λ_=>⟨rfl,rfl,rfl⟩,λe=>(by cases e),λe=>(by cases e)⟩,d,?_,z,⟨f.len,f.fC,f.an,f.bg,λ_=>⟨th,0,rfl,rfl,A.2,fG.fF.zero _ _⟩,λe=>(by cases e),f.jw⟩,h.BM,h.qt⟩,?_⟩
 ·show xI E y.ah (nv p) (iQ p .write a) p.eb (Aa p (iQ p .write a)) p.sw false m.s.an an bg (some th) es c;rw[ig (t:=.write) (t':=.fZ) rfl];exact b
 ·have:=A.1;simp only[kC,pk,qd,tj,bP];exact⟨by omega,λ_=>by omega⟩
end
end jH
namespace jH
open Ac (Vl dx Wr aA)
open fG (fF tb up)
section
variable{E:gb}{n:N}{m m':aW.St}{s s':Ac.St}{y y':dw.St}{o:Pg}{c:dx}{p p':bW}{t t':gJ}{d beh' v nt' r gr':Bool}{an cur' bg g:Option Th}{es:N->List iG}{f tf':N->dq.dy}{j l l' i k kk:N}{th:Th}
theorem DC:∀{a b:List Nat},Po.aI a=Po.aI b->a=b:=by
 intro a
 induction a with
 | nil=>intro b h;cases b with
  | nil=>rfl
  | cons x b=>simp[Po.aI]at h
 | cons x a e=>intro b h;cases b with
  | nil=>simp[Po.aI]at h
  | cons z b =>
   simp only[Po.aI,ev,List.cons.injEq]at h;have q:=h.1;rw[e (b:=b) h.2,show x=z by omega]
theorem zT(hE:E.Ok){wv' tv' sv':Value}{q:List Nat}(h:dR E n m s y o ⟨p,.start,d,v,r,an,bg,g,es,f,j⟩)(K:E.Lq[s.next]?=some c)(hq:m.s.sx=Po.aI q)(hk:fE E.ba c<=q.length)(P:jT E.ba c=0):ie E ⟨c,q.take (fE E.ba c),-1⟩/\(∀x∈q,x<E.F)/\vE E n y o ⟨p,.start,d,v,r,an,bg,g,es,f,j⟩ l {m with s:={m.s with l:=Sp.de m.s.l (q.take (fE E.ba c)) 2 (ft s),sv:=sv',sx:=Po.aI (q.drop (fE E.ba c))}} {s with bn:=2,aM:=7,wv:=wv',bz:=(⟨c,q.take (fE E.ba c),-1⟩:Th).wr E.ba,tv:=tv',cG:=Pl.aI (q.take (fE E.ba c))}:=by
 have a:=h.lw;have a3:=h.kQ;simp only at a a3;have F:c∈E.Lq:=cZ K;have B:(q.take (fE E.ba c)).length=fE E.ba c:=by rw[jq];omega
 obtain⟨w,q1,q2,q3,R⟩:=a.sx;have a2:w=q:=by
  rw[hq]at q1;exact(DC q1).symm
 subst a2;have b:(⟨c,w.take (fE E.ba c),-1⟩:Th).gE=false:=by
  rw[xg hE F B];show(!(decide (jT E.ba c=0)||_))=false;rw[P];rfl
 have z:∀x∈w.take (fE E.ba c),x<E.F/\(f x).st=1:=λx A=>(R x).1 (dh A);have G:ie E ⟨c,w.take (fE E.ba c),-1⟩:=⟨F,B,q2.sublist (List.take_sublist _ _),λx A=>(z x A).1,λe=>by rw[b]at e;cases e⟩;refine⟨G,λx A=>((R x).1 A).1,Hu (tf':=tu f (w.take (fE E.ba c)) (ft s)) hE h G K (vn λx A=>by rw[(z x A).2];omega) ?_ ⟨T,T,T,T,T⟩ (by rw[b];rfl) (λe=>by rw[b]at e;cases e) (λe=>by rw[b]at e;cases e)⟩;have a4:=a;obtain rfl:g=none:=h.jp.sr T (h.jp.en T).2.1;refine a.alloc hE G (vn λx A=>by rw[(z x A).2];omega) (by rw[a.l,fG.lK];rfl) ?_ (λi Q=>?_) ⟨w.drop (fE E.ba c),T,q2.sublist (List.drop_sublist _ _),by rw[lP];omega,λi=>?_⟩
 ·show m.s.fr=_;rw[a.fr];refine fG.kR λi _=>?_;unfold tu;split
  ·rename_i e;simp[(z i e).2]
  ·rfl
 ·unfold tu;split
  ·simp
  ·exact a.le i Q
 ·have a1:(w.take (fE E.ba c)++w.drop (fE E.ba c)).Nodup:=by rw[List.take_append_drop];exact q2
  have H:=(ew.1 a1).2.2;have u:i∈w↔i∈w.take (fE E.ba c)\/i∈w.drop (fE E.ba c):=by
   rw[<-iE,List.take_append_drop]
  unfold tu;constructor
  ·intro Q;have S:=(R i).1 (u.2 (.inr Q));rw[aa (λe=>H i e i Q rfl)];exact S
  ·rintro⟨S,W⟩;split at W
   ·simp at W
   ·rename_i e;rcases u.1 ((R i).2 ⟨S,W⟩)with X|X
    ·exact absurd X e
    ·exact X
theorem Hv(X:E.Ok){wv' tv' sv':Value}{S':Sp.St}(h:dR E n m s y o ⟨p,.start,d,v,r,an,bg,g,es,f,j⟩)(R:E.Lq[s.next]?=some c)(P:Sp.gY m.s (fE E.ba c) (jT E.ba c)=true)
  (hS:S'={m.s with l:=Sp.de (Sp.de m.s.l (Po.take m.s.fr (fE E.ba c)) 2 (ft s)) (Po.di (Po.off m.s.fr (Po.take m.s.fr (fE E.ba c))) (E.c.aB.toNat-m.s.sx.length)) 1 (ft s),fr:=Po.off (Po.off m.s.fr (Po.take m.s.fr (fE E.ba c))) (Po.di (Po.off m.s.fr (Po.take m.s.fr (fE E.ba c))) (E.c.aB.toNat-m.s.sx.length)),u:=Sp.uX m.s (fE E.ba c) (jT E.ba c),sv:=sv',sx:=m.s.sx++Po.aI (Po.di (Po.off m.s.fr (Po.take m.s.fr (fE E.ba c))) (E.c.aB.toNat-m.s.sx.length))}) :
  BZ E m.s c es f/\vE E n y o ⟨p,.start,d,v,r,an,bg,g,es,f,j⟩ l {m with s:=S'} {s with bn:=2,aM:=7,wv:=wv',bz:=(cM E m.s c).wr E.ba,tv:=tv',cG:=Pl.aI (cM E m.s c).fs}:=by
 have w:=h.lw;have S:=h.kQ;simp only at w S;have Q:c∈E.Lq:=cZ R;have G:=rs X Q w S P;obtain rfl:g=none:=h.jp.sr T (h.jp.en T).2.1;refine⟨G,?_⟩;obtain⟨l1,l2,l3⟩:=fG.rY (Po.off m.s.fr (Po.take m.s.fr (fE E.ba c))) (E.c.aB.toNat-m.s.sx.length);generalize hL:Po.di (Po.off m.s.fr (Po.take m.s.fr (fE E.ba c))) (E.c.aB.toNat-m.s.sx.length)=F at hS l1 l2 l3;have hT:Po.take m.s.fr (fE E.ba c)=(cM E m.s c).fs:=rfl;rw[hT]at hS l2;have A:∀x∈F,x<E.F/\(f x).st=0/\x∉(cM E m.s c).fs:=by
  intro x H;have:=l2 x H;rw[w.fr,fG.sj]at this;obtain⟨a,b⟩:=fG.zW this;split at b
  ·cases b
  ·exact⟨a,of_decide_eq_true b,by assumption⟩
 have a2:∀i,(λi=>if i∈F then(⟨1,false,ft s⟩:dq.dy)else tu f (cM E m.s c).fs (ft s) i) i=if i∈F then⟨1,false,ft s⟩else tu f (cM E m.s c).fs (ft s) i:=λ_=>T;have K:Ib E f (λi=>if i∈F then(⟨1,false,ft s⟩:dq.dy)else tu f (cM E m.s c).fs (ft s) i) (cM E m.s c).fs (ft s):=by
  have W:Ib E f (tu f (cM E m.s c).fs (ft s)) (cM E m.s c).fs (ft s):=vn λx H=>by rw[(G.free x H).2];omega
  refine⟨W.free,λx H=>?_,λx z=>?_,λx H z=>?_⟩
  ·rw[aa (λe=>(A x e).2.2 H)];exact W.new x H
  ·rw[aa (λe=>by rw[(A x e).2.1]at z;cases z)];exact W.same x z
  ·split
   ·simp
   ·exact W.no x H z
 subst hS;refine Hu X h G.ok R K ?_ ⟨T,T,T,T,T⟩ G.u G.room G.aM;refine w.alloc X G.ok K ?_ ?_ (λi hi=>?_) ?_
 ·show Sp.de (Sp.de m.s.l _ 2 _) F 1 _=_;rw[w.l,fG.lK,fG.lK];rfl
 ·show Po.off (Po.off m.s.fr _) F=_;rw[w.fr,fG.sj,fG.sj];refine fG.kR λi _=>?_;unfold tu;split
  ·simp
  ·split<;>simp
 ·unfold tu;split
  ·simp
  ·split
   ·simp
   ·exact w.le i hi
 ·obtain⟨q,q1,q2,q3,q4⟩:=w.sx;refine⟨q++F,?_,?_,?_,λi=>?_⟩
  ·show m.s.sx++Po.aI F=_;rw[q1];unfold Po.aI;rw[cV]
  ·rw[ew];refine⟨q2,l1,λa ha b hb e=>?_⟩;subst e;have B:=((q4 a).1 ha).2;rw[(A a hb).2.1]at B;cases B
  ·have a1:m.s.sx.length=q.length:=by rw[q1];unfold Po.aI;rw[fH]
   rw[iB,l3,a1,X.Cq];simp only[iY];omega
  ·rw[iE,q4];unfold tu;constructor
   ·rintro(⟨B,z⟩|B)
    ·refine⟨B,?_⟩;rw[aa (λe=>by rw[(A i e).2.1]at z;cases z),aa (λe=>by rw[(G.free i e).2]at z;cases z)];exact z
    ·exact⟨(A i B).1,by rw[af B]⟩
   ·rintro⟨B,z⟩;split at z
    ·exact .inr (by assumption)
    ·split at z
     ·simp at z
     ·exact .inl ⟨B,z⟩
theorem Lb{a:Tr.St}(h:dR E n m s y o ⟨.trace a,t,d,v,r,an,bg,g,es,f,j⟩):tz a<=778:=by
 obtain⟨th,-,-,-,q⟩:=h.BM a T;unfold tz;rcases q with q|⟨-,G,-,-,-,q⟩|⟨-,G,-,q⟩
 ·rw[af q.1];omega
 ·have H:a.pc=1->a.am.length<=40:=by
   intro e;rcases q with⟨-,-,b,-⟩|⟨b,-⟩|⟨b,-⟩<;>omega
  rw[af G];split
  ·omega
  ·split
   ·omega
   ·split
    ·have:=H (by assumption);omega
    ·omega
 ·have H:a.pc≠0->a.pc≠5->a.pc≠6->a.pc≠7->a.pc≠8->a.pc≠4->a.am.length<=8:=by
   intro w z A B F x;rcases q with q|⟨-,-,q|⟨-,-,q|⟨-,q|⟨-,q|q⟩⟩⟩⟩
   ·omega
   ·omega
   ·omega
   ·omega
   ·omega
   ·exact q.2.2.1
  have u:¬a.jY=false:=λe=>by rw[G]at e;cases e
  by_cases w:a.pc=0
  ·rw[af w];omega
  rw[aa w,aa u];by_cases z:a.pc=5
  ·rw[af z];omega
  rw[aa z];by_cases A:a.pc=6
  ·rw[af A];omega
  rw[aa A];by_cases B:a.pc=7
  ·rw[af B];omega
  rw[aa B];by_cases F:a.pc=8
  ·rw[af F];omega
  rw[aa F];by_cases x:a.pc=4
  ·rw[af x];omega
  rw[aa x];have:=H w z A B F x;omega
theorem Lx(q:E.Ok)(h:dR E n m s y o ⟨p,t,d,v,r,an,bg,g,es,f,j⟩):R p<=7141:=by
 cases p with
 | trace w=>have:=Lb h;simp only[R];omega
 | cP u =>
  have a:=h.qt u T;have e:=h.kQ;simp only at a e;have:=e.le (1-m.s.an) (by omega);have:=q.S2;have:=a.fX;simp only[R];unfold hz;omega
 | post k=>match k with
  | 0=>simp[R]
  | 1=>simp[R]
  | 2=>simp[R]
  | 3=>simp[R]
  | 4=>simp[R]
  | k+5=>simp[R]
 | eN k i=>match k with
  | 0=>simp only[R];omega
  | 1=>simp only[R];omega
  | 2=>simp only[R];omega
  | 3=>simp only[R];omega
  | 4=>simp only[R];omega
  | k+5=>simp[R]
 | mark b=>cases b<;>simp[R]
 | jR i=>simp only[R];omega
 | fC i=>simp only[R];omega
 | _=>simp[R]
theorem JM(z:E.Ok){lv':Value}(h:dR E n m s y o ⟨p,.start,d,v,r,an,bg,g,es,f,j⟩)(x:E.Lq[s.next]?=some c):vE E n y o ⟨p,.start,d,v,r,an,bg,g,es,f,j⟩ l {m with s:={m.s with lv:=lv',en:=[⟨0,(fE E.ba c:V),(jT E.ba c:V),0,0,-1,Z none 0 0,[],false⟩]}} {s with bn:=3,pc:=5}:=by
 have q:=h.jp;have a:=h.ft;simp only at q a;obtain⟨A,u,w⟩:=q.en T;subst u w;obtain rfl:=q.sr T T;have B:=Lx z h;have b:=h.mem;refine⟨⟨p,.fZ,d,false,false,an,bg,none,es,f,j⟩,⟨h.gX,h.kN,h.mB,⟨mJ 3 5 0 T T (λe=>by omega) (λ_=>T),q.own,q.loc,λ_=>⟨c,x,λ_=>⟨_,T,⟨T,T,T,T,λ_=>by simp,by simp,λ_=>by simp,λ_ e=>(by cases e),λe=>(by cases e)⟩⟩,λe=>(by cases e)⟩,λe=>(by cases e),λ_ _=>rfl,λe=>(by cases e)⟩,h.lw,?_,h.kQ,⟨b.len,b.fC,b.an,b.bg,λe=>(by cases e),λe=>(by cases e),b.jw⟩,h.BM,h.qt⟩,?_⟩
 ·show xI E y.ah (nv p) (iQ p .fZ d) p.eb (Aa p (iQ p .fZ d)) p.sw false m.s.an an bg none es f;rw[ig (t:=.fZ) (t':=.start) rfl];exact a
 ·simp only[kC,pk,qd,tj,gx,bG];refine⟨?_,λ_=>?_⟩<;>split<;>split<;>omega
end
end jH
namespace jH
open Ac (Vl dx Wr aA)
open fG (fF tb up)
section
variable{E:gb}{B:N}{m m':aW.St}{s s':Ac.St}{y y':dw.St}{o:Pg}{u:dx}{p p':bW}{t t':gJ}{n beh' A nt' F gr':Bool}{an cur' bg pd:Option Th}{es:N->List iG}{tf tf':N->dq.dy}{w l l' i k kk:N}{th g:Th}{ws:List (Nat × Nat)}
def Loc(E:gb)(es:N->List iG)(th:Th):Prop:=th.gE=true->∃sp off,sp<2/\ce (es sp) off th.hd th.d/\th.aM=((E.aC sp+off:N):V)
theorem zh{sp c a b:N}(d:sp<2)(f:c<2)(j:a<E.S)(q:b<E.S)(h:E.aC sp+a=E.aC c+b):sp=c/\a=b:=by
 by_cases e:sp=c
 ·subst e;exact⟨T,by omega⟩
 ·obtain rfl:c=1-sp:=by omega
  exact absurd h.symm (ui d q j)
theorem zJ(S:E.Ok)(j:∀sp,sp<2->fu (es sp)<=E.S)(Q:ie E th)(R:ie E g)(W:∀f∈th.fs,f∉g.fs)(l1:Loc E es th)(l2:Loc E es g){a:N}(o1:Ff E th a)(o2:Ff E g a):False:=by
 have G:=Q.sz S;have H:=R.sz S;rcases o1 with⟨f,X,d⟩|⟨s1,q,hq,d⟩<;>rcases o2 with⟨f',h,e⟩|⟨s2,q',a1,e⟩
 ·exact W f X (by rw[<-d,e];exact h)
 ·obtain⟨sp,off,v,x,c⟩:=l2 s2;have:=Q.lt f X;rw[c]at e;unfold gb.aC at e;omega
 ·obtain⟨sp,off,v,x,c⟩:=l1 s1;have:=R.lt f' h;rw[c]at d;unfold gb.aC at d;omega
 ·obtain⟨sp,off,v,x,c⟩:=l1 s1;obtain⟨K,r,c1,P,c3⟩:=l2 s2;have g1:=x.le;have g2:=P.le;have g3:=j sp v;have g4:=j K c1;rw[c]at d;rw[c3]at e;obtain⟨rfl,e5⟩:=zh (E:=E) (a:=off+q) (b:=r+q') v c1 (by omega) (by omega) (by omega);rcases x.apart P with⟨-,z,-⟩|z|z
  ·exact W _ G.kV (by rw[z];exact H.kV)
  ·omega
  ·omega
theorem uA(hE:E.Ok)(c:∀sp,sp<2->fu (es sp)<=E.S)(R:ie E th)(l1:Loc E es th){sp off K d:N}(H:sp<2)(P:ce (es sp) off K d)(r:K≠th.hd){a:N}(X:Ff E th a):∀q,q<d+2->E.aC sp+off+q≠a:=by
 intro q hq e;have g2:=P.le;have g4:=c sp H;rcases X with⟨f,S,G⟩|⟨s1,q',W,G⟩
 ·have:=R.lt f S;unfold gb.aC at e;omega
 ·obtain⟨v,h,x,z,Q⟩:=l1 s1;have g1:=z.le;have g3:=c v x;rw[Q]at G;obtain⟨rfl,e5⟩:=zh (E:=E) (a:=off+q) (b:=h+q') H x (by omega) (by omega) (by omega);rcases P.apart z with⟨-,j,-⟩|j|j
  ·exact r j
  ·omega
  ·omega
theorem zo(h:dR E B m s y o ⟨p,t,n,A,F,an,bg,pd,es,tf,w⟩){e:iG}(b:p.cp=some e):∃a,p=.cP a/\6<=a.pc/\e=(a.k,a.head)/\(tf a.head).head=true:=by
 cases p with
 | cP a =>
  by_cases c:6<=a.pc
  ·rw[nU c]at b;injection b with b;obtain⟨j,d,r,f⟩:=gj h (by omega);exact⟨a,T,c,b.symm,(f.bF (.inr (by omega))).2⟩
  ·rw[iw (by omega)]at b;cases b
 | _=>cases b
theorem zU(hE:E.Ok){wv':Value}(h:dR E B m s y o ⟨p,.write,n,A,F,an,bg,pd,es,tf,w⟩):∃(a:N) (v:Nat × Nat) (l:List Wr),s.bz=((a:V),v)::l/\a<m.am.length/\s.aM=7/\s.bn=2 /\
  vE E B y o ⟨p,.write,n,A,F,an,bg,pd,es,tf,w⟩ s.bz.length {m with am:=m.am.set a v} {s with wv:=wv',bz:=l,aM:=if l=[]then 8 else 7}:=by
 have ht:=h.jp;have H:=h.lw;have P:=h.kQ;have hm:=h.mem;have W:=h.ft;simp only at ht H P hm W;obtain⟨a1,a2,a3⟩:=ht.aM;have b8:s.bn=2:=a1;obtain⟨th,j,rfl,hw,hj,hd⟩:=hm.write T;obtain⟨S,e5⟩:=H.pd th T;have hx:(th.wr E.ba)[j]?=some (th.wr E.ba)[j]:=cR hj;generalize(th.wr E.ba)[j]=x at hx;obtain⟨a,ha,ho,e9⟩:=vB hE S hx;have a5:(th.wr E.ba).drop j=x::(th.wr E.ba).drop (j+1):=by
  have:=dH.1 hx;rw[<-this.2];exact cd hj
 have b9:a<m.am.length:=by rw[hm.len];omega
 have G:∀{b:N},b≠a->(m.am.set a x.2)[b]?=m.am[b]?:=λhb=>aK hb;have Q:Loc E es th:=λhs=>by
  obtain⟨sp,off,h2,h3,h4,-⟩:=P.pd th T hs;exact⟨sp,off,h2,h3,h4⟩
 have b4:∀{e:iG},p.cp=some e->e.2≠th.hd:=by
  intro e hc e2;obtain⟨c,rfl,h6,rfl,hb⟩:=zo h hc;have:=(e5 th.hd (S.sz hE).kV).2;have e3:c.head=th.hd:=e2;rw[e3]at hb;exact absurd (hb.symm.trans this) (by simp)
 have a4:fF (th.wr E.ba) (j+1) (m.am.set a x.2):=by
  have:=hd.step hx (by rw[ha];simpa using b9) (λk z hk hz e=>by
   have h1:=GZ hE S hz hx (by omega);obtain⟨b,hb,-,-⟩:=vB hE S hz;rw[hb,ha]at e h1;simp only[iY]at e;exact h1 (by rw[e]))
  rw[ha]at this;simpa using this
 have b5:((a:V),x.2)=x:=by rw[<-ha]
 have e7:∃u,E.Lq[s.next]?=some u/\th.o=u/\s.cG=Po.aI th.fs:=by
  obtain⟨u,h1,-,h3⟩:=ht.op T;obtain⟨g,e1,e2,e3⟩:=h3 T;injection e1 with e1;subst e1;exact⟨u,h1,e2,e3⟩
 obtain⟨u,c5,c6,c7⟩:=e7;have a9:∀(t':gJ) (b7:List Wr),(t'=.write->b7=(th.wr E.ba).drop (j+1)/\j+1<(th.wr E.ba).length)->(t'=.born->j+1=(th.wr E.ba).length)->Mem E (m.am.set a x.2) b7 m.s.an p.cp t' an bg (some th) es w:=by
  intro t' b7 c8 e8;refine⟨by rw[iC];exact hm.len,λi hi=>(G (by omega)).trans (hm.fC i hi),λg e=>?_,λg e=>?_,λe=>⟨th,j+1,T,(c8 e).1,(c8 e).2,a4⟩,λe=>⟨th,T,by rw[<-e8 e];exact a4⟩,λsp off b0 d h2 he hk=>?_⟩
  ·refine(hm.an g e).aj hE (H.an g e).1 λb hb=>G λe2=>?_;subst e2;refine zJ hE P.le S (H.an g e).1 (H.uv th g T e) Q (λhs=>?_) ho hb;obtain⟨sp,off,h2,h3,h4,-⟩:=P.an g e hs;exact⟨sp,off,h2,h3,h4⟩
  ·refine(hm.bg g e).aj hE (H.bg g e).1 λb hb=>G λe2=>?_;subst e2;exact zJ hE P.le S (H.bg g e).1 (H.Ax th g T e) Q (W.bg g e).2 ho hb
  ·rcases hm.jw sp off b0 d h2 he hk with e|e|e
   ·exact .inl e
   ·exact .inr (.inl e)
   ·by_cases e2:b0=th.hd
    ·exact .inl ⟨th,T,e2⟩
    ·have a7:=uA hE P.le S Q h2 he e2 ho;refine js (e.aj (G (a7 0 (by omega))) (G (a7 1 (by omega))) (G λe3=>?_));rcases ho with⟨f,hf,e4⟩|⟨hs,q,hq,e4⟩
     ·have:f=b0:=by omega
      subst this;exact e2 (H.oX sp h2 _ he.mem th T hf).1
     ·obtain⟨g4,g0,b1,b2,b3⟩:=Q hs;have:=(H.jw sp h2 _ he.mem).1;rw[b3]at e4;unfold gb.aC at e4;simp only at this;omega
 have a8:∀c,p=.cP c->J9 E (m.am.set a x.2) y.ah m.s.an m.s.kept es tf w c:=by
  intro c e;subst e;have K:=h.qt c T;simp only at K;have e0:=P.cu;refine⟨K.from_,K.fX,K.ah,K.dF,K.dk,K.pc,?_⟩;by_cases g3:c.pc=0
  ·obtain⟨dn,c9,e1,e2,e3⟩:=K.KU;refine⟨dn,c9,e1,e2,?_⟩;rcases e3 with e3|e3
   ·exact .inl e3
   ·omega
  ·obtain⟨dn,d,r,X⟩:=gj h (by have:=K.pc;omega);have c2:ce (es (1-m.s.an)) c.k c.head d:=by rw[X.es,<-X.k];exact ce.AI _ _ _ _
   have c4:6<=c.pc->c.head≠th.hd:=λh6=>b4 (e:=(c.k,c.head)) (nU h6);have b6:6<=c.pc->∀q,q<d+2->(m.am.set a x.2)[E.aC m.s.an+c.dst+q]?=m.am[E.aC m.s.an+c.dst+q]?:=λh6 q hq=>G (uA hE P.le S Q e0 (X.mx h6).2 (c4 h6) ho q hq);have c3:6<=c.pc->∀q,q<d+2->(m.am.set a x.2)[E.aC (1-m.s.an)+c.k+q]?=m.am[E.aC (1-m.s.an)+c.k+q]?:=λh6 q hq=>G (uA hE P.le S Q (by omega) c2 (c4 h6) ho q hq);refine⟨dn,(c.head,d)::r,X.es,X.k,.inr ⟨by have:=K.pc;omega,d,r,T,X.d,λe=>by have:=X.kept e;simpa[fu]using this,X.bF,X.mx,λe=>(b6 (by omega) 0 (by omega)).trans (X.w0 e),λe=>?_,X.no,λe=>?_⟩⟩
   ·obtain⟨w1,w2,w3,w4⟩:=X.w1 e;refine⟨(b6 (by omega) 1 (by omega)).trans w1,w2,w3,λi hi=>?_⟩;have e6:c.j<=d:=by
     by_cases h9:c.pc<=9
     ·have:=w2 h9;omega
     ·have:=w3 (by have:=K.pc;omega);omega
    have g1:=b6 (by omega) (2+i) (by omega);have g2:=c3 (by omega) (2+i) (by omega);rw[show E.aC m.s.an+c.dst+2+i=E.aC m.s.an+c.dst+(2+i)by omega,show E.aC (1-m.s.an)+c.k+2+i=E.aC (1-m.s.an)+c.k+(2+i)by omega,g1,g2];have:=w4 i hi;rw[show E.aC m.s.an+c.dst+2+i=E.aC m.s.an+c.dst+(2+i)by omega,show E.aC (1-m.s.an)+c.k+2+i=E.aC (1-m.s.an)+c.k+(2+i)by omega]at this;exact this
   ·have e6:=(X.w1 (by omega)).2.1 (by omega);have g2:=c3 (by omega) (2+c.j) (by omega);have:=X.rd e;rw[show E.aC (1-m.s.an)+c.k+2+c.j=E.aC (1-m.s.an)+c.k+(2+c.j)by omega]at this ⊢;rw[g2];exact this
 refine⟨a,x.2,(th.wr E.ba).drop (j+1),by rw[hw,a5,b5],b9,a2 b8,b8,?_⟩;by_cases R:(th.wr E.ba).drop (j+1)=[]
 ·have a6:j+1=(th.wr E.ba).length:=by
   have:=ay List.length R;simp only[lP,dJ]at this;omega
  rw[af R];refine⟨⟨p,.born,n,A,F,an,bg,some th,es,tf,w⟩,⟨h.gX,h.kN,h.mB,⟨mJ 2 0 8 T a1 (λ_=>T) (λe=>absurd T e),ht.own,ht.loc,λ_=>⟨u,c5,λe=>(by cases e),λ_=>⟨th,rfl,c6,c7⟩⟩,ht.en,ht.sr,λe=>?_⟩,H,?_,P,a9 .born _ (λe=>(by cases e)) (λ_=>a6),h.BM,a8⟩,?_⟩
  ·have:=(ht.en T).2.1;rw[this]at e;cases e
  ·show xI E y.ah (nv p) (iQ p .born n) p.eb (Aa p (iQ p .born n)) p.sw A m.s.an an bg (some th) es tf;rw[ig (t:=.born) (t':=.write) rfl];exact W
  ·simp only[kC,pk,qd];exact⟨by omega,λ_=>by omega⟩
 ·have a6:j+1<(th.wr E.ba).length:=by
   have:0<((th.wr E.ba).drop (j+1)).length:=List.length_pos_iff.2 R;simp only[lP]at this;omega
  rw[aa R];refine⟨⟨p,.write,n,A,F,an,bg,some th,es,tf,w⟩,⟨h.gX,h.kN,h.mB,⟨mJ 2 0 7 T a1 (λ_=>T) (λe=>absurd T e),ht.own,ht.loc,λ_=>⟨u,c5,λe=>(by cases e),λ_=>⟨th,rfl,c6,c7⟩⟩,ht.en,ht.sr,λe=>?_⟩,H,W,P,a9 .write _ (λ_=>⟨rfl,a6⟩) (λe=>(by cases e)),h.BM,a8⟩,?_⟩
  ·have:=(ht.en T).2.1;rw[this]at e;cases e
  ·simp only[kC,pk,qd];rw[hw,a5];simp only[bu];exact⟨by omega,λ_=>by omega⟩
structure Fin(E:gb)(m:aW.St)(s:Ac.St)(an:Option Th)(tf:N->dq.dy):Prop where
 l:m.s.l=tb E.F tf
 le:∀i,i<E.F->(tf i).st<=2
 loc:s.ak=(match an with|none=>aA|some th=>(true,bi th.hd))::List.replicate (E.n-1) aA
 an:∀th,an=some th->ie E th/\(∀f∈th.fs,(tf f).st=2)/\(tf th.hd).head=true/\TM E m.am th/\(th.gE=true->∃sp off:N,sp<2/\((off+(th.d+2):N):V)<=m.s.u sp/\m.s.u sp<=(E.S:V)/\th.aM=((E.aC sp+off:N):V))
 fC:∀i,i<E.g->m.am[8*E.F+2*E.S+i]?=some bD
theorem dR.fin{G:Gh}(h:dR E B m s y o G):Fin E m s G.an G.tf:=by
 have f:=h.lw;have d:=h.kQ;refine⟨f.l,f.le,h.jp.loc,λth e=>?_,h.mem.fC⟩;obtain⟨a,b,c⟩:=f.an th e;refine⟨a,b,c,h.mem.an th e,λx=>?_⟩;obtain⟨q,off,j,r,v,-⟩:=d.an th e x;have:=r.le;have:=d.le q j;exact⟨q,off,j,by rw[d.u q j];omega,by rw[d.u q j];omega,v⟩
theorem JL(hE:E.Ok)(h:dR E B m s y o ⟨p,.born,n,A,F,an,bg,pd,es,tf,w⟩):∃(u:dx) (S:N) (xs:List Int),E.Lq[s.next]?=some u/\s.cG=(S:V)::xs/\S<E.F/\m.s.l[S]?=some (tf S)/\(tf S).st=2/\(tf S).head=false/\s.aM=8/\s.bn=2/\u.a=0 /\
  ∃G',dR E B {m with s:={m.s with l:=m.s.l.set S {tf S with head:=true}}} {s with next:=s.next+1,bn:=1,pc:=0,ak:=s.ak.set 0 (true,bi S)} y o G'/\∀l,pk G'.p G'.t G'.ib G'.nt G'.gr l<=14945:=by
 have ht:=h.jp;have c:=h.lw;have a:=h.kQ;have hm:=h.mem;have v:=h.ft;simp only at ht c a hm v;obtain⟨a1,a2,a3⟩:=ht.aM;have b5:s.bn=2:=a1;obtain⟨c9,e4,e9⟩:=ht.en T;subst e4 e9;obtain⟨u,g0,-,g2⟩:=ht.op T;obtain⟨th,rfl,g1,b7⟩:=g2 T;obtain⟨a4,a6⟩:=c.pd th T;have hz:=a4.sz hE;have b8:=a4.lt _ hz.kV;have g3:=hE.op _ a4.op;obtain⟨g,b,a8⟩:=hm.born T;injection b with b;subst b;have c6:=TM.of hE a4 a8;have c8:=a.cu;have K:∀x,(up tf th.hd {tf th.hd with head:=true} x).st=(tf x).st/\(up tf th.hd {tf th.hd with head:=true} x).ah=(tf x).ah/\((tf x).head=true->(up tf th.hd {tf th.hd with head:=true} x).head=true)/\(x≠th.hd->(up tf th.hd {tf th.hd with head:=true} x).head=(tf x).head):=by
  intro x;unfold up;split
  ·rename_i e;subst e;exact⟨T,T,λ_=>T,λe=>absurd T e⟩
  ·exact⟨T,T,λe=>e,λ_=>T⟩
 have b9:(up tf th.hd {tf th.hd with head:=true} th.hd).head=true:=by rw[fG.xw]
 have H:∀{e:iG},p.cp=some e->e.2≠th.hd:=by
  intro e hc e2;obtain⟨W,rfl,h6,rfl,hb⟩:=zo h hc;have:=(a6 th.hd hz.kV).2;have e3:W.head=th.hd:=e2;rw[e3]at hb;exact absurd (hb.symm.trans this) (by simp)
 have a9:s.cG=(th.hd:V)::Po.aI (th.fs.drop 1):=by
  rw[b7];cases hf:th.fs with
  | nil=>have:=hz.pos;rw[hf]at this;simp at this
  | cons x l =>
   have:th.hd=x:=by unfold Th.hd;rw[hf];rfl
   rw[this];rfl
 have c2:p.mv n=true->w=0:=by
  intro e;cases p with
  | post k =>
   match k with
   | 4=>exact(a.pe T).2
   | 0=>cases e
   | 1=>cases e
   | 2=>cases e
   | 3=>cases e
   | k+5=>simp[bW.mv]at e
  | eN k i =>
   match k,i with
   | 4,i=>exact(a.pe T).2
   | 0,i=>simp[bW.mv]at e
   | 1,i=>simp[bW.mv]at e
   | 2,i=>simp[bW.mv]at e
   | 3,i=>simp[bW.mv]at e
   | k+5,i=>simp[bW.mv]at e
  | _=>cases e
 have a7:∀P off d,P<2->ce (es P) off th.hd d->(P=m.s.an\/w<=off)->th.gE=true/\d=th.d/\th.aM=((E.aC P+off:N):V):=by
  intro P off d G Q hk;obtain⟨-,hs,S⟩:=c.oX P G _ Q.mem th T hz.kV;obtain⟨R,a5,b1,b2,b3,b4⟩:=a.pd th T hs;have b0:P=R:=by
   by_cases e:P=R
   ·exact e
   ·exfalso;by_cases c5:P=m.s.an
    ·subst c5;obtain rfl:R=1-m.s.an:=by omega
     have g6:w=0:=by
      rcases b4 with b4|b4
      ·omega
      ·exact c2 b4
     rcases a.kF a5 _ _ b2 (by omega)with b|b
     ·exact b (aX.2 ⟨_,Q.mem,T⟩)
     ·exact H b T
    ·obtain rfl:P=1-m.s.an:=by omega
     obtain rfl:R=m.s.an:=by omega
     rcases a.kF off _ _ Q (by rcases hk with hk|hk;exact absurd hk c5;exact hk)with b|b
     ·exact b (aX.2 ⟨_,b2.mem,T⟩)
     ·exact H b T
  subst b0;obtain⟨e5,e6⟩:=Q.EP (a.nd _ G) b2;exact⟨hs,S,by rw[b3,e5]⟩
 refine⟨u,th.hd,_,g0,a9,b8,by rw[c.l,fG.iq b8],(a6 _ hz.kV).1,(a6 _ hz.kV).2,a2 b5,b5,by rw[<-g1];exact g3.a,⟨p,.je,n,false,false,some th,bg,none,es,up tf th.hd {tf th.hd with head:=true},w⟩,⟨h.gX,h.kN,?_,⟨mJ 1 0 0 rfl rfl (λe=>by omega) (λ_=>rfl),ht.own,?_,λe=>(by cases e),λ_=>⟨c9,rfl,rfl⟩,λ_ _=>rfl,λe=>(by cases e)⟩,?_,?_,?_,⟨hm.len,hm.fC,λg e=>?_,hm.bg,λe=>(by cases e),λe=>(by cases e),λP off S d G Q hk=>?_⟩,λtt e=>?_,λW e=>?_⟩,?_⟩
 ·have hg:=h.mB;exact⟨λe=>(by cases e),hg.bg,hg.mark,hg.qM,hg.cb,hg.xs,hg.cm⟩
 ·show s.ak.set 0 _=_;rw[ht.loc];rfl
 ·refine⟨by rw[c.l,fG.sP],?_,λi hi=>by rw[(K i).1];exact c.le i hi,?_,λg e=>?_,λg e=>?_,λg e=>(by cases e),λg5 g e=>(by cases e),λg5 g e=>(by cases e),λP G e Q=>by rw[(K e.1).1];exact c.jw P G e Q,λP G e Q g b e7=>?_,λP G e Q g b=>(by cases b)⟩
  ·show m.s.fr=_;rw[c.fr];exact fG.kR λi _=>by simp only[(K i).1]
  ·obtain⟨q,q1,q2,q3,q4⟩:=c.sx;exact⟨q,q1,q2,q3,λi=>by rw[(K i).1];exact q4 i⟩
  ·injection e with e;subst e;exact⟨a4,λf hf=>by rw[(K f).1];exact(a6 f hf).1,b9⟩
  ·obtain⟨b1,b2,b3⟩:=c.bg g e;exact⟨b1,λf hf=>by rw[(K f).1];exact b2 f hf,(K _).2.2.1 b3⟩
  ·injection b with b;subst b;exact c.oX P G e Q th T e7
 ·show xI E y.ah (nv p) (iQ p .je n) p.eb (Aa p (iQ p .je n)) p.sw false m.s.an (some th) bg none es _;rw[ig (t:=.je) (t':=.born) rfl];refine⟨λe i hi G=>by rw[(K i).1]at G;rw[(K i).2.1];exact v.A e i hi G,λe i hi G=>by rw[(K i).1]at G;rw[(K i).2.1];exact v.B e i hi G,λ_ _ g e=>(by cases e),λb e2 g e=>?_,λg e=>?_,λb e Q=>by rw[(K e.1).2.1];exact v.jw b e Q,λj hj G=>by rw[(K j).1]at G;rw[(K j).2.1];exact v.sw j hj G,λe=>(by cases e),λe=>(by cases e)⟩
  ·injection e with e;subst e;exact .inr λf hf=>by rw[(K f).2.1];exact v.Cp b e2 th T f hf
  ·rw[(K _).2.1];exact v.bg g e
 ·refine⟨a.size,c8,a.u,a.le,a.k0,a.room,a.nd,a.DS,a.d5,a.qv,a.pe,a.kF,λg e hs=>?_,λg e=>(by cases e),λe=>(by cases e)⟩;injection e with e;subst e;obtain⟨R,a5,b1,b2,b3,b4⟩:=a.pd th T hs;refine⟨R,a5,b1,b2,b3,?_⟩;by_cases e:R=m.s.an
  ·exact .inl ⟨e,λk e2=>H e2 T⟩
  ·refine .inr ⟨by simp only;omega,?_⟩;rcases b4 with b4|b4
   ·exact absurd b4 e
   ·have:=c2 b4;simp only;omega
 ·injection e with e;subst e;exact c6
 ·rcases hm.jw P off S d G Q hk with⟨g,b,e2⟩|e|e
  ·injection b with b;subst b;right;right;rw[e2]at Q ⊢;obtain⟨b1,b2,b3⟩:=a7 P off d G Q hk;rw[b2];exact c6.jw b1 b3
  ·exact .inr (.inl e)
  ·exact js e
 ·obtain⟨g4,e0,h0⟩:=h.BM tt e;exact⟨g4,e0,h0.congr λx _=>(K x).2.1⟩
 ·subst e;have z:=h.qt W T;simp only at z;refine⟨z.from_,z.fX,z.ah,z.dF,z.dk,z.pc,?_⟩;by_cases g7:W.pc=0
  ·obtain⟨dn,c7,b,e2,e3⟩:=z.KU;refine⟨dn,c7,b,e2,?_⟩;rcases e3 with e3|e3
   ·exact .inl e3
   ·omega
  ·obtain⟨dn,d,r,X⟩:=gj h (by have:=z.pc;omega);have b6:ce (es (1-m.s.an)) W.k W.head d:=by rw[X.es,<-X.k];exact ce.AI _ _ _ _
   have e8:W.head≠th.hd:=by
    by_cases h6:6<=W.pc
    ·exact H (e:=(W.k,W.head)) (nU h6)
    ·intro e;exact yx hE c a b6 (Nat.le_of_eq z.dk) (λe h=>by rw[iw (by omega)]at h;cases h) ⟨th,rfl,e⟩
   have c3:=(K W.head).2.1;have c4:=(K W.head).2.2.2 e8;exact⟨dn,(W.head,d)::r,X.es,X.k,.inr ⟨by have:=z.pc;omega,d,r,T,X.d,λe=>by have:=X.kept e;simpa[fu]using this,λe=>by rw[c3,c4];exact X.bF e,X.mx,X.w0,X.w1,λe=>by rw[c3,c4];exact X.no e,X.rd⟩⟩
 ·intro l;simp only[pk];split<;>omega
