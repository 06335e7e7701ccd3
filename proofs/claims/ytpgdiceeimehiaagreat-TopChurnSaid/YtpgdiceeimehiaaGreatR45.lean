/- Part 45 of the proof of spotop.TopChurn. -/
import Derived.Test.YtpgdiceeimehiaaGreatR42
set_option maxRecDepth 100000
set_option maxHeartbeats 16000000
set_option linter.all false
open Go.Proofs.Tryz
namespace Go.Proofs.YtpgdiceeimehiaaGreat
open RowKit
namespace jH
open Ac (Vl dx Wr aA)
open fG (fF tb up)
section
variable{E:gb}{q:N}{m:aW.St}{s:Ac.St}{y y':dw.St}{o:Pg}{p p':bW}{t:gJ}{b beh' f nt' d gr':Bool}{an bg g:Option Th}{es:N->List iG}{n:N->dq.dy}{c l i k:N}
theorem Ih.mf(h:Ih q E m.st m.se y o p):Ih (q+1) E m.st m.se y o p:=⟨h.pos,h.ix,h.pA,h.st,h.se,h.pg,by have:=h.cY;omega⟩
theorem dR.same{G:Gh}(h:dR E q m s y o G):dR E (q+1) m s y o G:=⟨h.gX.mf,h.kN,h.mB,h.jp.eG,h.lw,h.ft,h.kQ,h.mem,h.BM,h.qt⟩
theorem dR.mF(h:dR E q m s y o ⟨p,t,b,f,d,an,bg,g,es,n,c⟩)(a:p.mM=false):b=false:=by
 cases b
 ·rfl
 ·have:=h.kN.mM T;simp only at this;rw[a]at this;cases this
theorem dR.mH(h:dR E q m s y o ⟨p,t,b,f,d,an,bg,g,es,n,c⟩)(a:p.wP=false):bg=none:=by
 cases bg
 ·rfl
 ·have:=h.mB.bg (by simp);simp only at this;rw[a]at this;cases this
theorem dR.eN(A:E.Ok){G:Gh}(h:dR E q m s y o G)(F:0<=G.p.st/\G.p.st<=4)(B:i<E.Tq)(w:G.ib=true->i=0):∃z,m.bA[i]?=some z/\∀j,(j=if(z==-1||z==m.st)=true then i+1 else i)↔j=if G.ib=true then i else i+1:=by
 have r:=h.kN.bA;have e:=h.kN.aY;have u:=h.gX.st;cases a:G.ib
 ·rw[a]at e;simp only[gx,bG]at e;cases i with
  | zero=>exact⟨s.aY,by rw[r];rfl,λj=>by rw[u,e];simp⟩
  | succ i=>exact⟨-1,by rw[r,List.getElem?_cons_succ,dI,af (by omega)],λj=>by simp⟩
 ·have v:=w a;subst v;rw[a]at e;simp only[bP]at e;refine⟨s.aY,by rw[r];rfl,λj=>?_⟩;have x:(s.aY==-1||s.aY==m.st)=false:=by
   rw[u,e];unfold mA;split<;>simp<;>omega
  rw[x];simp
theorem px(h:dR E q m s y o ⟨.eN k i,t,b,f,d,an,bg,g,es,n,c⟩)(j:b=false)(r:i+1<E.Tq)(u:E.Tq<=16)(e:k<=4):iL E q s ⟨.eN k i,t,b,f,d,an,bg,g,es,n,c⟩ m {y with i:=i+1} o:=by
 subst j;refine⟨⟨.eN k (i+1),t,false,f,d,an,bg,g,es,n,c⟩,h.move ?_ T T (by simp) ?_ (by simp) (by simp),eI T ?_⟩
 ·have a:=h.gX;refine⟨?_,T,⟨e,r⟩,a.st,a.se,trivial,by have:=a.cY;simp only;omega⟩;have:=a.pos
  match k,e with
  | 0,_=>exact this
  | 1,_=>exact this
  | 2,_=>exact this
  | 3,_=>exact this
  | 4,_=>exact this
 ·match k,e with
  | 0,_=>rfl
  | 1,_=>rfl
  | 2,_=>rfl
  | 3,_=>rfl
  | 4,_=>cases i<;>rfl
 ·match k,e with
  | 0,_=>simp only[R];omega
  | 1,_=>simp only[R];omega
  | 2,_=>simp only[R];omega
  | 3,_=>simp only[R];omega
  | 4,_=>simp only[R];omega
theorem lG(h:dR E q m s y o ⟨p,t,true,f,d,an,bg,g,es,n,c⟩):iL E q s ⟨p,t,true,f,d,an,bg,g,es,n,c⟩ m y o:=⟨_,h.same,Dl⟩
theorem tQ(h:dR E q m s y o ⟨.eN k i,t,false,f,d,an,bg,g,es,n,c⟩)(u:i<16)(j:k=1\/k=2)(r:N):iL E q s ⟨.eN k i,t,false,f,d,an,bg,g,es,n,c⟩ m {y with i:=r,aM:=2} o:=by
 have a:=h.gX;have e:=a.cY;rcases j with rfl|rfl
 ·refine⟨⟨.post 2,t,false,f,d,an,bg,g,es,n,c⟩,h.move ⟨⟨a.pos.1,T⟩,trivial,by simp[bW.pA],a.st,a.se,trivial,by simp only;omega⟩ T T (by simp) T (by simp) (by simp),eI T ?_⟩;simp only[R];omega
 ·refine⟨⟨.post 3,t,false,f,d,an,bg,g,es,n,c⟩,h.move ⟨⟨a.pos.1,T⟩,trivial,by simp[bW.pA],a.st,a.se,trivial,by simp only;omega⟩ T T (by simp) T (by simp) (by simp),eI T ?_⟩;simp only[R];omega
theorem Bj(h:dR E q m s y o ⟨.eN 4 i,t,false,f,d,an,bg,g,es,n,c⟩)(j:i<16):iL E q s ⟨.eN 4 i,t,false,f,d,an,bg,g,es,n,c⟩ m {y with dp:=7,aM:=0,i:=0,h:=.pointer none} o:=by
 have a:=h.gX;have e:=a.cY;refine⟨⟨.jZ,t,false,f,d,an,bg,g,es,n,c⟩,h.move ⟨⟨T,T⟩,trivial,trivial,a.st,a.se,T,by simp only;omega⟩ T T (by simp) ?_ (by simp) (by simp),eI T ?_⟩
 ·cases i<;>rfl
 ·simp only[R];omega
theorem uW(h:dR E q m s y o ⟨.eN 0 i,t,false,f,d,an,bg,g,es,n,c⟩)(r:i<16)(j:N):iL E q s ⟨.eN 0 i,t,false,f,d,an,bg,g,es,n,c⟩ m {y with i:=j,aM:=7} o:=by
 have a:=h.gX;have e:=a.cY;refine⟨⟨.done,t,false,f,d,an,bg,g,es,n,c⟩,h.move ⟨⟨a.pos.1,T⟩,trivial,trivial,a.st,a.se,trivial,by simp only;omega⟩ T T (by simp) T (by simp) (by simp),eI T ?_⟩;simp only[R];omega
theorem Jy(h:dR E q m s y o ⟨.post 2,t,b,f,d,an,bg,g,es,n,c⟩)(e:0<E.Tq):iL E q s ⟨.post 2,t,b,f,d,an,bg,g,es,n,c⟩ {m with st:=2,se:=m.se !=false} {y with dp:=3,aM:=0,i:=0} o:=by
 obtain rfl:=h.mF T;obtain rfl:=h.mH T;have a:=h.gX;have j:=a.cY;rw[show(m.se !=false)=m.se by cases m.se<;>rfl];refine⟨⟨.eN 2 0,t,true,f,d,an,none,g,es,n,c⟩,h.va (y':={y with dp:=3,aM:=0,i:=0}) ⟨⟨rfl,rfl⟩,rfl,⟨by omega,e⟩,rfl,a.se,trivial,by simp only;omega⟩ T T (by simp[bW.st]) T T T T (by simp) (by simp),lD (by simp[R]) T T⟩
theorem Jz(h:dR E q m s y o ⟨.post 3,t,b,f,d,an,bg,g,es,n,c⟩):iL E q s ⟨.post 3,t,b,f,d,an,bg,g,es,n,c⟩ {m with st:=3,se:=m.se !=false} {y with dp:=4,aM:=0,i:=0} o:=by
 obtain rfl:=h.mF T;obtain rfl:=h.mH T;have j:=h.gX;have u:=j.cY;have a:t.mu=false:=by
  cases r:t.mu
  ·rfl
  ·exact absurd (h.kN.mu r).1 (by simp)
 have e:t.jz=false:=by cases t<;>first|rfl|simp[gJ.mu]at a
 rw[show(m.se !=false)=m.se by cases m.se<;>rfl];refine⟨⟨.fC 0,t,true,f,d,an,none,g,es,n,c⟩,h.va (y':={y with dp:=4,aM:=0,i:=0}) ⟨⟨rfl,rfl⟩,rfl,aw _,rfl,j.se,trivial,by simp only;omega⟩ T T (by simp[bW.st]) T T T ?_ (by simp) (by simp),lD (by simp[R]) T T⟩;simp[iQ,e,nv,bW.sv,bW.zero,bW.eb,bW.tn,Aa,bW.sw,bW.ti,bW.mv,bW.cp,bW.kk]
theorem JA(h:dR E q m s y o ⟨.post 4,t,b,f,d,an,bg,g,es,n,c⟩)(e:0<E.Tq):iL E q s ⟨.post 4,t,b,f,d,an,bg,g,es,n,c⟩ {m with st:=4,se:=m.se !=false} {y with aM:=1} o:=by
 obtain rfl:=h.mF T;obtain rfl:=h.mH T;have a:=h.gX;have j:=a.cY;rw[show(m.se !=false)=m.se by cases m.se<;>rfl];refine⟨⟨.eN 4 0,t,true,f,d,an,none,g,es,n,c⟩,h.va (y':={y with aM:=1}) ⟨⟨a.pos.1,rfl⟩,a.ix,⟨by omega,e⟩,rfl,a.se,trivial,by simp only;omega⟩ T T (by simp[bW.st]) T T T T (by simp) (by simp),lD (by simp[R]) T T⟩
theorem Jw(h:dR E q m s y o ⟨.post 0,t,b,f,d,an,bg,g,es,n,c⟩)(e:0<E.Tq):iL E q s ⟨.post 0,t,b,f,d,an,bg,g,es,n,c⟩ {m with st:=0,se:=m.se !=false} {y with dp:=8,aM:=0,i:=0} o:=by
 obtain rfl:=h.mF T;obtain rfl:=h.mH T;have a:=h.gX;have j:=a.cY;rw[show(m.se !=false)=m.se by cases m.se<;>rfl];refine⟨⟨.eN 0 0,t,true,f,d,an,none,g,es,n,c⟩,h.va (y':={y with dp:=8,aM:=0,i:=0}) ⟨⟨rfl,rfl⟩,rfl,⟨by omega,e⟩,rfl,a.se,trivial,by simp only;omega⟩ T T (by simp[bW.st]) T T T T (by simp) (by simp),lD (by simp[R]) T T⟩
theorem FL(h:dR E q m s y o ⟨.fC i,t,b,f,d,an,bg,g,es,n,c⟩)(j:i<E.g)(r:E.g<=8):iL E q s ⟨.fC i,t,b,f,d,an,bg,g,es,n,c⟩ m {y with head:=0,aM:=0,i:=i+1} o:=by
 have a:=h.gX;have e:=a.cY;refine⟨⟨.fC (i+1),t,b,f,d,an,bg,g,es,n,c⟩,h.move ⟨⟨a.pos.1,T⟩,T,j,a.st,a.se,trivial,by simp only;omega⟩ T T (λ_=>T) T (by simp) (by simp),eI T ?_⟩;simp only[R];omega
theorem tH(h:dR E q m s y o ⟨.fC i,t,b,f,d,an,bg,g,es,n,c⟩)(w:i<=8)(j:N)(r:j<E.Tq)(u:b=true->j=0):iL E q s ⟨.fC i,t,b,f,d,an,bg,g,es,n,c⟩ m {y with aM:=1,i:=j} o:=by
 have a:=h.gX;have v:=a.cY;refine⟨⟨.eN 3 j,t,b,f,d,an,bg,g,es,n,c⟩,h.move ⟨⟨a.pos.1,T⟩,T,⟨by omega,r⟩,a.st,a.se,trivial,by simp only;omega⟩ T T (λe=>by rw[u e];rfl) T (by simp) (by simp),eI T ?_⟩;simp only[R];omega
theorem sA(h:dR E q m s y o ⟨p,t,false,f,d,an,bg,g,es,n,c⟩)(B:E.Tq<=16)(x:(∃i,p=.fC i)\/∃i,p=.eN 3 i):iL E q s ⟨p,t,false,f,d,an,bg,g,es,n,c⟩ m {y with dp:=5,aM:=0,i:=0} o:=by
 have r:=h.gX;have a:=h.mB;have w:=r.cY;obtain⟨j,u,A,hz,v⟩:p.st=3/\(p.sv,p.zero,nv p,iQ p t false,p.eb,Aa p (iQ p t false),p.sw,p.tn,p.ti,p.mv false,p.cp,p.kk)=(false,false,false,false,false,true,0,false,false,false,none,0)/\7054<R p/\p.zero=false/\p.mz=true:=by
  rcases x with⟨i,rfl⟩|⟨i,rfl⟩
  ·exact⟨T,T,by simp only[R];omega,T,T⟩
  ·refine⟨T,T,?_,T,T⟩;have:=r.pA.2;simp only[R];omega
 simp only at r a;cases bg with
 | none =>
  refine⟨⟨.mark false,t,false,f,d,an,none,g,es,n,c⟩,h.wJ ⟨T,T,T,T,T⟩ ⟨⟨T,T⟩,trivial,trivial,by rw[r.st,j];rfl,r.se,trivial,by simp only;omega⟩ ⟨λe=>⟨T,(a.bZ e).2⟩,λe=>absurd T e,λe=>(by cases e),λe=>absurd rfl e,a.cb,?_,a.cm⟩ (.inr rfl) rfl j.symm (by simp) h.ft.Cc ?_ (by simp) (by simp),eI hz.symm ?_⟩
  ·rw[a.xs];unfold uV;cases p.mz<;>rfl
  ·rw[u];rfl
  ·show 6274<R p;omega
 | some z =>
  refine⟨⟨.mark true,t,false,f,d,an,some z,g,es,n,c⟩,h.wJ ⟨T,T,T,T,T⟩ ⟨⟨T,T⟩,trivial,trivial,by rw[r.st,j];rfl,r.se,trivial,by simp only;omega⟩ ⟨λe=>⟨T,(a.bZ e).2⟩,λe=>T,λe=>by simp,λe=>a.qM e,a.cb,?_,a.cm⟩ (.inr T) T j.symm (by simp) h.ft.Cc ?_ (by simp) (by simp),eI hz.symm ?_⟩
  ·rw[a.xs,v];rfl
  ·rw[u];rfl
  ·show 7054<R p;omega
theorem AY(h:dR E q m s y o ⟨.mark false,t,b,f,d,an,bg,g,es,n,c⟩):iL E q s ⟨.mark false,t,b,f,d,an,bg,g,es,n,c⟩ m {y with head:=0,aM:=5} o:=by
 have a:=h.gX;have j:=a.cY;refine⟨⟨.cb,t,b,f,d,an,bg,g,es,n,c⟩,h.move ⟨⟨a.pos.1,T⟩,trivial,trivial,a.st,a.se,trivial,by simp only;omega⟩ T T (λe=>by have:=h.kN.mM e;simp[bW.mM]at this) T (by simp) (by simp),eI T ?_⟩;simp only[R];omega
theorem Gf(h:dR E q m s y o ⟨.cb,t,b,f,d,an,bg,g,es,n,c⟩):iL E q s ⟨.cb,t,b,f,d,an,bg,g,es,n,c⟩ {m with cb:=false} {y with dp:=6,aM:=0,i:=0} o:=by
 have j:=h.gX;have a:=h.mB;have r:=j.cY;refine⟨⟨.qS,t,b,f,d,an,bg,g,es,n,c⟩,h.wJ ⟨T,T,T,T,T⟩ ⟨⟨T,T⟩,T,trivial,j.st,j.se,trivial,by simp only;omega⟩ ⟨a.bZ,a.bg,a.mark,a.qM,T,a.xs,a.cm⟩ (.inr T) T T (λe=>by have:=h.kN.mM e;simp[bW.mM]at this) h.ft.Cc T (by simp) (by simp),eI T ?_⟩;simp only[R];omega
theorem AX{xs:List Int}{j:N}{pv' tr':Value}(h:dR E q m s y o ⟨.mark true,t,b,f,d,an,bg,g,es,n,c⟩)(z:m.xs=xs++[(j:V)]):iL E q s ⟨.mark true,t,b,f,d,an,bg,g,es,n,c⟩ {m with pv:=pv',xs:=xs} {y with head:=(j:V),aM:=4,tr:=tr'} (.tr (Tr.ml j y.ah)):=by
 have w:=h.gX;have v:=h.mB;have x:=w.cY;simp only at w v;obtain⟨u,rfl⟩:∃u,bg=some u:=by
  cases bg with
  | none=>exact absurd T (v.mark T)
  | some u=>exact⟨u,T⟩
 have r:=v.xs;rw[z]at r;have r:xs++[(j:V)]=[(u.hd:V)]:=r;obtain⟨rfl,A⟩:xs=[]/\(j:V)=(u.hd:V):=by
  cases xs with
  | nil=>simpa using r
  | cons a xs=>simp at r
 obtain rfl:j=u.hd:=by omega
 refine⟨⟨.trace (Tr.ml u.hd y.ah),t,b,f,d,an,some u,g,es,n,c⟩,h.wJ ⟨T,T,T,T,T⟩ ⟨⟨w.pos.1,T⟩,trivial,trivial,w.st,w.se,T,by simp only;omega⟩ ⟨v.bZ,λ_=>T,λ_=>by simp,λe=>v.qM e,v.cb,T,v.cm⟩ (.inr T) T T (λe=>by have:=h.kN.mM e;simp[bW.mM]at this) h.ft.Cc T (λB e=>?_) (by simp),eI T ?_⟩
 ·injection e with e;subst e;exact⟨u,T,T,T,.inl ⟨T,T,T,T⟩⟩
 ·simp only[R,tz,Tr.ml];simp
end
end jH
namespace jH
open Ac (Vl dx Wr aA)
open fG (fF tb up)
open Tr (oD jV jx gu ou jW)
def Cb(E:gb)(ys:Bool)(tf:N->dq.dy)(th:Th)(z:N)(Q:Tr.St->Prop):Prop:=(∀t',Q t'->t'.pc=9/\∀x∈th.fs,(tf x).ah=ys)\/(∀t',Q t'->t'.pc≠9/\xQ E ys tf th t'/\tz t'<z)
section
variable{E:gb}{a:Bool}{c:N->dq.dy}{th:Th}{t:Tr.St}{z:N}
theorem wX(bs:List Bool)(j:N):∀n,n<=bs.length->∀x∈gu bs j n,∃k:N,bs[k]?=some true/\fe (k:V)=(j:V)/\x=eh (k:V):=by
 intro n
 induction n with
 | zero=>intro _ x b;cases b
 | succ n e =>
  intro f x b;unfold gu at b;split at b
  ·rename_i h;rcases iE.1 b with b|b
   ·exact e (by omega) x b
   ·simp only[jr]at b;refine⟨n,?_,h.2,b⟩;have d:=h.1;simp only[List.getD,cR (show n<bs.length by omega),Option.getD_some]at d ⊢;rw[d]
  ·exact e (by omega) x b
theorem Ea{b:Bool}{n j:N}{x:V}(d:x∈ou b n j):b=true/\∃k:N,k<8/\x=(k:V)/\8*j+k<n:=by
 unfold ou at d;split at d
 ·rename_i e;refine⟨e,?_⟩;obtain⟨k,f,rfl⟩:=aX.1 d;have:=List.mem_range.1 f;exact⟨k,by omega,T,by omega⟩
 ·cases d
theorem wW(b:Bool)(n j:N):(ou b n j).length<=8:=by
 unfold ou;split
 ·simp only[fH,List.length_range];omega
 ·simp
theorem wm{x:N}{i:N}(h:th.fs[i]?=some x):i<th.fs.length:=(dH.1 h).1
theorem Cj(h:∀i x,i<th.fs.length->th.fs[i]?=some x->(c x).ah=a):∀x∈th.fs,(c x).ah=a:=by
 intro x d;obtain⟨i,b,e⟩:=List.getElem_of_mem d;exact h i x b (by rw[cR b,e])
theorem Gt(e:E.Ok)(d:ie E th)(g:th.o.aE=1):th.fs.length<=6:=by
 have h:=e.op _ d.op;obtain⟨kd,s0,f⟩:=h.sh e;have b:=f.obj g;have i:=f.eT;rw[<-d.len]at b;unfold bM at b;split at b
 ·omega
 ·simp only[gx,bG]at b;split at b<;>omega
theorem yg(hz:Ca E th)(v:E.Ok)(g:ie E th)(o:th.o.aE=1)(W:List Int)(t0:Tr.St)(y:t0.head=th.hd/\t0.ah=a/\t0.jY=false/\t0.bs=tE E.ba th.o/\t0.aC=0)(j:th.fs[t0.j]?=some t0.fP)
  (A:∀x∈W,∃k:N,t0.bs[k]?=some true/\fe (k:V)=(t0.j:V)/\x=eh (k:V)) (m:W.length<=40) (n:∀i x,i<=t0.j->th.fs[i]?=some x->(c x).ah=a) (q:(7-t0.j)*44-42+W.length<z) :
  Cb E a c th z (λt'=>∃b wv',t'=oD {t0 with rv:=b,wv:=wv',am:=W}):=by
 obtain⟨r,s,e,h,u⟩:=y;have K:=wm j;have B:=v.op _ g.op;obtain⟨kd,s0,l⟩:=B.sh v;have d:bM false t0.bs.length 0=(th.fs.length:V):=by rw[h,l.bs,l.obj o,g.len]
 have G:th.fs.length<=6:=by
  have j:=l.eT;rw[h,l.bs]at d;unfold bM at d;split at d
  ·omega
  ·simp only[gx,bG]at d;split at d<;>omega
 have f:∀b wv',jx {t0 with rv:=b,wv:=wv',am:=W}=(th.fs.length:V):=λb wv'=>by
  unfold jx;simp only[e,gx,bG];exact d
 by_cases p:W=[]
 ·subst p;by_cases w:(th.fs.length:V)<=(t0.j:V)+1
  ·left;rintro t'⟨b,wv',rfl⟩;unfold oD;rw[aa (by simp),af (by rw[f];exact w)];exact⟨T,Cj λi x H F=>n i x (by omega) F⟩
  ·right;rintro t'⟨b,wv',rfl⟩;unfold oD;rw[aa (by simp),aa (by rw[f];exact w),af e];refine⟨by simp,⟨r,s,.inr (.inl ⟨o,e,h,u,j,.inr (.inl ⟨T,T,by simp only;omega,n⟩)⟩)⟩,?_⟩;unfold tz;simp only[e,bP];simp only[dJ]at q;simp;omega
 ·right;rintro t'⟨b,wv',rfl⟩;unfold oD;rw[af p];refine⟨by simp,⟨r,s,.inr (.inl ⟨o,e,h,u,j,.inl ⟨T,p,m,A,n⟩⟩)⟩,?_⟩;unfold tz;simp only[e,bP];simp;omega
theorem CN(hz:Ca E th)(hE:E.Ok)(R:ie E th)(q:th.o.aE=2)(W:List Int)(t0:Tr.St)(G:t0.head=th.hd/\t0.ah=a/\t0.jY=true/\t0.bs=tE E.ba th.o)(g:t0.n=th.o.n.toNat/\1<=t0.n)(l:t0.mode=th.md)(d:if th.md=0 then t0.aC=0 else t0.aC=th.bb)(y:t0.j<th.d)(Q:th.fs[t0.j+1]?=some t0.fP)
  (w:th.md=2->∀j,j<th.d->th.fs[j+1]?=some (th.bb+j))
  (K:∀x∈W,t0.bs.getD 0 false=true/\∃k:N,k<8/\x=(k:V)/\8*t0.j+k<t0.n) (v:W.length<=8) (P:(c th.hd).ah=a) (o:∀i x,i<=t0.j->th.fs[i+1]?=some x->(c x).ah=a) (m:(64-t0.j)*12+W.length-9<z) :
  Cb E a c th z (λt'=>∃b wv',t'=oD {t0 with rv:=b,wv:=wv',am:=W}):=by
 obtain⟨r,s,f,u⟩:=G;obtain⟨c1,S,F,X⟩:=hz.jY q;have H:=hz.eT;have h:∀b wv',jx {t0 with rv:=b,wv:=wv',am:=W}=(th.d:V):=λb wv'=>by
  unfold jx;simp only[f,bP];rw[g.1,<-c1,F]
 by_cases A:W=[]
 ·subst A;by_cases B:(th.d:V)<=(t0.j:V)+1
  ·left;rintro t'⟨b,wv',rfl⟩;unfold oD;rw[aa (by simp),af (by rw[h];exact B)];refine⟨T,Cj λi x p e=>?_⟩;cases i with
   | zero =>
    rw[hz.J0]at e;injection e with e;rw[<-e];exact P
   | succ i=>exact o i x (by omega) e
  ·right;rintro t'⟨b,wv',rfl⟩;unfold oD;rw[aa (by simp),aa (by rw[h];exact B),aa (by simp[f])];unfold jV;by_cases n:th.md=2
   ·rw[af (by simp only[l];exact n)];refine⟨by simp,⟨r,s,.inr (.inr ⟨q,f,u,.inr ⟨g.1,g.2,.inr ⟨l,by simp only;omega,.inr ⟨d,.inr ⟨?_,.inl ⟨T,λi x p e=>o i x (by simp only at p;omega) e⟩⟩⟩⟩⟩⟩)⟩,?_⟩
    ·rw[aa (by omega)]at d;have:=w n (t0.j+1) (by omega);simp only[d];exact this
    ·unfold tz;simp[f];simp only[dJ]at m;omega
   ·rw[aa (by simp only[l];exact n)];refine⟨by simp,⟨r,s,.inr (.inr ⟨q,f,u,.inr ⟨g.1,g.2,.inr ⟨l,by simp only;omega,.inr ⟨d,.inl ⟨T,n,λi x p e=>o i x (by simp only at p;omega) e⟩⟩⟩⟩⟩)⟩,?_⟩;unfold tz;simp[f];simp only[dJ]at m;omega
 ·right;rintro t'⟨b,wv',rfl⟩;unfold oD;rw[af A];refine⟨by simp,⟨r,s,.inr (.inr ⟨q,f,u,.inr ⟨g.1,g.2,.inr ⟨l,y,.inr ⟨d,.inr ⟨Q,.inr ⟨T,A,v,K,o⟩⟩⟩⟩⟩⟩)⟩,?_⟩;unfold tz;simp[f];omega
end
section
variable{E:gb}{v:N}{m:aW.St}{s:Ac.St}{y y':dw.St}{o o':Pg}{p p':bW}{t:gJ}{u beh' n nt' z gr':Bool}{an bg g:Option Th}{es:N->List iG}{d:N->dq.dy}{w l i k:N}{r:Tr.St}{th:Th}
theorem sR{f:N->dq.dy}{j:N}{b:Bool}(k:N):(up f j {f j with ah:=b} k).st=(f k).st/\(up f j {f j with ah:=b} k).head=(f k).head/\(up f j {f j with ah:=b} k).ah=if k=j then b else(f k).ah:=by
 unfold up;split
 ·rename_i e;subst e;exact⟨T,T,T⟩
 ·exact⟨T,T,T⟩
theorem xP.part{F:List dq.dy}{fr:List Bool}{sx:List Int}(h:xP E F fr sx an bg g es d)(f:N)(b:Bool):xP E (F.set f {d f with ah:=b}) fr sx an bg g es (up d f {d f with ah:=b}):=by
 have x:=sR (f:=d) (j:=f) (b:=b);refine⟨by rw[h.l,fG.sP],?_,λi H=>by rw[(x i).1];exact h.le i H,?_,λth e=>?_,λth e=>?_,λth e=>?_,h.uv,h.Ax,λS B e G=>by rw[(x e.1).1];exact h.jw S B e G,h.oW,h.oX⟩
 ·rw[h.fr];exact fG.kR λi _=>by simp only[(x i).1]
 ·obtain⟨q,K,P,Q,R⟩:=h.sx;exact⟨q,K,P,Q,λi=>by rw[(x i).1];exact R i⟩
 ·obtain⟨a,b,c⟩:=h.an th e;exact⟨a,λf A=>by rw[(x f).1];exact b f A,by rw[(x _).2.1];exact c⟩
 ·obtain⟨a,b,c⟩:=h.bg th e;exact⟨a,λf A=>by rw[(x f).1];exact b f A,by rw[(x _).2.1];exact c⟩
 ·obtain⟨a,b⟩:=h.pd th e;exact⟨a,λf A=>by rw[(x f).1,(x f).2.1];exact b f A⟩
theorem xt{s':Sp.St}{tr':Value}(h:dR E v m s y o ⟨.trace r,t,u,n,z,an,some th,g,es,d,w⟩)(f:Option Nat)(hf:∀x,f=some x->x∈th.fs)(tf':N->dq.dy)(W:tf'=(match f with|none=>d|some x=>up d x {d x with ah:=y.ah}))(a5:s'=(match f with|none=>m.s|some x=>{m.s with l:=m.s.l.set x {d x with ah:=y.ah}}))(Q:Tr.St->Prop)(K:Cb E y.ah tf' th (tz r) Q):(∀F,Q F->F.pc=9/\iL E v s ⟨.trace r,t,u,n,z,an,some th,g,es,d,w⟩ {m with s:=s'} {y with aM:=0} (.tr F))\/(∀F,Q F->F.pc≠9/\iL E v s ⟨.trace r,t,u,n,z,an,some th,g,es,d,w⟩ {m with s:=s'} y (.tr F)):=by
 have a7:=h.mF T;subst a7;have h2:dR E v {m with s:=s'} s y o ⟨.trace r,t,false,n,z,an,some th,g,es,tf',w⟩\/True:=.inr trivial;clear h2;have X:=h.gX;have B:=h.mB;have b0:=X.cY;have ht:=h.jp.eG;have a3:=h.lw;have b:=h.ft;have a2:=h.kQ;have hm:=h.mem;have S:=h.kN;simp only at X B ht a3 b a2 hm S;have a6:∀x,(tf' x).ah=y.ah\/(tf' x).ah=(d x).ah:=by
  intro x;rw[W];cases f with
  | none=>exact .inr T
  | some j=>simp only;rw[(sR x).2.2];split<;>simp
 have a8:∀x,(tf' x).st=(d x).st:=by
  intro x;rw[W];cases f with
  | none=>rfl
  | some j=>simp only;rw[(sR x).1]
 have a4:∀x,(tf' x).ah=y.ah->(d x).ah=y.ah\/x∈th.fs:=by
  intro x hx;rw[W]at hx;cases f with
  | none=>exact .inl hx
  | some j =>
   simp only at hx;rw[(sR x).2.2]at hx;split at hx
   ·rename_i e;exact .inr (e▸hf j T)
   ·exact .inl hx
 have a:xP E s'.l s'.fr s'.sx an (some th) g es tf':=by
  rw[W,a5];cases f with
  | none=>exact a3
  | some j=>exact a3.part j y.ah
 have a1:s'.en=m.s.en/\s'.cm=m.s.cm/\s'.an=m.s.an/\s'.size=m.s.size/\s'.u=m.s.u/\s'.kept=m.s.kept:=by
  rw[a5];cases f<;>exact⟨T,T,T,T,T,T⟩
 obtain⟨r1,r2,r3,r4,r5,r6⟩:=a1;have P:∀{x:N},(d x).ah=y.ah->(tf' x).ah=y.ah:=λ{x} hx=>by
  rcases a6 x with e|e
  ·exact e
  ·rw[e];exact hx
 have H:∀A,(A=some th\/A=none/\∀x∈th.fs,(tf' x).ah=y.ah)->xI E y.ah false false false true 0 n m.s.an an A g es tf':=by
  intro A q;refine⟨λe=>(by cases e),λe=>(by cases e),λ_ _ c e f hf=>P (b.Cp rfl rfl c e f hf),λ_ _ c e=>?_,λc e=>?_,λe=>(by cases e),λj hj=>by omega,λhn _ i hi h2 hs=>?_,λhn c e=>?_⟩
  ·rcases b.Cc rfl rfl c e with e1|e1
   ·injection e1 with e1;subst e1;rcases q with q|⟨q,G⟩
    ·exact .inl q
    ·exact .inr G
   ·exact .inr λf hf=>P (e1 f hf)
  ·rcases q with q|⟨q,-⟩
   ·rw[q]at e;exact⟨P (b.bg c e).1,(b.bg c e).2⟩
   ·rw[q]at e;cases e
  ·rw[a8]at h2;rcases a4 i hs with e|e
   ·exact b.wh hn T i hi h2 e
   ·exact⟨th,b.J4 hn th T,e⟩
  ·rcases q with q|⟨q,-⟩
   ·rw[q]at e;exact b.J4 hn c e
   ·rw[q]at e;cases e
 rcases K with K|K
 ·left;intro F hq;obtain⟨h9,G⟩:=K F hq;refine⟨h9,⟨.mark false,t,false,n,z,an,none,g,es,tf',w⟩,⟨⟨⟨X.pos.1,T⟩,trivial,trivial,X.st,X.se,trivial,by simp only;omega⟩,⟨S.bA,S.aY,λe=>(by cases e),S.ah,S.mu⟩,⟨B.bZ,λe=>absurd rfl e,λe=>(by cases e),λe=>absurd rfl e,B.cb,B.xs,by show s'.cm=false;rw[r2];exact B.cm⟩,by show EX E (v+1) s'.en s _ _ _ _ _ _ _ _;rw[r1];exact ht,?_,?_,?_,?_,λr e=>(by cases e),λr e=>(by cases e)⟩,eI rfl ?_⟩
  ·exact⟨a.l,a.fr,a.le,a.sx,a.an,λth e=>(by cases e),a.pd,a.uv,λth b2 _ e=>(by cases e),a.jw,a.oW,a.oX⟩
  ·show xI E y.ah false false false true 0 n s'.an an none g es tf';rw[r3];exact H none (.inr ⟨T,G⟩)
  ·show vD E s'.size s'.an s'.u s'.kept _ _ _ _ _ _ _ _ _ _;rw[r3,r4,r5,r6];exact a2
  ·show Mem E m.am s.bz s'.an _ _ _ _ _ _ _;rw[r3];exact⟨hm.len,hm.fC,hm.an,λth e=>(by cases e),hm.write,hm.born,hm.jw⟩
  ·simp only[R];omega
 ·right;intro F hq;obtain⟨h9,a9,b1⟩:=K F hq;refine⟨h9,⟨.trace F,t,false,n,z,an,some th,g,es,tf',w⟩,⟨⟨X.pos,trivial,trivial,X.st,X.se,T,by omega⟩,⟨S.bA,S.aY,λe=>(by cases e),S.ah,S.mu⟩,⟨B.bZ,B.bg,B.mark,B.qM,B.cb,B.xs,by show s'.cm=false;rw[r2];exact B.cm⟩,by show EX E (v+1) s'.en s _ _ _ _ _ _ _ _;rw[r1];exact ht,a,?_,?_,?_,λr e=>by injection e with e;subst e;exact⟨th,T,a9⟩,λr e=>(by cases e)⟩,eI rfl ?_⟩
  ·show xI E y.ah false false false true 0 n s'.an an (some th) g es tf';rw[r3];exact H (some th) (.inl T)
  ·show vD E s'.size s'.an s'.u s'.kept _ _ _ _ _ _ _ _ _ _;rw[r3,r4,r5,r6];exact a2
  ·show Mem E m.am s.bz s'.an _ _ _ _ _ _ _;rw[r3];exact hm
  ·simp only[R];omega
end
end jH
namespace jH
open Ac (Vl dx Wr aA)
open fG (fF tb up)
section
variable{E:gb}{w:N}{m:aW.St}{s:Ac.St}{y y':dw.St}{o o':Pg}{p p':bW}{t:gJ}{f beh' n nt' g gr':Bool}{an bg q:Option Th}{es:N->List iG}{r:N->dq.dy}{v l i k:N}{th:Th}
theorem kr(h:t.hH=true):t.vO=false:=by cases t<;>first|rfl|simp[gJ.hH]at h
theorem Ck(h:dR E w m s y o ⟨p,t,false,n,g,an,bg,q,es,r,v⟩):t.mu=false/\t.bZ=false/\t.jz=false:=by
 have a:t.mu=false:=by
  cases b:t.mu
  ·rfl
  ·exact absurd (h.kN.mu b).1 (by simp)
 refine⟨a,?_,?_⟩<;>cases t<;>first|rfl|simp[gJ.mu]at a
theorem BB(h:dR E w m s y o ⟨p,t,f,n,g,an,bg,q,es,r,v⟩)(b:(decide (0<m.s.en.countP Ln.kU))=false):vH t f g=true:=by
 unfold vH;cases a:t.hH
 ·rfl
 ·cases g
  ·obtain⟨o,-,c,-⟩:=h.jp.op (kr a);obtain⟨e,d,a⟩:=c a;rw[d]at b;have:Ln.kU e=true:=by have:=a.st;simp only[gx,bG]at this;simp[Ln.kU,this]
   simp[this]at b
  ·rfl
theorem FU(h:dR E w m s y o ⟨.idle,t,f,n,g,an,bg,q,es,r,v⟩)(a:(decide (0<m.s.en.countP Ln.kU))=false):iL E w s ⟨.idle,t,f,n,g,an,bg,q,es,r,v⟩ m y o:=⟨_,h.same,KV,λe=>by have:=BB h a;simp only at e;rw[this]at e;cases e⟩
theorem Db(h:dR E w m s y o ⟨.idle,t,f,n,g,an,bg,q,es,r,v⟩):iL E w s ⟨.idle,t,f,n,g,an,bg,q,es,r,v⟩ m {y with dp:=1,aM:=0,i:=0} o:=by
 have a:=h.gX;have b:=a.cY;refine⟨⟨.Cm,t,f,n,g,an,bg,q,es,r,v⟩,h.move ⟨⟨T,T⟩,trivial,trivial,a.st,a.se,trivial,by simp only;omega⟩ T T (λe=>by have:=h.kN.mM e;simp[bW.mM]at this) T (by simp) (by simp),eI T ?_⟩;simp[R]
theorem Iv(h:dR E w m s y o ⟨.Cm,t,f,n,g,an,bg,q,es,r,v⟩):iL E w s ⟨.Cm,t,f,n,g,an,bg,q,es,r,v⟩ {m with s:={m.s with cm:=false,en:=m.s.en.map Ln.sg}} {y with aM:=2} o:=by
 obtain rfl:=h.mF T;obtain rfl:=h.mH T;have G:=h.gX;have B:=h.mB;have a1:=G.cY;have A:=h.jp.eG;have j:=h.ft;have d:=h.kQ;simp only at G B A j d;have P:n=true->False:=by
  intro H;cases x:t.hH
  ·have:=(A.en x).2.2;rw[this]at H;cases H
  ·obtain⟨o,-,F,-⟩:=A.op (kr x);obtain⟨e,Q,x⟩:=F x;cases g
   ·have:=x.LY T H;simp[bW.zero]at this
   ·have:=(x.cG T).1;rw[this]at H;cases H
 obtain rfl:n=false:=by cases n;rfl;exact(P T).elim
 refine⟨⟨.post 1,t,false,t.hH&&!g,g,an,none,q,es,r,v⟩,⟨⟨⟨G.pos.1,T⟩,trivial,by simp[bW.pA],G.st,G.se,trivial,by simp only;omega⟩,h.kN,⟨B.bZ,B.bg,B.mark,B.qM,B.cb,B.xs,T⟩,?_,h.lw,?_,?_,h.mem,λtt e=>(by cases e),λtt e=>(by cases e)⟩,wD λF K=>by simp[F,K,R,bW.zero]⟩
 ·refine⟨A.aM,A.own,A.loc,?_,?_,A.sr,A.wn⟩
  ·intro X;obtain⟨o,F,K,W⟩:=A.op X;refine⟨o,F,λx=>?_,W⟩;obtain⟨e,Q,u⟩:=K x;refine⟨Ln.sg e,by simp[Q],⟨u.th,u.fr,u.sp,u.st,λz=>?_,u.JY,λz=>?_,λ_ _=>T,λz=>?_⟩⟩
   ·have:=u.cy z;simp only[gx,false_and,bG]at this;simp only[bW.sv,gx,and_false,bG];exact this
   ·subst z;have:=u.st;simp only[gx,bG]at this;simp[Ln.sg,Ln.kU,this,x,bW.sv]
   ·subst z;obtain⟨-,S⟩:=u.cG T;exact⟨by simp,S⟩
  ·intro x;obtain⟨a,b,c⟩:=A.en x;exact⟨by simp[a],b,by simp[x]⟩
 ·exact⟨j.A,j.B,j.Cp,j.Cc,j.bg,j.jw,j.sw,λ_ e=>(by cases e),λ_ th e=>(by cases e)⟩
 ·exact⟨d.size,d.cu,d.u,d.le,d.k0,d.room,d.nd,d.DS,d.d5,d.qv,d.pe,d.kF,d.an,d.pd,λ_ e=>(by cases e)⟩
theorem Jx(h:dR E w m s y o ⟨.post 1,t,f,n,g,an,bg,q,es,r,v⟩)(F:0<E.Tq):iL E w s ⟨.post 1,t,f,n,g,an,bg,q,es,r,v⟩ {m with st:=1,se:=m.se !=true} {y with ek:=y.ek+1,ah:=!y.ah,dp:=2,aM:=0,i:=0} o:=by
 obtain rfl:=h.mF T;obtain rfl:=h.mH T;obtain⟨c,A,P⟩:=Ck h;have z:=h.gX;have u:=h.mB;have G:=z.cY;have b:=h.jp.eG;have d:=h.ft;have a:=h.kQ;have x:=h.kN;simp only at z u b d a x;refine⟨⟨.eN 1 0,t,true,n,g,an,none,q,es,r,v⟩,⟨⟨⟨T,T⟩,T,⟨by omega,F⟩,T,by rw[z.se];cases y.ah<;>rfl,trivial,by simp only;omega⟩,⟨x.bA,by rw[x.aY];rfl,λ_=>T,?_,λe=>(by simp only at e;rw[c]at e;cases e)⟩,⟨λe=>(by simp only at e;rw[A]at e;cases e),λe=>absurd rfl e,λe=>(by cases e),λe=>absurd rfl e,u.cb,u.xs,u.cm⟩,⟨b.aM,b.own,b.loc,b.op,b.en,b.sr,λe=>⟨(b.wn e).1,λ_=>rfl,(b.wn e).2.2⟩⟩,h.lw,?_,⟨a.size,a.cu,a.u,a.le,a.k0,a.room,a.nd,a.DS,a.d5,a.qv,a.pe,a.kF,a.an,a.pd,λ_ e=>(by cases e)⟩,h.mem,λQ e=>(by cases e),λQ e=>(by cases e)⟩,lD (by simp[R]) rfl rfl⟩
 ·have:=x.ah;simp only[gx,false_and,bG]at this;rw[this];simp[bW.st,c]
 ·refine⟨λe=>(by cases e),λ_ i H B=>?_,λ_ e=>(by cases e),λ_ e=>(by cases e),λth e=>(by cases e),λe=>(by cases e),λj K=>by simp[bW.sw]at K,λ_ e=>(by cases e),λ_ th e=>(by cases e)⟩;rw[d.A rfl i H B];simp
theorem GV(h:dR E w m s y o ⟨.qS,t,f,n,g,an,bg,q,es,r,v⟩):m.s.u (1-m.s.an)=0/\iL E w s ⟨.qS,t,f,n,g,an,bg,q,es,r,v⟩ {m with s:={m.s with an:=1-m.s.an,kept:=m.s.u m.s.an}} {y with aM:=2} o:=by
 obtain rfl:=h.mF T;obtain rfl:=h.mH T;have F:=h.gX;have X:=F.cY;have c:=h.ft;have b:=h.kQ;have B:=h.mem;simp only at F c b B;have j:=b.DS T;have z:=b.cu;have W:m.s.u (1-m.s.an)=0:=by rw[b.u _ (by omega),j];rfl
 have G:1-(1-m.s.an)=m.s.an:=by omega
 have K:∀{x:N} {off H d:N},x<2->ce (es x) off H d->x=m.s.an:=by
  intro x off H d A u;by_cases e:x=m.s.an
  ·exact e
  ·have:x=1-m.s.an:=by omega
   rw[this,j]at u;exact u.none.elim
 refine⟨W,⟨.post 4,t,false,n,g,an,none,q,es,r,0⟩,⟨⟨⟨F.pos.1,T⟩,F.ix,by simp[bW.pA],F.st,F.se,trivial,by simp only;omega⟩,h.kN,h.mB,h.jp.eG,h.lw,?_,?_,?_,λtt e=>(by cases e),λtt e=>(by cases e)⟩,eI rfl (by simp[R])⟩
 ·exact⟨λe=>(by cases e),λe=>(by cases e),c.Cp,c.Cc,c.bg,λ_ e u=>(by simp only at u;rw[j]at u;cases u),c.sw,c.wh,c.J4⟩
 ·refine⟨b.size,by simp only;omega,b.u,b.le,?_,?_,b.nd,λe=>(by cases e),b.d5,λe=>(by cases e),λ_=>⟨?_,rfl⟩,?_,?_,?_,?_⟩
  ·simp only;rw[b.u _ z];omega
  ·simp only;rw[j,b.u _ z];have:=b.le _ z;simp only[fu];omega
  ·simp only;rw[G,b.u _ z]
  ·intro off H d u _;left;simp only;rw[j];simp
  ·intro th e S;obtain⟨x,off,A,P,Q,-⟩:=b.an th e S;exact⟨x,off,A,P,Q,.inr ⟨by simp only;rw[G];exact K A P,aw _⟩⟩
  ·intro th e S;obtain⟨x,off,A,P,Q,-⟩:=b.pd th e S;exact⟨x,off,A,P,Q,.inr T⟩
  ·intro _ _ e u;simp only at u;rw[j]at u;cases u
 ·refine⟨B.len,B.fC,B.an,B.bg,B.write,B.born,λx off H d A u _=>?_⟩;rcases B.jw x off H d A u (.inl (K A u))with a|⟨-,k,a⟩|a
  ·exact .inl a
  ·cases a
  ·exact js a
theorem FD(h:dR E w m s y o ⟨.done,t,f,n,g,an,bg,q,es,r,v⟩)(hF:0<E.F):m.s.kept=0/\iL E w s ⟨.done,t,f,n,g,an,bg,q,es,r,v⟩ {m with s:={m.s with u:=λk=>if k=1-m.s.an then 0 else m.s.u k,kept:=0}} {y with dp:=9,aM:=0,i:=0} o:=by
 obtain rfl:=h.mF T;obtain rfl:=h.mH T;have X:=h.gX;have a4:=X.cY;have c:=h.lw;have z:=h.ft;have j:=h.kQ;have H:=h.mem;simp only at X c z j H;have a1:=j.cu;obtain⟨k0,a5⟩:=j.qv T;have a2:m.s.an≠1-m.s.an:=by omega
 have A:∀{b:N} {x:iG},x∈(if b=1-m.s.an then[]else es b)->x∈es b/\b≠1-m.s.an:=by
  intro b x Q;split at Q
  ·cases Q
  ·exact⟨Q,by assumption⟩
 have P:∀{b off S d:N},ce (if b=1-m.s.an then[]else es b) off S d->ce (es b) off S d/\b≠1-m.s.an:=by
  intro b off S d Q;split at Q
  ·exact Q.none.elim
  ·exact⟨Q,by assumption⟩
 refine⟨k0,⟨.jR 0,t,false,n,g,an,none,q,λb=>if b=1-m.s.an then[]else es b,r,0⟩,⟨⟨⟨T,T⟩,T,hF,X.st,X.se,trivial,by simp only;omega⟩,h.kN,h.mB,h.jp.eG,?_,?_,?_,?_,λtt e=>(by cases e),λtt e=>(by cases e)⟩,eI rfl (by simp[R])⟩
 ·exact⟨c.l,c.fr,c.le,c.sx,c.an,c.bg,c.pd,c.uv,c.Ax,λb B e F=>c.jw b B e (A F).1,λb B e F=>c.oW b B e (A F).1,λb B e F=>c.oX b B e (A F).1⟩
 ·exact⟨λe=>(by cases e),λe=>(by cases e),z.Cp,z.Cc,λth e=>(by cases e),λ_ e F=>z.jw rfl e (A F).1,z.sw,z.wh,z.J4⟩
 ·refine⟨j.size,a1,λb B=>?_,λb B=>?_,Int.le_refl _,?_,λb B=>?_,λ_=>af T,λb B e F=>j.d5 b B e (A F).1,λ_=>⟨T,by simp[fu]⟩,λe=>(by cases e),?_,?_,?_,?_⟩
  ·simp only;split
   ·rfl
   ·exact j.u b B
  ·simp only;split
   ·simp[fu]
   ·exact j.le b B
  ·simp only;rw[aa a2];have:=j.room;rw[k0]at this;exact this
  ·simp only;split
   ·simp
   ·exact j.nd b B
  ·intro off S d F;simp only[bP]at F;exact F.none.elim
  ·intro th e hs;obtain⟨b,off,B,W,h4,G⟩:=j.an th e hs;have K:b=m.s.an:=by
    rcases G with G|G
    ·exact G.1
    ·rw[G.1]at W;have:=W.le;omega
   exact⟨b,off,B,by simp only;rw[aa (by omega)];exact W,h4,.inl ⟨K,λk e=>by cases e⟩⟩
  ·intro th e hs;obtain⟨b,off,B,W,h4,G⟩:=j.pd th e hs;have K:b=m.s.an:=by
    rcases G with G|G
    ·exact G
    ·cases G
   exact⟨b,off,B,by simp only;rw[aa (by omega)];exact W,h4,.inl K⟩
  ·intro hn _ e F;exact j.Jk hn T e (A F).1
 ·refine⟨H.len,H.fC,H.an,H.bg,H.write,H.born,λb off S d B F _=>?_⟩;obtain⟨F,a3⟩:=P F;rcases H.jw b off S d B F (.inl (by omega))with a|⟨-,k,a⟩|a
  ·exact .inl a
  ·cases a
  ·exact js a
theorem I4(h:dR E w m s y o ⟨.fin,t,f,n,g,an,bg,q,es,r,v⟩):(∀e∈m.s.en,0<=e.bh/\e.bh<=100000)/\iL E w s ⟨.fin,t,f,n,g,an,bg,q,es,r,v⟩ {m with s:={m.s with en:=m.s.en.map Ln.jX}} {y with aM:=7} o:=by
 obtain rfl:=h.mF T;obtain rfl:=h.mH T;have G:=h.gX;have S:=G.cY;have x:=h.jp.eG;simp only at G x;refine⟨λe B=>?_,⟨.serve,t,false,n,g,an,none,q,es,r,v⟩,⟨⟨⟨G.pos.1,T⟩,trivial,trivial,G.st,G.se,trivial,by simp only;omega⟩,h.kN,h.mB,?_,h.lw,h.ft,h.kQ,h.mem,λW e=>(by cases e),λW e=>(by cases e)⟩,eI rfl (by simp[R])⟩
 ·cases d:t.hH
  ·rw[(x.en d).1]at B;cases B
  ·obtain⟨o,A,F,P⟩:=x.op (kr d);obtain⟨X,K,H⟩:=F d;rw[K]at B;simp only[jr]at B;subst B;have:=H.JY;omega
 ·refine⟨x.aM,x.own,x.loc,?_,λd=>?_,x.sr,x.wn⟩
  ·intro Q;obtain⟨o,A,F,P⟩:=x.op Q;refine⟨o,A,λd=>?_,P⟩;obtain⟨e,B,u⟩:=F d;have z:=u.st;refine⟨Ln.jX e,by simp[B],⟨u.th,u.fr,u.sp,u.st,λj=>?_,?_,λj=>?_,λj=>u.LY j,λj=>u.cG j⟩⟩
   ·subst j;have A:=u.cy T;have F:=u.ka T;simp only[bW.sv,gx,and_false,bG,Bool.not_false,Bool.and_true]at A F z;simp only[Ln.jX,Ln.kU,z,A,F,bW.sv,and_true,gh];cases n<;>simp
   ·cases g
    ·have A:=u.cy T;simp only[bW.sv,gx,and_false,bG]at A;simp only[Ln.jX,A];split<;>omega
    ·simp only[bP]at z;have:Ln.kU e=false:=by simp[Ln.kU,z]
     simp only[Ln.jX,this,gx,and_false,bG];exact u.JY
   ·simp[Ln.jX,bW.sv]
  ·obtain⟨a,b,c⟩:=x.en d;exact⟨by simp[a],b,c⟩
