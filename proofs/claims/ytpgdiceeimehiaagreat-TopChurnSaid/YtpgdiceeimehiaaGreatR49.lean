/- Part 49 of the proof of spotop.TopChurn. -/
import Derived.Test.YtpgdiceeimehiaaGreatR27
import Derived.Test.YtpgdiceeimehiaaGreatR28
import Derived.Test.YtpgdiceeimehiaaGreatR35
import Derived.Test.YtpgdiceeimehiaaGreatR48
set_option maxRecDepth 100000
set_option maxHeartbeats 16000000
set_option linter.all false
open Go.Proofs.Tryz
namespace Go.Proofs.YtpgdiceeimehiaaGreat
open RowKit
namespace jH
open Ac (Vl dx Wr aA)
open fG (fF tb up)
structure qU(E:gb)(K:aW.Q)(b:Ac.B):Prop where
 ba:K.ba=E.ba
 bp:K.bp=E.bp
 ns:0<K.q.ns
 t:b.t=0
 ops:b.ops=E.Lq
section
variable{E:gb}{f:N}{w:Y}{K:aW.Q}{κ:N->N}{m a:aW.St}{b:Ac.B}{s s':Ac.St}{g j v:N}{y y':dw.St}{o:Pg}{F:dx}{p p':bW}{t t':gJ}{c beh' n nt' q gr':Bool}{an cur' bg B:Option Th}{es:N->List iG}{d tf':N->dq.dy}{A l l' i k kk:N}{G:Gh}
def CW(E:gb)(f:N)(K:aW.Q)(b:Ac.B)(j v g:N)(w:Y)(κ:N->N)(s:Ac.St)(G:Gh):Prop:=C 10 #[I j 0,J 0] w λe w'=>e=O (nX 0 false 0 0 0 (false,0,0))/\∃κ' a y' o',aG CM w κ w' κ'/\Mt w' E.c K κ' a b s g y' j v o'/\iL E f s G a y' o'
abbrev Mu(E:gb)(K:aW.Q)(b:Ac.B)(s:Ac.St)(g:N)(Q:aW.St->dw.St->Prop)(w1:Y)(κ1:N->N):Ending->Y->Prop:=dU w1 E.c K κ1 b s g (.tuple #[]) (λ_ _ a y'=>Q a y')
theorem gi(h:Mt w E.c K κ m b s g y j v o)(Q:aW.St->dw.St->Prop)(R:∀a y',Q a y'->iL E f s G a y' .no)
  (z:∀w1 e,fM w1 E.c K e m b s g y->C 24 #[I g 0,I K.kb 0] w1 (dU w1 E.c K e b s g (.tuple #[]) (λ_ _ a y'=>Q a y'))):CW E f K b j v g w κ s G:=by
 refine mi (λa y' X=>iL E f s G a y' X) w h (λw1 e P _=>(z w1 e P).mono ?_);rintro r w'⟨S,u,a,y',H,W,x⟩;exact⟨S,u,a,y',H,W,.no,trivial,R a y' x⟩
theorem dR.qe(h:dR E f m s y o G)(r:(∀t,G.p≠.trace t)/\∀t,G.p≠.cP t):dR E f m s y .no G:=by
 obtain⟨p,t,c,n,q,an,bg,B,es,d,A⟩:=G;have e:=h.gX;refine⟨⟨e.pos,e.ix,e.pA,e.st,e.se,?_,e.cY⟩,h.kN,h.mB,h.jp,h.lw,h.ft,h.kQ,h.mem,h.BM,h.qt⟩;have:=e.pg;simp only at this r ⊢;unfold Kd at this ⊢;cases p with
 | trace t=>exact absurd T (r.1 t)
 | cP t=>exact absurd T (r.2 t)
 | jZ=>exact this
 | _=>trivial
theorem Lh{y:dw.St}{i:N}(h:y.i=i):({y with i:=i}:dw.St)=y:=by subst h;rfl
theorem Hn(H:E.Ok){G:Gh}(h:dR E f m s y o G)(Q:0<=G.p.st/\G.p.st<=4)(P:i<E.Tq)(j:G.ib=true->i=0):∃z,m.bA[i]?=some z/\((G.ib=true/\i=(if(z==-1||z==m.st)=true then i+1 else i)/\decide (i=E.Tq)=false)\/(G.ib=false/\i+1<E.Tq/\i+1=(if(z==-1||z==m.st)=true then i+1 else i)/\decide (i+1=E.Tq)=false)\/(G.ib=false/\i+1=E.Tq/\i+1=(if(z==-1||z==m.st)=true then i+1 else i)/\decide (i+1=E.Tq)=true)):=by
 obtain⟨z,x,r⟩:=h.eN H Q P j;refine⟨z,x,?_⟩;cases u:G.ib
 ·rw[u]at r;by_cases e:i+1=E.Tq
  ·exact .inr (.inr ⟨T,e,(r _).2 (by simp),fN e⟩)
  ·exact .inr (.inl ⟨T,by omega,(r _).2 (by simp),dT e⟩)
 ·rw[u]at r;exact .inl ⟨T,(r _).2 (by simp),dT (by omega)⟩
theorem Km(h:dR E f m s y o ⟨.eN k i,t,c,n,q,an,bg,B,es,d,A⟩):c=true->i=0:=by
 intro e;have:=h.kN.mM e;cases i with
 | zero=>rfl
 | succ i=>cases this
theorem EF(e:E.Ok)(h:qU E K b):∀s∈K.ba,s.bs.length<=1000000:=by
 rw[h.ba];intro s r;have:=(e.eT s r).1;omega
theorem IA(Q:E.Ok)(h:Mt w E.c K κ m b s g y j v o)(P:dR E f m s y o ⟨.idle,t,c,n,q,an,bg,B,es,d,A⟩):CW E f K b j v g w κ s ⟨.idle,t,c,n,q,an,bg,B,es,d,A⟩:=by
 have e:=P.qe ⟨by simp,by simp⟩;have r:=P.gX.pos.1;cases u:(decide (0<m.s.en.countP Ln.kU)||decide ((Po.cY m.s.fr:V)<E.c.di)||m.s.cm)
 ·refine gi h (λa y'=>a=m/\y'=y) ?_ (λz H x=>nV z x r u);rintro a y'⟨rfl,rfl⟩;simp only[Bool.or_eq_false_iff]at u;exact FU e u.1.1
 ·refine gi h (λa y'=>a=m/\y'={y with dp:=1,aM:=0,i:=0}) ?_ (λz H x=>rA z x r u);rintro a y'⟨rfl,rfl⟩;exact Db e
theorem Kp(h:Mt w E.c K κ m b s g y j v o)(z:dR E f m s y o ⟨.Cm,t,c,n,q,an,bg,B,es,d,A⟩):CW E f K b j v g w κ s ⟨.Cm,t,c,n,q,an,bg,B,es,d,A⟩:=by
 have r:=z.qe ⟨by simp,by simp⟩;obtain⟨x,e⟩:=z.gX.pos;refine gi h _ ?_ (λP R H=>oS _ P H x (λQ _ u=>vl Q u e));rintro a y'⟨rfl,rfl⟩;exact Iv r
theorem IG(S:E.Ok)(hN:f<=1000000000)(h:Mt w E.c K κ m b s g y j v o)(R:dR E f m s y o ⟨.post k,t,c,n,q,an,bg,B,es,d,A⟩):CW E f K b j v g w κ s ⟨.post k,t,c,n,q,an,bg,B,es,d,A⟩:=by
 have u:=R.qe ⟨by simp,by simp⟩;obtain⟨x,r⟩:=R.gX.pos;have X:k<=4:=R.gX.pA;have hT:=S.T1;have W:=R.gX.cY
 match k,X with
 | 1,_ =>
  refine gi h _ ?_ (λH Q z=>oS _ H z x (λP _ e=>xk P e r (by omega)));rintro a y'⟨rfl,rfl⟩;exact Jx u (by omega)
 | 2,_ =>
  refine gi h _ ?_ (λH Q z=>kY _ H z x (λP _ e=>rL 2 3 P e r (by omega) (by omega)));rintro a y'⟨rfl,rfl⟩;exact Jy u (by omega)
 | 3,_ =>
  refine gi h _ ?_ (λH Q z=>lW _ H z x (λP _ e=>rL 3 4 P e r (by omega) (by omega)));rintro a y'⟨rfl,rfl⟩;exact Jz u
 | 4,_ =>
  refine gi h _ ?_ (λH Q z=>jL _ H z x (λP _ e=>yX P e r));rintro a y'⟨rfl,rfl⟩;exact JA u (by omega)
 | 0,_ =>
  refine gi h _ ?_ (λH Q z=>kZ _ H z x (λP _ e=>yi P e r));rintro a y'⟨rfl,rfl⟩;exact Jw u (by omega)
theorem IE(hE:E.Ok)(h:Mt w E.c K κ m b s g y j v o)(hi:dR E f m s y o ⟨.eN k i,t,c,n,q,an,bg,B,es,d,A⟩):CW E f K b j v g w κ s ⟨.eN k i,t,c,n,q,an,bg,B,es,d,A⟩:=by
 have H:=hi.qe ⟨by simp,by simp⟩;obtain⟨P,x⟩:=hi.gX.pos;obtain⟨hk,a4⟩:k<=4/\i<E.Tq:=hi.gX.pA;have hT:=hE.T1;have u:y.i=i:=hi.gX.ix;have a3:=Km hi;obtain⟨z,hz,a2⟩:=Hn hE hi (by simp only[bW.st];omega) a4 a3
 match k,hk with
 | 1,_ =>
  rcases a2 with⟨e,Q,R⟩|⟨e,e0,Q,R⟩|⟨e,e0,Q,R⟩
  ·refine gi h _ ?_ (λW a1 S=>kY _ W S P (λX _ r=>oZ 2 3 X r x i i E.Tq z u hE.Tq hz Q (by omega) R));rintro a y'⟨rfl,rfl⟩;simp only at e;subst e;rw[Lh u];exact lG H
  ·refine gi h _ ?_ (λW a1 S=>kY _ W S P (λX _ r=>oZ 2 3 X r x i (i+1) E.Tq z u hE.Tq hz Q (by omega) R));rintro a y'⟨rfl,rfl⟩;exact px H e e0 hT.2 (by omega)
  ·refine gi h _ ?_ (λW a1 S=>kY _ W S P (λX _ r=>tI 2 3 X r x i (i+1) E.Tq z u hE.Tq hz Q (by omega) R));rintro a y'⟨rfl,rfl⟩;simp only at e;subst e;exact tQ H (by omega) (.inl T) _
 | 2,_ =>
  rcases a2 with⟨e,Q,R⟩|⟨e,e0,Q,R⟩|⟨e,e0,Q,R⟩
  ·refine gi h _ ?_ (λW a1 S=>lW _ W S P (λX _ r=>oZ 3 4 X r x i i E.Tq z u hE.Tq hz Q (by omega) R));rintro a y'⟨rfl,rfl⟩;simp only at e;subst e;rw[Lh u];exact lG H
  ·refine gi h _ ?_ (λW a1 S=>lW _ W S P (λX _ r=>oZ 3 4 X r x i (i+1) E.Tq z u hE.Tq hz Q (by omega) R));rintro a y'⟨rfl,rfl⟩;exact px H e e0 hT.2 (by omega)
  ·refine gi h _ ?_ (λW a1 S=>lW _ W S P (λX _ r=>tI 3 4 X r x i (i+1) E.Tq z u hE.Tq hz Q (by omega) R));rintro a y'⟨rfl,rfl⟩;simp only at e;subst e;exact tQ H (by omega) (.inr T) _
 | 3,_ =>
  rcases a2 with⟨e,Q,R⟩|⟨e,e0,Q,R⟩|⟨e,e0,Q,R⟩
  ·refine gi h _ ?_ (λW a1 S=>hQ _ W S P (λX _ r=>nh X r x i i E.Tq E.g z u hE.Tq hz Q (by omega) R hE.g));rintro a y'⟨rfl,rfl⟩;simp only at e;subst e;rw[Lh u];exact lG H
  ·refine gi h _ ?_ (λW a1 S=>hQ _ W S P (λX _ r=>nh X r x i (i+1) E.Tq E.g z u hE.Tq hz Q (by omega) R hE.g));rintro a y'⟨rfl,rfl⟩;exact px H e e0 hT.2 (by omega)
  ·refine gi h _ ?_ (λW a1 S=>hQ _ W S P (λX _ r=>qO X r x i (i+1) E.Tq E.g z u hE.Tq hz Q (by omega) R hE.g));rintro a y'⟨rfl,rfl⟩;simp only at e;subst e;exact sA H hT.2 (.inr ⟨i,T⟩)
 | 4,_ =>
  rcases a2 with⟨e,Q,R⟩|⟨e,e0,Q,R⟩|⟨e,e0,Q,R⟩
  ·refine gi h _ ?_ (λW a1 S=>jL _ W S P (λX _ r=>xv X r x i i E.Tq z u hE.Tq hz Q (by omega) R));rintro a y'⟨rfl,rfl⟩;simp only at e;subst e;rw[Lh u];exact lG H
  ·refine gi h _ ?_ (λW a1 S=>jL _ W S P (λX _ r=>xv X r x i (i+1) E.Tq z u hE.Tq hz Q (by omega) R));rintro a y'⟨rfl,rfl⟩;exact px H e e0 hT.2 (by omega)
  ·refine gi h _ ?_ (λW a1 S=>jL _ W S P (λX _ r=>BA X r x i (i+1) E.Tq z u hE.Tq hz Q (by omega) R));rintro a y'⟨rfl,rfl⟩;simp only at e;subst e;exact Bj H (by omega)
 | 0,_ =>
  rcases a2 with⟨e,Q,R⟩|⟨e,e0,Q,R⟩|⟨e,e0,Q,R⟩
  ·refine gi h _ ?_ (λW a1 S=>jE _ W S P (λX _ r=>sF X r x i i E.Tq z u hE.Tq hz Q (by omega) R));rintro a y'⟨rfl,rfl⟩;simp only at e;subst e;rw[Lh u];exact lG H
  ·refine gi h _ ?_ (λW a1 S=>jE _ W S P (λX _ r=>sF X r x i (i+1) E.Tq z u hE.Tq hz Q (by omega) R));rintro a y'⟨rfl,rfl⟩;exact px H e e0 hT.2 (by omega)
  ·refine gi h _ ?_ (λW a1 S=>jE _ W S P (λX _ r=>xd X r x i (i+1) E.Tq z u hE.Tq hz Q (by omega) R));rintro a y'⟨rfl,rfl⟩;simp only at e;subst e;exact uW H (by omega) _
theorem Iy(u:E.Ok)(h:Mt w E.c K κ m b s g y j v o)(hi:dR E f m s y o ⟨.fC i,t,c,n,q,an,bg,B,es,d,A⟩):CW E f K b j v g w κ s ⟨.fC i,t,c,n,q,an,bg,B,es,d,A⟩:=by
 have H:=hi.qe ⟨by simp,by simp⟩;obtain⟨P,x⟩:=hi.gX.pos;have a3:i<=E.g:=hi.gX.pA;have hT:=u.T1;have a2:=u.g8;have Q:y.i=i:=hi.gX.ix;by_cases S:i<E.g
 ·refine gi h _ ?_ (λX a1 W=>hQ _ X W P (λw2 _ e=>yI i E.g (8*E.F+2*E.S+i) w2 e x Q u.g S (by rw[u.F,u.S];push_cast;omega) (hi.mem.fC i S)));rintro a y'⟨rfl,rfl⟩;exact FL H S a2
 ·obtain rfl:i=E.g:=by omega
  obtain⟨z,hz,R⟩:=Hn (i:=0) u hi (by simp[bW.st]) (by omega) (λ_=>T);rcases R with⟨r,e1,e2⟩|⟨r,e0,e1,e2⟩|⟨r,e0,e1,e2⟩
  ·refine gi h _ ?_ (λX a1 W=>hQ _ X W P (λw2 _ e=>ng w2 e x 0 E.Tq E.g z Q u.Tq hz e1 (by omega) e2 u.g));rintro a y'⟨rfl,rfl⟩;exact tH H (by omega) 0 (by omega) (λ_=>T)
  ·refine gi h _ ?_ (λX a1 W=>hQ _ X W P (λw2 _ e=>ng w2 e x (0+1) E.Tq E.g z Q u.Tq hz e1 (by omega) e2 u.g));rintro a y'⟨rfl,rfl⟩;simp only at r;subst r;exact tH H (by omega) (0+1) e0 (by simp)
  ·refine gi h _ ?_ (λX a1 W=>hQ _ X W P (λw2 _ e=>qN w2 e x (0+1) E.Tq E.g z Q u.Tq hz e1 (by omega) e2 u.g));rintro a y'⟨rfl,rfl⟩;simp only at r;subst r;exact sA H hT.2 (.inl ⟨_,T⟩)
theorem IB(h:Mt w E.c K κ m b s g y j v o)(r:dR E f m s y o ⟨.cb,t,c,n,q,an,bg,B,es,d,A⟩):CW E f K b j v g w κ s ⟨.cb,t,c,n,q,an,bg,B,es,d,A⟩:=by
 have u:=r.qe ⟨by simp,by simp⟩;obtain⟨z,e⟩:=r.gX.pos;refine gi h _ ?_ (λP R H=>la _ P H z (λQ _ x=>yq Q x e r.mB.cb));rintro a y'⟨rfl,rfl⟩;exact Gf u
theorem IH(h:Mt w E.c K κ m b s g y j v o)(H:dR E f m s y o ⟨.qS,t,c,n,q,an,bg,B,es,d,A⟩):CW E f K b j v g w κ s ⟨.qS,t,c,n,q,an,bg,B,es,d,A⟩:=by
 have u:=H.qe ⟨by simp,by simp⟩;obtain⟨z,e⟩:=H.gX.pos;obtain⟨Q,r⟩:=GV u;refine gi h _ ?_ (λR W P=>jL _ R P z (λS _ x=>yY S x e Q));rintro a y'⟨rfl,rfl⟩;exact r
theorem Ix(P:E.Ok)(h:Mt w E.c K κ m b s g y j v o)(H:dR E f m s y o ⟨.done,t,c,n,q,an,bg,B,es,d,A⟩):CW E f K b j v g w κ s ⟨.done,t,c,n,q,an,bg,B,es,d,A⟩:=by
 have u:=H.qe ⟨by simp,by simp⟩;obtain⟨z,e⟩:=H.gX.pos;obtain⟨R,r⟩:=FD u (by have:=P.F4;omega);refine gi h _ ?_ (λS X Q=>jE _ S Q z (λW _ x=>vi W x e R));rintro a y'⟨rfl,rfl⟩;exact r
theorem Kr(h:Mt w E.c K κ m b s g y j v o)(H:dR E f m s y o ⟨.fin,t,c,n,q,an,bg,B,es,d,A⟩):CW E f K b j v g w κ s ⟨.fin,t,c,n,q,an,bg,B,es,d,A⟩:=by
 have u:=H.qe ⟨by simp,by simp⟩;obtain⟨z,e⟩:=H.gX.pos;obtain⟨Q,r⟩:=I4 u;refine gi h _ ?_ (λR W P=>kh _ R P z (λS _ x=>yQ S x e Q));rintro a y'⟨rfl,rfl⟩;exact r
theorem Fx(hE:E.Ok)(h:Mt w E.c K κ m b s g y j v o)(hi:dR E f m s y o ⟨.jR i,t,c,n,q,an,bg,B,es,d,A⟩):CW E f K b j v g w κ s ⟨.jR i,t,c,n,q,an,bg,B,es,d,A⟩:=by
 have a3:=hi.qe ⟨by simp,by simp⟩;obtain⟨W,a5⟩:=hi.gX.pos;have H:y.i=i:=hi.gX.ix;have a1:i<E.F:=hi.gX.pA;have S:=EE hE a3;have X:=hi.lw;simp only at X;have hl:m.s.l[i]?=some (d i):=by rw[X.l,fG.iq a1]
 have a4:=hE.BG;have hF:=hE.F;by_cases hw:(d i).st=2/\(d i).ah≠y.ah
 ·have a2:m.s.fr[i]?=some false:=by rw[X.fr,fG.iq a1];simp[hw.1]
  have hS:lR m.s d y.ah i={m.s with l:=m.s.l.set i ⟨0,false,false⟩,fr:=m.s.fr.set i true}:=by unfold lR;rw[af hw]
  have R:∀x u,aW.At x E.c K u m->C 114 #[I K.q.sp 0,J y.i,L y.ah] x λe w'=>e=O (L true)/\∃z a,aG aW.C5 x u w' z/\aW.At w' E.c K z a/\a={m with s:=lR m.s d y.ah i}:=λx u Q=>by
   rw[H,hS];refine(aW.ql i (d i) y.ah x Q hl hw.1 hw.2 a2).mono ?_;rintro e w'⟨he,z,h1,h2⟩;exact⟨he,z,_,h1,h2,T⟩
  by_cases r:i+1=E.F
  ·refine gi h _ ?_ (λx u Q=>ki _ x Q W (λw2 _ P=>qR (λa=>a={m with s:=lR m.s d y.ah i}) w2 P (by rw[H,hF];exact_mod_cast r) (by omega) R));rintro a y'⟨rfl,rfl⟩;have:Bv E i y={y with dp:=10,aM:=0,i:=0}:=by unfold Bv;rw[af r]
   rw[<-this];exact S
  ·refine gi h _ ?_ (λx u Q=>ki _ x Q W (λw2 _ P=>yU (λa=>a={m with s:=lR m.s d y.ah i}) w2 P (by rw[H,hF];omega) (by omega) R));rintro a y'⟨rfl,rfl⟩;have:Bv E i y={y with i:=y.i+1}:=by unfold Bv;rw[aa r,H]
   rw[<-this];exact S
 ·have hS:lR m.s d y.ah i=m.s:=by unfold lR;rw[aa hw]
  have R:∀x u,aW.At x E.c K u m->C 114 #[I K.q.sp 0,J y.i,L y.ah] x λe w'=>e=O (L false)/\∃z a,aG aW.C5 x u w' z/\aW.At w' E.c K z a/\a={m with s:=lR m.s d y.ah i}:=λx u Q=>by
   rw[H,hS];refine(aW.sN i (d i) y.ah x Q hl (λe=>by
    by_cases e2:(d i).ah=y.ah
    ·exact e2
    ·exact absurd ⟨e,e2⟩ hw)).mono ?_
   rintro e w'⟨he,z,h1,h2⟩;exact⟨he,z,_,h1,h2,T⟩
  by_cases r:i+1=E.F
  ·refine gi h _ ?_ (λx u Q=>ki _ x Q W (λw2 _ P=>sO (λa=>a={m with s:=lR m.s d y.ah i}) w2 P (by rw[H,hF];exact_mod_cast r) (by omega) R));rintro a y'⟨rfl,rfl⟩;have:Bv E i y={y with dp:=10,aM:=0,i:=0}:=by unfold Bv;rw[af r]
   rw[<-this];exact S
  ·refine gi h _ ?_ (λx u Q=>ki _ x Q W (λw2 _ P=>Bw (λa=>a={m with s:=lR m.s d y.ah i}) w2 P (by rw[H,hF];omega) (by omega) R));rintro a y'⟨rfl,rfl⟩;have:Bv E i y={y with i:=y.i+1}:=by unfold Bv;rw[aa r,H]
   rw[<-this];exact S
theorem KR(h:∀e∈m.s.en,Ln.kU e=false):Ln.te Ln.kU m.s.en=-1:=by
 unfold Ln.te;rw[aa];rw[List.findIdx_lt_length];rintro⟨x,u,r⟩;rw[h x u]at r;cases r
theorem Fw(hE:E.Ok)(hN:f<=1000000000)(h:Mt w E.c K κ m b s g y j v o)(hi:dR E f m s y o ⟨.serve,t,c,n,q,an,bg,B,es,d,A⟩):CW E f K b j v g w κ s ⟨.serve,t,c,n,q,an,bg,B,es,d,A⟩:=by
 have a3:=hi.qe ⟨by simp,by simp⟩;obtain⟨a4,a2⟩:=hi.gX.pos;have b8:=hi.gX.cY;have ht:=hi.jp;have a5:=hi.lw;have b0:=hi.kQ;simp only at ht a5 b0;have b5:m.s.fr.length=m.s.l.length:=by rw[a5.fr,a5.l,fG.iK,fG.iK]
 have P:(∀e∈m.s.en,Ln.kU e=false)->(t.hH=true->q=false->n=false)->CW E f K b j v g w κ s ⟨.serve,t,c,n,q,an,bg,B,es,d,A⟩:=by
  intro r b6;refine gi h _ ?_ (λw1 b2 hm=>kh _ w1 hm a4 (λw2 _ z=>qE (λa=>a=m) w2 z a2 (by omega) (λw3 b3 H=>?_)))
  ·rintro a y'⟨rfl,rfl⟩;exact sD a3 b6
  ·refine(aW.ox y.ah w3 H (KR r)).mono ?_;rintro e w'⟨r,R,S,h2⟩;exact⟨r,R,_,S,h2,T⟩
 cases Q:t.hH
 ·exact P (by rw[(ht.en Q).1];intro e r;cases r) (λe=>by rw[Q]at e;cases e)
 ·obtain⟨F,S,h2,-⟩:=ht.op (kr Q);obtain⟨e,r,hw⟩:=h2 Q;cases a7:q
  ·subst a7;have a1:e.bE=0:=hw.st;have W:F∈E.Lq:=cZ S;have a9:=hE.op _ W;have a8:=a9.DD;have X:fE E.ba F<=1024:=by have:=a9.CP;have:=hE.BG;omega
   cases x:Sp.gY m.s (fE E.ba F) (jT E.ba F)
   ·have b7:n=false:=by
     cases n
     ·rfl
     ·have:=yP hE hi W;rw[x]at this;cases this
    have b4:e.bh<2:=by have:=hw.JY;omega
    refine gi h _ ?_ (λw1 b2 hm=>kh _ w1 hm a4 (λw2 _ z=>qE (λa=>a=m) w2 z a2 (by omega) (λw3 b3 H=>?_)))
    ·rintro a y'⟨rfl,rfl⟩;exact sD a3 (λ_ _=>b7)
    ·refine(aW.oy e (fE E.ba F) (jT E.ba F) y.ah w3 H a8 X r a1 hw.fr hw.sp b4 x).mono ?_;rintro e w'⟨r,R,S,h2⟩;exact⟨r,R,_,S,h2,T⟩
   ·refine gi h _ ?_ (λw1 b2 hm=>kh _ w1 hm a4 (λw2 _ z=>xa (λa=>∃gv,a={m with s:={m.s with l:=Sp.de m.s.l (Po.take m.s.fr (fE E.ba F)) 2 y.ah,fr:=Po.off m.s.fr (Po.take m.s.fr (fE E.ba F)),u:=Sp.uX m.s (fE E.ba F) (jT E.ba F),en:=[Ln.granted e gv (Po.aI (Po.take m.s.fr (fE E.ba F))) (Sp.vF E.c m.s (fE E.ba F) (jT E.ba F))]}}) w2 z a2 (λw3 b3 H=>?_)))
    ·rintro a y'⟨⟨gv,rfl⟩,rfl⟩;exact lJ hE a3 Q T S r x
    ·refine(aW.lJ e (fE E.ba F) (jT E.ba F) y.ah w3 H a8 X r a1 hw.fr hw.sp x (by rw[b0.size,hE.S]) b5).mono ?_;rintro e w'⟨r,gv,R,S,h2⟩;exact⟨r,R,_,S,h2,gv,T⟩
  ·subst a7;have b1:e.bE=1:=hw.st;exact P (by rw[r];intro e' a6;simp only[jr]at a6;subst a6;simp[Ln.kU,b1]) (λ_ e=>by cases e)
end
end jH
namespace jH
open Ac (Vl dx Wr aA)
open fG (fF tb up)
open Tr (oD jV jx gu ou jW)
section
variable{E:gb}{z:N}{w:Y}{K:aW.Q}{κ:N->N}{m c:aW.St}{b:Ac.B}{s s':Ac.St}{S P R:N}{y y':dw.St}{o:Pg}{od:dx}{p p':bW}{t t':gJ}{g beh' F nt' B gr':Bool}{an cur' bg H:Option Th}{es:N->List iG}{u tf':N->dq.dy}{A l l' i k kk:N}{G:Gh}{th:Th}{a:Tr.St}
theorem IC(hE:E.Ok)(hK:qU E K b)(h:Mt w E.c K κ m b s S y P R o){Q:Bool}(X:dR E z m s y o ⟨.mark Q,t,g,F,B,an,bg,H,es,u,A⟩):CW E z K b P R S w κ s ⟨.mark Q,t,g,F,B,an,bg,H,es,u,A⟩:=by
 have f:=X.qe ⟨by simp,by simp⟩;obtain⟨j,e⟩:=X.gX.pos;have q:=X.mB;simp only at q;cases Q
 ·have x:m.xs=[]:=q.xs;refine gi h _ ?_ (λw1 a2 hm=>la _ w1 hm j (λw2 _ d=>yt w2 d e x));rintro c y'⟨rfl,rfl⟩;exact AY f
 ·obtain⟨th,rfl⟩:∃th,bg=some th:=by
   cases bg with
   | none=>exact absurd T (q.mark T)
   | some th=>exact⟨th,T⟩
  have x:m.xs=[]++[(th.hd:V)]:=q.xs;refine mi (λc y' o'=>iL E z s ⟨.mark true,t,g,F,B,an,some th,H,es,u,A⟩ c y' o') w h (λw1 a2 hm _=>la _ w1 hm j (λw2 _ d=>(yr [] th.hd w2 d e x (EF hE hK)).mono ?_));rintro r w'⟨hr,a1,c,y',he,hy,⟨a3,rfl⟩,xb,v,sh,rfl,n,W⟩;exact⟨hr,a1,_,_,he,hy,.tr _,⟨xb,v,sh,T,.of n,W⟩,AX f x⟩
theorem EN(h:Mt w E.c K κ m b s S y P R (.tr a))(hi:dR E z m s y (.tr a) ⟨.trace a,t,g,F,B,an,some th,H,es,u,A⟩)(Q:Tr.St->Prop)(S':Sp.St)(a4:a.pc≠9)
  (hd:∀w3 a6 e v sh,alike K.ba sh->iZ w3 E.c K a6 m b s e v sh a->C 223 #[I e 0,I K.mb 0,I K.sb 0] w3 (jI w3 E.c K a6 b s e v sh true (λc t'=>c={m with s:=S'}/\Q t')))
  (d:(∀t',Q t'->t'.pc=9/\iL E z s ⟨.trace a,t,g,F,B,an,some th,H,es,u,A⟩ {m with s:=S'} {y with aM:=0} (.tr t'))\/(∀t',Q t'->t'.pc≠9/\iL E z s ⟨.trace a,t,g,F,B,an,some th,H,es,u,A⟩ {m with s:=S'} y (.tr t'))) :
  CW E z K b P R S w κ s ⟨.trace a,t,g,F,B,an,some th,H,es,u,A⟩:=by
 obtain⟨a9,a3⟩:=hi.gX.pos;refine mi (λc y' o'=>iL E z s ⟨.trace a,t,g,F,B,an,some th,H,es,u,A⟩ c y' o') w h (λw1 a5 hm a8=>la _ w1 hm a9 (λw2 a7 n=>?_));obtain⟨e,v,sh,hp,b0,f⟩:=a8.ext a7 (λx hx=>by omega);have j:=b0.to n.bU;rcases d with d|d
 ·refine(pZ e v sh a (λc t'=>c={m with s:=S'}/\Q t') w2 n a3 j hp (λw3 X=>Hy true _ w3 X a4 (λw4 a1=>hd w4 a5 e v sh f a1) (λc t' q=>by rw[(d t' q.2).1];rfl))).mono ?_;rintro r w'⟨hr,a2,c,y',he,hy,rfl,t',W,rfl,q⟩;exact⟨hr,a2,_,_,he,hy,.tr t',⟨e,v,sh,hp,.of W,f⟩,(d t' q).2⟩
 ·refine(pj e v sh a (λc t'=>c={m with s:=S'}/\Q t') w2 n a3 j hp (λw3 X=>Hy false _ w3 X a4 (λw4 a1=>hd w4 a5 e v sh f a1) (λc t' q=>by simpa using(d t' q.2).1))).mono ?_;rintro r w'⟨hr,a2,c,y',he,hy,rfl,t',W,rfl,q⟩;exact⟨hr,a2,_,_,he,hy,.tr t',⟨e,v,sh,hp,.of W,f⟩,(d t' q).2⟩
theorem fD{q:Y}{e:N->N}{x:N}{v:Value}{sh:List Sh}{d:Bool}{Q j:aW.St->Tr.St->Prop}{r:Ending}{n:Y}(hq:∀c t',Q c t'->j c t')(h:jI q E.c K e b s x v sh d Q r n):jI q E.c K e b s x v sh d j r n:=by
 obtain⟨hr,f,c,t',X,ht,W⟩:=h;exact⟨hr,f,c,t',X,ht,hq c t' W⟩
theorem EM(v:E.Ok)(h:dR E z m s y o ⟨.trace a,t,g,F,B,an,bg,H,es,u,A⟩):∃th,bg=some th/\xQ E y.ah u th a/\ie E th/\(∀f∈th.fs,(u f).st=2/\f<E.F/\m.s.l[f]?=some (u f))/\TM E m.am th/\(u th.hd).ah=y.ah:=by
 obtain⟨th,e,q⟩:=h.BM a T;have d:=h.lw;simp only at d e;obtain⟨j,r,-⟩:=d.bg th e;exact⟨th,e,q,j,λf n=>⟨r f n,j.lt f n,by rw[d.l,fG.iq (j.lt f n)]⟩,h.mem.bg th e,(h.ft.bg th e).1⟩
theorem mn{bs:List Bool}{j:N}(h:bs.length<=40):(gu bs j bs.length).length<=40:=aF (Tr.sy bs j bs.length) h
theorem Fy(hE:E.Ok)(hK:qU E K b)(h:Mt w E.c K κ m b s S y P R o)(hi:dR E z m s y o ⟨.trace a,t,g,F,B,an,bg,H,es,u,A⟩):CW E z K b P R S w κ s ⟨.trace a,t,g,F,B,an,bg,H,es,u,A⟩:=by
 have l8:o=.tr a:=hi.gX.pg;subst l8;obtain⟨th,rfl,l9,e0,j0,h9,g6⟩:=EM hE hi;have hz:=e0.sz hE;have j7:=hE.op _ e0.op;obtain⟨kd,s0,hs⟩:=j7.sh hE;have m9:=hs.KS;have l5:th.o.b.toNat=kd:=by rw[hs.b];simp
 have hF:=hE.F;have m7:=hE.BG;have n0:=hE.S2;have c7:∀{x:N},x∈th.fs->(x:V)<E.c.ag:=λhx=>by have:=(j0 _ hx).2.1;omega
 obtain⟨d,a1,a3⟩:=l9;obtain⟨md,m5,m6,h2⟩:=h9.head;rw[l5]at h2;have c8:∀{j x:N},th.fs[j]?=some x->x∈th.fs:=λhj=>cZ hj;have c4:∀(Q:Tr.St->Prop),Cb E y.ah u th (tz a) Q->a.pc≠9->(∀w3 a5 xb v sh,alike K.ba sh->iZ w3 E.c K a5 m b s xb v sh a->C 223 #[I xb 0,I K.mb 0,I K.sb 0] w3 (jI w3 E.c K a5 b s xb v sh true (λc t'=>c={m with s:=m.s}/\Q t')))->CW E z K b P R S w κ s ⟨.trace a,t,g,F,B,an,some th,H,es,u,A⟩:=λQ hq W hd=>EN h hi Q m.s W hd (xt (tr':=y.tr) hi none (λx e=>(by cases e)) u rfl rfl Q hq);have e9:∀(Q:Tr.St->Prop) (f:N),f∈th.fs->Cb E y.ah (up u f {u f with ah:=y.ah}) th (tz a) Q->a.pc≠9->(∀w3 a5 xb v sh,alike K.ba sh->iZ w3 E.c K a5 m b s xb v sh a->C 223 #[I xb 0,I K.mb 0,I K.sb 0] w3 (jI w3 E.c K a5 b s xb v sh true (λc t'=>c={m with s:={m.s with l:=m.s.l.set f {u f with ah:=y.ah}}}/\Q t')))->CW E z K b P R S w κ s ⟨.trace a,t,g,F,B,an,some th,H,es,u,A⟩:=λQ f hf hq W hd=>EN h hi Q _ W hd (xt (tr':=y.tr) hi (some f) (λx e=>(by injection e with e;subst e;exact hf)) _ T T Q hq);rcases a3 with⟨W,hj,l3,b7⟩|⟨hk,X,a8,b7,b4,a3⟩|⟨hk,X,a8,a3⟩
 ·
  rcases j7.aE with hk|hk
  ·have ha:s0.a=false:=by rw[hs.a,hk];rfl
   refine c4 (λt'=>∃a6 a4,t'=oD {({a with jY:=false,bs:=s0.bs}:Tr.St)with rv:=a6,wv:=a4,am:=gu s0.bs a.j s0.bs.length}) ?_ (by omega) (λw3 a5 xb v sh a9 a2=>?_)
   ·refine yg hz hE e0 hk (gu s0.bs a.j s0.bs.length) {a with jY:=false,bs:=s0.bs} ⟨d,a1,rfl,hs.bs.symm,b7⟩ (by simp only;rw[hj,l3];exact hz.J0) (wX _ _ _ (ci _)) (mn hs.eT) (λi x b6 hx=>?_) ?_
    ·simp only at b6;obtain rfl:i=0:=by omega
     rw[hz.J0]at hx;injection hx with hx;rw[<-hx];exact g6
    ·have:=mn (j:=a.j) hs.eT;unfold tz;rw[af W];simp only[hj]at this ⊢;omega
   ·obtain⟨s1,g1,g2,g3⟩:=Vw.kq a9 (by rw[hK.ba];exact hs.aM);rw[ha]at g2;refine(rD kd md s1 w3 a2 W (by rw[d];exact c7 hz.kV) (by rw[d];exact h2) g1 g2 m5 (by omega) (by rw[g3];exact hs.eT) (by omega) (by omega)).mono λr w' hr=>fD ?_ hr;rintro c t'⟨rfl,a6,a4,rfl⟩;rw[g3];exact⟨T,a6,a4,T⟩
  ·have ha:s0.a=true:=by rw[hs.a,hk];rfl
   have e5:=m6 hk;subst e5;refine c4 (λt'=>∃a6,t'={a with jY:=true,rv:=a6,bs:=s0.bs,pc:=5}) ?_ (by omega) (λw3 a5 xb v sh a9 a2=>?_)
   ·right;rintro t'⟨a6,rfl⟩;refine⟨by simp,⟨d,a1,.inr (.inr ⟨hk,T,hs.bs.symm,.inl ⟨T,hj,b7⟩⟩)⟩,?_⟩;unfold tz;simp[W]
   ·obtain⟨s1,g1,g2,g3⟩:=Vw.kq a9 (by rw[hK.ba];exact hs.aM);rw[ha]at g2;refine(rC kd s1 w3 a2 W (by rw[d];exact c7 hz.kV) (by rw[d];exact h2) g1 g2 (by omega) (by rw[g3];exact hs.eT)).mono λr w' hr=>fD ?_ hr;rintro c t'⟨rfl,a6,rfl⟩;rw[g3];exact⟨T,a6,T⟩
 ·
  have ho:=h9.ob hk;have h6:=Gt hE e0 hk;have e3:a.bs.length<=40:=by rw[a8,hs.bs];exact hs.eT
  have n6:=wm b4;have e4:=c8 b4;have g9:=c7 e4;have e7:Fe a:=⟨by omega,by omega,by omega⟩;rcases a3 with⟨W,g7,g0,g4,b8⟩|⟨W,g7,l4,b8⟩|⟨W,b8⟩
  ·obtain⟨x,l,c3⟩:=eS g7;obtain⟨k,h3,h4,j5⟩:=g4 x (by rw[c3];simp);obtain⟨pp,j8,l7⟩:=Pl.jB k;have m4:x=(pp:V):=by rw[j5,j8]
   have j1:m.am[8*a.fP+pp]?=some bD:=by
    have:=ho.refs k a.fP (by rw[<-a8];exact h3) (by rw[h4];exact b4);rw[j8]at this;exact this
   refine c4 (λt'=>∃a6 a4,t'=oD {a with rv:=a6,wv:=a4,am:=l}) ?_ (by omega) (λw3 a5 xb v sh a9 a2=>?_)
   ·refine yg hz hE e0 hk l a ⟨d,a1,X,a8,b7⟩ b4 (λx hx=>g4 x (by rw[c3];simp[hx])) (by rw[c3]at g0;simp only[bu]at g0;omega) b8 ?_;unfold tz;rw[aa (by omega),af X,aa (by omega),af W,c3];simp only[bu];omega
   ·refine(kH true _ w3 a2 (.inl W) (sU pp l w3 a2 W (by rw[c3,m4]) l7 g9 j1 e7)).mono λr w' hr=>fD ?_ hr;rintro c t'⟨rfl,a4,rfl⟩;exact⟨T,a.rv,a4,T⟩
  ·obtain⟨i,c5⟩:∃i,th.fs[a.j+1]?=some i:=⟨_,cR l4⟩;refine c4 (λt'=>t'={a with fP:=i,j:=a.j+1,pc:=4}) ?_ (by omega) (λw3 a5 xb v sh a9 a2=>?_)
   ·right;rintro t' rfl;refine⟨by simp,⟨d,a1,.inr (.inl ⟨hk,X,a8,b7,c5,.inr (.inr ⟨T,λi x b6 hx=>b8 i x (by simp only at b6;omega) hx⟩)⟩)⟩,?_⟩;unfold tz;simp[W,X];omega
   ·refine(kH true _ w3 a2 (.inr (.inl W)) (za i w3 a2 W g9 (ho.Gd a.j a.fP i b4 c5) (c7 (c8 c5)) (by omega))).mono λr w' hr=>fD ?_ hr;rintro c t'⟨rfl,rfl⟩;exact⟨T,T⟩
  ·obtain⟨u1,u2,u3⟩:=j0 a.fP e4;have h7:jW a=gu a.bs a.j a.bs.length:=by unfold jW;rw[aa (by rw[X];simp)]
   have hu:=sR (f:=u) (j:=a.fP) (b:=y.ah);refine e9 (λt'=>∃a6 a4,t'=oD {a with rv:=a6,wv:=a4,am:=jW a}) a.fP e4 ?_ (by omega) (λw3 a5 xb v sh a9 a2=>?_)
   ·rw[h7];refine yg hz hE e0 hk _ a ⟨d,a1,X,a8,b7⟩ b4 (wX _ _ _ (ci _)) (mn e3) (λi x b6 hx=>?_) ?_
    ·rw[(hu x).2.2];split
     ·rfl
     ·by_cases e:i=a.j
      ·subst e;rw[b4]at hx;injection hx with hx;rename_i h5;exact absurd hx.symm h5
      ·exact b8 i x (by omega) hx
    ·have:=mn (j:=a.j) e3;unfold tz;rw[aa (by omega),af X,af W];omega
   ·refine(kH true _ w3 a2 (js W) (sV (u a.fP) w3 a2 W u3 u1 (.inl ⟨X,e3⟩) e7)).mono λr w' hr=>fD ?_ hr;rintro c t'⟨rfl,a4,rfl⟩;rw[a1];exact⟨T,a.rv,a4,T⟩
 ·
  obtain⟨hn,l6,hd,hl⟩:=hz.jY hk;obtain⟨b0,j9,ha⟩:=h9.ar hk;have e6:a.bs=[b0]:=by rw[a8,j9]
  have e8:=c7 hz.kV;have m8:=hz.eT;have g5:bX (th.o.n.toNat:V)=(th.d:V):=ha.dd;rcases a3 with⟨W,hj,b7⟩|⟨c6,c2,a3⟩
  ·refine c4 (λt'=>t'={a with n:=th.o.n.toNat,pc:=if th.o.n.toNat=0 then 9 else 6}) ?_ (by omega) (λw3 a5 xb v sh a9 a2=>?_)
   ·by_cases e:th.o.n.toNat=0
    ·left;rintro t' rfl;rw[af e];refine⟨T,λx hx=>?_⟩;have n3:th.d=0:=by rw[e]at g5;simp[bX]at g5;omega
     obtain⟨i,b6,rfl⟩:=List.getElem_of_mem hx;obtain rfl:i=0:=by omega
     have:=hz.J0;rw[cR b6]at this;injection this with this;rw[this];exact g6
    ·right;rintro t' rfl;rw[aa e];refine⟨by simp,⟨d,a1,.inr (.inr ⟨hk,X,a8,.inr ⟨T,by simp only;omega,.inl ⟨T,hj,b7⟩⟩⟩)⟩,?_⟩;unfold tz;simp[W,X]
   ·refine(jv true _ w3 a2 (.inl W) (ug th.o.n.toNat w3 a2 W (by rw[d];exact e8) (by rw[d];exact ha.length) l6)).mono λr w' hr=>fD ?_ hr;rintro c t'⟨rfl,rfl⟩;exact⟨T,T⟩
  ·have n4:1<=th.d:=by
    have:1<=bX (th.o.n.toNat:V):=by unfold bX;split<;>omega
    omega
   have j6:=ha.m3;rcases a3 with⟨W,hj,b7⟩|⟨b9,c9,a3⟩
   ·refine c4 (λt'=>t'=if th.md=0 then{a with mode:=0,pc:=8}else{a with mode:=th.md,pc:=7}) ?_ (by omega) (λw3 a5 xb v sh a9 a2=>?_)
    ·right;rintro t' rfl;by_cases e:th.md=0
     ·rw[af e];refine⟨by simp,⟨d,a1,.inr (.inr ⟨hk,X,a8,.inr ⟨c6,c2,.inr ⟨e.symm,by simp only;omega,.inr ⟨by rw[af e];exact b7,.inl ⟨T,by omega,λi x b6=>by simp only at b6;omega⟩⟩⟩⟩⟩)⟩,?_⟩;unfold tz;simp[W,X];omega
     ·rw[aa e];refine⟨by simp,⟨d,a1,.inr (.inr ⟨hk,X,a8,.inr ⟨c6,c2,.inr ⟨T,by simp only;omega,.inl ⟨T,hj,b7,e⟩⟩⟩⟩)⟩,?_⟩;unfold tz;simp[W,X]
    ·refine(jv true _ w3 a2 (.inr (.inl W)) (xT th.md w3 a2 W (by rw[d];exact e8) (by rw[d];exact ha.mode) j6 (by rw[c6,g5];have:=ha.inl;omega) (by omega))).mono λr w' hr=>fD ?_ hr;rintro c t'⟨rfl,rfl⟩;exact⟨T,T⟩
   ·rcases a3 with⟨W,hj,b7,e5⟩|⟨a7,a3⟩
    ·by_cases e:th.md=1
     ·obtain⟨b1,b2,-,-,-⟩:=ha.m1 e;have hg:=hE.g;refine c4 (λt'=>t'=jV {a with aC:=th.bb}) ?_ (by omega) (λw3 a5 xb v sh a9 a2=>?_)
      ·right;rintro t' rfl;unfold jV;rw[aa (by simp only[b9];omega)];refine⟨by simp,⟨d,a1,.inr (.inr ⟨hk,X,a8,.inr ⟨c6,c2,.inr ⟨b9,c9,.inr ⟨by rw[aa e5],.inl ⟨T,by omega,λi x b6=>by simp only at b6;omega⟩⟩⟩⟩⟩)⟩,?_⟩;unfold tz;simp[W,X];omega
      ·refine(jv true _ w3 a2 (js (.inl W)) (oL th.bb w3 a2 W (by rw[b9,e]) (by rw[d];exact e8) (by rw[d];exact b1) (by omega) (by omega))).mono λr w' hr=>fD ?_ hr;rintro c t'⟨rfl,rfl⟩;exact⟨T,T⟩
     ·have e2:th.md=2:=by omega
      obtain⟨b1,b2,b3⟩:=ha.m2 e2;refine c4 (λt'=>t'=jV {a with aC:=th.bb}) ?_ (by omega) (λw3 a5 xb v sh a9 a2=>?_)
      ·right;rintro t' rfl;unfold jV;rw[af (by simp only[b9];exact e2)];refine⟨by simp,⟨d,a1,.inr (.inr ⟨hk,X,a8,.inr ⟨c6,c2,.inr ⟨b9,c9,.inr ⟨by rw[aa e5],.inr ⟨b3 a.j c9,.inl ⟨T,λi x b6=>by simp only at b6;omega⟩⟩⟩⟩⟩⟩)⟩,?_⟩;unfold tz;simp[W,X];omega
      ·refine(jv true _ w3 a2 (js (.inl W)) (oK th.bb w3 a2 W (by rw[b9,e2]) (by rw[d];exact e8) (by rw[d];exact b1) (by rw[c6,g5];exact b2) (by omega))).mono λr w' hr=>fD ?_ hr;rintro c t'⟨rfl,rfl⟩;exact⟨T,T⟩
    ·have k9:a.aC<=10000:=by
      by_cases e:th.md=0
      ·rw[af e]at a7;omega
      ·rw[aa e]at a7;by_cases e1:th.md=1
       ·obtain⟨-,b2,-⟩:=ha.m1 e1;have hg:=hE.g;have n5:=hE.g8;have n2:=hE.S;omega
       ·obtain⟨-,b2,-⟩:=ha.m2 (by omega);omega
     have e7:Fe a:=⟨by rw[e6];simp,by omega,k9⟩;rcases a3 with⟨W,n7,b8⟩|⟨b4,a3⟩
     ·obtain⟨i,c5⟩:∃i,th.fs[a.j+1]?=some i:=⟨_,cR (show a.j+1<th.fs.length by omega)⟩;refine c4 (λt'=>t'={a with fP:=i,pc:=4}) ?_ (by omega) (λw3 a5 xb v sh a9 a2=>?_)
      ·right;rintro t' rfl;refine⟨by simp,⟨d,a1,.inr (.inr ⟨hk,X,a8,.inr ⟨c6,c2,.inr ⟨b9,c9,.inr ⟨a7,.inr ⟨c5,.inl ⟨T,b8⟩⟩⟩⟩⟩⟩)⟩,?_⟩;unfold tz;simp[W,X]
      ·by_cases e:th.md=0
       ·have:=ha.inl.1 e;refine(jv true _ w3 a2 (pN W) (oM i w3 a2 W (by rw[b9,e]) (by rw[d];exact e8) (by omega) (by rw[d];exact ha.m0 e a.j i c9 c5) (c7 (c8 c5)))).mono λr w' hr=>fD ?_ hr;rintro c t'⟨rfl,rfl⟩;exact⟨T,T⟩
       ·have e1:th.md=1:=by omega
        rw[aa e]at a7;obtain⟨-,-,-,-,b5⟩:=ha.m1 e1;refine(jv true _ w3 a2 (pN W) (oO i w3 a2 W (by rw[b9,e1]) (by omega) (by omega) (by rw[a7];exact b5 a.j i c9 c5) (c7 (c8 c5)))).mono λr w' hr=>fD ?_ hr;rintro c t'⟨rfl,rfl⟩;exact⟨T,T⟩
     ·have e4:=c8 b4;have j4:th.md=2->∀j,j<th.d->th.fs[j+1]?=some (th.bb+j):=λe=>(ha.m2 e).2.2;rcases a3 with⟨W,b8⟩|⟨W,g7,g0,g4,b8⟩
      ·obtain⟨u1,u2,u3⟩:=j0 a.fP e4;have h7:jW a=ou (a.bs.getD 0 false) a.n a.j:=by unfold jW;rw[af X]
       have hu:=sR (f:=u) (j:=a.fP) (b:=y.ah);refine e9 (λt'=>∃a6 a4,t'=oD {a with rv:=a6,wv:=a4,am:=jW a}) a.fP e4 ?_ (by omega) (λw3 a5 xb v sh a9 a2=>?_)
       ·rw[h7];refine CN hz hE e0 hk _ a ⟨d,a1,X,a8⟩ ⟨c6,c2⟩ b9 a7 c9 b4 j4 (λx hx=>Ea hx) (wW _ _ _) ?_ (λi x b6 hx=>?_) ?_
        ·rw[(hu _).2.2];split
         ·rfl
         ·exact g6
        ·rw[(hu x).2.2];split
         ·rfl
         ·by_cases e:i=a.j
          ·subst e;rw[b4]at hx;injection hx with hx;rename_i h5;exact absurd hx.symm h5
          ·exact b8 i x (by omega) hx
        ·have:=wW (a.bs.getD 0 false) a.n a.j;generalize(ou (a.bs.getD 0 false) a.n a.j).length=q at this;unfold tz;simp only[W,X];simp;omega
       ·refine(kH true _ w3 a2 (js W) (sV (u a.fP) w3 a2 W u3 u1 (.inr ⟨X,b0,e6,by omega,by omega⟩) e7)).mono λr w' hr=>fD ?_ hr;rintro c t'⟨rfl,a4,rfl⟩;rw[a1];exact⟨T,a.rv,a4,T⟩
      ·obtain⟨x,l,c3⟩:=eS g7;obtain⟨j2,k,h3,h4,j5⟩:=g4 x (by rw[c3];simp);have j3:b0=true:=by rw[e6]at j2;exact j2
       have j1:m.am[8*a.fP+k]?=some bD:=by
        have:=ha.refs j3 (8*a.j+k) a.fP (by omega) (by rw[show 1+(8*a.j+k)/8=a.j+1 by omega];exact b4);rw[show(8*a.j+k)%8=k by omega]at this;exact this
       refine c4 (λt'=>∃a6 a4,t'=oD {a with rv:=a6,wv:=a4,am:=l}) ?_ (by omega) (λw3 a5 xb v sh a9 a2=>?_)
       ·refine CN hz hE e0 hk l a ⟨d,a1,X,a8⟩ ⟨c6,c2⟩ b9 a7 c9 b4 j4 (λx hx=>g4 x (by rw[c3];simp[hx])) (by rw[c3]at g0;simp only[bu]at g0;omega) g6 b8 ?_;unfold tz;simp only[W,X,c3];simp;omega
       ·refine(kH true _ w3 a2 (.inl W) (sU k l w3 a2 W (by rw[c3,h4]) h3 (c7 e4) j1 e7)).mono λr w' hr=>fD ?_ hr;rintro c t'⟨rfl,a4,rfl⟩;exact⟨T,a.rv,a4,T⟩
