/- Part 51 of the proof of spotop.TopChurn. -/
import Derived.Test.YtpgdiceeimehiaaGreatR40
import Derived.Test.YtpgdiceeimehiaaGreatR44
import Derived.Test.YtpgdiceeimehiaaGreatR50
set_option maxRecDepth 100000
set_option maxHeartbeats 16000000
set_option linter.all false
open Go.Proofs.Tryz
namespace Go.Proofs.YtpgdiceeimehiaaGreat
open RowKit
namespace jH
open Ac (Vl dx Wr aA CT)
open fG (fF tb up)
section
variable{E:gb}{Nq:N}{w:Y}{K:aW.Q}{κ:N->N}{m c:aW.St}{b:Ac.B}{s s':Ac.St}{u n p:N}{y y':dw.St}{o:Pg}{od:dx}{an cur' bg pd:Option Th}{es:N->List iG}{t tf':N->dq.dy}{dk l l' i k kk:N}{G:Gh}{th:Th}
theorem Cs:∀l:List dq.dy,(∀q∈l,q.st<=2)->dq.cY l 0+dq.cY l 1+dq.cY l 2=l.length:=by
 intro l
 induction l with
 | nil=>intro _;rfl
 | cons a l f =>
  intro h;have g:=f (λq d=>h q (eZ _ d));have j:=h a (by simp);have e:∀k,dq.cY (a::l) k=dq.cY l k+if a.st=k then 1 else 0:=λk=>by
   unfold dq.cY;rw[ds];by_cases e:a.st=k<;>simp[e]
  rw[e,e,e,bu];have:a.st=0\/a.st=1\/a.st=2:=by omega
  rcases this with h|h|h<;>simp[h]<;>omega
def LA(an:Option Th)(i:N):Prop:=∃th,an=some th/\i=th.hd
def KB(an:Option Th)(_:N):List Nat:=(an.map Th.fs).getD []
def Lz(an:Option Th)(_:N):N:=(an.map λth=>if th.o.aE=2 then th.o.n.toNat else 0).getD 0
def KA(an:Option Th)(_:N):V:=(an.map λth=>if th.gE=true then th.aM else -1).getD (-1)
def KC(an:Option Th)(_:N):N:=(an.map λth=>if th.gE=true then th.d+2 else 0).getD 0
theorem FJ(F:E.Ok)(hc:K.ba=E.ba)(v:Fin E m s an t):Vw.Ae m E.c K.ba (LA an) (KB an) (Lz an) (KA an) (KC an):=by
 refine⟨?_,?_,?_,?_⟩
 ·rintro i⟨th,rfl,rfl⟩;obtain⟨d,A,H,q,R⟩:=v.an th T;have hz:=d.sz F;have z:=F.op _ d.op;obtain⟨kd,s0,h⟩:=z.sh F;have a1:=h.KS;have P:th.o.b.toNat=kd:=by rw[h.b];simp
  have Q:=d.lt _ hz.kV;obtain⟨md,W,X,S⟩:=q.head;rw[P]at S;refine⟨t th.hd,kd,s0,by rw[v.l,fG.iq Q],H,by rw[hc];exact h.aM,by omega,?_⟩;rcases z.aE with f|f
  ·left;have g:th.gE=false:=by unfold Th.gE;rw[f];rfl
   have ho:=q.ob f;rw[h.bs]at ho;refine⟨md,W,S,by rw[h.a,f];rfl,ho,hz.J0,?_,?_,?_⟩
   ·show(if th.o.aE=2 then th.o.n.toNat else 0)=0;rw[aa (by omega)]
   ·show(if th.gE=true then th.aM else -1)=-1;rw[g];rfl
   ·show(if th.gE=true then th.d+2 else 0)=0;rw[g];rfl
  ·right;have:=X f;subst this;obtain⟨b0,r,ha⟩:=q.ar f;rw[h.bs]at r;have a:th.gE=(th.md==1):=by unfold Th.gE;rw[f];rfl
   refine⟨S,by rw[h.a,f];rfl,b0,th.d,th.md,th.bb,r,?_,?_,?_⟩
   ·show Vw.tZ m.am E.c b0 (if th.o.aE=2 then th.o.n.toNat else 0) th.d th.md th.bb th.fs th.hd;rw[af f];exact ha
   ·show(if th.gE=true then th.aM else -1)=_;by_cases e:th.md=1
    ·obtain⟨sp,off,-,-,-,h4⟩:=R (by rw[a,e];rfl);have:th.bb=th.aM.toNat:=by unfold Th.bb;rw[af e]
     simp only[a,e,gh,bP];rw[this,h4,iY]
    ·rw[a,aa (by simpa using e),aa e]
   ·show(if th.gE=true then th.d+2 else 0)=_;by_cases e:th.md=1
    ·simp only[a,e,gh,bP]
    ·rw[a,aa (by simpa using e),aa e]
 ·rintro i⟨th,rfl,rfl⟩;exact(v.an th T).1.nd
 ·rintro i⟨th,rfl,rfl⟩ x hx;obtain⟨d,A,-⟩:=v.an th T;have B:x∈th.fs:=hx;exact⟨t x,by rw[v.l,fG.iq (d.lt x B)],A x B⟩
 ·rintro i j⟨th,rfl,rfl⟩ ⟨a2,e,rfl⟩;injection e with e;rw[e]
theorem vj(d:E.Ok)(W:K.ba=E.ba)(h:jS w E.c K κ m b s u y n p)(r:Fin E m s an t):C 11 #[I n 0] w λe w'=>e=O (J 0)/\ae w w':=by
 have F:=d.F;have S:=d.BG;have H:=d.S;have hg:=d.g;have a1:=d.g8;refine Vw.zR w h ?_ (FJ d W r) (λi B=>?_) (λi B hn=>?_) (λ_ _ v A=>?_) (by omega) (by omega) (8*E.F+2*E.S) (by rw[F,H];push_cast;omega) (λg a2=>?_) ?_ (by omega) (λi B=>?_)
 ·rw[W];intro s hs;have:=(d.eT s hs).1;omega
 ·obtain⟨th,rfl,rfl⟩:=B;have a:=(r.an th T).1;have:=a.lt _ (a.sz d).kV;omega
 ·obtain⟨th,rfl,rfl⟩:=B;obtain⟨a,-,-,-,Q⟩:=r.an th T;have z:th.gE=true:=by
   have:0<(if th.gE=true then th.d+2 else 0):=hn;by_cases e:th.gE=true
   ·exact e
   ·rw[aa e]at this;omega
  obtain⟨sp,off,h2,h3,h4,R⟩:=Q z;have ea:KA (some th) th.hd=th.aM:=by show(if th.gE=true then th.aM else -1)=_;rw[af z]
  have ex:KC (some th) th.hd=th.d+2:=by show(if th.gE=true then th.d+2 else 0)=_;rw[af z]
  rw[ea,ex];refine⟨sp,h2,?_,?_,by rw[H];exact h4⟩
  ·rw[R,F,H];unfold gb.aC
   push_cast
   omega
  ·rw[R,F,H];unfold gb.aC
   push_cast at h3 ⊢
   omega
 ·rw[r.loc]at A;rcases dr.1 A with A|A
  ·cases an with
   | none=>rw[A];exact .inr ⟨0,kM⟩
   | some th =>
    rw[A];have a:=(r.an th T).1;have:=a.lt _ (a.sz d).kV;exact .inl ⟨th.hd,by omega,T,λ_=>⟨th,T,T⟩⟩
  ·rw[List.eq_of_mem_replicate A];exact .inr ⟨0,kM⟩
 ·exact⟨bD,r.fC g (by omega),.inr ⟨0,yw⟩⟩
 ·rw[Cs,r.l,fG.iK,F];intro q X;rw[r.l]at X;obtain⟨j,P,rfl⟩:=List.getElem_of_mem X;rw[fG.iK]at P;have:=fG.iq (f:=t) P;rw[cR (by rw[fG.iK];exact P)]at this;injection this with this;rw[this];exact r.le j P
 ·obtain⟨th,rfl,rfl⟩:=B;have a:=(r.an th T).1;have hz:=a.sz d;refine⟨by have:=hz.eT;show th.fs.length<=2000;omega,λx hx=>?_⟩;have:=a.lt x hx;omega
theorem Hj(a:E.Ok):(ja E.c).am.length=8*E.F+2*E.S+E.g/\∀i,i<E.g->(ja E.c).am[8*E.F+2*E.S+i]?=some bD:=by
 have d:(8*E.c.ag+2*E.c.al).toNat=8*E.F+2*E.S:=by rw[a.F,a.S];omega
 have e:E.c.ap.toNat=E.g:=by rw[a.g];simp
 have f:(ja E.c).am=aW.iu (8*E.F+2*E.S) E.g E.g:=by
  show aW.iu _ _ _=_;rw[d,e]
 rw[f];refine⟨aW.oa (ci _),λi g=>?_⟩;unfold aW.iu;rw[oc (by simp),pL (by simp;omega)];simp[g];rfl
theorem I3(a:E.Ok):Fin E (ja E.c) (lT E.n) none (λ_=>⟨0,false,false⟩):=by
 have d:E.c.ag.toNat=E.F:=by rw[a.F];simp
 have g:=a.n1;refine⟨?_,λ_ _=>by simp,?_,λth e=>(by cases e),(Hj a).2⟩
 ·show List.replicate E.c.ag.toNat _=_;rw[d,fG.EK]
 ·show List.replicate E.n aA=_;obtain⟨k,f⟩:∃k,E.n=k+1:=⟨E.n-1,by omega⟩;rw[f];rfl
theorem Ft(j:E.Ok)(h:Mt w E.c K κ (ja E.c) b (lT E.n) u oU n p o):C 10 #[I n 0,J 0] w λe d=>e=O (nX 0 false 0 0 0 (false,0,0))/\∃κ',aG CM w κ d κ'/\Mt d E.c K κ' (ja E.c) b (lT E.n) u oU n p .no:=by
 have a:(decide (0<(ja E.c).s.en.countP Ln.kU)||decide ((Po.cY (ja E.c).s.fr:V)<E.c.di)||(ja E.c).s.cm)=false:=by
  have v:E.c.ag.toNat=E.F:=by rw[j.F];simp
  have:Po.cY (ja E.c).s.fr=E.F:=by
   show Po.cY (List.replicate E.c.ag.toNat true)=_;rw[v];unfold Po.cY;rw[List.countP_replicate];simp
  have H:=j.di;rw[this];have:(ja E.c).s.en=[]:=rfl;rw[this];have:(ja E.c).s.cm=false:=rfl;rw[this];simp;omega
 refine(mi (λc y' q=>c=ja E.c/\y'=oU/\q=.no) w h (λB F g _=>(nV B g T a).mono ?_)).mono ?_
 ·rintro r d⟨x,κ',c,y',f,A,rfl,rfl⟩;exact⟨x,κ',_,_,f,A,.no,trivial,T,T,T⟩
 ·rintro e d⟨f,κ',c,y',q,z,g,rfl,rfl,rfl⟩;exact⟨f,κ',z,g⟩
theorem Fu(x:E.Ok)(P:qU E K b)(h:Mt w E.c K κ (ja E.c) b (lT E.n) u oU n p .no):C 10 #[I n 0,J 1] w λe z=>e=O (nX 1 false 0 0 0 aA)/\∃κ' c s',aG CM w κ z κ'/\Mt z E.c K κ' c b s' u oU n p .no/\s'.next=0/\∃v,dR E 0 c s' oU .no v/\∀l,pk v.p v.t v.ib v.nt v.gr l<=14945:=by
 have hT:=x.T1;have R:E.c.ag.toNat=E.F:=by rw[x.F];simp
 have S:E.c.ao.toNat=E.Tq:=by rw[x.Tq];simp
 obtain⟨k,Q⟩:∃k,E.Tq=k+1:=⟨E.Tq-1,by omega⟩;have f:(ja E.c).bA=List.replicate E.Tq (-1):=by show List.replicate E.c.ao.toNat (-1)=_;rw[S]
 have hz:(ja E.c).bA[b.t]?=some (-1):=by rw[f,P.t,Q];rfl
 refine(qZ 0 0 0 aA false (λc s'=>c={ja E.c with bA:=(ja E.c).bA.set b.t (ja E.c).st}/\s'={lT E.n with aY:=(ja E.c).st,ah:=(ja E.c).se,bn:=1,pc:=0}) w h (λw1 a1 hs=>(xn w1 hs rfl hz).mono λr z hr=>lz (λz κ' B=>⟨_,_,B,rfl,rfl⟩) hr)).mono ?_;rintro e z⟨a,κ',c,s',hx,hm,rfl,rfl⟩;have g:=I3 x;obtain⟨F,A⟩:=Hj x;refine⟨a,κ',_,_,hx,hm,T,⟨.idle,.je,false,false,false,none,none,none,λ_=>[],λ_=>⟨0,false,false⟩,0⟩,?_,λl=>by simp only[pk];split<;>omega⟩;refine⟨⟨⟨T,T⟩,trivial,trivial,T,T,trivial,⟨ci _,ci _⟩⟩,⟨?_,T,λe=>(by cases e),rfl,λe=>(by cases e)⟩,⟨λe=>(by cases e),λe=>absurd rfl e,λe=>(by cases e),λe=>absurd rfl e,rfl,rfl,rfl⟩,⟨mJ 1 0 0 rfl rfl (λe=>by omega) (λ_=>rfl),⟨0,rfl,ci _⟩,g.loc,λe=>(by cases e),λ_=>⟨rfl,rfl,rfl⟩,λ_ _=>rfl,λe=>(by cases e)⟩,⟨g.l,?_,g.le,⟨[],rfl,List.nodup_nil,aw _,λi=>by simp⟩,λth e=>(by cases e),λth e=>(by cases e),λth e=>(by cases e),λth H e=>(by cases e),λth H e=>(by cases e),λq _ e a=>(by cases a),λq _ e a=>(by cases a),λq _ e a=>(by cases a)⟩,⟨λ_ i _ W=>(by simp at W),λe=>(by cases e),λe=>(by cases e),λe=>(by cases e),λth e=>(by cases e),λe=>(by cases e),λj hj=>(by simp[bW.sw]at hj),λe=>(by cases e),λe=>(by cases e)⟩,⟨x.S,by show(0:N)<2;omega,λq _=>T,λq _=>aw _,Int.le_refl _,?_,λq _=>List.nodup_nil,λ_=>T,λq _ e a=>(by cases a),λ_=>⟨rfl,rfl⟩,λe=>(by cases e),λoff X d a=>a.none.elim,λth e=>(by cases e),λth e=>(by cases e),λe=>(by cases e)⟩,⟨F,A,λth e=>(by cases e),λth e=>(by cases e),λe=>(by cases e),λe=>(by cases e),λq off X d _ a=>a.none.elim⟩,λtt e=>(by cases e),λtt e=>(by cases e)⟩
 ·show(ja E.c).bA.set b.t 0=_;rw[f,P.t,Q];rfl
 ·show List.replicate E.c.ag.toNat true=_;rw[R,<-fG.EK];exact fG.kR λi _=>by simp
 ·show((fu []:N):V)+0<=_;simp[fu]
end
end jH
namespace fG
open Ac (Vl dx CT aA jb)
open tx (oF Made kn)
def c1:Cn:=⟨4,0,0,1,1,0,1,0⟩
def DQ:List dx:=[⟨1,0,0,0,0,0,0⟩,⟨11,0,0,0,0,0,0⟩]
structure Ie(K:aW.Q):Prop where
 s0:∃v,K.ba[0]?=some ⟨false,v,[]⟩
 eT:∀s∈K.ba,s.bs.length<=1000000
 ns:0<K.q.ns
def wK:List Ac.Wr:=Pl.gB 0 true [3] [] 1
def ze(s:Ac.St)(Tq:N):Prop:=∃n:N,s.own=(n:V)/\n<=Tq
theorem JF(i:N):Sk.eP (Pl.aI [i])=true:=by simp[Sk.eP,Pl.aI]
theorem CE{b:Type}{l:List b}{j:N}{x:b}(h:l[j]?=some x):l.drop j=x::l.drop (j+1):=by
 have a:=dH.1 h;rw[<-a.2];exact cd a.1
structure Kb(m:aW.St)(s:Ac.St)(tf:N->dq.dy):Prop where
 l:m.s.l=tb 4 tf
 fr:m.s.fr=tb 4 (λi=>decide ((tf i).st=0))
 len:m.am.length=32
 sx:m.s.sx=[]
 en:m.s.en=[]
 st:m.st=0
 se:m.se=false
 s0:s.aY=0
 sn:s.ah=false
 sz:m.s.size=0
def t0(_:N):dq.dy:=⟨0,false,false⟩
def t1(i:N):dq.dy:=if i=3 then⟨2,false,false⟩else⟨0,false,false⟩
def t2(i:N):dq.dy:=if i=3 then⟨2,true,false⟩else⟨0,false,false⟩
inductive Kn(m:aW.St)(s:Ac.St):N->Prop where
 | out (h:Kb m s t0) (h1:s.bn=0) (h2:m.bA=[-1]) (hn:s.next=0) (hl:s.ak=[aA]):Kn m s 0
 | zi (h:Kb m s t0) (h1:s.bn=1) (h0:s.pc=0) (h2:m.bA=[0]) (hn:s.next=0) (hl:s.ak=[aA]):Kn m s 1
 | Ez (h:Kb m s t0) (h1:s.bn=2) (h0:s.aM=0) (h2:m.bA=[0]) (hn:s.next=0) (hl:s.ak=[aA]):Kn m s 2
 | wr (j:N) (hj:j<8) (h:Kb m s t1) (h1:s.bn=2) (h0:s.aM=7) (h2:m.bA=[0]) (hn:s.next=0) (hl:s.ak=[aA]) (hw:s.bz=wK.drop j) (hd:fF wK j m.am) (hg:s.cG=Pl.aI [3]):Kn m s (3+j)
 | born (h:Kb m s t1) (h1:s.bn=2) (h0:s.aM=8) (h2:m.bA=[0]) (hn:s.next=0) (hl:s.ak=[aA]) (hd:fF wK 8 m.am) (hg:s.cG=Pl.aI [3]):Kn m s 11
 | zj (h:Kb m s t2) (h1:s.bn=1) (h0:s.pc=0) (h2:m.bA=[0]) (hn:s.next=1) (hl:s.ak=[(true,bi 3)]) (hd:m.am[25]?=some (cQ 0 1)):Kn m s 12
 | EA (h:Kb m s t2) (h1:s.bn=2) (h0:s.aM=0) (h2:m.bA=[0]) (hn:s.next=1) (hl:s.ak=[(true,bi 3)]) (hd:m.am[25]?=some (cQ 0 1)):Kn m s 13
 | zk (v:Vl) (h:Kb m s t2) (h1:s.bn=1) (h0:s.pc=0) (h2:m.bA=[0]) (hn:s.next=2) (hl:s.ak=[v]):Kn m s 14
 | drain (v:Vl) (h:Kb m s t2) (h1:s.bn=1) (h0:s.pc=3) (h2:m.bA=[0]) (hl:s.ak=[v]):Kn m s 15
 | zy (v:Vl) (h:Kb m s t2) (h1:s.bn=1) (h0:s.pc=4) (h2:m.bA=[0]) (hl:s.ak=[v]):Kn m s 16
 | gone (i:N) (hi:17<=i) (h:Kb m s t2) (h1:s.bn=4):Kn m s i
section
variable{w:Y}{K:aW.Q}{κ:N->N}{m f:aW.St}{b:Ac.B}{s s':Ac.St}{p a g:N}{y:dw.St}{n Tq i:N}
def qU(i Tq:N)(K:aW.Q)(b:Ac.B)(a g p:N)(y:dw.St)(w:Y)(κ:N->N)(e:Ending)(w':Y):Prop:=∃a1 a2 a3 v,e=O (nX 1 (decide (i=11\/i=13)) a1 a2 a3 v)/\∃κ' f s',aG CM w κ w' κ'/\Mt w' c1 K κ' f b s' p y a g .no/\Kn f s' (i+1)/\ze s' Tq
def Kq(i Tq:N)(K:aW.Q)(b:Ac.B)(w':Y)(κ':N->N):Prop:=∃f s',dt w' c1 K κ' f b s'/\(Kn f s' (i+1)/\ze s' Tq)
theorem jy:kX (Kq i Tq K b):=lC λ_=>lC λ_=>λ_ _ _ i u e ⟨c,d⟩=>⟨c.aZ e i u,d⟩
theorem Di(h:Mt w c1 K κ m b s p y a g .no)(v:Vl)(k l o:V)(d:Bool)(t:d=decide (i=11\/i=13))
  (r:∀w1 j,dt w1 c1 K j m b s->C 25 #[I b.ab 0,I K.kb 0] w1 (oC w1 j k l o v d (Kq i Tq K b))) :
  C 10 #[I a 0,J 1] w (qU i Tq K b a g p y w κ):=by
 subst t;refine(qZ k l o v _ _ w h r).mono ?_;rintro e B⟨u,q,f,s',c,x,A,z⟩;exact⟨k,l,o,v,u,q,f,s',c,x,A,z⟩
theorem Kb.to{u tg:N->dq.dy}(h:Kb m s u)(r:f.s.l=tb 4 tg)(q:f.s.fr=tb 4 (λi=>decide ((tg i).st=0)))(t:f.am.length=m.am.length)(c:f.s.sx=m.s.sx)(d:f.s.en=m.s.en)(e:f.st=m.st)(j:f.se=m.se)(k:s'.aY=s.aY)(l:s'.ah=s.ah)(o:f.s.size=m.s.size):Kb f s' tg:=⟨r,q,t.trans h.len,c.trans h.sx,d.trans h.en,e.trans h.st,j.trans h.se,k.trans h.s0,l.trans h.sn,o.trans h.sz⟩
theorem Kb.same{d:N->dq.dy}(h:Kb m s d)(c:f.s=m.s)(o:f.am.length=m.am.length)(e:f.st=m.st)(j:f.se=m.se)(k:s'.aY=s.aY)(l:s'.ah=s.ah):Kb f s' d:=h.to (by rw[c];exact h.l) (by rw[c];exact h.fr) o (by rw[c]) (by rw[c]) e j k l (by rw[c])
theorem JP(j:N)(c:j<8):∃z,wK[j]?=some (((24+j:N):V),z):=by
 have h:=re 0 true [3] [] 1 0 j (by omega) c;rw[Nat.mul_zero,br]at h;exact⟨_,h⟩
theorem ET:wK.length=8:=Pl.cK _ _ _ _ _
theorem GX{ws:List (Nat × Nat)}(h:fF wK 8 ws):ws[25]?=some (cQ 0 1):=by
 have c:fF (Pl.gB 0 true [3] [] [3].length) (8*[3].length) ws:=h;exact c.word (j:=0) (k:=1) (by simp) (by omega)
theorem LK(o:dx)(h:o.a=0/\o.b=0/\o.c=0)(j:o.aE=1\/o.aE=11):∀x∈kn o.aE,oF c1 o x:=by
 intro x c;have d:x=97\/x=107\/x=110\/x=98:=by
  rcases j with e|e
  ·rw[e]at c;have:x∈([97,107]:List UInt8):=c;simp at this;rcases this with h|h<;>simp[h]
  ·rw[e]at c;have:x∈([97,98]:List UInt8):=c;simp at this;rcases this with h|h<;>simp[h]
 unfold oF;rw[h.1,h.2.1,h.2.2];refine⟨λ_=>by decide,λ_=>by decide,λ_=>by decide,λe=>?_⟩;subst e;exact absurd d (by decide)
theorem K8(hK:Ie K)(S:b.ops=DQ)(X:b.t=0)(h:Mt w c1 K κ m b s p y a g .no)(hk:Kn m s i)(ho:ze s Tq)(hT:Tq<=1000000):C 10 #[I a 0,J 1] w (qU i (Tq+1) K b a g p y w κ):=by
 obtain⟨n,hn,b6⟩:=ho;obtain⟨sv,a5⟩:=hK.s0;cases hk with
 | out a t A d u =>
  refine Di h aA 0 0 0 false T (λG H F=>(xn G F t (by rw[X,A];rfl)).mono ?_);rintro r2 w'⟨E,q,B,o⟩;exact⟨E,q,B,_,_,o,.zi (a.to a.l a.fr T T T T T (by show m.st=s.aY;rw[a.st,a.s0]) (by show m.se=s.ah;rw[a.se,a.sn]) T) T T (by show m.bA.set b.t m.st=[0];rw[X,A,a.st];rfl) d u,⟨n,hn,by omega⟩⟩
 | zi a t P A d u =>
  refine Di h aA 0 0 0 false T (λG H F=>iW _ G F t jy (λQ R r=>(pR Q r P (by rw[a.st,a.s0]) (by rw[S,d];decide)).mono ?_));rintro r2 w'⟨E,q,B,o⟩;exact⟨E,q,B,_,_,o,.Ez (a.same T T T T T T) T T A d u,⟨0,T,by omega⟩⟩
 | Ez a t P A d u =>
  have a9:ft s=false:=by unfold ft;rw[a.sn,a.s0];rfl
  have b0:m.s.fr=tb 4 (λi=>decide (i<4)):=by rw[a.fr];decide
  have b2:Po.cY m.s.fr=4:=by rw[b0];decide
  have a6:Po.take m.s.fr 1=[3]:=by rw[b0,take_one (by omega) (by omega)]
  have a2:∀l:List Bool,Po.di l (c1.aB.toNat-m.s.sx.length)=[]:=λl=>by rw[a.sx];exact Du l
  have a3:Made c1 K.ba ⟨1,0,0,0,0,0,0⟩ 0 ⟨false,sv,[]⟩:=⟨T,a5,T,by show(0:N)<=1000000;omega,by show(0:V)<=bM false 0 0;decide,by show bM false 0 0<=(4:V);decide,by show cE false 0 0<=(0:V);decide⟩;have a4:ln c1 K ⟨1,0,0,0,0,0,0⟩ 1 0:=ln.of (.inl T) (LK _ ⟨T,T,T⟩ (.inl T)) a3 (by show bM false 0 0=1;decide) (by show cE false 0 0=0;decide);have a8:=ua.L8 (c:=c1) (K:=K) (m:=m) 1 0 (ft s) hK.ns (by omega) (λ_=>by rw[a.sx];decide) a.en (by rw[Sp.yd,b2];decide) a.sz (by rw[a.l,a.fr,iK,iK]) (by rw[a.fr,iK];omega);rw[a6]at a8;have b4:jt c1 K ⟨1,0,0,0,0,0,0⟩ [3] (Sp.vF c1 m.s 1 0) (Pl.gB 0 true [3] [] [3].length):=jt.of _ 0 [] [3] true _ T T ⟨⟨_,a5,T,T⟩,by show bM false 0 0=1;decide,λx hx=>by simp at hx;subst hx;decide,by simp,JF _,by show(0:N)<=40;omega,by omega,by simp⟩;refine Di h aA 0 0 0 false T (λG H F=>iX _ _ _ _ _ n _ G F t hn (by omega) jy (λQ R r=>iA ⟨1,0,0,0,0,0,0⟩ _ _ _ _ _ _ Q r P (by rw[S,d];rfl) jy (λw3 a7 W=>(oB ⟨1,0,0,0,0,0,0⟩ 1 0 [3] _ _ _ w3 W (.inl T) (LK _ ⟨T,T,T⟩ (.inl T)) ⟨_,_,a3⟩ a4 X a8 b4).mono ?_)));rintro r2 w'⟨E,q,B,b7,b5,b8,o⟩;refine⟨E,q,B,_,_,o,.wr 0 (by omega) (a.to (tg:=t1) ?_ ?_ T ?_ T T T T T T) T T A d u T (fF.zero _ _) T,⟨n+1,T,by omega⟩⟩
  ·show Sp.de (Sp.de m.s.l [3] 2 (ft s)) _ 1 (ft s)=_;rw[a2];show Sp.de m.s.l [3] 2 (ft s)=_;rw[a.l,lK,a9];exact kR (λj hj=>by unfold t1;simp;rfl)
  ·show Po.off (Po.off m.s.fr [3]) _=_;rw[a2];show Po.off m.s.fr [3]=_;rw[a.fr,sj];exact kR (λj hj=>by unfold t1 t0;by_cases e:j=3<;>simp[e])
  ·show m.s.sx++Po.aI _=m.s.sx;rw[a2];exact bJ _
 | wr j hj a t P A d u hw hd hg =>
  obtain⟨z,hz⟩:=JP j hj;have b3:=CE hz;have a1:fF wK (j+1) (m.am.set (24+j) z):=by
   have:=hd.step hz (by show(((24+j:N):V)).toNat<_;rw[a.len];omega) (λk x hk hx=>DJ (xs:=[3]) (by simp) hx hz (by omega));exact this
  refine Di h aA 0 0 0 false (by rw[eq_comm,cL];omega) (λG H F=>iX _ _ _ _ _ n _ G F t hn (by omega) jy (λQ R r=>pK ⟨1,0,0,0,0,0,0⟩ _ _ _ _ _ _ Q r P (by rw[S,d];rfl) jy (λw3 a7 W=>(tK (24+j) z (wK.drop (j+1)) w3 W (hw.trans b3) (by rw[a.len];omega) P _ T).mono ?_)));rintro r2 w'⟨E,q,B,b5,o⟩;refine⟨E,q,B,_,_,o,?_,⟨n+1,T,by omega⟩⟩;by_cases e:j+1<8
  ·rw[show 3+j+1=3+(j+1)from by omega];refine .wr (j+1) e (a.same T (by simp) T T T T) t (aa (λh=>?_)) A d u T a1 hg;have:=ay List.length h;rw[lP,ET]at this;simp at this;omega
  ·obtain rfl:j=7:=by omega
   have b1:wK.drop (7+1)=[]:=List.drop_eq_nil_of_le (by rw[ET];omega);exact .born (a.same T (by simp) T T T T) t (by show(if wK.drop (7+1)=[]then(8:V)else 7)=8;rw[af b1]) A d u a1 hg
 | born a t P A d u hd hg =>
  refine Di h (true,bi 3) (s.next:V) ((n+1:N):V) 0 true T (λG H F=>iX _ _ _ _ _ n _ G F t hn (by omega) jy (λQ R r=>pJ ⟨1,0,0,0,0,0,0⟩ _ _ _ _ _ _ Q r P (by rw[S,d];rfl) jy (λw3 a7 W=>(bears_any 3 0 [] ⟨2,false,false⟩ ⟨1,0,0,0,0,0,0⟩ w3 W hg (by rw[a.l];rfl) T T (by omega) T (by show 0<s.ak.length;rw[u];decide) (by show s.bn≠4;omega) (by show s.next<=100000;omega)).mono ?_)));rintro r2 w'⟨E,q,B,o⟩;refine⟨E,q,B,_,_,o,.zj (a.to (tg:=t2) ?_ ?_ T T T T T T T T) T T A (by show s.next+1=1;rw[d]) (by show s.ak.set 0 _=_;rw[u];rfl) (GX hd),⟨n+1,T,by omega⟩⟩
  ·show m.s.l.set 3 _=_;rw[a.l];rfl
  ·show m.s.fr=_;rw[a.fr];rfl
 | zj a t P A d u hd =>
  refine Di h aA 0 0 0 false T (λG H F=>iW _ G F t jy (λQ R r=>(pR Q r P (by rw[a.st,a.s0]) (by rw[S,d];decide)).mono ?_));rintro r2 w'⟨E,q,B,o⟩;exact⟨E,q,B,_,_,o,.EA (a.same T T T T T T) T T A d u hd,⟨0,T,by omega⟩⟩
 | EA a t P A d u hd =>
  refine Di h (false,bH 0) (s.next:V) ((n+1:N):V) 0 true T (λG H F=>iX _ _ _ _ _ n _ G F t hn (by omega) jy (λQ R r=>iA ⟨11,0,0,0,0,0,0⟩ _ _ _ _ _ _ Q r P (by rw[S,d];rfl) jy (λw3 a7 W=>(xj ⟨11,0,0,0,0,0,0⟩ 3 0 0 0 1 _ w3 W T (LK _ ⟨T,T,T⟩ (.inr T)) T T (by show s.ak[0]?=_;rw[u];rfl) (by show 0<s.ak.length;rw[u];decide) (by omega) (by show s.bn≠4;omega) (by show s.next<=100000;omega) hd a5 T (by omega) (by show(0:N)<=1000000;omega) (by decide) (by omega)).mono ?_)));rintro r2 w'⟨E,q,B,o⟩;exact⟨E,q,B,_,_,o,.zk (false,bH 0) (a.same T T T T T T) T T A (by show s.next+1=2;rw[d]) (by show s.ak.set 0 _=_;rw[u];rfl),⟨n+1,T,by omega⟩⟩
 | zk v a t P A d u =>
  refine Di h aA 0 0 0 false T (λG H F=>iW _ G F t jy (λQ R r=>(xU Q r P (by rw[a.st,a.s0]) (by rw[S,d];decide)).mono ?_));rintro r2 w'⟨E,q,B,o⟩;exact⟨E,q,B,_,_,o,.drain v (a.same T T T T T T) t T A u,⟨n,hn,by omega⟩⟩
 | drain v a t P A u =>
  refine Di h aA 0 0 0 false T (λG H F=>iW _ G F t jy (λQ R r=>(uj Q r P X hK.ns a.sx).mono ?_));rintro r2 w'⟨E,q,B,o⟩;exact⟨E,q,B,_,_,o,.zy v (a.to a.l a.fr T a.sx.symm T T T T T T) t T A u,⟨n,hn,by omega⟩⟩
 | zy v a t P A u =>
  refine Di h aA 0 0 0 false T (λG H F=>iW _ G F t jy (λQ R r=>(ul v 0 Q r P u (by rw[X,A];rfl) (by omega)).mono ?_));rintro r2 w'⟨E,q,B,o⟩;exact⟨E,q,B,_,_,o,.gone 17 (by omega) (a.same T T T T T T) T,⟨n,hn,by omega⟩⟩
 | gone i hi a t =>
  refine Di h aA 0 0 0 false (by rw[eq_comm,cL];omega) (λG H F=>(Bt G F t).mono ?_);rintro r2 w'⟨E,q,B,o⟩;exact⟨E,q,B,_,_,o,.gone (i+1) (by omega) a t,⟨n,hn,by omega⟩⟩
end
end fG
namespace fG
open Ac (Vl dx CT aA jb dj)
section
variable{w:Y}{K:aW.Q}{κ:N->N}{m:aW.St}{b:Ac.B}{s:Ac.St}{yb hb lg:N}{y:dw.St}
theorem zn:∀l:List dq.dy,(∀q∈l,q.st<=2)->dq.cY l 0+dq.cY l 1+dq.cY l 2=l.length:=by
 intro l
 induction l with
 | nil=>intro _;rfl
 | cons a l f =>
  intro h;have g:=f (λq d=>h q (eZ _ d));have i:=h a (by simp);have e:∀k,dq.cY (a::l) k=dq.cY l k+if a.st=k then 1 else 0:=λk=>by
   unfold dq.cY;rw[ds];by_cases e:a.st=k<;>simp[e]
  rw[e,e,e,bu];rcases(by omega:a.st=0\/a.st=1\/a.st=2)with c|c|c<;>rw[c]<;>simp<;>omega
theorem zQ(d:Ie K)(h:jS w c1 K κ m b s yb y hb lg){i:N}(n:Kn m s i)(l:17<=i):s.bn=4/\C 11 #[I hb 0] w λe o=>e=O (J 0)/\ae w o:=by
 have a:s.bn=4/\Kb m s t2:=by
  cases n with
  | gone _ l hb c=>exact⟨c,hb⟩
  | wr j p=>omega
  | _=>omega
 refine⟨a.1,Vw.zR (Oq:=λ_=>False) (fr:=λ_=>[]) (sn:=λ_=>0) (ax:=λ_=>0) (nx:=λ_=>0) w h d.eT ⟨λ_ f=>f.elim,λ_ f=>f.elim,λ_ f=>f.elim,λ_ _ f=>f.elim⟩ (λ_ f=>f.elim) (λ_ f=>f.elim) (λ_ h=>absurd a.1 h) (by decide) (by decide) 32 (by decide) (λg k=>?_) ?_ (by decide) (λ_ f=>f.elim)⟩
 ·have:(g:V)<0:=k;omega
 ·rw[a.2.l];decide
end
end fG
namespace fG
open Ac (Vl dx CT aA jb dj)
theorem tA{l n:List Sh}(h:alike l n){s:Sh}(b:s∈n):∃t∈l,t.a=s.a/\t.bs=s.bs:=by
 have a:(s.a,s.bs)∈n.map (λs=>(s.a,s.bs)):=List.mem_map_of_mem b;rw[<-show l.map (λs=>(s.a,s.bs))=n.map (λs=>(s.a,s.bs))from h]at a;obtain⟨t,c,e⟩:=aX.1 a;injection e with e1 e2;exact⟨t,c,e1,e2⟩
def J3:List Sh:=[⟨false,Z none 0 0,[]⟩]
abbrev DI:Obj:=D #[L false,Z none 0 0] 35
abbrev Jl(B:N):Obj:=D #[J 4,J 0,J 0,J 1,J 1,J 0,J 1,J 0,Z (some (I B 0)) 1 1] 24
abbrev J1:Obj:=D #[J 1,J 0,J 0,J 0,J 0,U 0 0,J 11,J 0,J 0,J 0,J 0,U 0 0] 32
abbrev LG(B:N):Obj:=D #[Z (some (I (B+1+1) 0)) 2 2] 29
theorem KY(w:Y)(B:N)(l:w.heap.size=B)(a:Y)(g:(((w.alloc DI).alloc (Jl B)).alloc J1).alloc (LG B)=a):ae w a/\C 9 #[.agg #[J 4,J 0,J 0,J 1,J 1,J 0,J 1,J 0,Z (some (I B 0)) 1 1],Z (some (I (B+1+1+1) 0)) 1 1] a λe F=>∃K κ' o E G b,e=O (.tuple #[I o 0,J 0])/\ae a F/\Mt F c1 K κ' (ja c1) b (lT 1) G oU o E .no/\b.t=0/\b.ops=DQ/\Ie K/\∀k,CM (κ' k)->a.heap.size<=k:=by
 have v:ae w (w.alloc DI):=(bo w).alloc _;have a1:(w.alloc DI).heap.size=B+1:=by simp[l]
 have c:=ai w DI;rw[l]at c;have y:((w.alloc DI).alloc (Jl B)).heap.size=B+1+1:=by simp[l]
 have d:=ai ((w.alloc DI).alloc (Jl B)) J1;rw[y]at d;have z:(((w.alloc DI).alloc (Jl B)).alloc J1).heap.size=B+1+1+1:=by simp[l]
 have h:=ai (((w.alloc DI).alloc (Jl B)).alloc J1) (LG B);rw[z]at h;have A:a.heap.size=B+1+1+1+1:=by rw[<-g];simp[l]
 have m:ae (w.alloc DI) a:=by rw[<-g];exact(((bo _).alloc _).alloc _).alloc _
 have x:ae (((w.alloc DI).alloc (Jl B)).alloc J1) a:=by rw[<-g];exact(bo _).alloc _
 rw[g]at h;have c:=m.bF c;have d:=x.bF d;have q:ly a (some ⟨B+1+1,0,none⟩) 2 DQ:=ly.of (by rw[A];omega) ⟨by decide,λ_=>⟨B+1+1,0,T,λj u hu=>by
  rw[bK d,br];simpa[dj,Ac.BK,DQ]using hu⟩⟩ (by decide)
 refine⟨v.MD m,(wu c1 (Z (some (I B 0)) 1 1) J3 DQ 1 (B+1+1+1) 1 (some ⟨B+1+1,0,none⟩) 2 a ⟨⟨some ⟨B,0,none⟩,1,T,by decide,by omega,λ_=>⟨B,0,T,by omega,λj s r=>?_⟩⟩,λs i=>?_⟩ (by decide) T (λs i=>?_) (by omega) ?_ q (by decide)).mono ?_⟩
 ·cases j with
  | zero =>
   simp[J3]at r;subst r;refine⟨?_,?_⟩<;>(rw[bK c];rfl)
  | succ j=>simp[J3]at r
 ·simp[J3]at i;subst i;exact mE.nil _ _
 ·simp[J3]at i;subst i;simp
 ·rw[bK h];rfl
 ·rintro e F⟨K,κ',o,E,G,b,rfl,hp,X,P,Q,h3,R,H,W⟩;refine⟨K,κ',o,E,G,b,T,hp,⟨X,trivial⟩,P,Q,⟨?_,?_,by have S:(K.q.ns:V)=1:=R;omega⟩,W⟩
  ·obtain⟨t,p,n,f⟩:=Vw.kq H (k:=0) (s0:=⟨false,Z none 0 0,[]⟩) T;obtain⟨ta,tv,tb⟩:=t;simp at n f;subst n;subst f;exact⟨tv,p⟩
  ·intro s i;obtain⟨t,p,-,f⟩:=tA H i;simp[J3]at p;subst p;rw[<-f];simp
structure Kl(w0:Y)(K:aW.Q)(b:Ac.B)(hb lg yb:N)(i:N)(wr:Y):Prop where
 pu:ae w0 wr
 st:∃κ m s,Mt wr c1 K κ m b s yb oU hb lg .no/\Kn m s i/\ze s i/\∀k,CM (κ k)->w0.heap.size<=k
theorem aG.out{a w f:Y}{κ κ':N->N}(e:ae a w)(b:∀k,CM (κ k)->a.heap.size<=k)(c:aG CM w κ f κ'):ae a f/\∀k,CM (κ' k)->a.heap.size<=k :=
 ⟨e.trans c.MC (λq i h=>by have:=b q h;omega),λk d=>Decidable.byContradiction λg=>by
  rw[c.same k (by have:=e.size;omega)]at d;have:=b k d;omega⟩
def JZ(i:N):N:=if i<12 then 0 else if i<14 then 1 else 2
theorem CC:∀i,i<20->JZ (i+1)=JZ i+if(i=11\/i=13)then 1 else 0:=by decide
theorem IX(i:N):JZ i<=2:=by unfold JZ;split<;>(try split)<;>omega
theorem Kl.pure{f w e:Y}{K:aW.Q}{b:Ac.B}{a d g i:N}(h:Kl f K b a d g i w)(c:ae w e):Kl f K b a d g i e:=by
 obtain⟨o,m,s,j,k,l,n⟩:=h.st;exact⟨h.pu.MD c,o,m,s,j.pure c,k,l,n⟩
theorem hZ(w:Y):C 5 #[] w λe w'=>e=O (L true)/\ae w w':=by
 obtain⟨a6,F⟩:=KY w w.heap.size T _ T;have HN:=M (aq a6 F);clear a6 F;go_enter func5,ntmps5;go_wp2_with fail;generalize(((w.alloc _).alloc _).alloc _).alloc _=w4 at *;refine HN.2.mono ?_;rintro e w5⟨K,z,hb,lg,yb,b,rfl,a7,E,a4,a5,hK,n⟩;have b1:=HN.1.size;have HL:Hid (Kl w K b hb lg yb 0 w5):=M ⟨HN.1.MD a7,z,_,_,E,.out ⟨T,T,T,T,T,T,T,T,T,T⟩ T T T T,⟨0,T,ci _⟩,λk hk=>by have:=n k hk;omega⟩;have Q:=M (aq a4 (aq a5 hK));clear a7 E a4 a5 hK n b1 HN;go_wp2_with fail;go_loopw [4,5] (λd i wr=>∃t:N,t<=20/\i=J t/\d=J (JZ t)/\Kl w K b hb lg yb t wr) (λ_ i _=>20-(intOf i).toNat)
 case atStart=>exact⟨0,by omega,T,T,HL⟩
 case round =>
  clear HL;obtain⟨t,ht,rfl,rfl,hk⟩:=hrel;have S:=M hk;clear hk;by_cases B:t<20
  ·have A:=M B;have f:=CC t B;have b2:=IX t;obtain⟨κ,m,s,E,q,o,n⟩:=S.st;have y:=K8 (Tq:=t) Q.2.2 Q.2.1 Q.1 E q o (by omega);have g:=M (aq y n);have b3:(t:V)<20:=by omega
   clear B ht E q o n y;by_cases p:t=11\/t=13
   ·rw[af p]at f;have R:=M (aq p f);clear p f;go_wp2_with fail;refine g.1.mono ?_;rintro e G⟨W,X,a3,v,rfl,z,m',s',h,x,j,c⟩;obtain⟨v1,v2,v3⟩:=v;rw[fN R.out.1];have a:=aG.out S.pu g.2 h;have r:Hid (Kl w K b hb lg yb (t+1) G):=M ⟨a.1,z,m',s',x,j,c,a.2⟩;obtain⟨l,-,u⟩:=Ac.aO G #[J 1,L true,J W,J X,J a3,L v1,U v2 v3] 48;have H:=M (r.pure l);have z1:=(gF u).2.1;clear h x j c a r l u;go_wp2_with fail;generalize G.alloc _=w7 at *;go_roundw
    case rel=>exact⟨t+1,by have:=A.out;omega,by first|rfl|simp,by rw[R.out.2];simp,H⟩
    case measure=>have:=A.out;simp[intOf];omega
   ·rw[aa p]at f;have R:=M (aq p f);clear p f;go_wp2_with fail;refine g.1.mono ?_;rintro e G⟨W,X,a3,v,rfl,z,m',s',h,x,j,c⟩;obtain⟨v1,v2,v3⟩:=v;rw[dT R.out.1];have a:=aG.out S.pu g.2 h;have r:Hid (Kl w K b hb lg yb (t+1) G):=M ⟨a.1,z,m',s',x,j,c,a.2⟩;obtain⟨l,-,u⟩:=Ac.aO G #[J 1,L false,J W,J X,J a3,L v1,U v2 v3] 48;have H:=M (r.pure l);have z1:=(gF u).2.1;clear h x j c a r l u;go_wp2_with fail;generalize G.alloc _=w7 at *;go_roundw
    case rel=>exact⟨t+1,by have:=A.out;omega,by first|rfl|simp,by rw[R.out.2];simp,H⟩
    case measure=>have:=A.out;simp[intOf];omega
  ·obtain rfl:t=20:=by omega
   clear B ht;obtain⟨κ,m,s,E,q,o,n⟩:=S.st;obtain⟨h4,-⟩:=zQ Q.2.2 E.Fa q (by omega);have HM:=M (aq E.Fa (aq q h4));have h2:(JZ 20:V)=2:=by decide
   rw[h2];clear E q o n h4 h2;go_wp2_with fail;refine(xq wr HM.1).mono ?_;rintro e G⟨v',rfl,P,-⟩;rw[HM.out.2.2];have a8:=M P;have b0:=M (zQ Q.2.2 (HM.1.pure P) HM.2.1 (by omega)).2;clear P;go_wp2_with fail;refine b0.mono ?_;rintro e w7⟨rfl,l⟩;have a9:=M l;clear l;go_wp2_with fail;go_ret;exact⟨T,(S.pu.MD a8).MD a9⟩
end fG
namespace topChurn
open fG
open Ac (Vl dx CT aA jb dj)
open jH (gb xO fE jT tE)
def mI(sh:List Sh)(k:V):Option Sh:=if k<0 then none else sh[k.toNat]?
def gC(sh:List Sh)(k n:V):dx:=match mI sh k with
 | none=>⟨1,0,k,0,0,0,0⟩
 | some s=>if s.a=true then⟨2,0,k,0,n,0,0⟩else⟨1,0,k,0,0,0,0⟩
def nE(c:Cn)(sh:List Sh)(k n:V):Int × Int:=match mI sh k with
 | none=>(0,0)
 | some s=>if 0<=bM s.a s.bs.length (gC sh k n).n/\bM s.a s.bs.length (gC sh k n).n<=c.ag/\cE s.a s.bs.length (gC sh k n).n<=c.al then(bM s.a s.bs.length (gC sh k n).n,cE s.a s.bs.length (gC sh k n).n)else(0,0)
def tk(c:Cn)(sh:List Sh)(p:Int × Int):Bool:=!(decide ((nE c sh p.1 p.2).1=0)||decide ((nE c sh p.1 p.2).2>c.al/2))
def Ls(c:Cn)(sh:List Sh)(ps:List (Int × Int)):List dx:=(ps.filter (tk c sh)).map λp=>gC sh p.1 p.2
def Mo(c:Cn)(sh:List Sh)(ps:List (Int × Int)):V:=ps.foldl (λm p=>if tk c sh p=true then max m (nE c sh p.1 p.2).1 else m) 0
variable{c:Cn}{sh b:List Sh}{ps:List (Int × Int)}{p:Int × Int}
theorem BU(h:tk c sh p=true):Ls c sh (ps++[p])=Ls c sh ps++[gC sh p.1 p.2]:=by simp[Ls,h]
theorem zc(h:tk c sh p=false):Ls c sh (ps++[p])=Ls c sh ps:=by simp[Ls,h]
theorem xN(h:tk c sh p=true):Mo c sh (ps++[p])=max (Mo c sh ps) (nE c sh p.1 p.2).1:=by simp[Mo,h]
theorem vJ(h:tk c sh p=false):Mo c sh (ps++[p])=Mo c sh ps:=by simp[Mo,h]
theorem xM:(Ls c sh ps).length<=ps.length:=by
 simp only[Ls,fH];exact List.length_filter_le _ _
theorem Eu{P:List (Int × Int)->Prop}(d:P [])(f:∀ps p,P ps->P (ps++[p])):∀n,∀ps:List (Int × Int),ps.length=n->P ps:=by
 intro n
 induction n with
 | zero=>intro ps h;obtain rfl:=eE.1 h;exact d
 | succ n g =>
  intro ps h;have a:ps≠[]:=by intro e;simp[e]at h
  rw[<-List.dropLast_concat_getLast a];exact f _ _ (g _ (by rw[List.length_dropLast];omega))
theorem Ji(c:Cn)(sh:List Sh)(k n:V):0<=(nE c sh k n).1/\((nE c sh k n).1<=c.ag\/(nE c sh k n).1=0)/\0<=(nE c sh k n).2:=by
 unfold nE;split
 ·simp
 ·split
  ·next h=>exact⟨h.1,.inl h.2.1,jH.qk _ _ _⟩
  ·simp
theorem BV(c:Cn)(sh:List Sh):∀ps:List (Int × Int),(0<=Mo c sh ps/\(Mo c sh ps<=c.ag\/Mo c sh ps=0))/\∀p∈ps,tk c sh p=true->(nE c sh p.1 p.2).1<=Mo c sh ps:=by
 intro ps;refine Eu (P:=λps=>(0<=Mo c sh ps/\(Mo c sh ps<=c.ag\/Mo c sh ps=0))/\∀p∈ps,tk c sh p=true->(nE c sh p.1 p.2).1<=Mo c sh ps) ⟨⟨by simp[Mo],.inr (by simp[Mo])⟩,by simp⟩ ?_ _ ps T;intro ps p ⟨f,g⟩;have i:=Ji c sh p.1 p.2;cases e:tk c sh p with
 | false =>
  rw[vJ e];refine⟨f,λq d a=>?_⟩;rcases iE.1 d with h|h
  ·exact g q h a
  ·obtain rfl:=jr.1 h;rw[e]at a;cases a
 | true =>
  rw[xN e];refine⟨by omega,λq d a=>?_⟩;rcases iE.1 d with h|h
  ·have:=g q h a;omega
  ·obtain rfl:=jr.1 h;omega
theorem lU(h:bk c sh=0):(4<=c.ag/\c.ag<=1024)/\(0<=c.al/\c.al<=2048)/\(0<=c.ap/\c.ap<=8)/\(1<=c.ao/\c.ao<=16)/\(1<=c.ak/\c.ak<=8)/\(0<=c.aB/\c.aB<=8)/\(1<=c.be/\c.be<=256)/\(0<=c.di/\c.di<=c.ag)/\sh.length<=8/\∀s∈sh,s.bs.length<=40/\(s.a=true->s.bs.length=1):=by
 obtain⟨a,_,d⟩:=kE h;simp only[gq,bl,List.all_cons,List.all_nil,id,bt,aQ,Bool.and_true,and_assoc]at a d;refine⟨by omega,by omega,by omega,by omega,by omega,by omega,by omega,by omega,by omega,λs g=>?_⟩;have f:=List.all_eq_true.1 d.2.2 s g;simp only[gZ,bt,Bool.or_eq_true,Bool.not_eq_true',aQ,beq_iff_eq]at f;refine⟨f.1,λe=>?_⟩;rcases f.2 with h|h
 ·rw[e]at h;cases h
 ·exact h
abbrev IY(c:Cn)(b:List Sh)(Lq:List dx)(bp:N):gb:=⟨c,b,Lq,bp,c.ag.toNat,c.al.toNat,c.ao.toNat,c.aB.toNat,c.ap.toNat,c.ak.toNat⟩
theorem K1{bp:N}{F:List dx}(q:alike sh b)(v:bk c sh=0)(B:tk c sh p=true)(r:2*(nE c sh p.1 p.2).1<=c.ag-c.ao*c.aB):xO (IY c b F bp) (gC sh p.1 p.2):=by
 obtain⟨k,n⟩:=p;obtain⟨W,X,b3,b4,b5,b6,b7,b8,b9,o⟩:=lU v;have P:((c.ao.toNat*c.aB.toNat:N):V)=c.ao*c.aB:=by
  rw[Int.natCast_mul,Int.toNat_of_nonneg (by omega),Int.toNat_of_nonneg (by omega)]
 simp only[tk,Bool.not_eq_true',Bool.or_eq_false_iff,cL]at B;obtain⟨g,m⟩:=B;simp only at r;cases i:mI sh k with
 | none=>exact absurd (by simp[nE,i]) g
 | some s =>
  have t:¬k<0:=by intro e;simp[mI,e]at i
  have h:sh[k.toNat]?=some s:=by simpa[mI,t]using i
  obtain⟨S,l,f,a⟩:=Vw.kq q h;by_cases d:0<=bM s.a s.bs.length (gC sh k n).n/\bM s.a s.bs.length (gC sh k n).n<=c.ag/\cE s.a s.bs.length (gC sh k n).n<=c.al
  ·have u:nE c sh k n=(bM s.a s.bs.length (gC sh k n).n,cE s.a s.bs.length (gC sh k n).n):=by simp only[nE,i];rw[af d]
   rw[u]at g m r;simp only at g m r;obtain⟨hf,A⟩:=o s (cZ h);have H:(gC sh k n).a=0/\(gC sh k n).b=k/\((gC sh k n).aE=1\/(gC sh k n).aE=2)/\s.a=((gC sh k n).aE==2)/\(if(gC sh k n).aE=2 then(gC sh k n).n else 0)=(gC sh k n).n:=by
    cases w:s.a<;>simp[gC,i,w]
   obtain⟨Q,E,R,x,y⟩:=H;have j:tE b (gC sh k n)=s.bs:=by simp[tE,E,l,a]
   have z:fE b (gC sh k n)=(bM s.a s.bs.length (gC sh k n).n).toNat:=by
    unfold fE;rw[j,y,<-x]
   have G:jT b (gC sh k n)=(cE s.a s.bs.length (gC sh k n).n).toNat:=by
    unfold jT;rw[j,<-x]
   have K:=jH.qk s.a s.bs.length (gC sh k n).n;refine⟨R,Q,⟨k.toNat,S,⟨by rw[E];omega,l,by rw[f];exact x,by rw[a];omega,?_,?_,?_⟩⟩,?_,?_,?_⟩
   ·rw[f,a,y];exact d.1
   ·rw[f,a,y];exact d.2.1
   ·rw[f,a];exact d.2.2
   ·show 1<=fE b _;rw[z];omega
   ·show 2*fE b _+c.ao.toNat*c.aB.toNat<=c.ag.toNat;rw[z];omega
   ·show 2*jT b _<=c.al.toNat;rw[G];omega
  ·exact absurd (by simp only[nE,i];rw[aa d]) g
theorem IZ{bp:N}(a:alike sh b)(d:bk c sh=0)(k:c.ag<=64)(n:ps.length<=60)(E:2*Mo c sh ps<=c.ag-c.ao*c.aB)(G:bp=c.be.toNat):(IY c b (Ls c sh ps) bp).Ok:=by
 obtain⟨u,v,w,x,y,z,A,B,h,f⟩:=lU d;have F:=xM (c:=c) (sh:=sh) (ps:=ps);refine⟨by rw[<-alike.check a];exact d,?_,?_,?_,?_,?_,?_,?_,?_,?_,?_,?_,?_,?_,?_,?_,?_,?_,?_,?_⟩
 all_goals try(show _=((Int.toNat _:N):V);simp only;omega)
 all_goals try(simp only;omega)
 ·show b.length<=8;rw[<-alike.length a];exact h
 ·intro s q;obtain⟨t,r,i,j⟩:=tA a q;rw[<-i,<-j];exact f t r
 ·intro o l;obtain⟨p,m,rfl⟩:=aX.1 l;obtain⟨g,e⟩:=List.mem_filter.1 m;refine K1 a d e ?_;have:=(BV c sh ps).2 p g e;omega
