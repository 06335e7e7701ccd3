/- Part 50 of the proof of spotop.TopChurn. -/
import Derived.Test.YtpgdiceeimehiaaGreatR49
set_option maxRecDepth 100000
set_option maxHeartbeats 16000000
set_option linter.all false
open Go.Proofs.Tryz
namespace Go.Proofs.YtpgdiceeimehiaaGreat
open RowKit
namespace jH
open Ac (Vl dx Wr aA)
open fG (fF tb up)
section
variable{E:gb}{n:N}{w:Y}{K:aW.Q}{κ:N->N}{m g:aW.St}{b:Ac.B}{s s':Ac.St}{R H P:N}{y y':dw.St}{o:Pg}{od:dx}{p p':bW}{t t':gJ}{j beh' B nt' A gr':Bool}{an cur' bg F:Option Th}{es:N->List iG}{q tf':N->dq.dy}{u l l' i k kk:N}{G:Gh}{th:Th}{c f:Hl.St}
theorem Ci(a:E.Ok)(sp k:N):8*E.c.ag+(sp:V)*E.c.al+(k:V)=((E.aC sp+k:N):V):=by
 rw[a.F,a.S];unfold gb.aC
 push_cast
 rfl
theorem Kh(d:E.Ok){a:N}(e:a<2)(fr:N)(h:fr=1-a)(k:N):8*E.c.ag+(1-(fr:V))*E.c.al+(k:V)=((E.aC a+k:N):V):=by
 have:(1-(fr:V))=(a:V):=by omega
 rw[this];exact Ci d a k
theorem CZ(h:Mt w E.c K κ m b s R y H P (.hl c))(hi:dR E n m s y (.hl c) ⟨.cP c,t,j,B,A,an,bg,F,es,q,u⟩)(Q:aW.St->Hl.St->Prop)
  (hd:∀w3 d e v sh,iM w3 E.c K d m b s e v sh c->C 162 #[I e 0,I K.mb 0,I K.sb 0,I K.q.co 0] w3 (jU w3 E.c K d b s e v sh true Q))
  (a:(∀g f,Q g f->f.pc=11/\iL E n s ⟨.cP c,t,j,B,A,an,bg,F,es,q,u⟩ g {y with aM:=2} (.hl f))\/(∀g f,Q g f->f.pc≠11/\iL E n s ⟨.cP c,t,j,B,A,an,bg,F,es,q,u⟩ g y (.hl f))) :
  CW E n K b H P R w κ s ⟨.cP c,t,j,B,A,an,bg,F,es,q,u⟩:=by
 obtain⟨a8,a4⟩:=hi.gX.pos;have a5:c.pc≠11:=by have:=(hi.qt c T).pc;omega
 refine mi (λg y' o'=>iL E n s ⟨.cP c,t,j,B,A,an,bg,F,es,q,u⟩ g y' o') w h (λw1 b0 hm a7=>kZ _ w1 hm a8 (λw2 a6 W=>?_));obtain⟨e,v,sh,hp,a9⟩:=a7.ext a6 (λx hx=>by omega);have z:=a9.to W.bU;rcases a with a|a
 ·refine(td e v sh c Q w2 W a4 z hp (λw3 d a1=>qW true _ w3 a1 a5 (λw4 a2=>hd w4 d e v sh a2) (λg f X=>by rw[(a g f X).1];rfl))).mono ?_;rintro r w'⟨hr,a3,g,y',he,hy,rfl,f,S,X⟩;exact⟨hr,a3,_,_,he,hy,.hl f,⟨e,v,sh,hp,.of S⟩,(a g f X).2⟩
 ·refine(rN e v sh c Q w2 W a4 z hp (λw3 d a1=>qW false _ w3 a1 a5 (λw4 a2=>hd w4 d e v sh a2) (λg f X=>by simpa using(a g f X).1))).mono ?_;rintro r w'⟨hr,a3,g,y',he,hy,rfl,f,S,X⟩;exact⟨hr,a3,_,_,he,hy,.hl f,⟨e,v,sh,hp,.of S⟩,(a g f X).2⟩
theorem Iz(hE:E.Ok)(h:Mt w E.c K κ m b s R y H P o)(hi:dR E n m s y o ⟨.cP c,t,j,B,A,an,bg,F,es,q,u⟩):CW E n K b H P R w κ s ⟨.cP c,t,j,B,A,an,bg,F,es,q,u⟩:=by
 have b4:o=.hl c:=hi.gX.pg;subst b4;have a4:=hi.qt c T;have a9:=hi.kQ;have hm:=hi.mem;simp only at a4 a9 hm;have b1:=a9.cu;have hF:=hE.F;have hS:=hE.S;have b8:=hE.S2;have b5:=hE.BG;have a1:c.from_=0\/c.from_=1:=by have:=a4.from_;omega
 have b2:(c.fX:V)<=E.c.al:=by
  rw[a4.fX,hS];have:=a9.le (1-m.s.an) (by omega);omega
 have b3:=a4.pc;have b0:∀sp:N,sp<2->E.aC sp<=8*E.F+E.S:=λsp h2=>by
  unfold gb.aC;rcases(show sp=0\/sp=1 by omega)with e|e<;>rw[e]<;>omega
 have b7:=b0 _ b1;have b6:=b0 (1-m.s.an) (by omega);have a3:∀(Q:aW.St->Hl.St->Prop),c.pc<=3->(∀S x xb v sh,iM S E.c K x m b s xb v sh c->C 224 #[I xb 0,I K.mb 0,I K.sb 0] S (jU S E.c K x b s xb v sh true Q))->((∀g f,Q g f->f.pc=11/\iL E n s ⟨.cP c,t,j,B,A,an,bg,F,es,q,u⟩ g {y with aM:=2} (.hl f))\/(∀g f,Q g f->f.pc≠11/\iL E n s ⟨.cP c,t,j,B,A,an,bg,F,es,q,u⟩ g y (.hl f)))->CW E n K b H P R w κ s ⟨.cP c,t,j,B,A,an,bg,F,es,q,u⟩:=λQ h3 hd a7=>CZ h hi Q (λS x xb v sh r=>lq Q S r ⟨b3.1,h3⟩ a1 b2 (λw4 a8=>hd w4 x xb v sh a8)) a7;have W:∀(Q:aW.St->Hl.St->Prop),4<=c.pc->(∀S x xb v sh,iM S E.c K x m b s xb v sh c->C 225 #[I xb 0,I K.mb 0,I K.q.co 0] S (jU S E.c K x b s xb v sh true Q))->((∀g f,Q g f->f.pc=11/\iL E n s ⟨.cP c,t,j,B,A,an,bg,F,es,q,u⟩ g {y with aM:=2} (.hl f))\/(∀g f,Q g f->f.pc≠11/\iL E n s ⟨.cP c,t,j,B,A,an,bg,F,es,q,u⟩ g y (.hl f)))->CW E n K b H P R w κ s ⟨.cP c,t,j,B,A,an,bg,F,es,q,u⟩:=λQ h3 hd a7=>CZ h hi Q (λS x xb v sh r=>rR Q S r ⟨h3,b3.2⟩ a1 b2 (λw4 a8=>hd w4 x xb v sh a8)) a7;have a2:∀k:N,8*E.c.ag+(c.from_:V)*E.c.al+(k:V)=((E.aC (1-m.s.an)+k:N):V):=λk=>by rw[a4.from_];exact Ci hE _ _
 have a5:=λk=>Kh hE b1 c.from_ a4.from_ k;rcases(show c.pc=0\/c.pc=1\/c.pc=2\/c.pc=3\/c.pc=4\/c.pc=5\/c.pc=6\/c.pc=7\/c.pc=8\/c.pc=9\/c.pc=10 by omega)with e|e|e|e|e|e|e|e|e|e|e
 ·obtain⟨hd,g1,g2,X,g4,g5⟩:=KG hE hi e;refine a3 _ (by omega) (λS x xb v sh r=>zq hd (E.aC (1-m.s.an)+c.k) S r e X a1 (by omega) (a2 _) g4 (by omega)) (.inr ?_);rintro g f⟨rfl,rfl⟩;exact⟨by simp,g5⟩
 ·obtain⟨d,g1,g2,X,g4⟩:=KH hE hi e;refine a3 _ (by omega) (λS x xb v sh r=>FP d (E.aC (1-m.s.an)+c.k+1) S r e a1 (by omega) (by have:=a2 (c.k+1);push_cast at this ⊢;omega) X g2 (by omega)) (.inr ?_);rintro g f⟨rfl,rfl⟩;exact⟨by simp,g4⟩
 ·obtain⟨g1,g2⟩:=KI hi e;refine a3 _ (by omega) (λS x xb v sh r=>CU (q c.head) _ S r e g1 T) (.inr ?_);rintro g f⟨rfl,rfl⟩;exact⟨by simp only;split<;>omega,g2 _ T⟩
 ·obtain⟨g1,g2,X,g4⟩:=KJ hE hi e;refine a3 _ (by omega) (λS x xb v sh r=>CV (E.aC (1-m.s.an)+c.k) S r e a1 (by omega) (a2 _) (by omega) X (by omega)) (.inr ?_);rintro g f⟨rfl,rfl⟩;exact⟨by simp,g4⟩
 ·obtain⟨g1,g2,X⟩:=KK hE hi e;refine W _ (by omega) (λS x xb v sh r=>FQ S r e g1 g2) ?_;rcases X with⟨a,X⟩|⟨a,X⟩
  ·left;rintro g f⟨rfl,rfl⟩;exact⟨a,X⟩
  ·right;rintro g f⟨rfl,rfl⟩;exact⟨a,X⟩
 ·obtain⟨g1,g2,X,g4⟩:=KL hE hi e;refine W _ (by omega) (λS x xb v sh r=>FN (fu (es m.s.an)) S r e g1 (by omega) g2 X) (.inr ?_);rintro g f⟨rfl,rfl⟩;exact⟨by simp,g4⟩
 ·obtain⟨g1,g2,X⟩:=KM hE hi e;have a6:=g1.lt;refine W _ (by omega) (λS x xb v sh r=>yj (E.aC m.s.an+c.dst) S r e a1 (by omega) (a5 _) g1.len (by omega)) (.inr ?_);rintro g f⟨rfl,rfl⟩;exact⟨by simp,X⟩
 ·obtain⟨g1,g2,X⟩:=KN hE hi e;have a6:=g1.lt;refine W _ (by omega) (λS x xb v sh r=>yk (E.aC m.s.an+c.dst+1) S r e a1 (by omega) (by have:=a5 (c.dst+1);push_cast at this ⊢;omega) g1.len g2) (.inr ?_);rintro g f⟨rfl,rfl⟩;exact⟨by simp only;split<;>omega,X⟩
 ·obtain⟨z,g1,g2,X⟩:=KO hi hm.len e;refine W _ (by omega) (λS x xb v sh r=>FO (E.aC (1-m.s.an)+c.k+2+c.j) z S r e a1 (by omega) (by have:=a2 (c.k+2+c.j);push_cast at this ⊢;omega) g2) (.inr ?_);rintro g f⟨rfl,rfl⟩;exact⟨by simp,X⟩
 ·obtain⟨g1,g2,X⟩:=KP hE hi e;have a6:=g1.lt;refine W _ (by omega) (λS x xb v sh r=>Da (E.aC m.s.an+c.dst+(2+c.j)) S r e a1 (by omega) (by have:=a5 (c.dst+(2+c.j));push_cast at this ⊢;omega) g1.len g2) (.inr ?_);rintro g f⟨rfl,rfl⟩;exact⟨by simp only;split<;>omega,X⟩
 ·obtain⟨g1,g2,X,g4,g5⟩:=I8 hE hi e;have a6:=g1.lt;refine W _ (by omega) (λS x xb v sh r=>Jb (E.aC m.s.an+c.dst) S r e a1 (by omega) (a5 _) (by omega) (by rw[hm.len];omega) (by omega) X g4) ?_;rcases g5 with⟨a,g5⟩|⟨a,g5⟩
  ·left;rintro g f⟨rfl,rfl⟩;exact⟨a,g5⟩
  ·right;rintro g f⟨rfl,rfl⟩;exact⟨a,g5⟩
theorem Fv(hE:E.Ok)(hK:qU E K b)(h:Mt w E.c K κ m b s R y H P o)(hi:dR E n m s y o ⟨.jZ,t,j,B,A,an,bg,F,es,q,u⟩):CW E n K b H P R w κ s ⟨.jZ,t,j,B,A,an,bg,F,es,q,u⟩:=by
 have a7:=hi.qe ⟨by simp,by simp⟩;obtain⟨a3,a2⟩:=hi.gX.pos;have a4:y.h=.pointer none:=hi.gX.pg;have x:=hi.kQ;simp only at x;have b1:=x.cu;have hS:=hE.S;have hu:=x.u (1-m.s.an) (by omega);have b2:=x.le (1-m.s.an) (by omega);have Q:1-m.s.an=0\/1-m.s.an=1:=by omega
 rcases CQ hE a7 with⟨h0,a6⟩|⟨hd,g1,g2,g3,g4,g5⟩
 ·refine mi (λg y' o'=>iL E n s ⟨.jZ,t,j,B,A,an,bg,F,es,q,u⟩ g y' o') w h (λw1 a9 hm a8=>kZ _ w1 hm a3 (λw2 a5 S=>?_));refine(rO m.s.an (1-m.s.an) (fu (es (1-m.s.an))) (λg f=>g=m/\f.pc=11) w2 S a2 a4 T T hu (EF hE hK) (λe v3 v w3 b0 W=>qW true _ w3 W (by simp) (λw4 X=>lq _ w4 X (by simp) Q (by simp only;omega) (λw5 a1=>(Ja w5 a1 T h0).mono ?_)) (λg f hq=>by rw[hq.2];rfl))).mono ?_
  ·rintro r w'⟨hr,d,g,f,z,a,rfl,rfl⟩;exact⟨hr,d,_,_,z,a,T,T⟩
  ·rintro r w'⟨hr,d,g,y',z,hy,e,v3,v,rfl,f,a,rfl,-⟩;exact⟨hr,d,_,_,z,hy,.hl f,⟨e,v3,v,T,.of a⟩,a6 _ f⟩
 ·refine mi (λg y' o'=>iL E n s ⟨.jZ,t,j,B,A,an,bg,F,es,q,u⟩ g y' o') w h (λw1 a9 hm a8=>kZ _ w1 hm a3 (λw2 a5 S=>?_));have hF:=hE.F;refine(qK m.s.an (1-m.s.an) (fu (es (1-m.s.an))) (λg f=>g=m/\f=⟨1-m.s.an,fu (es (1-m.s.an)),y.ah,1,0,0,hd,0,0,(0,0),0⟩) w2 S a2 a4 T T hu (EF hE hK) (λe v3 v w3 b0 W=>qW false _ w3 W (by simp) (λw4 X=>lq _ w4 X (by simp) Q (by simp only;omega) (λw5 a1=>(zq hd (E.aC (1-m.s.an)) w5 a1 T g1 Q (by simp only;omega) (by simpa using Ci hE (1-m.s.an) 0) g4 (by omega)).mono ?_)) (λg f hq=>by rw[hq.2];rfl))).mono ?_
  ·rintro r w'⟨hr,d,g,f,z,a,rfl,rfl⟩;exact⟨hr,d,_,_,z,a,T,T⟩
  ·rintro r w'⟨hr,d,g,y',z,hy,e,v3,v,rfl,f,a,rfl,rfl⟩;exact⟨hr,d,_,_,z,hy,.hl _,⟨e,v3,v,T,.of a⟩,g5 _⟩
theorem Bs(d:E.Ok)(e:qU E K b)(r:n<=1000000000)(h:Mt w E.c K κ m b s R y H P o)(a:dR E n m s y o G):CW E n K b H P R w κ s G:=by
 obtain⟨p,t,j,B,A,an,bg,F,es,q,u⟩:=G;cases p with
 | idle=>exact IA d h a
 | Cm=>exact Kp h a
 | post k=>exact IG d r h a
 | eN k i=>exact IE d h a
 | fC i=>exact Iy d h a
 | mark v=>exact IC d e h a
 | trace x=>exact Fy d e h a
 | cb=>exact IB h a
 | qS=>exact IH h a
 | jZ=>exact Fv d e h a
 | cP c=>exact Iz d h a
 | done=>exact Ix d h a
 | jR i=>exact Fx d h a
 | fin=>exact Kr h a
 | serve=>exact Fw d r h a
end
end jH
namespace jH
open Ac (Vl dx Wr aA CT)
open fG (fF tb up)
section
variable{E:gb}{j:N}{w:Y}{K:aW.Q}{κ:N->N}{m a:aW.St}{b:Ac.B}{s s':Ac.St}{A x z:N}{y y':dw.St}{o:Pg}{od:dx}{p p':bW}{t t':gJ}{q beh' R nt' F gr':Bool}{an cur' bg S:Option Th}{es:N->List iG}{B tf':N->dq.dy}{H l l' i k kk:N}{G:Gh}{th:Th}
def TW(E:gb)(j:N)(K:aW.Q)(b:Ac.B)(x z A:N)(w:Y)(κ:N->N)(s:Ac.St)(y:dw.St)(o:Pg)(G:Gh):Prop:=C 10 #[I x 0,J 1] w λe w'=>e=O (nX 1 false 0 0 0 aA)/\∃κ' a s',aG CM w κ w' κ'/\Mt w' E.c K κ' a b s' A y x z o/\s'.next=s.next/\vE E (j+1) y o G s.bz.length a s'
def TD(E:gb)(j:N)(K:aW.Q)(b:Ac.B)(x z A:N)(w:Y)(κ:N->N)(s:Ac.St)(y:dw.St)(o:Pg):Prop:=∃a1 a2 v,C 10 #[I x 0,J 1] w λe w'=>e=O (nX 1 true a1 a2 0 v)/\∃κ' a s',aG CM w κ w' κ'/\Mt w' E.c K κ' a b s' A y x z o/\s'.next=s.next+1/\∃G',dR E (j+1) a s' y o G'/\∀l,pk G'.p G'.t G'.ib G'.nt G'.gr l<=14945
def Tk(c:Cn)(K:aW.Q)(b:Ac.B)(Q:aW.St->Ac.St->Prop)(w':Y)(κ':N->N):Prop:=∃a s',dt w' c K κ' a b s'/\Q a s'
theorem iI{Q:aW.St->Ac.St->Prop}:kX (Tk E.c K b Q):=lC λ_=>lC λ_=>λ_ _ _ i u e ⟨c,d⟩=>⟨c.aZ e i u,d⟩
theorem Il(h:Mt w E.c K κ m b s A y x z o)(Q:aW.St->Ac.St->Prop)(g:∀a s',Q a s'->s'.next=s.next/\vE E (j+1) y o G s.bz.length a s')
  (n:∀w1 c,dt w1 E.c K c m b s->C 25 #[I b.ab 0,I K.kb 0] w1 (oC w1 c 0 0 0 aA false (Tk E.c K b Q))):TW E j K b x z A w κ s y o G:=by
 refine(qZ 0 0 0 aA false Q w h n).mono ?_;rintro e P⟨r,d,a,s',v,u,f⟩;exact⟨r,d,a,s',v,u,(g a s' f).1,(g a s' f).2⟩
theorem oG(h:Mt w E.c K κ m b s A y x z o)(d:s.bn=1)(Q:aW.St->Ac.St->Prop)(g:∀a s',Q a s'->s'.next=s.next/\vE E (j+1) y o G s.bz.length a s')
  (f:∀w1 c,dt w1 E.c K c m b s->C 67 #[I b.ab 0,I K.kb 0] w1 λr e=>r=O (.tuple #[])/\∃κ',aG CT w1 c e κ'/\Tk E.c K b Q e κ'):TW E j K b x z A w κ s y o G :=
 Il h Q g (λw1 c n=>iW _ w1 n d iI f)
theorem zg(h:Mt w E.c K κ m b s A y x z o)(hN:j<=1000000000)(r:dR E j m s y o G)(e:s.bn=2)(Q:N->aW.St->Ac.St->Prop)
  (W:∀n:N,dR E (j+1) m {s with own:=((n+1:N):V)} y o G->∀a s',Q n a s'->s'.next=s.next/\vE E (j+1) y o G s.bz.length a s')
  (v:∀(n:N) d c,dt d E.c K c m b {s with own:=((n+1:N):V)}->C 68 #[I b.ab 0,I K.kb 0] d (oC d c 0 0 0 aA false (Tk E.c K b (Q n)))):TW E j K b x z A w κ s y o G:=by
 obtain⟨n,u,P⟩:=r.jp.own;exact Il h (Q n) (W n (r.owned u)) (λd c X=>iX 0 0 0 aA false n _ d X e u (by omega) iI (λw2 g f=>v n w2 g f))
theorem mO(h:Mt w E.c K κ m b s A y x z o)(hN:j<=1000000000)(r:dR E j m s y o G)(e:s.bn=3)(Q:N->aW.St->Ac.St->Prop)
  (W:∀n:N,dR E (j+1) m {s with own:=((n+1:N):V)} y o G->∀a s',Q n a s'->s'.next=s.next/\vE E (j+1) y o G s.bz.length a s')
  (v:∀(n:N) d c,dt d E.c K c m b {s with own:=((n+1:N):V)}->C 69 #[I b.ab 0,I K.kb 0] d (oC d c 0 0 0 aA false (Tk E.c K b (Q n)))):TW E j K b x z A w κ s y o G:=by
 obtain⟨n,u,P⟩:=r.jp.own;exact Il h (Q n) (W n (r.owned u)) (λd c X=>vm 0 0 0 aA false n _ d X e u (by omega) iI (λw2 g f=>v n w2 g f))
theorem lz{w1:Y}{e:N->N}{g n u:V}{v:Vl}{d:Bool}{P f:Y->(N->N)->Prop}{r:Ending}{c:Y}(X:∀c κ',P c κ'->f c κ')(h:oC w1 e g n u v d P r c):oC w1 e g n u v d f r c:=by
 obtain⟨hr,κ',W,Q⟩:=h;exact⟨hr,κ',W,X _ _ Q⟩
theorem ra:∀v∈List.replicate (E.n-1) aA,qo v.2:=by
 intro v c;rw[List.eq_of_mem_replicate c];exact kM
theorem sK(f:dR E j m s y o ⟨p,t,true,R,F,an,bg,S,es,B,H⟩):m.st=p.st/\s.aY≠m.st/\(p.st=0\/p.st=1\/p.st=2\/p.st=3\/p.st=4):=by
 have e:=f.kN;have c:=f.gX;simp only at e c;have d:=e.mM T;have g:=e.aY;simp only[bP]at g;have h:p.st=0\/p.st=1\/p.st=2\/p.st=3\/p.st=4:=by
  have n:=c.pA;clear f e c g;cases p with
  | fC i=>exact pN (.inl T)
  | eN k i =>
   have:=n.1;simp only[bW.st];omega
  | _=>simp[bW.mM]at d
 refine⟨c.st,?_,h⟩;rw[g,c.st];unfold mA;split<;>omega
theorem Fj(hE:E.Ok)(hK:qU E K b)(hN:j<=1000000000)(a5:s.next<E.Lq.length)(h:Mt w E.c K κ m b s A y x z o)(hi:dR E j m s y o ⟨p,.je,q,R,F,an,bg,S,es,B,H⟩):TW E j K b x z A w κ s y o ⟨p,.je,q,R,F,an,bg,S,es,B,H⟩:=by
 have Q:=hi.same;obtain⟨a1,-,a3⟩:=hi.jp.aM;have X:s.bn=1:=a1;have W:s.pc=0:=a3 (by omega);have a4:=hi.jp.loc;cases q
 ·have d:m.st=s.aY:=by have:=hi.kN.aY;have h2:=hi.gX.st;simp only[gx,bG]at this h2;rw[h2,this]
  obtain⟨od,a8⟩:∃od,E.Lq[s.next]?=some od:=⟨_,cR a5⟩;refine oG h X (λa s'=>a=m/\s'={s with bn:=2,own:=0,aM:=0,f:=.pointer none,addr:=0,DZ:=false,bg:=(0,0),w:=(0,0),tv:=Z none 0 0,wv:=Z none 0 0,cG:=[],bz:=[]}) ?_ (λw1 a2 hs=>(pR w1 hs W d (by rw[hK.ops];exact a5)).mono ?_)
  ·rintro a s'⟨rfl,rfl⟩;exact⟨T,GQ a8 Q⟩
  ·rintro r w'⟨hr,u,he,n⟩;exact⟨hr,u,he,_,_,n,T,T⟩
 ·obtain⟨d,P,h5⟩:=sK hi;rcases h5 with e|e|e|e|e
  ·have c:=iH (l:=s.bz.length) (gv':=Z none 0 0) (gy:=[]) (g:=false) (pc:=2) Q (.inl T) e T (λe=>by cases e) (λ_ e2=>by rw[e]at e2;cases e2);rw[aa (show ¬((0:V)=1)by decide)]at c;refine oG h X (λa s'=>a=m/\s'={s with seen:=0,gv:=Z none 0 0,bZ:=[],pc:=2}) ?_ (λw1 a2 hs=>(um w1 hs W (by rw[d,e]) (by rw[d,e]at P;exact P)).mono ?_)
   ·rintro a s'⟨rfl,rfl⟩;exact⟨T,c⟩
   ·rintro r w'⟨hr,u,he,n⟩;exact⟨hr,u,he,_,_,n,T,T⟩
  ·have c:=iH (l:=s.bz.length) (gv':=Z none 0 0) (gy:=[]) (g:=false) (pc:=2) Q (.inl T) e T (λe=>by cases e) (λ_ e2=>by rw[e]at e2;cases e2);rw[af rfl]at c;refine oG h X (λa s'=>a=m/\s'={s with seen:=1,gv:=Z none 0 0,bZ:=[],pc:=2,ah:=m.se}) ?_ (λw1 a2 hs=>(uk w1 hs W (by rw[d,e]) (by rw[d,e]at P;exact P)).mono ?_)
   ·rintro a s'⟨rfl,rfl⟩;exact⟨T,c⟩
   ·rintro r w'⟨hr,u,he,n⟩;exact⟨hr,u,he,_,_,n,T,T⟩
  ·have c:=iH (l:=s.bz.length) (gv':=Z none 0 0) (gy:=[]) (g:=false) (pc:=2) Q (.inl T) e T (λe=>by cases e) (λ_ e2=>by rw[e]at e2;cases e2);rw[aa (show ¬((2:V)=1)by decide)]at c;refine oG h X (λa s'=>a=m/\s'={s with seen:=2,gv:=Z none 0 0,bZ:=[],pc:=2}) ?_ (λw1 a2 hs=>(vP w1 hs W (by rw[d,e]) (by rw[d,e]at P;exact P)).mono ?_)
   ·rintro a s'⟨rfl,rfl⟩;exact⟨T,c⟩
   ·rintro r w'⟨hr,u,he,n⟩;exact⟨hr,u,he,_,_,n,T,T⟩
  ·cases an with
   | none =>
    have c:=iH (l:=s.bz.length) (gv':=Z none 0 0) (gy:=[]) (g:=false) (pc:=2) Q (.inl T) e T (λe=>by cases e) (λ_ _=>rfl);rw[aa (show ¬((3:V)=1)by decide)]at c;refine oG h X (λa s'=>a=m/\s'={s with seen:=3,gv:=Z none 0 0,bZ:=[],pc:=2}) ?_ (λw1 a2 hs=>(sZ w1 hs W (by rw[d,e]) (by rw[d,e]at P;exact P) ?_).mono ?_)
    ·rintro a s'⟨rfl,rfl⟩;exact⟨T,c⟩
    ·rw[a4];intro v hv;rcases dr.1 hv with hv|hv
     ·rw[hv];exact kM
     ·exact ra v hv
    ·rintro r w'⟨hr,u,he,n⟩;exact⟨hr,u,he,_,_,n,T,T⟩
   | some th =>
    have a7:th.hd<=1000000:=by
     have a6:=(hi.lw.an th T).1;have:=a6.lt _ (a6.sz hE).kV;have:=hE.BG;omega
    have c:=λgv'=>iH (l:=s.bz.length) (gv':=gv') (gy:=[(th.hd:V)]) (g:=true) (pc:=1) Q (.inl T) e T (λ_=>⟨e,th,T,T⟩) (λe=>by cases e);refine oG h X (λa s'=>a=m/\∃gv',s'={s with seen:=3,gv:=gv',bZ:=[(th.hd:V)],pc:=1}) ?_ (λw1 a2 hs=>(tc th.hd _ w1 hs W (by rw[d,e]) (by rw[d,e]at P;exact P) a7 a4 ra).mono ?_)
    ·rintro a s'⟨rfl,gv',rfl⟩;have:=c gv';rw[aa (show ¬((3:V)=1)by decide)]at this;exact⟨T,this⟩
    ·rintro r w'⟨hr,u,he,gv',n⟩;exact⟨hr,u,he,_,_,n,T,gv',T⟩
  ·have c:=iH (l:=s.bz.length) (gv':=Z none 0 0) (gy:=[]) (g:=false) (pc:=2) Q (.inl T) e T (λe=>by cases e) (λ_ e2=>by rw[e]at e2;cases e2);rw[aa (show ¬((4:V)=1)by decide)]at c;refine oG h X (λa s'=>a=m/\s'={s with seen:=4,gv:=Z none 0 0,bZ:=[],pc:=2}) ?_ (λw1 a2 hs=>(vR w1 hs W (by rw[d,e]) (by rw[d,e]at P;exact P)).mono ?_)
   ·rintro a s'⟨rfl,rfl⟩;exact⟨T,c⟩
   ·rintro r w'⟨hr,u,he,n⟩;exact⟨hr,u,he,_,_,n,T,T⟩
theorem Fi(P:E.Ok)(hK:qU E K b)(h:Mt w E.c K κ m b s A y x z o)(Q:dR E j m s y o ⟨p,.mw,q,R,F,an,bg,S,es,B,H⟩):TW E j K b x z A w κ s y o ⟨p,.mw,q,R,F,an,bg,S,es,B,H⟩:=by
 have f:=Q.same;obtain⟨W,-,X⟩:=Q.jp.aM;have n:s.bn=1:=W;have g:s.pc=1:=X (by omega);have c:=λpv' gv'=>yV (l:=s.bz.length) (pv':=pv') (gv':=gv') P f (.inl ⟨T,T⟩);obtain⟨th,e1,e2,e3,e4,e5,e6,e7,-⟩:=c (J 0) (J 0);have e:∀pv' gv',vE E (j+1) y o ⟨p,.mw,q,R,F,an,bg,S,es,B,H⟩ s.bz.length {m with pv:=pv',xs:=m.xs++[(th.hd:V)],s:={m.s with l:=m.s.l.set th.hd {B th.hd with ah:=s.ah}}} {s with gv:=gv',bZ:=[],pc:=2}:=λpv' gv'=>by
  obtain⟨a2,d,-,-,-,-,-,-,f2⟩:=c pv' gv';rw[e1]at d;injection d with d;subst d;exact f2
 refine oG h n (λa s'=>∃pv' gv',a={m with pv:=pv',xs:=m.xs++[(th.hd:V)],s:={m.s with l:=m.s.l.set th.hd {B th.hd with ah:=s.ah}}}/\s'={s with gv:=gv',bZ:=[],pc:=2}) ?_ (λw1 a4 hs=>(vQ th.hd (B th.hd) w1 hs g e3 e4 e5 e6 (by rw[e7,hK.bp];exact P.bp)).mono ?_)
 ·rintro a s'⟨pv',gv',rfl,rfl⟩;exact⟨T,e pv' gv'⟩
 ·rintro r w'⟨hr,v,he,pv',gv',u⟩;exact⟨hr,v,he,_,_,u,pv',gv',T,T⟩
theorem tB(g:qU E K b)(e:dR E j m s y o ⟨p,t,q,R,F,an,bg,S,es,B,H⟩)(h:t.mu=true):m.bA[b.t]?=some s.aY/\s.aY≠-1/\0<=s.seen/\s.seen<=4:=by
 have d:=e.kN;simp only at d;obtain⟨x,c⟩:=d.mu h;subst x;obtain⟨r,n,u⟩:=sK e;have f:=d.aY;simp only[bP]at f;refine⟨by rw[g.t,d.bA];rfl,?_,by rw[c];omega,by rw[c];omega⟩;rw[f];unfold mA;split<;>omega
theorem Ii(v:qU E K b)(h:Mt w E.c K κ m b s A y x z o)(e:dR E j m s y o ⟨p,.qH,q,R,F,an,bg,S,es,B,H⟩):TW E j K b x z A w κ s y o ⟨p,.qH,q,R,F,an,bg,S,es,B,H⟩:=by
 have f:=e.same;obtain⟨P,-,Q⟩:=e.jp.aM;have n:s.bn=1:=P;have g:s.pc=2:=Q (by omega);obtain⟨W,X,f3,f4⟩:=tB v e T;have d:=tV (t':=.je) (k:=0) (l:=s.bz.length) f (.inl ⟨T,T,T⟩);refine oG h n (λa s'=>a={m with bA:=m.bA.set 0 s.seen}/\s'={s with aY:=s.seen,pc:=0}) ?_ (λw1 a2 hs=>(sX s.aY w1 hs g W X f3 f4).mono ?_)
 ·rintro a s'⟨rfl,rfl⟩;exact⟨T,d⟩
 ·rintro r w'⟨hr,u,he,c⟩;rw[v.t]at c;exact⟨hr,u,he,_,_,c,T,T⟩
theorem Ce(Q:E.Ok)(W:qU E K b)(hN:j<=1000000000)(h:Mt w E.c K κ m b s A y x z o)(g:dR E j m s y o ⟨p,.fZ,q,R,F,an,bg,S,es,B,H⟩):TW E j K b x z A w κ s y o ⟨p,.fZ,q,R,F,an,bg,S,es,B,H⟩:=by
 obtain⟨a1,-,a3⟩:=g.jp.aM;have v:s.bn=3:=a1;have u:s.pc=5:=a3 (by omega);cases F
 ·obtain⟨od,h1,h2,-⟩:=g.jp.op T;obtain⟨e,he,hw⟩:=h2 T;refine mO h hN g v (λn a s'=>a=m/\s'={s with own:=((n+1:N):V),pc:=0}) (λn d=>?_) (λn w1 a4 hs=>(vA e w1 hs u W.t he hw.th hw.st).mono λr w' X=>lz (λw' a2 f=>⟨_,_,f,rfl,rfl⟩) X);rintro a s'⟨rfl,rfl⟩;exact⟨T,JR d⟩
 ·obtain⟨e,th,g1,g2,g3,g4,g5,g6,g7,g8,-⟩:=tX (l:=0) (lv':=J 0) (wv':=J 0) (tv':=J 0) Q g.same;have c:=g5.Jt Q W.ba;rw[<-g8]at c;have hz:=g5.sz Q;refine mO h hN g v (λn a s'=>∃lv' wv' tv',a={m with s:={m.s with lv:=lv',en:=[]}}/\s'={s with own:=((n+1:N):V),bn:=2,aM:=7,wv:=wv',bz:=th.wr E.ba,tv:=tv',cG:=Pl.aI th.fs}) (λn d=>?_) (λn w1 a4 hs=>(qT e th.o th.fs _ w1 hs u W.t g1 g2 g3 g7 (by rw[W.ops];exact g6) c hz.pos).mono λr w' X=>lz ?_ X)
  ·rintro a s'⟨lv',wv',tv',rfl,rfl⟩;obtain⟨e',a5,f1,-,-,P,-,-,-,-,f9⟩:=tX (l:=s.bz.length) (lv':=lv') (wv':=wv') (tv':=tv') Q d;rw[g4]at P;injection P with P;subst P;exact⟨T,f9⟩
  ·rintro w' a2⟨lv',wv',tv',f⟩;exact⟨_,_,f,lv',wv',tv',T,T⟩
theorem Fm(hE:E.Ok)(hK:qU E K b)(hN:j<=1000000000)(h:Mt w E.c K κ m b s A y x z o)(hi:dR E j m s y o ⟨p,.nk,q,R,F,an,bg,S,es,B,H⟩):TW E j K b x z A w κ s y o ⟨p,.nk,q,R,F,an,bg,S,es,B,H⟩:=by
 obtain⟨a1,-,a3⟩:=hi.jp.aM;have a2:s.bn=3:=a1;have X:s.pc=0:=a3 (by omega);have a6:=hi.jp.loc;cases q
 ·have d:m.st=s.aY:=by have:=hi.kN.aY;have h2:=hi.gX.st;simp only[gx,bG]at this h2;rw[h2,this]
  refine mO h hN hi a2 (λn a s'=>a=m/\s'={s with own:=((n+1:N):V),pc:=5}) (λn f=>?_) (λn w1 a4 hs=>(vz w1 hs X d).mono λr w' hr=>lz (λw' Q u=>⟨_,_,u,rfl,rfl⟩) hr);rintro a s'⟨rfl,rfl⟩;exact⟨T,JQ f⟩
 ·obtain⟨d,P,h5⟩:=sK hi;rcases h5 with e|e|e|e|e
  ·refine mO h hN hi a2 (λn a s'=>a=m/\s'={s with own:=((n+1:N):V),seen:=0,gv:=Z none 0 0,bZ:=[],pc:=2}) (λn f=>?_) (λn w1 a4 hs=>gP _ w1 hs X iI (λw2 a5 W=>(qy w2 W (by rw[d,e]) (by rw[d,e]at P;exact P)).mono ?_))
   ·rintro a s'⟨rfl,rfl⟩;have c:=iH (l:=s.bz.length) (gv':=Z none 0 0) (gy:=[]) (g:=false) (pc:=2) f (.inr T) e T (λe=>by cases e) (λ_ e2=>by rw[e]at e2;cases e2);rw[aa (show ¬((0:V)=1)by decide)]at c;exact⟨T,c⟩
   ·rintro r w'⟨hr,Q,he,u⟩;exact⟨hr,Q,he,_,_,u,T,T⟩
  ·refine mO h hN hi a2 (λn a s'=>a=m/\s'={s with own:=((n+1:N):V),seen:=1,gv:=Z none 0 0,bZ:=[],pc:=2,ah:=m.se}) (λn f=>?_) (λn w1 a4 hs=>gP _ w1 hs X iI (λw2 a5 W=>(qx w2 W (by rw[d,e]) (by rw[d,e]at P;exact P)).mono ?_))
   ·rintro a s'⟨rfl,rfl⟩;have c:=iH (l:=s.bz.length) (gv':=Z none 0 0) (gy:=[]) (g:=false) (pc:=2) f (.inr T) e T (λe=>by cases e) (λ_ e2=>by rw[e]at e2;cases e2);rw[af rfl]at c;exact⟨T,c⟩
   ·rintro r w'⟨hr,Q,he,u⟩;exact⟨hr,Q,he,_,_,u,T,T⟩
  ·refine mO h hN hi a2 (λn a s'=>a=m/\s'={s with own:=((n+1:N):V),seen:=2,gv:=Z none 0 0,bZ:=[],pc:=2}) (λn f=>?_) (λn w1 a4 hs=>gP _ w1 hs X iI (λw2 a5 W=>(rV w2 W (by rw[d,e]) (by rw[d,e]at P;exact P)).mono ?_))
   ·rintro a s'⟨rfl,rfl⟩;have c:=iH (l:=s.bz.length) (gv':=Z none 0 0) (gy:=[]) (g:=false) (pc:=2) f (.inr T) e T (λe=>by cases e) (λ_ e2=>by rw[e]at e2;cases e2);rw[aa (show ¬((2:V)=1)by decide)]at c;exact⟨T,c⟩
   ·rintro r w'⟨hr,Q,he,u⟩;exact⟨hr,Q,he,_,_,u,T,T⟩
  ·cases an with
   | none =>
    refine mO h hN hi a2 (λn a s'=>a=m/\s'={s with own:=((n+1:N):V),seen:=3,gv:=Z none 0 0,bZ:=[],pc:=2}) (λn f=>?_) (λn w1 a4 hs=>gP _ w1 hs X iI (λw2 a5 W=>(ph w2 W (by rw[d,e]) (by rw[d,e]at P;exact P) ?_).mono ?_))
    ·rintro a s'⟨rfl,rfl⟩;have c:=iH (l:=s.bz.length) (gv':=Z none 0 0) (gy:=[]) (g:=false) (pc:=2) f (.inr T) e T (λe=>by cases e) (λ_ _=>rfl);rw[aa (show ¬((3:V)=1)by decide)]at c;exact⟨T,c⟩
    ·show ∀v∈s.ak,qo v.2;rw[a6];intro v hv;rcases dr.1 hv with hv|hv
     ·rw[hv];exact kM
     ·exact ra v hv
    ·rintro r w'⟨hr,Q,he,u⟩;exact⟨hr,Q,he,_,_,u,T,T⟩
   | some th =>
    have a8:th.hd<=1000000:=by
     have a7:=(hi.lw.an th T).1;have:=a7.lt _ (a7.sz hE).kV;have:=hE.BG;omega
    refine mO h hN hi a2 (λn a s'=>a=m/\∃gv',s'={s with own:=((n+1:N):V),seen:=3,gv:=gv',bZ:=[(th.hd:V)],pc:=1}) (λn f=>?_) (λn w1 a4 hs=>gP _ w1 hs X iI (λw2 a5 W=>(pi w2 W (by rw[d,e]) (by rw[d,e]at P;exact P) th.hd a8 _ a6 ra).mono ?_))
    ·rintro a s'⟨rfl,gv',rfl⟩;have c:=iH (l:=s.bz.length) (gv':=gv') (gy:=[(th.hd:V)]) (g:=true) (pc:=1) f (.inr T) e T (λ_=>⟨e,th,T,T⟩) (λe=>by cases e);rw[aa (show ¬((3:V)=1)by decide)]at c;exact⟨T,c⟩
    ·rintro r w'⟨hr,Q,he,gv',u⟩;exact⟨hr,Q,he,_,_,u,T,gv',T⟩
  ·refine mO h hN hi a2 (λn a s'=>a=m/\s'={s with own:=((n+1:N):V),seen:=4,gv:=Z none 0 0,bZ:=[],pc:=2}) (λn f=>?_) (λn w1 a4 hs=>gP _ w1 hs X iI (λw2 a5 W=>(rW w2 W (by rw[d,e]) (by rw[d,e]at P;exact P)).mono ?_))
   ·rintro a s'⟨rfl,rfl⟩;have c:=iH (l:=s.bz.length) (gv':=Z none 0 0) (gy:=[]) (g:=false) (pc:=2) f (.inr T) e T (λe=>by cases e) (λ_ e2=>by rw[e]at e2;cases e2);rw[aa (show ¬((4:V)=1)by decide)]at c;exact⟨T,c⟩
   ·rintro r w'⟨hr,Q,he,u⟩;exact⟨hr,Q,he,_,_,u,T,T⟩
theorem Fl(d:E.Ok)(hK:qU E K b)(hN:j<=1000000000)(h:Mt w E.c K κ m b s A y x z o)(e:dR E j m s y o ⟨p,.nj,q,R,F,an,bg,S,es,B,H⟩):TW E j K b x z A w κ s y o ⟨p,.nj,q,R,F,an,bg,S,es,B,H⟩:=by
 obtain⟨P,-,Q⟩:=e.jp.aM;have u:s.bn=3:=P;have g:s.pc=1:=Q (by omega);obtain⟨th,W,e2,X,e4,e5,e6,e7,-⟩:=yV (l:=s.bz.length) (pv':=J 0) (gv':=J 0) (t':=.pI) d e (.inr ⟨T,T⟩);refine mO h hN e u (λn a s'=>∃pv' gv',a={m with pv:=pv',xs:=m.xs++[(th.hd:V)],s:={m.s with l:=m.s.l.set th.hd {B th.hd with ah:=s.ah}}}/\s'={s with own:=((n+1:N):V),gv:=gv',bZ:=[],pc:=2}) (λn f=>?_) (λn w1 a5 hs=>(vw th.hd (B th.hd) w1 hs g X e4 e5 e6 (by rw[e7,hK.bp];exact d.bp)).mono λr w' hr=>lz ?_ hr)
 ·rintro a s'⟨pv',gv',rfl,rfl⟩;obtain⟨a2,c,-,-,-,-,-,-,f2⟩:=yV (l:=s.bz.length) (pv':=pv') (gv':=gv') (t':=.pI) d f (.inr ⟨T,T⟩);rw[W]at c;injection c with c;subst c;exact⟨T,f2⟩
 ·rintro w' a4⟨pv',gv',v⟩;exact⟨_,_,v,pv',gv',T,T⟩
theorem Ik(u:qU E K b)(hN:j<=1000000000)(h:Mt w E.c K κ m b s A y x z o)(d:dR E j m s y o ⟨p,.pI,q,R,F,an,bg,S,es,B,H⟩):TW E j K b x z A w κ s y o ⟨p,.pI,q,R,F,an,bg,S,es,B,H⟩:=by
 obtain⟨v,-,P⟩:=d.jp.aM;have g:s.bn=3:=v;have f:s.pc=2:=P (by omega);obtain⟨Q,W,X,f4⟩:=tB u d T;refine mO h hN d g (λn a s'=>a={m with bA:=m.bA.set 0 s.seen}/\s'={s with own:=((n+1:N):V),aY:=s.seen,pc:=5}) (λn e=>?_) (λn w1 a4 hs=>(sT s.aY w1 hs f Q W X f4).mono λr w' hr=>lz ?_ hr)
 ·rintro a s'⟨rfl,rfl⟩;exact⟨T,tV (t':=.fZ) (k:=5) (l:=s.bz.length) e (.inr ⟨T,T,T⟩)⟩
 ·intro w' a2 c;rw[u.t]at c;exact⟨_,_,c,T,T⟩
end
end jH
namespace jH
open Ac (Vl dx Wr aA CT)
open fG (fF tb up)
section
variable{E:gb}{g:N}{w:Y}{K:aW.Q}{κ:N->N}{m f:aW.St}{b:Ac.B}{s s':Ac.St}{B z A:N}{y y':dw.St}{o:Pg}{d:dx}{p p':bW}{t t':gJ}{j beh' Q nt' P gr':Bool}{an cur' bg R:Option Th}{es:N->List iG}{F tf':N->dq.dy}{H l l' i k kk:N}{G:Gh}{th:Th}
theorem Ho(q:E.Ok)(r:xO E d):∀x∈tx.kn d.aE,tx.oF E.c d x:=by
 have v:=r.a;have S:=q.n;have u:=q.n1;intro x a;have n:x=97\/x=107\/x=110:=by
  rcases r.aE with c|c
  ·rw[c]at a;have:tx.kn 1=[97,107]:=rfl;rw[this]at a;simp only[dr,gd,or_false]at a;rcases a with h|h
   ·exact .inl h
   ·exact .inr (.inl h)
  ·rw[c]at a;have:tx.kn 2=[97,107,110]:=rfl;rw[this]at a;simp only[dr,gd,or_false]at a;exact a
 refine⟨λ_=>⟨by omega,by omega⟩,λe=>?_,λe=>?_,λe=>?_⟩<;>(subst e;rcases n with h|h|h<;>exact absurd h (by decide))
theorem Gs(e:E.Ok)(h:qU E K b)(a:xO E d):ln E.c K d (fE E.ba d) (jT E.ba d):=by
 obtain⟨kd,s0,c⟩:=a.sh e;exact ln.of a.aE (Ho e a) (by rw[h.ba];exact c.made) c.size c.al
theorem Fk(hE:E.Ok)(hK:qU E K b)(hN:g<=1000000000)(h:Mt w E.c K κ m b s B y z A o)(hi:dR E g m s y o ⟨p,.start,j,Q,P,an,bg,R,es,F,H⟩):TW E g K b z A B w κ s y o ⟨p,.start,j,Q,P,an,bg,R,es,F,H⟩:=by
 obtain⟨a1,a2,-⟩:=hi.jp.aM;have b0:s.bn=2:=a1;have b1:s.aM=0:=a2 b0;obtain⟨d,S,-,-⟩:=hi.jp.op T;have a4:b.ops[s.next]?=some d:=by rw[hK.ops];exact S
 have a:=hE.op _ (cZ S);have b5:=a.DD;have e4:=hE.BG;have c2:fE E.ba d<=1024:=by have:=a.CP;omega
 have v:=Gs hE hK a;have b7:=Ho hE a;have b4:∃kd e3,tx.Made E.c K.ba d kd e3:=by rw[hK.ba];exact a.made
 have b2:m.s.en=[]:=(hi.jp.en T).1;have a7:=hi.lw;have c3:=hi.kQ;simp only at a7 c3;obtain⟨q,q1,q2,q3,q4⟩:=a7.sx;have e5:m.s.sx.length=q.length:=by rw[q1];unfold Po.aI;rw[fH]
 have b9:m.s.fr.length=m.s.l.length:=by rw[a7.fr,a7.l,fG.iK,fG.iK]
 have b8:m.s.l.length=E.F:=by rw[a7.l,fG.iK]
 have e0:m.s.size=E.c.al:=by rw[c3.size,hE.S]
 by_cases c4:jT E.ba d=0/\fE E.ba d<=q.length
 ·obtain⟨b6,b3⟩:=c4;obtain⟨c8,c9,-⟩:=zT (l:=0) (sv':=J 0) (wv':=J 0) (tv':=J 0) hE hi S q1 b3 b6;have W:=c8.Jt hE hK.ba;refine zg h hN hi b0 (λn f s'=>∃sv' wv' tv',f={m with s:={m.s with l:=Sp.de m.s.l (q.take (fE E.ba d)) 2 (ft s),sv:=sv',sx:=Po.aI (q.drop (fE E.ba d))}}/\s'={s with own:=((n+1:N):V),bn:=2,aM:=7,wv:=wv',bz:=(⟨d,q.take (fE E.ba d),-1⟩:Th).wr E.ba,tv:=tv',cG:=Pl.aI (q.take (fE E.ba d))}) (λn a3=>?_) (λn w1 c6 hs=>iA d 0 0 0 aA false _ w1 hs b1 a4 iI (λw2 c7 a6=>?_))
  ·rintro f s'⟨sv',wv',tv',rfl,rfl⟩;exact⟨T,(zT (sv':=sv') (wv':=wv') (tv':=tv') hE a3 S q1 b3 b6).2.2⟩
  ·have a9:=ua.K9 (c:=E.c) (K:=K) (m:=m) (fE E.ba d) q (ft s) hK.ns b5 q1 b3 (λx hx=>by rw[b8];exact c9 x hx) b2 (by omega);rw[<-b6]at a9;refine(oB d (fE E.ba d) (jT E.ba d) _ _ _ _ w2 a6 a.aE b7 b4 v hK.t a9 W).mono ?_;rintro r w'⟨hr,a8,he,sv',wv',tv',a5⟩;exact⟨hr,a8,he,_,_,a5,sv',wv',tv',T,T⟩
 ·have c5:jT E.ba d=0->m.s.sx.length<fE E.ba d:=λe=>by
   by_cases h2:fE E.ba d<=q.length
   ·exact absurd ⟨e,h2⟩ c4
   ·omega
  cases X:Sp.gY m.s (fE E.ba d) (jT E.ba d)
  ·refine zg h hN hi b0 (λn f s'=>∃lv',f={m with s:={m.s with lv:=lv',en:=[⟨0,(fE E.ba d:V),(jT E.ba d:V),0,0,-1,Z none 0 0,[],false⟩]}}/\s'={s with own:=((n+1:N):V),bn:=3,pc:=5}) (λn a3=>?_) (λn w1 c6 hs=>iA d 0 0 0 aA false _ w1 hs b1 a4 iI (λw2 c7 a6=>?_))
   ·rintro f s'⟨lv',rfl,rfl⟩;exact⟨T,JM (lv':=lv') hE a3 S⟩
   ·refine(sL d (fE E.ba d) (jT E.ba d) w2 a6 a.aE b7 b4 v hK.t hK.ns b5 c2 c5 b2 X).mono ?_;rintro r w'⟨hr,a8,he,lv',a5⟩;exact⟨hr,a8,he,_,_,a5,lv',T,T⟩
  ·obtain⟨e1,-⟩:=Hv (l:=0) (sv':=J 0) (wv':=J 0) (tv':=J 0) hE hi S X T;have W:=e1.ok.Jt hE hK.ba;refine zg h hN hi b0 (λn f s'=>∃sv' wv' tv',f={m with s:={m.s with l:=Sp.de (Sp.de m.s.l (Po.take m.s.fr (fE E.ba d)) 2 (ft s)) (Po.di (Po.off m.s.fr (Po.take m.s.fr (fE E.ba d))) (E.c.aB.toNat-m.s.sx.length)) 1 (ft s),fr:=Po.off (Po.off m.s.fr (Po.take m.s.fr (fE E.ba d))) (Po.di (Po.off m.s.fr (Po.take m.s.fr (fE E.ba d))) (E.c.aB.toNat-m.s.sx.length)),u:=Sp.uX m.s (fE E.ba d) (jT E.ba d),sv:=sv',sx:=m.s.sx++Po.aI (Po.di (Po.off m.s.fr (Po.take m.s.fr (fE E.ba d))) (E.c.aB.toNat-m.s.sx.length))}}/\s'={s with own:=((n+1:N):V),bn:=2,aM:=7,wv:=wv',bz:=(cM E m.s d).wr E.ba,tv:=tv',cG:=Pl.aI (cM E m.s d).fs}) (λn a3=>?_) (λn w1 c6 hs=>iA d 0 0 0 aA false _ w1 hs b1 a4 iI (λw2 c7 a6=>?_))
   ·rintro f s'⟨sv',wv',tv',rfl,rfl⟩;exact⟨T,(Hv (sv':=sv') (wv':=wv') (tv':=tv') hE a3 S X T).2⟩
   ·have a9:=ua.L8 (c:=E.c) (K:=K) (m:=m) (fE E.ba d) (jT E.ba d) (ft s) hK.ns b5 c5 b2 X e0 b9 (by rw[b9,b8];omega);refine(oB d (fE E.ba d) (jT E.ba d) _ _ _ _ w2 a6 a.aE b7 b4 v hK.t a9 W).mono ?_;rintro r w'⟨hr,a8,he,sv',wv',tv',a5⟩;exact⟨hr,a8,he,_,_,a5,sv',wv',tv',T,T⟩
theorem Fo(hE:E.Ok)(hN:g<=1000000000)(hK:qU E K b)(h:Mt w E.c K κ m b s B y z A o)(e:dR E g m s y o ⟨p,.write,j,Q,P,an,bg,R,es,F,H⟩):TW E g K b z A B w κ s y o ⟨p,.write,j,Q,P,an,bg,R,es,F,H⟩:=by
 obtain⟨a,v,l,g1,g2,g3,x,-⟩:=zU (wv':=J 0) hE e;obtain⟨d,u,-,-⟩:=e.jp.op T;refine zg h hN e x (λn f s'=>∃wv',f={m with am:=m.am.set a v}/\s'={s with own:=((n+1:N):V),wv:=wv',bz:=l,aM:=if l=[]then 8 else 7}) (λn q=>?_) (λn w1 a1 hs=>pK d 0 0 0 aA false _ w1 hs g3 (by rw[hK.ops];exact u) iI (λw2 a2 W=>(tK a v l w2 W g1 g2 g3 _ T).mono ?_))
 ·rintro f s'⟨wv',rfl,rfl⟩;obtain⟨a',v',l',c,-,-,-,f2⟩:=zU (wv':=wv') hE q;have c:s.bz=((a':V),v')::l':=c;rw[g1]at c;injection c with c f3;injection c with c f4;obtain rfl:a=a':=by omega
  subst f3 f4;exact⟨T,f2⟩
 ·rintro r w'⟨hr,X,he,wv',S⟩;exact⟨hr,X,he,_,_,S,wv',T,T⟩
theorem Ij(hE:E.Ok)(hN:g<=1000000000)(hK:qU E K b)(h:Mt w E.c K κ m b s B y z A o)(a5:s.next<=1000)(S:dR E g m s y o ⟨p,.born,j,Q,P,an,bg,R,es,F,H⟩):TD E g K b z A B w κ s y o:=by
 obtain⟨n,hn,a4⟩:=S.jp.own;have W:=S.owned hn;obtain⟨d,a,xs,g1,g2,g3,g4,g5,g6,g7,u,g8,G',g9,v⟩:=JL hE W;have a3:=hE.BG;have q:0<s.ak.length:=by rw[S.jp.loc];simp
 refine⟨s.next,((n+1:N):V),(true,bi a),?_⟩;refine(qZ s.next ((n+1:N):V) 0 (true,bi a) true (λf s'=>f={m with s:={m.s with l:=m.s.l.set a {F a with head:=true}}}/\s'={s with own:=((n+1:N):V),next:=s.next+1,bn:=1,pc:=0,ak:=s.ak.set 0 (true,bi a)}) w h (λw1 a6 hs=>iX _ _ _ _ true n (Tk E.c K b _) w1 hs u hn (by omega) iI (λw2 a7 a1=>pJ d _ _ _ _ true _ w2 a1 g7 (by rw[hK.ops];exact g1) iI (λw3 a8 a2=>(bears_any a 0 xs (F a) d w3 a2 g2 g4 g5 g6 (by omega) g8 q (by have:s.bn=2:=u;simp only[this];omega) (by simp only;omega)).mono ?_)))).mono ?_
 ·rintro r w'⟨hr,c,x,X⟩;exact⟨hr,c,x,_,_,X,T,T⟩
 ·rintro e w'⟨x,c,f,s',hx,hm,rfl,rfl⟩;exact⟨x,c,_,_,hx,hm,T,G',g9,v⟩
theorem EB(e:E.Ok)(a:qU E K b)(n:g<=1000000000)(q:s.next<E.Lq.length)(h:Mt w E.c K κ m b s B y z A o)(c:dR E g m s y o G):TW E g K b z A B w κ s y o G\/(TD E g K b z A B w κ s y o/\∀l,qd G.p G.t G.ib G.nt G.gr l=1/\vH G.t G.ib G.gr=true):=by
 have r:=e.Lu;obtain⟨p,t,j,Q,P,an,bg,R,es,F,H⟩:=G;cases t with
 | je=>exact .inl (Fj e a n q h c)
 | mw=>exact .inl (Fi e a h c)
 | qH=>exact .inl (Ii a h c)
 | start=>exact .inl (Fk e a n h c)
 | write=>exact .inl (Fo e n a h c)
 | born=>exact .inr ⟨Ij e n a h (by omega) c,λl=>⟨T,T⟩⟩
 | fZ=>exact .inl (Ce e a n h c)
 | nk=>exact .inl (Fm e a n h c)
 | nj=>exact .inl (Fl e a n h c)
 | pI=>exact .inl (Ik a n h c)
