/- Part 43 of the proof of spotop.TopChurn. -/
import Derived.Test.YtpgdiceeimehiaaGreatR10
import Derived.Test.YtpgdiceeimehiaaGreatR32
import Derived.Test.YtpgdiceeimehiaaGreatR39
set_option maxRecDepth 100000
set_option maxHeartbeats 16000000
set_option linter.all false
open Go.Proofs.Tryz
namespace Go.Proofs.YtpgdiceeimehiaaGreat
open RowKit
section
open Ac (Vl fY vu mq)
namespace Vw
theorem ru{c:Cn}{l:List Sh}(h:bk c l=0):1<=c.ao/\c.ao<=16:=by
 have a:=(kE h).1;simp[gq,bl]at a;omega
def Ma(z:Nat × Nat):Prop:=∃r:V,∀w:Y,C 98 #[U z.1 z.2] w λe w'=>e=O (.tuple #[J r,L false])/\w=w'
def oE(Oq:N->Prop)(v:Vl):Prop:=(∃i,i<=1000000/\v.2=bi i/\(v.1=true->Oq i))\/Ma v.2
def Rl(W0:Y)(Oq:N->Prop)(n:N)(v:Value)(wr:Y):Prop:=ae W0 wr/\∃xs:List Int,wr.ownsRow W0.heap.size 3 1 v xs.length (bI xs)/\xs.length<=n/\∀x∈xs,∃i:N,x=(i:V)/\Oq i
theorem oE.ix{Oq:N->Prop}{v:Vl}(h:oE Oq v):∃(b:V) (a:Bool),(∀w:Y,C 98 #[U v.2.1 v.2.2] w λe k=>e=O (.tuple #[J b,L a])/\w=k)/\(v.1=true->a=true->∃i:N,b=(i:V)/\Oq i):=by
 rcases h with⟨i,f,hz,g⟩|⟨r,j⟩
 ·exact⟨i,true,λw=>by rw[hz];exact ij i w f,λc _=>⟨i,T,g c⟩⟩
 ·exact⟨r,false,j,λ_ d=>by cases d⟩
theorem Rl.pure{a w c:Y}{Oq:N->Prop}{n:N}{v:Value}(h:Rl a Oq n v w)(b:ae w c):Rl a Oq n v c:=by
 obtain⟨d,j,e,g,i⟩:=h;exact⟨d.MD b,j,b.own e (λ_ _ f=>f),g,i⟩
theorem Rl.mono{a w:Y}{Oq:N->Prop}{n b:N}{v:Value}(h:Rl a Oq n v w)(i:n<=b):Rl a Oq b v w:=by
 obtain⟨c,f,d,g,e⟩:=h;exact⟨c,f,d,by omega,e⟩
theorem Rl.Kj{f w e:Y}{Oq:N->Prop}{n:N}{A A9:Option Addr}{cc n9 i:N}{o:Obj}{a:List Int}(k:ae f w)(d:w.ownsRow f.heap.size 3 1 (Z A a.length cc) a.length (bI a))(l:(w.alloc o).grownBy e (Z A a.length cc).ownBlock)
  (b:e.ownsRow f.heap.size 3 1 (Z A9 (a.length+1) n9) (a.length+1) (bI a++[J i])) (hz:a.length<=n/\∀x∈a,∃i:N,x=(i:V)/\Oq i) (m:Oq i):ac (λq=>(Z A a.length cc).ownBlock=some q) w e/\Rl f Oq (n+1) (Z A9 (a.length+1) n9) e:=by
 have h:ac (λq=>(Z A a.length cc).ownBlock=some q) w e:=((bo w).alloc _).grown l (λq _ j=>j);refine⟨h,k.trans h (λq j g=>by have:=(d.lt q g).1;omega),a++[(i:V)],by simpa[bI]using b,by simp;exact hz.1,λx c=>?_⟩;rcases iE.1 c with c|c
 ·exact hz.2 x c
 ·simp at c;exact⟨i,c,m⟩
theorem Rl.aC{a c w:Y}{Oq:N->Prop}{n:N}{v:Value}(h:Rl c Oq n v w)(b:ae a c):Rl a Oq n v w:=by
 obtain⟨d,i,e,f,g⟩:=h;exact⟨b.MD d,i,dA e b.size,f,g⟩
section
variable{B vb hb lg yb:N}{c:Cn}{K:aW.Q}{κ:N->N}{m:aW.St}{b:Ac.B}{s:Ac.St}{y:dw.St}{Oq:N->Prop}{fr:N->List Nat}
theorem Bz(k:N)(j:1<=k)(w:Y)(h:jS w c K κ m b s yb y hb lg):C 13 #[I hb 0,J k] w λe a=>e=O (.tuple #[J (-1),J (-1),Z none 0 0])/\w=a:=by
 obtain⟨d,i⟩:=h.hp.p2;have f:decide ((k:V)<0)=false:=dT (by omega);have g:decide ((k:V)>=1)=true:=fN (by omega);clear h;go_enter func13,ntmps13;go_wp2_with fail;go_ret3;exact⟨T,T⟩
theorem GJ(w:Y)(h:jS w c K κ m b s yb y hb lg)(hx:∀s∈K.ba,s.bs.length<=1000000)(hL:s.bn≠0->s.bn≠4->∀v∈s.ak,oE Oq v)(l8:0<=c.ap)(a3:c.ap<=900)(ad:N)(h7:8*c.ag+2*c.al=(ad:V))(hG:∀g:N,(g:V)<c.ap->∃z,m.am[ad+g]?=some z/\oE Oq (true,z)):C 72 #[I hb 0] w λe w'=>∃v,e=O v/\Rl w Oq 1000 v w':=by
 have HM:=M h;have HX:=M hx;have HL:=M hL;have HG:=M hG;have j8:=M h7;obtain⟨Tq,hT⟩:∃Tq:N,c.ao=(Tq:V):=⟨c.ao.toNat,by have:=ru h.kG.bU.bm.ok;omega⟩;have m8:Tq<=64:=by have:=ru h.kG.bU.bm.ok;omega
 have HT:=M hT;have l4:Hid (1<=Tq):=M (by have:=ru h.kG.bU.bm.ok;omega);obtain⟨bd,c3,c4⟩:∃bd:N->N,bd 0=0/\∀j,0<j->bd j=8:=⟨λj=>if j=0 then 0 else 8,T,λj hj=>aa (by omega)⟩;have a2:=M (aq c3 c4);clear c3 c4;clear h hx hL hG h7 hT;go_enter func72,ntmps72;go_wp2_with fail;refine(ry w HM HX).mono ?_;rintro e w2⟨A2,d2,n2,rfl,h9,j3,c2,l7⟩;have c6:=Row.new w2 c (Z A2 K.ba.length d2);have HR:Hid (Row w2 w2.heap.size c (Z A2 K.ba.length d2) (w2.alloc (D #[J c.ag,J c.al,J c.ap,J c.ao,J c.ak,J c.aB,J c.be,J c.di,Z A2 K.ba.length d2] 24))):=M c6;have b3:Hid (ae w (w2.alloc (D #[J c.ag,J c.al,J c.ap,J c.ao,J c.ak,J c.aB,J c.be,J c.di,Z A2 K.ba.length d2] 24))):=M (h9.MD ((bo w2).alloc _));have h6:Hid (dm (w2.alloc (D #[J c.ag,J c.al,J c.ap,J c.ao,J c.ak,J c.aB,J c.be,J c.di,Z A2 K.ba.length d2] 24)) (w2.alloc (D #[J c.ag,J c.al,J c.ap,J c.ao,J c.ak,J c.aB,J c.be,J c.di,Z A2 K.ba.length d2] 24)).heap.size (Z A2 K.ba.length d2) n2/\bk c n2=0):=M ⟨j3.pure ((bo w2).alloc _),by rw[<-c2.check];exact HM.kG.bU.bm.ok⟩;clear h9 j3 c2 l7 c6;go_upto_region 3 with fail;generalize w2.alloc _=w3 at *;generalize w2.heap.size=X at *;have h3:(3:N)=3:=rfl;obtain⟨k0,k1,k2,k3,k4,k5,k6,k7,k8,kf⟩:=HR.cells;rw[HT.out]at k3;go_wp2_with fail;clear k0 k1 k2 k3 k4 k5 k6 k7 k8 kf h3;go_loopw [3,22] (λv i wr=>∃j:N,j<=Tq/\i=J j/\Rl w3 Oq (bd j) v wr) (λ_ i _=>Tq-(intOf i).toNat)
 case atStart=>exact⟨0,aw _,T,bo _,[],jD _ _ _ _,by simp,by simp⟩
 case round =>
  obtain⟨j,hj,rfl,F,xs,d,j6,j7⟩:=hrel;obtain⟨A,cc,rfl⟩:=aD d;have H:=M F;have a1:=M d;have x:=M (aq j6 j7);clear F d j6 j7;by_cases t:j<Tq
  ·rcases kc j with g0|g0
   ·subst g0;have P:=M t;clear t;go_wp2_with fail;refine(xq wr (HM.pure (b3.MD H))).mono ?_;rintro e w4⟨v4,rfl,g2,R⟩;have h5:=M (H.MD g2);have h4:Hid (w4.ownsRow w3.heap.size 3 1 (Z A xs.length cc) xs.length (bI xs)):=M (g2.own a1 (λ_ _ f=>f));obtain⟨Av,cv,rfl⟩:=aD R;have l5:=M R;clear g2 R a1 H;by_cases j1:s.bn=0\/s.bn=4
    ·rcases j1 with hq|hq
     all_goals
      have HQ:=M hq;clear hq;rw[HQ.out];go_wp2_with fail;go_roundw
      case rel=>exact⟨1,by have:=P.out;omega,by first|rfl|simp,h5,xs,h4,by have:=x.1;have:=a2.1;omega,x.2⟩
      case measure=>have:=P.out;simp[intOf];omega
    ·have j2:(s.bn==0)=false:=by simp;omega
     have m5:(s.bn==4)=false:=by simp;omega
     have j9:Hid (∀v∈s.ak,oE Oq v):=M (HL (by omega) (by omega));have c9:Hid (s.ak.length<=8):=M HM.kG.bU.bj.eT;clear j1;obtain⟨nl,g1⟩:∃nl:N,s.ak.length=nl:=⟨_,T⟩;have b2:=M g1;have m9:nl<=8:=by have:=c9.out;omega
     rw[g1];clear g1;go_wp2_with fail;go_loopw [3,40] (λv i wr=>∃j:N,j<=nl/\i=J j/\wr.ownsRow 0 44 2 (Z Av nl cv) nl (fY s.ak)/\Rl w3 Oq j v wr) (λ_ i _=>nl-(intOf i).toNat)
     case atStart=>exact⟨0,aw _,T,by have E:=l5.out;rw[b2.out]at E;exact dA E (aw _),h5,xs,h4,by have:=x.1;have:=a2.1;omega,x.2⟩
     case round =>
      clear j2 m5;obtain⟨k,hk,rfl,j5,F,o,d,W,b1⟩:=hrel;obtain⟨Az,cz,rfl⟩:=aD d;have e5:=M j5;have p:=M F;have G:=M d;have l:=M (aq W b1);clear j5 F d W b1;by_cases t:k<nl
      ·obtain⟨v,hv⟩:∃v,s.ak[k]?=some v:=⟨_,cR (by rw[b2.out];omega)⟩;have a9:=j9 v (cZ hv);have b9:=e5.out;obtain⟨gv,rfl⟩:∃gv,Av=some ⟨gv,0,none⟩:=by
        rcases b9.2 with⟨E,h2⟩|⟨g,_,_,E,_⟩
        ·omega
        ·injection E with E;exact⟨g,E⟩
       have d0:wr.cell? (I gv (k*2))=some (L v.1):=by rw[b9.cellAt (k*2) (by omega)];exact mq hv 0 (by omega)
       have d1:wr.cell? (I gv (k*2+1))=some (U v.2.1 v.2.2):=by rw[b9.cellAt (k*2+1) (by omega)];exact mq hv 1 (by omega)
       obtain⟨ri,rb,Q,n⟩:=a9.ix;obtain⟨vr,vx,vy⟩:=v;simp only[]at d0 d1 Q n;have e3:=M Q;have a4:=M n;clear a9 b9 hv Q n;go_upto_region 11 with fail;obtain⟨j0,-,e6⟩:=Ac.aO wr #[L vr,U vx vy] 44;have e0:(wr.alloc (D #[L vr,U vx vy] 44)).cell? (I wr.heap.size 0)=some (L vr):=by rw[bK e6];rfl
       have e1:(wr.alloc (D #[L vr,U vx vy] 44)).cell? (I wr.heap.size 1)=some (U vx vy):=by rw[bK e6];rfl
       have r:=M j0;clear j0 e6;generalize wr.alloc _=w6 at *;generalize wr.heap.size=X6 at *;have b4:Hid (ae w3 w6):=M (p.MD r);have b6:Hid (w6.ownsRow 0 44 2 (Z (some (I gv 0)) nl cv) nl (fY s.ak)):=M (r.own e5 (λ_ _ f=>f));have u:Hid (w6.ownsRow w3.heap.size 3 1 (Z Az o.length cz) o.length (bI o)):=M (r.own G (λ_ _ f=>f));clear G p r e5 d0 d1;go_wp2_with fail;refine(e3 _).mono ?_;rintro e w7⟨rfl,rfl⟩;cases vr with
       | false =>
        go_wp2_with fail;go_roundw
        case rel=>exact⟨k+1,by omega,by first|rfl|simp,b6,b4,o,u,by have:=l.1;omega,l.2⟩
        case measure=>simp[intOf];omega
       | true =>
        cases rb with
        | false =>
         go_wp2_with fail;go_roundw
         case rel=>exact⟨k+1,by omega,by first|rfl|simp,b6,b4,o,u,by have:=l.1;omega,l.2⟩
         case measure=>simp[intOf];omega
        | true =>
         obtain⟨i,rfl,a6⟩:=a4 (by simp) T;have e4:=M a6;clear a6;obtain⟨i0,e9,g4,g5,g6⟩:=aR Po.eu;have W:o.length<=1000000:=by have:=l.1;have:=c9.out;have:=b2.out;omega
         have b0:Hid (w3.heap.size<=w6.heap.size):=M b4.size;go_wp2_with (at_builtin;refine bT _ T (.tmp 55) (.tmp 57) _ T w3.heap.size 3 i0 _ 1 8 underlying25 e9 g4 g5 g6 T (by omega) (Z Az o.length cz) o.length _ T (aH u _) _ 1 1 [J i] T (jd.cI _ _ #[J i] 1 1 _ T T) (by simp[Value.oneCell']) (by simp only[maxLen];omega) (by omega) (by have:=b0.out;simp;omega) ?_;intro v9 w9 a a3 a8;obtain⟨A9,n9,rfl⟩:=aD a;have k9:=M a;have b7:=M (Rl.Kj b4 u a3 a l e4);clear a a3 a8;go_frame);go_roundw
         case rel =>
          refine⟨k+1,by omega,by first|rfl|simp,b7.1.own b6 (λq hq e=>?_),b7.2⟩;rcases b6.2 with⟨E,-⟩|⟨g,m6,m7,E,-,m4,-⟩
          ·cases E
          ·injection E with E h2 h3;injection E with E;injection E with E;subst E;simp[Value.ownBlock]at hq;subst hq;exact ca u m4 (by decide) e
         case measure=>simp[intOf];omega
      ·obtain rfl:k=nl:=by omega
       clear t;go_wp2_with fail;go_roundw
       case rel=>exact⟨1,by have:=P.out;omega,by first|rfl|simp,p,o,G,by have:=l.1;have:=c9.out;have:=b2.out;have:=a2.2 1 (by omega);omega,l.2⟩
       case measure=>have:=P.out;simp[intOf];omega
   ·have P:=M t;have g9:=M g0;have j2:((-1:V)==0)=false:=rfl;clear t;go_wp2_with fail;refine(Bz j g9 wr (HM.pure (b3.MD H))).mono ?_;rintro e w4⟨rfl,rfl⟩;go_wp2_with fail;go_loopw [3,40] (λv i wr=>i=J 0/\Rl w3 Oq 8 v wr) (λ_ _ _=>0)
    case atStart=>exact⟨T,H,xs,a1,by have:=x.1;have:=a2.2 j g9;omega,x.2⟩
    case round =>
     obtain⟨rfl,c5,o,S,c7,c8⟩:=hrel;obtain⟨Az,cz,rfl⟩:=aD S;have b5:=M (aq c5 (aq S (aq c7 c8)));clear c5 S c7 c8;go_wp2_with fail;go_roundw
     case rel=>exact⟨j+1,by have:=P.out;omega,by first|rfl|simp,b5.1,o,b5.2.1,by have:=b5.2.2.1;have:=a2.2 (j+1) (by omega);omega,b5.2.2.2⟩
     case measure=>have:=P.out;simp[intOf];omega
  ·obtain rfl:j=Tq:=by omega
   clear t hj;obtain⟨k0,k1,k2,k3,k4,k5,k6,k7,k8,kf⟩:=(HR.aj H).cells;rw[HT.out]at k3;obtain⟨gl,e7⟩:∃gl:N,c.ap=(gl:V):=dg l8;have g7:=M e7;rw[e7]at k2;have l9:gl<=900:=by omega
   clear e7;go_wp2_with fail;clear k0 k1 k2 k3 k4 k5 k6 k7 k8 kf;go_loopw [3,63] (λv i wr=>∃j:N,j<=gl/\i=J j/\Rl w3 Oq (8+j) v wr) (λ_ i _=>gl-(intOf i).toNat)
   case atStart=>exact⟨0,aw _,T,H,xs,a1,by have:=x.1;have:=a2.2 j l4;omega,x.2⟩
   case round =>
    obtain⟨k,hk,rfl,F,o,d,W,b1⟩:=hrel;obtain⟨Az,cz,rfl⟩:=aD d;have p:=M F;have G:=M d;have l:=M (aq W b1);clear F d W b1;by_cases t:k<gl
    ·obtain⟨z,hz,a9⟩:=HG k (by rw[g7.out];omega);obtain⟨ri,rb,Q,n⟩:=a9.ix;obtain⟨vx,vy⟩:=z;simp only[]at Q n;have e3:=M Q;have a4:=M n;have HZ:=M hz;clear a9 Q n hz;obtain⟨k0,k1,k2,k3,k4,k5,k6,k7,k8,kf⟩:=(HR.aj p).cells;have j4:dm wr wr.heap.size (Z A2 K.ba.length d2) n2:=h6.1.pure p;have l3:=M j4;clear j4;go_wp2_with fail;refine(pT c _ n2 (k:V) wr l3 h6.2 (by omega) (by rw[g7.out];omega)).mono ?_;have e8:8*c.ag+2*c.al+(k:V)=((ad+k:N):V):=by have:=j8.out;omega
     rw[e8];rintro e w5⟨rfl,g3⟩;have r:Hid (ae w3 w5):=M (p.MD g3);have a5:Hid (w5.ownsRow w3.heap.size 3 1 (Z Az o.length cz) o.length (bI o)):=M (g3.own G (λ_ _ f=>f));clear g3 e8 G p k0 k1 k2 k3 k4 k5 k6 k7 k8 kf;obtain⟨b8,a7⟩:∃b8:N,ad+k=b8:=⟨_,T⟩;rw[a7];have l6:Hid (m.am[b8]?=some (vx,vy)):=M (by rw[<-a7];exact HZ);clear a7;go_wp2_with fail;refine(ss b8 (vx,vy) w5 (HM.pure (b3.MD r)) l6).mono ?_;rintro e w6⟨rfl,rfl⟩;go_wp2_with fail;refine(e3 _).mono ?_;rintro e w7⟨rfl,rfl⟩;cases rb with
     | false =>
      go_wp2_with fail;go_roundw
      case rel=>exact⟨k+1,by omega,by first|rfl|simp,r,o,a5,by have:=l.1;omega,l.2⟩
      case measure=>simp[intOf];omega
     | true =>
      obtain⟨i,rfl,a6⟩:=a4 (by simp) T;have e4:=M a6;clear a6;obtain⟨i0,e9,g4,g5,g6⟩:=aR Po.eu;have W:o.length<=1000000:=by have:=l.1;omega
      have b0:Hid (w3.heap.size<=w5.heap.size):=M r.size;go_wp2_with (at_builtin;refine bT _ T (.tmp 80) (.tmp 82) _ T w3.heap.size 3 i0 _ 1 8 underlying25 e9 g4 g5 g6 T (by omega) (Z Az o.length cz) o.length _ T (aH a5 _) _ 1 1 [J i] T (jd.cI _ _ #[J i] 1 1 _ T T) (by simp[Value.oneCell']) (by simp only[maxLen];omega) (by omega) (by have:=b0.out;simp;omega) ?_;intro v9 w9 a a3 a8;obtain⟨A9,n9,rfl⟩:=aD a;have k9:=M a;have b7:=M (Rl.Kj r a5 a3 a l e4);clear a a3 a8;go_frame);go_roundw
      case rel=>exact⟨k+1,by omega,by first|rfl|simp,b7.2⟩
      case measure=>simp[intOf];omega
    ·obtain rfl:k=gl:=by omega
     clear t;go_wp2_with fail;go_ret;exact⟨_,T,Rl.aC ⟨p,o,G,by have:=l.1;omega,l.2⟩ b3⟩
end
end Vw
end
section
open Pl (aI bQ)
open Go.ChangeMaps (setBlock)
namespace Vw
theorem wO(n:N):∀(l:List Nat),l.Nodup->(∀i∈l,i<n)->l.length<=n:=by
 induction n with
 | zero =>
  intro l _ h;cases l with
  | nil=>simp
  | cons a l=>exact absurd (h a (by simp)) (by omega)
 | succ n j =>
  intro l c h;by_cases g:n∈l
  ·have d:=j (l.erase n) (c.erase n) (λi b=>by
    have f:=(List.Nodup.mem_erase_iff c).1 b;have k:=h i f.2;have m:=f.1;omega)
   rw[List.length_erase,af g]at d;omega
  ·have d:=j l c (λi b=>by
    have k:=h i b;have:i≠n:=λe=>g (e▸b);omega)
   omega
def Ga:Value->N
 | .slice _ n _=>n
 | _=>0
theorem DT{w:Y}{aC:N}{A:Option Addr}{c k:N}{xs:List Int}(h:w.ownsRow aC 3 1 (Z A xs.length c) xs.length (bI xs))(u:k<=xs.length)(q:1<=xs.length):w.ownsRow aC 3 1 (Z A k c) k (bI (xs.take k)):=by
 obtain⟨p,e⟩:=h;refine⟨by simp[bI];omega,?_⟩;rcases e with⟨r,s⟩|⟨g,d,a,o,n,m,t,f,i,j⟩
 ·omega
 ·injection o with e1 e2 e3;subst e1;subst e3;refine .inr ⟨g,c,a,T,n,m,by omega,f,i,?_⟩;have b:=ay (λl=>l.take k) j;simp only[List.take_take]at b;rw[show min k (xs.length*1)=k by omega]at b;rw[ei,b];simp[bI,List.map_take]
theorem GM{w:Y}{aC:N}{A:Option Addr}{c:N}{ts:List Int}(h:w.ownsRow aC 3 1 (Z A ts.length c) ts.length (bI ts)):jd w 1 A ts.length (bI ts):=by
 have e:=h.2;rcases e with⟨a,f⟩|⟨g,b,d,a,-⟩
 ·have:ts=[]:=mD f;subst this;exact xh A
 ·injection a with e1 e2 e3;subst e1;have:=jd.KE h ts.length (ci _)
  rwa [eF]at this
structure Rc(w:Y)(Mq:N)(Oq:N->Prop)(wv ov:Value)(wk:List Int)(out:List Nat)(wr:Y):Prop where
 pu:ae w wr
 mb:w.heap.size<=Mq
 met:ke wr Mq out
 own:wr.ownsRow w.heap.size 3 1 wv wk.length (bI wk)
 all:∀x∈wk,∃i:N,x=(i:V)/\Oq i
 eT:wk.length<=1000+2000*out.length
 uT:wr.ownsRow w.heap.size 3 1 ov out.length (bI (aI out))
 nd:out.Nodup
 yy:∀x∈out,Oq x
 EO:∀k,wv.ownBlock=some k->ov.ownBlock≠some k
section
variable{w m r:Y}{l:N}{Oq:N->Prop}{wv o:Value}{j:List Int}{d:List Nat}
theorem Rc.pure(h:Rc w l Oq wv o j d m)(a:ae m r):Rc w l Oq wv o j d r:=⟨h.pu.MD a,h.mb,h.met.MC a (λf=>f),a.own h.own (λ_ _ f=>f),h.all,h.eT,a.own h.uT (λ_ _ f=>f),h.nd,h.yy,h.EO⟩
theorem Jg{g:N}{an:Array Value}{e:TypeId}{c:List Nat}(h:ke w l c)(b:w.heap[g]?=some (D an e (0,0))):g≠l:=by
 rintro rfl;obtain⟨i,f,a,-⟩:=h;rw[b]at a;cases a
theorem nD{aC:N}{e:TypeId}{size n:N}{v:Value}{xs:List Value}{i:List Nat}(h:ke w l i)(f:w.ownsRow aC e size v n xs):v.ownBlock≠some l:=by
 rcases f.2 with⟨rfl,-⟩|⟨g,a,b,rfl,-,c,-⟩
 ·simp[Value.ownBlock]
 ·simp only[Value.ownBlock];exact λe=>Jg h c (by injection e)
theorem Rc.pop{A:Option Addr}{c:N}(h:Rc w l Oq (Z A j.length c) o j d m)(b:1<=j.length):Rc w l Oq (Z A (j.length-1) c) o (j.take (j.length-1)) d m:=by
 have e:(j.take (j.length-1)).length=j.length-1:=by simp
 refine⟨h.pu,h.mb,h.met,?_,λx f=>h.all x (dh f),by have:=h.eT;omega,h.uT,h.nd,h.yy,λk a=>h.EO k ?_⟩
 ·have:=DT h.own (k:=j.length-1) (by omega) b;rw[e];exact this
 ·cases A with
  | none=>exact a
  | some p=>exact a
theorem Rc.LD{es:Array MapEntry}{clock:N}(h:Rc w l Oq wv o j d m):(setBlock m l (.map es clock)).ownsRow w.heap.size 3 1 wv j.length (bI j)/\(setBlock m l (.map es clock)).ownsRow w.heap.size 3 1 o d.length (bI (aI d))/\ae w (setBlock m l (.map es clock)):=by
 have b:=sE m l (.map es clock);exact⟨b.own h.own (λk a e=>nD h.met h.own (e▸a)),b.own h.uT (λk a e=>nD h.met h.uT (e▸a)),h.pu.trans b (λq c e=>by have:=h.mb;omega)⟩
theorem Rc.K2{w2:Y}{i:N}{A A9:Option Addr}{cc n9:N}(h:Rc w l Oq wv (Z A d.length cc) j d m)(u:ke w2 l (d++[i]))(B:w2.ownsRow w.heap.size 3 1 wv j.length (bI j))(g:w2.ownsRow w.heap.size 3 1 (Z A d.length cc) d.length (bI (aI d)))(v:ae w w2)
  (s:ac (λq=>(Z A d.length cc).ownBlock=some q) w2 r) (c:r.ownsRow w.heap.size 3 1 (Z A9 (d.length+1) n9) (d.length+1) (bI (aI d)++[J i]))
  (t:∀q,(Z A9 (d.length+1) n9).ownBlock=some q->(Z A d.length cc).ownBlock=some q\/w2.heap.size<=q) (F:Oq i) (G:i∉d):Rc w l Oq wv (Z A9 (d.length+1) n9) j (d++[i]) r:=by
 have P:l<w2.heap.size:=by
  obtain⟨K,H,n,-⟩:=u;exact(bR.1 n).1
 refine⟨v.trans s (λq Q y=>by have:=(g.lt q y).1;omega),h.mb,u.MC s (nD u g),s.own B (λk p e=>h.EO k p e),h.all,by have:=h.eT;simp;omega,?_,?_,?_,?_⟩
 ·have:bI (aI d)++[J i]=bI (aI (d++[i])):=by simp[bI,aI]
  rw[this]at c;simpa using c
 ·exact ew.2 ⟨h.nd,by simp,λa E b z e=>by simp at z;subst z;subst e;exact G E⟩
 ·intro x f;rcases iE.1 f with f|f
  ·exact h.yy x f
  ·simp at f;exact f▸F
 ·intro k p e;rcases t k e with n|n
  ·exact h.EO k p n
  ·have:=(B.lt k p).2;omega
theorem Rc.eG{A A9:Option Addr}{cc n9:N}{ts:List Int}(h:Rc w l Oq (Z A j.length cc) o j d m)(c:ac (λq=>(Z A j.length cc).ownBlock=some q) m r)(a:r.ownsRow w.heap.size 3 1 (Z A9 (j.length+ts.length) n9) (j.length+ts.length) (bI j++bI ts))
  (f:∀q,(Z A9 (j.length+ts.length) n9).ownBlock=some q->(Z A j.length cc).ownBlock=some q\/m.heap.size<=q) (t:∀x∈ts,∃i:N,x=(i:V)/\Oq i) (s:j.length+ts.length<=1000+2000*d.length):Rc w l Oq (Z A9 (j.length+ts.length) n9) o (j++ts) d r:=by
 refine⟨h.pu.trans c (λq u n=>by have:=(h.own.lt q n).1;omega),h.mb,h.met.MC c (nD h.met h.own),?_,?_,by simpa using s,c.own h.uT (λk g e=>h.EO k e g),h.nd,h.yy,?_⟩
 ·have:bI j++bI ts=bI (j++ts):=by simp[bI]
  rw[this]at a;simpa using a
 ·intro x b;rcases iE.1 b with b|b
  ·exact h.all x b
  ·exact t x b
 ·intro k g e;rcases f k g with p|p
  ·exact h.EO k p e
  ·have:=(h.uT.lt k e).2;omega
end
section
variable{B vb hb lg yb:N}{c:Cn}{K:aW.Q}{κ:N->N}{m:aW.St}{b:Ac.B}{s:Ac.St}{y:dw.St}{Oq:N->Prop}{fr:N->List Nat}{sn:N->N}{ax:N->V}{nx:N->N}
theorem GI(w:Y)(h:jS w c K κ m b s yb y hb lg)(hx:∀s∈K.ba,s.bs.length<=1000000)(hS:Ae m c K.ba Oq fr sn ax nx)(hO:∀i,Oq i->i<1000)(hL:s.bn≠0->s.bn≠4->∀v∈s.ak,oE Oq v)(e9:0<=c.ap)(a1:c.ap<=900)(ad:N)(e7:8*c.ag+2*c.al=(ad:V))(hG:∀g:N,(g:V)<c.ap->∃z,m.am[ad+g]?=some z/\oE Oq (true,z)):C 29 #[I hb 0] w λe w'=>∃v d,e=O v/\ae w w'/\w'.ownsRow w.heap.size 3 1 v d.length (bI d)/\d.Nodup/\d.length<=1000/\∀x∈d,∃i:N,x=(i:V)/\Oq i:=by
 have c5:ae w (w.alloc (.map #[] 0)):=(bo _).alloc _;have c8:Hid (ke (w.alloc (.map #[] 0)) w.heap.size []):=M (qY w);have e0:=M c5;have l8:Hid ((w.alloc (.map #[] 0)).heap.size=w.heap.size+1):=M (by simp);have P:=GJ (w.alloc (.map #[] 0)) (h.pure c5) hx hL e9 a1 ad e7 hG;have HR:=M P;have HM:=M h;have HX:=M hx;have h9:=M hS;have HO:=M hO;clear h hx hS hO hL hG e7 c5 P e9 a1;have j5:=Pl.nI 82 w;go_enter func29,ntmps29;go_wp2_with fail;clear j5;generalize w.alloc _=w1 at *;obtain⟨Mq,hM⟩:∃Mq,Mq=w.heap.size:=⟨_,T⟩;rw[<-hM]at c8 ⊢;refine HR.mono ?_;rintro e w2⟨v,rfl,c6,xs,o,g0,h3⟩;have e5:Hid (Rc w Mq Oq v (Z none 0 0) xs [] w2):=M ⟨e0.MD c6,by omega,c8.MC c6 (λf=>f),dA o e0.size,h3,by simpa using g0,jD _ _ _ _,List.nodup_nil,by simp,λk hk e=>by simp[Value.ownBlock]at e⟩;clear o g0 h3 c6 HR hM;go_wp2_with fail;go_loopw [4,5] (λwv ov wr=>∃(wk:List Int) (d:List Nat),Rc w Mq Oq wv ov wk d wr) (λwv ov _=>2001*(1000-Ga ov)+Ga wv)
 case atStart=>exact⟨xs,[],e5⟩
 case round =>
  clear e5;obtain⟨wk,d,hr⟩:=hrel;obtain⟨A1,n1,rfl⟩:=aD hr.own;obtain⟨A2,n2,j6⟩:=aD hr.uT;subst j6;have g1:d.length<=1000:=wO 1000 d hr.nd (λi hi=>HO i (hr.yy i hi));have a5:=M g1;have R:=M hr;clear hr g1;rcases List.eq_nil_or_concat wk with rfl|⟨t,x,rfl⟩
  ·go_wp2_with fail;refine(Ev w.heap.size (aI d) (Z A2 d.length n2) wr (by have:=R.uT;rw[bQ];exact this) (by rw[bQ];have:=a5.out;omega)).mono ?_;rintro e w5⟨rfl,a7,ts,S,a9,b0,a3⟩;have HT:=M (aq a7 (aq S (aq a9 (aq b0 a3))));clear a7 S a9 b0 a3;go_wp2_with fail;go_ret;obtain⟨a7,S,a9,b0,a3⟩:=HT.out;rw[bQ]at S;refine⟨_,ts,T,R.pu.trans a7 (λq A a8=>by have:=(R.uT.lt q a8).1;omega),by rw[S]at a3 ⊢;exact a3,b0 ?_,by rw[S];exact a5,λx hx=>?_⟩
   ·exact List.Pairwise.map _ (λa b j2 h=>j2 (Int.ofNat.inj h)) R.nd
   ·obtain⟨i,hi,rfl⟩:=aX.1 ((a9 x).1 hx);exact⟨i,T,R.yy i hi⟩
  ·rw[List.concat_eq_append]at R ⊢;obtain⟨i,rfl,c4⟩:=R.all x (by simp);have c9:=M c4;have h4:=HO i c4;have o:=R.own;obtain⟨g,m5,e,-⟩:=o.form (by simp);injection e with e1 e2 e3;subst e1;have h2:wr.cell? (I g t.length)=some (J i):=by rw[o.cellAt _ (by simp)];simp[bI]
   have H:=Gz o;obtain⟨n0,a6⟩:∃n0,t.length=n0:=⟨_,T⟩;have r:(t++[(i:V)]).length=n0+1:=by simp[a6]
   have HL:=M (aq a6 r);have a2:=R.pop (by simp);have g7:(t++[(i:V)]).take ((t++[(i:V)]).length-1)=t:=by simp
   rw[g7,r,Nat.add_sub_cancel]at a2;have F:=M a2;rw[r]at H ⊢;rw[a6]at h2;have m6:=H.1;have m7:n1<=9223372036854775807:=H.2;have c3:=Dy (k:=i) R.met (by omega);clear a6 r o a2 g7 e2 e3 H c4;by_cases Q:i∈d
   ·rw[fN Q]at c3;clear Q;go_wp2_with fail;go_roundw
    case rel=>exact⟨t,d,F⟩
    case measure=>simp[Ga]
   ·rw[dT Q]at c3;have h6:=M Q;obtain⟨es,clock,g3,b5⟩:=zC (k:=i) R.met (by omega) Q;obtain⟨g4,a8,g5⟩:=F.LD (es:=es) (clock:=clock);have n:=M (aq b5 (aq g4 (aq a8 g5)));clear b5 g4 a8 g5 Q;go_upto_region 9 with fail;generalize j7:setBlock wr Mq (.map es clock)=w5 at *;clear g3 c3 h2 j7;obtain⟨i0,j3,l4,l5,l6⟩:=aR Po.eu;have g2:d.length<=1000:=a5;have b8:Hid (w.heap.size<=w5.heap.size):=M n.2.2.2.size;go_upto_region 10 with(at_builtin;refine bT _ T (.tmp 31) (.tmp 33) _ T w.heap.size 3 i0 _ 1 8 underlying25 j3 l4 l5 l6 T (by omega) (Z A2 d.length n2) d.length _ T (aH n.2.2.1 _) _ 1 1 [J i] T (jd.cI _ _ #[J i] 1 1 _ T T) (by simp[Value.oneCell']) (by simp only[maxLen];omega) (by omega) (by have:=b8.out;simp;omega) ?_;intro v9 w9 E a1 b3;obtain⟨A9,n9,rfl⟩:=aD E;have c2:=M (F.K2 n.1 n.2.1 n.2.2.1 n.2.2.2 (((bo w5).alloc _).grown a1 (λq _ A=>A)) E (λq A=>by rcases b3 with h1|h1;exact .inl (h1.symm.trans A);rw[h1]at A;injection A with A;exact .inr (by rw[<-A];simp)) c9 h6);clear E a1 b3;go_frame);clear b8 n g2;go_wp2_with fail;refine(zB i w9 (HM.pure c2.pu) HX h9 c9).mono ?_;rintro e b1⟨vb,kd,v',l7,ar,rv,bs,fv,rfl,b7,W⟩;obtain⟨tv,ts,G,a4,b9⟩:∃tv ts,At b1 w9.heap.size vb hb c v' l7 ⟨ar,rv,bs,i,kd,sn i,fv,aI (fr i),ax i,nx i,tv,ts⟩/\ts.length<=2000/\∀x∈ts,∃i:N,x=(i:V)/\Oq i:=⟨_,_,W,by simp,by simp⟩;clear W;obtain⟨h5,ct,g9⟩:=aD G.BL;simp only[]at g9;subst g9;have n3:=G.rh;have p:=M (c2.pure b7);have e6:=M (aq a4 b9);have j1:=M G.BL;have c7:Hid (w.heap.size<=b1.heap.size):=M p.pu.size;have j8:t.length<=3000000:=by have:=p.eT;have:=a5.out;simp at *;omega
    have m8:ts.length<=2000:=a4;clear b7 G a4 b9 c2;have g6:=GM j1;have b6:d.length+1<=1000:=by
     have:=wO 1000 _ p.nd (λj hj=>HO j (p.yy j hj));simpa using this
    have e8:=F.eT;obtain⟨j0,j4,j9,k9,l3⟩:=aR Po.eu;have l:b1.ownsRow w.heap.size 3 1 (Z (some (I g 0)) n0 n1) n0 (bI t):=by
     have:=p.own
     rwa [HL.out.1]at this
    have h7:=M l;have b2:=M (aq b6 e8);have l9:n0<=3000000:=by have:=HL.1;omega
    clear l b6 e8 j8;go_wp2_with (at_builtin;refine bT _ T (.tmp 42) (.tmp 46) _ T w.heap.size 3 j0 _ 1 8 underlying25 j4 j9 k9 l3 T (by omega) (Z (some (I g 0)) n0 n1) n0 _ T h7 h5 ts.length ct (bI ts) T g6 (by intro u hu;obtain⟨z,-,rfl⟩:=aX.1 hu;rfl) (by simp only[maxLen];omega) (by omega) c7 ?_;intro n4 n5 l b4 X;obtain⟨m4,m9,rfl⟩:=aD l;obtain⟨rfl,-⟩:=HL.out;have e4:=M (p.eG ((bo b1).grown b4 (λq _ A=>A)) l (λq A=>by rcases X with h1|h1;exact .inl (h1.symm.trans A);rw[h1]at A;injection A with A;exact .inr (by rw[<-A];exact ci _)) e6.2 (by have:=b2.2;simp;omega));clear l b4 X;go_frame);go_roundw
    case rel=>exact⟨_,_,e4⟩
    case measure =>
     have:=b2.1;have:=e6.1;simp[Ga];omega
end
end Vw
end
section
namespace Vw
section
variable{B vb hb lg yb:N}{c:Cn}{K:aW.Q}{κ:N->N}{m:aW.St}{b:Ac.B}{s:Ac.St}{y:dw.St}
theorem Ey(w:Y)(h:jS w c K κ m b s yb y hb lg):C 75 #[I hb 0] w λe Q=>e=O (.tuple #[J m.s.an,J (m.s.u 0),J (m.s.u 1)])/\ae w Q:=by
 obtain⟨R,S,f⟩:∃A j,K.q.cv=Z A K.xi.length j:=by
  obtain⟨⟨A,j,h,_⟩,_⟩:=h.kG.bU.bm.dB.cH;exact⟨A,j,h⟩
 obtain⟨z,E,F,G,H,P,l,n,g,o,p,q⟩:=gp h.kG;rw[f]at g;have k:=h.kG.bU.bm.lH;have x:=h.hp.p0;have u:=M h;clear f h;go_enter func75,ntmps75;go_wp2_with fail;refine(iv (c:=c) _ _ _ _ _ _ w).mono ?_;rintro r t⟨rfl,d⟩;have a:=M (u.pure d);have i:=M d;clear d z E F G H P l n g o p q k x u;go_wp2_with fail;refine(Co.lc _ _ _ _ _ t a.kG.bU.bm.dB.gA).mono ?_;rintro r v⟨rfl,rfl⟩;go_wp2_with fail;refine(Co.rt _ _ _ _ _ 0 t a.kG.bU.bm.dB.gA (by omega)).mono ?_;rintro r v⟨rfl,rfl⟩;go_wp2_with fail;refine(Co.rt _ _ _ _ _ 1 t a.kG.bU.bm.dB.gA (by omega)).mono ?_;rintro r v⟨rfl,rfl⟩;go_wp2_with fail;go_ret3;exact⟨T,i⟩
def Ig(c:Cn)(m:aW.St)(ax:V)(nx:N):Prop:=∃sp:N,sp<2/\8*c.ag+sp*c.al<=ax/\ax+nx<=8*c.ag+sp*c.al+m.s.u sp/\m.s.u sp<=c.al
theorem Gc(i kd n nx:N)(ax:V)(fv:Value)(w:Y)(h:jS w c K κ m b s yb y hb lg)(hx:∀s∈K.ba,s.bs.length<=1000000)(hl:Ig c m ax nx)(hn:0<nx):C 31 #[I hb 0,.agg #[J i,J kd,J n,fv,J ax,J nx]] w λe w'=>e=O (L true)/\ae w w':=by
 have a9:=db h.kG.bU.bm.ok;obtain⟨k,u0,u1,r,F,G,hr,hk⟩:∃(k u0 u1 r:V),m.s.u 0=u0/\m.s.u 1=u1/\(∀o:List Sh,bk c o=0->DL (z0 c o) (z1 c o) (z3 c o) ax=(r,0,k))/\0<=k/\k<=4000/\(ax<=100000/\(nx:V)<=4000)/\((r=2/\k+nx<=u0)\/(r=3/\k+nx<=u1)):=by
  obtain⟨sp,b2,l1,l2,l3⟩:=hl;rcases(by omega:sp=0\/sp=1)with rfl|rfl
  ·refine⟨ax-8*c.ag,_,_,2,T,T,λo h3=>?_,by omega,by omega,⟨by omega,by omega⟩,.inl ⟨T,by omega⟩⟩;obtain⟨a,b,d⟩:=nQ h3;rw[a,b,d,DL,aa (by omega),aa (by omega),af (by omega),Int.mul_comm]
  ·refine⟨ax-8*c.ag-c.al,_,_,3,T,T,λo h3=>?_,by omega,by omega,⟨by omega,by omega⟩,.inr ⟨T,by omega⟩⟩;obtain⟨a,b,d⟩:=nQ h3;rw[a,b,d,DL,aa (by omega),aa (by omega),aa (by omega),af (by omega),Int.mul_comm]
 have R:=M hr;have HU:=M (aq F G);obtain⟨b0,b1,⟨a8,a5⟩,f⟩:=hk;have P:=M h.kG.bU.bm.ok;clear F G hr hl;have HM:=M h;have HX:=M hx;clear h hx;obtain⟨A,-,z⟩:=Ac.aO w #[J i,J kd,J n,fv,J ax,J nx] 86;have v:=M A;have Q:=M z;clear A z;go_enter func31,ntmps31;go_upto_region 1 with fail;generalize w.alloc _=w1 at *;generalize w.heap.size=X at *;go_wp2_with fail;refine(Ey w1 (HM.pure v)).mono ?_;rw[HU.out.1,HU.out.2];rintro e H⟨rfl,q⟩;have g:=q.bF Q;have x:=M (v.MD q);have z4:H.cell? (I X 4)=some (J ax):=by rw[bK g];rfl
 have z5:H.cell? (I X 5)=some (J nx):=by rw[bK g];rfl
 have a6:=M g;clear q g;go_wp2_with fail;rcases f with⟨rfl,f⟩|⟨rfl,f⟩
 all_goals
  go_region_with ((first|(go_at_call 28;refine(ry _ (HM.pure (x.MD ((ck H).drewN 1))) HX).mono ?_;rintro e w3⟨A3,d3,o,rfl,l,E,p,a3⟩;have S:=M l;have a2:=M E;have u:=M p;have b4:=l.aj z4;have a4:=l.aj z5;clear l E p a3)|(go_at_call 76;have j:=om c _ o ax w3 a2 (by omega);rw[R.out o (by rw[<-u.out.check];exact P.out)]at j;dsimp only at j;refine j.mono ?_;clear j;rintro e w4⟨rfl,t⟩;have W:=M t;have b5:=t.aj a4;clear t)))
  all_goals
   have a1:=M (((x.MD ((ck H).drewN 1)).MD S).MD W);have b3:IntKind.i64.wrap (k+(nx:V))=k+(nx:V):=by rw[aP];omega
   have a7:=fN f;clear f;go_wp2_with fail;go_ret;exact⟨T,a1⟩
