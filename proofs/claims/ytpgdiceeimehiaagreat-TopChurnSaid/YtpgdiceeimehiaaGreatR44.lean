/- Part 44 of the proof of spotop.TopChurn. -/
import Derived.Test.YtpgdiceeimehiaaGreatR43
set_option maxRecDepth 100000
set_option maxHeartbeats 16000000
set_option linter.all false
open Go.Proofs.Tryz
namespace Go.Proofs.YtpgdiceeimehiaaGreat
open RowKit
section
open Pl (aI bQ)
open Go.ChangeMaps (setBlock)
namespace Vw
def uB(fr:N->List Nat)(ts:List Int)(j:N):List Nat:=(ts.take j).flatMap (λx=>fr x.toNat)
theorem AG{fr:N->List Nat}{ts:List Int}{j:N}{i:N}(h:ts[j]?=some (i:V)):uB fr ts (j+1)=uB fr ts j++fr i:=by
 unfold uB;rw[cD,h];simp
structure Sn(w:Y)(Mq M2:N)(rv:Value)(ts:List Int)(ks ks2:List Nat)(wr:Y):Prop where
 pu:ae w wr
 mb:w.heap.size<=Mq/\w.heap.size<=M2
 met:ke wr Mq ks
 Dx:ke wr M2 ks2
 ne:Mq≠M2
 own:wr.ownsRow w.heap.size 3 1 rv ts.length (bI ts)
section
variable{w i d:Y}{c b:N}{rv:Value}{ts:List Int}{g a:List Nat}
theorem Sn.pure(h:Sn w c b rv ts g a i)(e:ae i d):Sn w c b rv ts g a d:=⟨h.pu.MD e,h.mb,h.met.MC e (λf=>f),h.Dx.MC e (λf=>f),h.ne,e.own h.own (λ_ _ f=>f)⟩
theorem Sn.take{k:N}(h:Sn w c b rv ts g a i)(f:ac (λq=>q=c) i d)(l:ke d c (g++[k])):Sn w c b rv ts (g++[k]) a d:=⟨h.pu.trans f (λq m e=>by have:=h.mb;omega),h.mb,l,h.Dx.MC f (λe=>h.ne e.symm),h.ne,f.own h.own (λk j e=>nD h.met h.own (e▸j))⟩
theorem Sn.La{k:N}(h:Sn w c b rv ts g a i)(f:ac (λq=>q=b) i d)(l:ke d b (a++[k])):Sn w c b rv ts g (a++[k]) d:=⟨h.pu.trans f (λq m e=>by have:=h.mb;omega),h.mb,h.met.MC f h.ne,l,h.ne,f.own h.own (λk j e=>nD h.Dx h.own (e▸j))⟩
end
section
variable{B vb hb lg yb:N}{c:Cn}{K:aW.Q}{κ:N->N}{m:aW.St}{b:Ac.B}{s:Ac.St}{y:dw.St}{Oq:N->Prop}{fr:N->List Nat}{sn:N->N}{ax:N->V}{nx:N->N}
theorem CL(w:Ae m c K.ba Oq fr sn ax nx){ts:List Int}(q:ts.Nodup)(v:∀x∈ts,∃i:N,x=(i:V)/\Oq i){j k i f:N}(A:ts[j]?=some (i:V))(H:(fr i)[k]?=some f):f∉uB fr ts j++(fr i).take k:=by
 obtain⟨P,G,e⟩:=v _ (cZ A);obtain rfl:i=P:=by omega
 intro d;rcases iE.1 d with d|d
 ·unfold uB at d;obtain⟨x,E,F⟩:=List.mem_flatMap.1 d;obtain⟨z,rfl,g⟩:=v x (dh E);have r:i≠z:=by
   rintro rfl;obtain⟨p,t,a⟩:=fa.1 E;rw[List.getElem_take]at a;have u:p<j:=by rw[jq]at t;omega
   obtain⟨l,h⟩:=dH.1 A;have:=(List.getElem_inj (h₀:=by omega) (h₁:=l) q).1 (a.trans h.symm);omega
  exact r (w.one i z e g)
 ·obtain⟨p,t,a⟩:=fa.1 d;rw[List.getElem_take]at a;have u:p<k:=by rw[jq]at t;omega
  obtain⟨o,n⟩:=dH.1 H;have:=(List.getElem_inj (h₀:=by omega) (h₁:=o) (w.nd i e)).1 (a.trans n.symm);omega
theorem zR(w:Y)(h:jS w c K κ m b s yb y hb lg)(hx:∀s∈K.ba,s.bs.length<=1000000)(hS:Ae m c K.ba Oq fr sn ax nx)(hO:∀i,Oq i->i<1000)(j7:∀i,Oq i->0<nx i->Ig c m (ax i) (nx i))(hL:s.bn≠0->s.bn≠4->∀v∈s.ak,oE Oq v)(l5:0<=c.ap)(W:c.ap<=900)(ad:N)(j8:8*c.ag+2*c.al=(ad:V))(hG:∀g:N,(g:V)<c.ap->∃z,m.am[ad+g]?=some z/\oE Oq (true,z))
  (a4:((dq.cY m.s.l 0+dq.cY m.s.l 1+dq.cY m.s.l 2:N):V)=c.ag) (s8:c.ag<=2000) (l4:∀i,Oq i->(fr i).length<=2000/\∀x∈fr i,x<=1000000) :
  C 11 #[I hb 0] w λe w'=>e=O (J 0)/\ae w w':=by
 have HM:=M h;have HX:=M hx;have HS:=M hS;have HR:Hid (∀w1,ae w w1->C 29 #[I hb 0] w1 λe w'=>∃v b0,e=O v/\ae w1 w'/\w'.ownsRow w1.heap.size 3 1 v b0.length (bI b0)/\b0.Nodup/\b0.length<=1000/\∀x∈b0,∃i:N,x=(i:V)/\Oq i):=M (λw1 hp=>GI w1 (h.pure hp) hx hS hO hL l5 W ad j8 hG);have HC:=M a4;have g7:=M (aq l4 hO);obtain⟨n0,E⟩:∃n,dq.cY m.s.l 0=n:=⟨_,T⟩;obtain⟨n1,g1⟩:∃n,dq.cY m.s.l 1=n:=⟨_,T⟩;obtain⟨n2,g2⟩:∃n,dq.cY m.s.l 2=n:=⟨_,T⟩;have n9:(n0:V)+(n1:V)+(n2:V)=c.ag:=by rw[<-a4,E,g1,g2];omega
 have HN:=M (aq E (aq g1 g2));have o5:=M j7;clear h hx hS hO j7 hL l5 W j8 hG a4 l4 E g1 g2;go_enter func11,ntmps11;go_wp2_with fail;refine(CB w HM).mono ?_;rw[HN.out.1,HN.out.2.1,HN.out.2.2];rintro e w2⟨rfl,g4⟩;have j2:=M g4;have b1:=M (HM.pure g4);have p1:=b1.hp.p1;clear g4;go_wp2_with fail;refine(AJ w2 b1.kG.bL).mono ?_;rintro e w3⟨rfl,m8⟩;have e4:=M (j2.MD m8);have h7:=M (HM.pure e4);have r9:n0<=2000:=by omega
 have s3:n1<=2000:=by omega
 have s4:n2<=2000:=by omega
 clear m8 p1 j2 b1;go_wp2_with fail;refine(ry w3 h7 HX).mono ?_;rintro e S⟨A4,d4,v5,rfl,m9,-,-,-⟩;have b3:=M (e4.MD m9);have o8:=M (HM.pure b3);have r2:=Pl.nI 83 S;have l9:=Pl.nI 83 (S.alloc (.map #[] 0));clear m9 e4 h7 n9;have q7:(Instr.field 24 (.agg #[J c.ag,J c.al,J c.ap,J c.ao,J c.ak,J c.aB,J c.be,J c.di,Z A4 K.ba.length d4]) 0).run prog S=.ok (J c.ag) S:=by kernel_rfl
 dsimp only[hI];go_wp2_with fail;clear q7;have n3:ae S ((S.alloc (.map #[] 0)).alloc (.map #[] 0)):=((bo S).alloc _).alloc _;have a1:=M (b3.MD n3);have o9:=M (HM.pure a1);have c7:=(qY S).MC ((ck _).alloc (.map #[] 0)) (λf=>f);have b8:=M c7;have a5:=qY (S.alloc (.map #[] 0));have m4:(S.alloc (.map #[] 0)).heap.size=S.heap.size+1:=by simp
 rw[m4]at a5;have b9:=M a5;clear a5 m4;have j4:Hid (w.heap.size<=S.heap.size):=M b3.size;clear n3 c7 r2 l9 b3 o8;generalize(S.alloc _).alloc _=w5 at *;generalize S.heap.size=M1 at *;refine(HR w5 a1).mono ?_;rintro e w6⟨rv,r,rfl,b5,P,m6,v4,o1⟩;obtain⟨Ar,cr,rfl⟩:=aD P;have HT:=M (aq m6 o1);have e5:Hid (Sn w M1 (M1+1) (Z Ar r.length cr) r (uB fr r 0) [] w6):=M ⟨a1.MD b5,⟨j4,by have:=j4.out;omega⟩,b8.MC b5 (λf=>f),b9.MC b5 (λf=>f),by omega,dA P a1.size⟩;clear b5 P m6 o1 b8 b9 a1 o9;have q4:Hid (r.length<=1):=M (by
  match r,HT with
  | [],_=>simp
  | [_],_=>simp
  | x::y::l,h =>
   obtain⟨i,rfl,hi⟩:=h.2 x (by simp);obtain⟨i',rfl,r0⟩:=h.2 y (by simp);have:=HS.one i i' hi r0;have h3:=h.1;simp[this]at h3)
 obtain⟨M2,e8⟩:∃M2,M1+1=M2:=⟨_,T⟩;rw[e8]at e5 ⊢;have b1:=M e8;clear e8;go_wp2_with fail;go_loopw [43] (λi wr=>∃j:N,j<=r.length/\i=J j/\∃b6,(j=0->b6=[])/\Sn w M1 M2 (Z Ar r.length cr) r (uB fr r j) b6 wr) (λi _=>r.length-(intOf i).toNat)
 case atStart=>exact⟨0,aw _,T,[],λ_=>rfl,e5⟩
 case round =>
  clear e5;obtain⟨j,hj,rfl,b6,c6,F⟩:=hrel;have G:=M F;have o4:=M c6;clear F c6;by_cases a:j<r.length
  ·obtain⟨x,hx⟩:∃x,r[j]?=some x:=⟨_,cR a⟩;obtain⟨i,rfl,m7⟩:=HT.2 x (cZ hx);have H:=M (aq hx m7);have a6:=G.own;obtain⟨g,s5,e,-⟩:=a6.form (by omega);injection e with e1 e2 e3;subst e1;have r3:wr.cell? (I g j)=some (J i):=by rw[a6.cellAt _ (by omega)];simp[bI,hx]
   have s9:(j:V)<(r.length:V):=by omega
   have h6:=M a;clear a6 hx m7 e2 e3 a;go_wp2_with fail;have l7:b6=[]:=o4 (by have:=q4.out;omega);subst l7;obtain⟨si,n8⟩:∃si,sn i=si:=⟨_,T⟩;obtain⟨R,e9⟩:∃R,ax i=R:=⟨_,T⟩;obtain⟨p,g3⟩:∃p,nx i=p:=⟨_,T⟩;have g0:=Je i wr (HM.pure G.pu) HX HS H.2;rw[n8,e9,g3]at g0;have b7:Hid (0<p->Ig c m R p):=M (by have:=o5 i H.2;rwa [e9,g3]at this);clear n8 e9 g3;refine g0.mono ?_;clear g0;rintro e w7⟨kd,fv,rfl,n4,t⟩;obtain⟨Af,cf,q8⟩:=aD t;subst q8;have q3:=M t;have e6:=M (G.pure n4);obtain⟨n5,o0,u⟩:=Ac.aO w7 #[J i,J kd,J si,Z Af (fr i).length cf,J R,J p] 86;have b4:=M (e6.pure n5);have h9:=M (HM.pure b4.pu);have a7:=aH t (D #[J i,J kd,J si,Z Af (fr i).length cf,J R,J p] 86);have c2:=M a7;have g9:=M u;have l8:M1<wr.heap.size:=by obtain⟨es,cl,h1,-⟩:=G.met;exact(bR.1 h1).1
   have q0:=M l8;have o6:Hid (M1<w7.heap.size):=M (by obtain⟨es,cl,h1,-⟩:=e6.met;exact(bR.1 h1).1);clear n4 t n5 o0 G r3 q3 a7 e6 l8;generalize wr.heap.size=B0 at *;go_upto_region 9 with fail;generalize w7.alloc _=w8 at *;generalize w7.heap.size=X at *;have z0:w8.cell? (I X 0)=some (J i):=by rw[bK u];rfl
   have z1:w8.cell? (I X 1)=some (J kd):=by rw[bK u];rfl
   have z2:w8.cell? (I X 2)=some (J si):=by rw[bK u];rfl
   have z3:w8.cell? (I X 3)=some (Z Af (fr i).length cf):=by rw[bK u];rfl
   have z4:w8.cell? (I X 4)=some (J R):=by rw[bK u];rfl
   have z5:w8.cell? (I X 5)=some (J p):=by rw[bK u];rfl
   clear u;have s7:=(g7.1 i H.2).1;go_cut [65] (λr4 wx=>r4=L false/\ae w8 wx)
   case first =>
    clear b4;rcases kc p with E|E
    ·have dc:decide ((p:V)>0)=false:=dT (by omega);clear z0 z1 z2 z3 z4;go_wp2_with fail;go_meet;exact⟨T,bo _⟩
    ·have dc:decide ((p:V)>0)=true:=fN (by omega);have o7:=M (b7 E);have q1:=M E;clear E;go_wp2_with fail;refine(Gc i kd si p R _ w8 h9 HX o7 q1).mono ?_;rintro e v6⟨rfl,c8⟩;have j3:=M c8;clear c8;go_wp2_with fail;go_meet;exact⟨T,j3⟩
   case rest =>
    obtain⟨rfl,o⟩:=hcut;have j6:=M (b4.pure o);have c3:=M (o.own c2 (λ_ _ f=>f));have o3:=M (o.bF g9);have r5:=o.aj z3;have r6:=o.aj z5;clear b4 c2 g9 z0 z1 z2 z3 z4 z5 o;go_wp2_with fail;clear r5 r6;go_loopw [69] (λk wr=>∃kn:N,kn<=(fr i).length/\k=J kn/\ac (λq=>q=M1) wc wr/\Sn w M1 M2 (Z (some (I g 0)) r.length cr) r (uB fr r j++(fr i).take kn) [] wr) (λk _=>(fr i).length-(intOf k).toNat)
    case atStart=>exact⟨0,aw _,T,bo _,by rw[List.take_zero,bJ];exact j6⟩
    case round =>
     clear j6;obtain⟨k,hk,rfl,ho,F⟩:=hrel;have b2:=M ho;have G:=M F;clear ho F;by_cases a:k<(fr i).length
     ·obtain⟨f,hf⟩:∃f,(fr i)[k]?=some f:=⟨_,cR a⟩;have HF:=M hf;have Q:=b2.own c3 (λq hq e=>by have:=(c3.lt q hq).1;have:=q0.out;omega);have r1:(aI (fr i)).length=(fr i).length:=bQ _;obtain⟨gf,r8,ef,-⟩:=Q.form (by omega);injection ef with e1 e2 e3;subst e1;have q6:wr.cell? (I gf k)=some (J f):=by rw[Q.cellAt _ (by omega)];simp[bI,aI,hf]
      have v1:(k:V)<((fr i).length:V):=by omega
      have h4:=M a;clear Q r1 e2 e3 a hf;go_wp2_with fail;obtain⟨qf,n6,n7⟩:=HS.used i H.2 f (cZ HF);have g5:=GN f qf wr (HM.pure G.pu) n6;rw[n7]at g5;refine g5.mono ?_;rintro e w9⟨rfl,o⟩;have e7:=M (G.pure o);have j1:=M (b2.trans (o.mono (Tq:=λq=>q=M1) (λ_ _ f=>f.elim)) (λ_ _ h=>h));clear o g5 q6 n6 n7;go_wp2_with fail;refine(tW M1 f _ w9 e7.met ((g7.1 i H.2).2 f (cZ HF)) (CL HS HT.1 HT.2 H.1 HF)).mono ?_;rintro e o2⟨rfl,d,A⟩;have a2:=M (e7.take d A);have j0:=M (j1.trans d (λ_ _ h=>h));clear d A j1 e7;go_wp2_with fail;go_roundw
      case rel =>
       refine⟨k+1,by have:=h4.out;omega,by first|rfl|simp,j0,?_⟩;rw[cD,HF.out];have:=a2.out;rw[cS]at this;exact this
      case measure=>have:=h4.out;simp[intOf];omega
     ·obtain rfl:k=(fr i).length:=by omega
      clear a hk;have W:=b2.bF o3 (by have:=o6.out;omega);have z5:wr.cell? (I X 5)=some (J p):=by rw[bK W];rfl
      have a9:=G.out;rw[eF,<-AG H.out.1]at a9;have j5:=M a9;have m5:0<p->R<=100000/\0<=R/\p<=4000:=λh0=>by
       obtain⟨sp,v3,l1,l2,l3⟩:=b7 h0;have s6:=db h9.kG.bU.bm.ok;rcases(by omega:sp=0\/sp=1)with rfl|rfl<;>exact⟨by omega,by omega,by omega⟩
      have q2:=M m5;have r7:=b2;have h2:=M W;clear W a9 G m5;go_wp2_with fail;clear z5
      rename World=>wa
      go_loopw [86] (λk wr=>∃kn:N,kn<=p/\k=J kn/\wr.heap[X]?=wa.heap[X]?/\Sn w M1 M2 (Z (some (I g 0)) r.length cr) r (uB fr r (j+1)) ((List.range kn).map (λq=>R.toNat+q)) wr) (λk _=>p-(intOf k).toNat)
      case atStart=>exact⟨0,aw _,T,T,j5⟩
      case round =>
       clear j5;obtain⟨k,hk,rfl,l6,F⟩:=hrel;have G:=M F;have c9:=M l6;clear F l6;by_cases a:k<p
       ·obtain⟨a3,c5⟩:∃a3,R.toNat+k=a3:=⟨_,T⟩;have k9:=q2 (by omega);have e1:R+(k:V)=(a3:V):=by omega
        have a8:=c9.trans h2;have z4:wr.cell? (I X 4)=some (J R):=by rw[bK a8];rfl
        have g6:=M c5;have h5:=M a;have j9:a3<=1000000:=by omega
        have v2:p<=4000:=k9.2.2;have v0:k<=4000:=by omega
        have c4:X≠M2:=λe=>by obtain⟨es,cl,h1,-⟩:=G.Dx;rw[<-e,a8]at h1;cases h1
        have q5:=M c4;clear c5 a k9 a8 c4;go_wp2_with fail;refine(tW M2 a3 _ wr G.Dx j9 (by
         intro hm;obtain⟨q,hq,e⟩:=aX.1 hm;have:=List.mem_range.1 hq;have:=g6.out;omega)).mono ?_
        rintro e o2⟨rfl,d,A⟩;have a2:=M (G.La d A);have e0:Hid (o2.heap[X]?=wa.heap[X]?):=M ((d.block X (by have:=c9.trans h2;exact(bR.1 this).1) q5).trans c9);clear d A;go_wp2_with fail;go_roundw
        case rel =>
         refine⟨k+1,by have:=h5.out;omega,by first|rfl|simp,e0,?_⟩;rw[dK,cV];have h1:=a2.out;rw[<-g6.out]at h1;exact h1
        case measure=>have:=h5.out;simp[intOf];omega
       ·obtain rfl:k=p:=by omega
        go_wp2_with fail;go_roundw
        case rel=>exact⟨j+1,by have:=h6.out;omega,by first|rfl|simp,_,λe=>by omega,G⟩
        case measure=>have:=h6.out;simp[intOf];omega
  ·obtain rfl:j=r.length:=by omega
   go_wp2_with fail;go_ret;exact⟨T,G.pu⟩
