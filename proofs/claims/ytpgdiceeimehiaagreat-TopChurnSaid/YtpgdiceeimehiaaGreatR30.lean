/- Part 30 of the proof of spotop.TopChurn. -/
import Derived.Test.YtpgdiceeimehiaaGreatR22
set_option maxRecDepth 100000
set_option maxHeartbeats 16000000
set_option linter.all false
open Go.Proofs.Tryz
namespace Go.Proofs.YtpgdiceeimehiaaGreat
open RowKit
namespace Pl
open Ac (Wr jm Ia nr)
def jh(d:V)(sd:Bool):N:=if d<=4 then 0 else if sd then 2 else 1
theorem DA(d:V)(gv:Value)(xs:List Int)(w:Y)(g:eO w w.heap.size gv xs):C 263 #[J d,gv] w λe n=>e=O (J (jh d (Sk.eP xs)))/\ae w n:=by
 obtain⟨A,c,rfl,l,m⟩:=g.len;have i:=M g;clear g;by_cases b:d<=4
 ·have k:decide (d<=4)=true:=fN b;rw[show jh d (Sk.eP xs)=0 from af b];clear b;go_enter func263,ntmps263;go_wp2_with fail;go_ret;exact⟨T,bo _⟩
 ·have k:decide (d<=4)=false:=dT b;rw[show jh d (Sk.eP xs)=if Sk.eP xs then 2 else 1 from aa b];clear b;obtain⟨h,a⟩:∃h,Sk.eP xs=h:=⟨_,T⟩;have f:=M a;rw[a];clear a;go_enter func263,ntmps263;go_wp2_with fail;refine(Sk.sI _ xs w w.heap.size i).mono ?_;rw[f.out];rintro e o⟨rfl,j,rfl⟩;cases h
  all_goals
   go_wp2_with fail;go_ret;exact⟨T,(bo w).drewN j⟩
theorem Aj(c:Cn)(v:Value)(sh:List Sh)(sp k n:V)(w:Y)(r:dm w w.heap.size v sh)(a:bk c sh=0)(s:sp=0\/sp=1)(x:0<=k)(hn:1<=n)(j:k+n<=c.al):C 265 #[hI c v,J (8*c.ag+sp*c.al+k),J n] w λe t=>e=O (L true)/\ae w t:=by
 obtain⟨A,d,rfl⟩:∃A d,v=Z A sh.length d:=by
  obtain⟨⟨A,d,rfl,_⟩,_⟩:=r;exact⟨A,d,T⟩
 have q:=db a;obtain⟨h,f⟩:∃h,8*c.ag+sp*c.al+k=h:=⟨_,T⟩;have l:DL (z0 c sh) (z1 c sh) (z3 c sh) h=(2+sp,0,k):=by
  rw[(nQ a).1,(nQ a).2.1,(nQ a).2.2,<-f];unfold DL;rcases s with rfl|rfl
  ·rw[aa (by omega),aa (by omega),af (by omega)];simp;omega
  ·rw[aa (by omega),aa (by omega),aa (by omega),af (by omega)];simp;omega
 have i:h<=9223372036854775807:=by rcases s with rfl|rfl<;>omega
 rw[f];have o:=M l;have b:Hid (Row w w.heap.size c (Z A sh.length d) (w.alloc (Fz c A sh.length d))):=M (Row.new w c _);have R:=M (λ(t:Y) (S:ae w t)=>r.pure S);have X:decide (k+n<=c.al)=true:=fN j;have i1:0<=k:=x;have i2:k<=2048:=by omega
 have i3:n<=2048:=by omega
 clear r a q f l j x;go_enter func265,ntmps265;go_upto_region 1 with fail;generalize w.alloc _=u at *;obtain⟨y,z,B,E,F,G,H,K,P,Q⟩:=b.cells;go_wp2_with fail;refine(om c _ sh h u (R u b.2.2) i).mono ?_;rw[o.out];rintro e w1⟨rfl,m⟩;have g:=M (b.aj m);clear m y z B E F G H K P Q b;obtain⟨y,z,B,E,F,G,H,K,P,Q⟩:=g.cells;have p:=M g.2.2;have W:IntKind.i64.wrap (k+n)=k+n:=by rw[aP];omega
 rcases s with rfl|rfl
 all_goals
  go_wp2_with fail;go_ret;exact⟨T,p⟩
def ep(kd n m:N):List (Nat × Nat):=[bD,cQ kd 0,bH (n:V),bH (m:V),(0,0),(0,0),(0,0),(0,0)]
def lr(xs:List Nat)(l:List (Nat × Nat)):N->List (Nat × Nat)
 | 0=>l
 | k+1=>(lr xs l k).set (4+k) (ik xs k)
def iT(kd n m:N)(xs:List Nat)(gat:V):List (Nat × Nat):=if m=0 then lr xs (ep kd n m) 4 else if m=1 then(ep kd n m).set 4 (bH gat)else(ep kd n m).set 4 (bi (xs.getD 1 0))
theorem jN(xs:List Nat)(l:List (Nat × Nat)):∀k,(lr xs l k).length=l.length
 | 0=>rfl
 | k+1=>by rw[lr,iC,jN xs l k]
theorem yM(kd n:N)(gv:Value)(xs:List Nat)(E:V)(w:Y)(b5:kd<=1000)(hn:n<=1000)(hg:eO w w.heap.size gv (aI xs))(hx:∀x∈xs,x<=1000000):C 266 #[J kd,J n,J 0,gv,J E] w λe w'=>e=O (.agg (Mm.cI (iT kd n 0 xs E)).toArray)/\ae w w':=by
 obtain⟨Ag,cg,s,b6,c4⟩:=hg.len;rw[bQ]at s b6;have HG:=M (λ(w':Y) (hp:ae w w')=>(hg.MC hp (λ_ _ f=>f):eO w' w'.heap.size gv (aI xs)));have b3:=M hx;subst s;clear hg hx;obtain⟨a3,-,S⟩:=Ac.aO w (gn (0,0) (0,0) (0,0) (0,0) (0,0) (0,0) (0,0) (0,0)) 299;have P:=M a3;have y:=M S;have b1:Hid (w.heap.size<(w.alloc (D (gn (0,0) (0,0) (0,0) (0,0) (0,0) (0,0) (0,0) (0,0)) 299)).heap.size):=M (by simp);clear a3 S;go_enter func266,ntmps266;go_upto_region 1 with fail;generalize w.alloc _=W at *;go_wp2_with fail;refine(mY W).mono ?_;rintro e w1⟨rfl,rfl⟩;go_wp2_with fail;refine(rQ kd 0 W b5 (by omega)).mono ?_;rintro e w1⟨rfl,rfl⟩;go_wp2_with fail;refine(fm (n:V) W (by omega) (by omega)).mono ?_;rintro e w1⟨rfl,rfl⟩;go_wp2_with fail;refine(fm 0 W (by omega) (by omega)).mono ?_;rintro e w1⟨rfl,rfl⟩;go_upto_region 2 with fail;have G:ae W (W.alloc (D (Mm.cI (ep kd n 0)).toArray 299)):=(bo W).alloc _;have a1:=ai W (D (Mm.cI (ep kd n 0)).toArray 299);have c:=G.bF y;have a7:w.heap.size<W.heap.size:=(bR.1 y).1;have Q:=M (P.MD G);have a9:=M a1;have b0:=M c;have HX:Hid (w.heap.size<W.heap.size):=M a7;clear G a1 c a7 y P b1;change Code.wp _ _ _ _ (W.alloc (D (Mm.cI (ep kd n 0)).toArray 299));generalize W.alloc _=W3 at *;generalize W.heap.size=X at *;go_wp2_with fail;go_loopw [12,24] (λ_ i wr=>∃k:N,k<=4/\i=J k/\ac (λq=>q=X) W3 wr/\wr.heap[X]?=some (D (Mm.cI (lr xs (ep kd n 0) k)).toArray 299 (0,0))) (λ_ i _=>4-(intOf i).toNat)
 case atStart=>exact⟨0,aw _,T,bo _,a9⟩
 case round =>
  obtain⟨k,hk,rfl,ho,a⟩:=hrel;have HO:=M ho;have HR:=M a;by_cases b7:k<4
  ·obtain⟨b,a4⟩:∃b:N,4+k=b:=⟨_,T⟩;have c5:4+(k:V)=(b:V):=by omega
   have i8:(b:V)<8:=by omega
   obtain⟨zz,a8⟩:∃zz,(lr xs (ep kd n 0) k)[b]?=some zz:=⟨_,cR (by rw[jN];simp[ep];omega)⟩;have cp:wr.cell? (I X b)=some (U zz.1 zz.2):=by rw[bK HR.out];simpa using Mm.kl _ _ _ a8
   have fp:=λk=>ey k HR;have i4:(k:V)<4:=by omega
   have p:=M a4;clear ho a a8 a4;go_wp2_with fail;refine(mY wr).mono ?_;rintro e w2⟨rfl,rfl⟩;have h2:=az (i:=b) (u:=U bD.1 bD.2) HR;have e2:(Mm.cI (lr xs (ep kd n 0) k)).toArray.setIfInBounds b (U bD.1 bD.2)=(Mm.cI ((lr xs (ep kd n 0) k).set b bD)).toArray:=by rw[pM,<-Mm.ji]
   rw[e2]at h2;have r:=M h2;have A:=M (bw HO b (U bD.1 bD.2));clear h2 e2;go_upto_region 8 with fail;clear cp fp;generalize wr.setCell _ _=K at *;by_cases H:k+1<xs.length
   ·have d1:decide ((k:V)+1<(xs.length:V))=true:=by simp;omega
    have i5:(k:V)+1<(xs.length:V):=by omega
    obtain⟨d,t⟩:∃d,xs[k+1]?=some d:=⟨_,cR H⟩;have R:ae w K:=Q.trans A (λk hk e=>by have:=HX.out;omega);obtain⟨c2,c3,s,-,-,-,F⟩:=HG K R;rw[bQ]at F;obtain⟨g,off,hA,b4,a2⟩:=F (by omega);injection s with e1 e2 e3;rw[<-e1]at hA;subst hA;have g1:K.cell? (I g (off+(k+1)))=some (J d):=by rw[a2 (k+1) H,eg xs _ _ t]
    have a6:d<=1000000:=b3 d (cZ t);have z:Hid (ik xs k=bi d):=M (by rw[ik,af H,ko,t];rfl);have cp:K.cell? (I X b)=some (U bD.1 bD.2):=by
     rw[bK r.out];simpa using Mm.kl _ _ _ (show((lr xs (ep kd n 0) k).set b bD)[b]?=some bD by rw[kS (by rw[jN];simp[ep];omega)])
    have fp:=λk=>ey k r;clear F a2 b4 e1 e2 e3 t R H;go_wp2_with fail;refine(mC d K a6).mono ?_;rintro e w4⟨rfl,rfl⟩;have h4:=az (i:=b) (u:=U (bi d).1 (bi d).2) r;have e4:(Mm.cI ((lr xs (ep kd n 0) k).set b bD)).toArray.setIfInBounds b (U (bi d).1 (bi d).2)=(Mm.cI (lr xs (ep kd n 0) (k+1))).toArray:=by rw[pM,<-Mm.ji,List.set_set,lr,p.out,z.out]
    rw[e4]at h4;have B:=M h4;have b2:=M (bw A b (U (bi d).1 (bi d).2));clear h4 e4;go_wp2_with fail;exact⟨⟨k+1,by omega,by go_num,b2,B⟩,by simp[intOf];omega⟩
   ·have d1:decide ((k:V)+1<(xs.length:V))=false:=by simp;omega
    have z:Hid (ik xs k=bD):=M (by rw[ik,aa H]);have B:Hid (K.heap[X]?=some (D (Mm.cI (lr xs (ep kd n 0) (k+1))).toArray 299 (0,0))):=M (by rw[lr,p.out,z.out];exact r);clear H;go_wp2_with fail;exact⟨⟨k+1,by omega,by go_num,A,B⟩,by simp[intOf];omega⟩
  ·obtain rfl:k=4:=by omega
   clear ho a b7;obtain⟨z0,z1,h,z3,j,l,m,o,hq⟩:=kK (ws:=lr xs (ep kd n 0) 4) (by simp[jN,ep]);have HQ:=M hq;have a:=HR.out;rw[hq]at a;obtain⟨r0,r1,r2,r3,r4,r5,r6,r7⟩:=eB a;have c:=HO.bF b0 (by have:=HX.out;omega);obtain⟨t0,t1,t2,t3,t4,t5,t6,t7⟩:=eB c;have f0:=λk=>ey k c;have p:Hid (ae w wr):=M (Q.trans HO (λk hk e=>by have:=HX.out;omega));clear hq a;go_wp2_with fail;have b9:((((((((wr.setCell (I w.heap.size 0) (U z0.1 z0.2)).setCell (I w.heap.size 1) (U z1.1 z1.2)).setCell (I w.heap.size 2) (U h.1 h.2)).setCell (I w.heap.size 3) (U z3.1 z3.2)).setCell (I w.heap.size 4) (U j.1 j.2)).setCell (I w.heap.size 5) (U l.1 l.2)).setCell (I w.heap.size 6) (U m.1 m.2)).setCell (I w.heap.size 7) (U o.1 o.2)).heap[w.heap.size]?=some (D (gn z0 z1 h z3 j l m o) 299 (0,0)):=by
    have:=az (i:=7) (u:=(U o.1 o.2)) (az (i:=6) (u:=(U m.1 m.2)) (az (i:=5) (u:=(U l.1 l.2)) (az (i:=4) (u:=(U j.1 j.2)) (az (i:=3) (u:=(U z3.1 z3.2)) (az (i:=2) (u:=(U h.1 h.2)) (az (i:=1) (u:=(U z1.1 z1.2)) (az (i:=0) (u:=(U z0.1 z0.2)) (c))))))));simpa using this
   have b8:ac (λk=>k=w.heap.size) wr ((((((((wr.setCell (I w.heap.size 0) (U z0.1 z0.2)).setCell (I w.heap.size 1) (U z1.1 z1.2)).setCell (I w.heap.size 2) (U h.1 h.2)).setCell (I w.heap.size 3) (U z3.1 z3.2)).setCell (I w.heap.size 4) (U j.1 j.2)).setCell (I w.heap.size 5) (U l.1 l.2)).setCell (I w.heap.size 6) (U m.1 m.2)).setCell (I w.heap.size 7) (U o.1 o.2)):=bw (bw (bw (bw (bw (bw (bw (bw (ac.refl (λk=>k=w.heap.size) wr) _ _) _ _) _ _) _ _) _ _) _ _) _ _) _ _;have a5:ae w ((((((((wr.setCell (I w.heap.size 0) (U z0.1 z0.2)).setCell (I w.heap.size 1) (U z1.1 z1.2)).setCell (I w.heap.size 2) (U h.1 h.2)).setCell (I w.heap.size 3) (U z3.1 z3.2)).setCell (I w.heap.size 4) (U j.1 j.2)).setCell (I w.heap.size 5) (U l.1 l.2)).setCell (I w.heap.size 6) (U m.1 m.2)).setCell (I w.heap.size 7) (U o.1 o.2)):=p.trans b8 (λk hk e=>by omega);generalize((((((((wr.setCell _ _).setCell _ _).setCell _ _).setCell _ _).setCell _ _).setCell _ _).setCell _ _).setCell _ _)=W9 at *;obtain⟨u0,u1,u2,u3,u4,u5,u6,u7⟩:=eB b9;refine au (v:=.agg (gn z0 z1 h z3 j l m o)) (by simp[results,results266,go_sem,u0,u1,u2,u3,u4,u5,u6,u7]) T ⟨?_,a5⟩;rw[show iT kd n 0 xs E=_ from HQ.out];rfl
theorem yN(kd n:N)(gv:Value)(xs:List Nat)(a:V)(w:Y)(a1:kd<=1000)(hn:n<=1000)(hg:eO w w.heap.size gv (aI xs))(hx:∀x∈xs,x<=1000000)(a6:0<=a/\a<=1000000):C 266 #[J kd,J n,J 1,gv,J a] w λe H=>e=O (.agg (Mm.cI (iT kd n 1 xs a)).toArray)/\ae w H:=by
 obtain⟨Ag,cg,A,a2,a7⟩:=hg.len;rw[bQ]at A a2;have HG:=M (λ(H:Y) (hp:ae w H)=>(hg.MC hp (λ_ _ f=>f):eO H H.heap.size gv (aI xs)));have a5:=M hx;subst A;clear hg hx;obtain⟨B,-,y⟩:=Ac.aO w (gn (0,0) (0,0) (0,0) (0,0) (0,0) (0,0) (0,0) (0,0)) 299;have t:=M B;have o:=M y;have P:Hid (w.heap.size<(w.alloc (D (gn (0,0) (0,0) (0,0) (0,0) (0,0) (0,0) (0,0) (0,0)) 299)).heap.size):=M (by simp);clear B y;go_enter func266,ntmps266;go_upto_region 1 with fail;generalize w.alloc _=W at *;go_wp2_with fail;refine(mY W).mono ?_;rintro e w1⟨rfl,rfl⟩;go_wp2_with fail;refine(rQ kd 0 W a1 (by omega)).mono ?_;rintro e w1⟨rfl,rfl⟩;go_wp2_with fail;refine(fm (n:V) W (by omega) (by omega)).mono ?_;rintro e w1⟨rfl,rfl⟩;go_wp2_with fail;refine(fm 1 W (by omega) (by omega)).mono ?_;rintro e w1⟨rfl,rfl⟩;go_upto_region 2 with fail;have p:ae W (W.alloc (D (Mm.cI (ep kd n 1)).toArray 299)):=(bo W).alloc _;have z:=ai W (D (Mm.cI (ep kd n 1)).toArray 299);have j:=p.bF o;have G:w.heap.size<W.heap.size:=(bR.1 o).1;have Q:=M (t.MD p);have s:=M z;have K:=M j;have HX:Hid (w.heap.size<W.heap.size):=M G;clear p z j G o t P;change Code.wp _ _ _ _ (W.alloc (D (Mm.cI (ep kd n 1)).toArray 299));generalize W.alloc _=S at *;generalize W.heap.size=X at *;obtain⟨z0,z1,b,z3,c,d,g,h,F⟩:=kK (ws:=ep kd n 1) T;have m:=s.out;rw[F]at m;obtain⟨r0,r1,r2,r3,r4,r5,r6,r7⟩:=eB m;have fp:=λk=>ey k m;clear F m;go_wp2_with fail;refine(fm a S (by omega) (by omega)).mono ?_;rintro e w4⟨rfl,rfl⟩;have h4:=az (i:=4) (u:=U (floatOfInt .f64 a) 0) s;have e4:(Mm.cI (ep kd n 1)).toArray.setIfInBounds 4 (U (floatOfInt .f64 a) 0)=(Mm.cI ((ep kd n 1).set 4 (bH a))).toArray:=by first|(rw[pM,Mm.ji];done)|(rw[pM,Mm.ji];rfl)
 rw[e4]at h4;have HR:=M h4;have HO:=M (bw (ac.refl (λq=>q=X) S) 4 (U (floatOfInt .f64 a) 0));clear h4 e4;go_upto_region 15 with fail;clear r0 r1 r2 r3 r4 r5 r6 r7 fp;generalize S.setCell _ _=r at *;clear z0 z1 b z3 c d g h;obtain⟨z0,z1,b,z3,c,d,g,h,hq⟩:=kK (ws:=(ep kd n 1).set 4 (bH a)) (by simp[jN,ep]);have HQ:=M hq;have l:=HR.out;rw[hq]at l;obtain⟨r0,r1,r2,r3,r4,r5,r6,r7⟩:=eB l;have j:=HO.bF K (by have:=HX.out;omega);obtain⟨t0,t1,t2,t3,t4,t5,t6,t7⟩:=eB j;have f0:=λk=>ey k j;have R:Hid (ae w r):=M (Q.trans HO (λk hk e=>by have:=HX.out;omega));clear hq l;go_wp2_with fail;have a4:((((((((r.setCell (I w.heap.size 0) (U z0.1 z0.2)).setCell (I w.heap.size 1) (U z1.1 z1.2)).setCell (I w.heap.size 2) (U b.1 b.2)).setCell (I w.heap.size 3) (U z3.1 z3.2)).setCell (I w.heap.size 4) (U c.1 c.2)).setCell (I w.heap.size 5) (U d.1 d.2)).setCell (I w.heap.size 6) (U g.1 g.2)).setCell (I w.heap.size 7) (U h.1 h.2)).heap[w.heap.size]?=some (D (gn z0 z1 b z3 c d g h) 299 (0,0)):=by
  have:=az (i:=7) (u:=(U h.1 h.2)) (az (i:=6) (u:=(U g.1 g.2)) (az (i:=5) (u:=(U d.1 d.2)) (az (i:=4) (u:=(U c.1 c.2)) (az (i:=3) (u:=(U z3.1 z3.2)) (az (i:=2) (u:=(U b.1 b.2)) (az (i:=1) (u:=(U z1.1 z1.2)) (az (i:=0) (u:=(U z0.1 z0.2)) (j))))))));simpa using this
 have a3:ac (λk=>k=w.heap.size) r ((((((((r.setCell (I w.heap.size 0) (U z0.1 z0.2)).setCell (I w.heap.size 1) (U z1.1 z1.2)).setCell (I w.heap.size 2) (U b.1 b.2)).setCell (I w.heap.size 3) (U z3.1 z3.2)).setCell (I w.heap.size 4) (U c.1 c.2)).setCell (I w.heap.size 5) (U d.1 d.2)).setCell (I w.heap.size 6) (U g.1 g.2)).setCell (I w.heap.size 7) (U h.1 h.2)):=bw (bw (bw (bw (bw (bw (bw (bw (ac.refl (λk=>k=w.heap.size) r) _ _) _ _) _ _) _ _) _ _) _ _) _ _) _ _;have E:ae w ((((((((r.setCell (I w.heap.size 0) (U z0.1 z0.2)).setCell (I w.heap.size 1) (U z1.1 z1.2)).setCell (I w.heap.size 2) (U b.1 b.2)).setCell (I w.heap.size 3) (U z3.1 z3.2)).setCell (I w.heap.size 4) (U c.1 c.2)).setCell (I w.heap.size 5) (U d.1 d.2)).setCell (I w.heap.size 6) (U g.1 g.2)).setCell (I w.heap.size 7) (U h.1 h.2)):=R.trans a3 (λk hk e=>by omega);generalize((((((((r.setCell _ _).setCell _ _).setCell _ _).setCell _ _).setCell _ _).setCell _ _).setCell _ _).setCell _ _)=W9 at *;obtain⟨u0,u1,u2,u3,u4,u5,u6,u7⟩:=eB a4;refine au (v:=.agg (gn z0 z1 b z3 c d g h)) (by simp[results,results266,go_sem,u0,u1,u2,u3,u4,u5,u6,u7]) T ⟨?_,E⟩;rw[show iT kd n 1 xs a=_ from HQ.out];rfl
theorem yO(kd n:N)(gv:Value)(xs:List Nat)(t:V)(w:Y)(a9:kd<=1000)(hn:n<=1000)(hg:eO w w.heap.size gv (aI xs))(hx:∀x∈xs,x<=1000000)(b6:2<=xs.length):C 266 #[J kd,J n,J 2,gv,J t] w λe w'=>e=O (.agg (Mm.cI (iT kd n 2 xs t)).toArray)/\ae w w':=by
 obtain⟨Ag,cg,o,b0,b5⟩:=hg.len;rw[bQ]at o b0;have HG:=M (λ(w':Y) (hp:ae w w')=>(hg.MC hp (λ_ _ f=>f):eO w' w'.heap.size gv (aI xs)));have a7:=M hx;subst o;clear hg hx;obtain⟨Q,-,H⟩:=Ac.aO w (gn (0,0) (0,0) (0,0) (0,0) (0,0) (0,0) (0,0) (0,0)) 299;have E:=M Q;have s:=M H;have a4:Hid (w.heap.size<(w.alloc (D (gn (0,0) (0,0) (0,0) (0,0) (0,0) (0,0) (0,0) (0,0)) 299)).heap.size):=M (by simp);clear Q H;go_enter func266,ntmps266;go_upto_region 1 with fail;generalize w.alloc _=W at *;go_wp2_with fail;refine(mY W).mono ?_;rintro e w1⟨rfl,rfl⟩;go_wp2_with fail;refine(rQ kd 0 W a9 (by omega)).mono ?_;rintro e w1⟨rfl,rfl⟩;go_wp2_with fail;refine(fm (n:V) W (by omega) (by omega)).mono ?_;rintro e w1⟨rfl,rfl⟩;go_wp2_with fail;refine(fm 2 W (by omega) (by omega)).mono ?_;rintro e w1⟨rfl,rfl⟩;go_upto_region 2 with fail;have z:ae W (W.alloc (D (Mm.cI (ep kd n 2)).toArray 299)):=(bo W).alloc _;have K:=ai W (D (Mm.cI (ep kd n 2)).toArray 299);have l:=z.bF s;have a2:w.heap.size<W.heap.size:=(bR.1 s).1;have F:=M (E.MD z);have B:=M K;have a3:=M l;have HX:Hid (w.heap.size<W.heap.size):=M a2;clear z K l a2 s E a4;change Code.wp _ _ _ _ (W.alloc (D (Mm.cI (ep kd n 2)).toArray 299));generalize W.alloc _=G at *;generalize W.heap.size=X at *;obtain⟨z0,z1,b,z3,c,d,h,j,S⟩:=kK (ws:=ep kd n 2) T;have p:=B.out;rw[S]at p;obtain⟨r0,r1,r2,r3,r4,r5,r6,r7⟩:=eB p;have fp:=λk=>ey k p;clear S p;obtain⟨a,r⟩:∃a,xs[1]?=some a:=⟨_,cR (by omega)⟩;obtain⟨b3,b4,o,-,-,-,y⟩:=HG G F;rw[bQ]at y;obtain⟨g,off,hA,a8,P⟩:=y (by omega);injection o with e1 e2 e3;rw[<-e1]at hA;subst hA;have g1:G.cell? (I g (off+1))=some (J a):=by rw[P 1 (by omega),eg xs _ _ r]
 have a1:a<=1000000:=a7 a (cZ r);have a6:Hid (xs.getD 1 0=a):=M (by rw[ko,r];rfl);have i1:(1:V)<(xs.length:V):=by omega
 clear y P a8 e1 e2 e3 r;go_wp2_with fail;refine(mC a G a1).mono ?_;rintro e w4⟨rfl,rfl⟩;have h4:=az (i:=4) (u:=U (bi a).1 (bi a).2) B;have e4:(Mm.cI (ep kd n 2)).toArray.setIfInBounds 4 (U (bi a).1 (bi a).2)=(Mm.cI ((ep kd n 2).set 4 (bi a))).toArray:=by first|(rw[pM,Mm.ji];done)|(rw[pM,Mm.ji];rfl)
 rw[e4]at h4;have HR:=M h4;have HO:=M (bw (ac.refl (λq=>q=X) G) 4 (U (bi a).1 (bi a).2));clear h4 e4;go_upto_region 15 with fail;clear r0 r1 r2 r3 r4 r5 r6 r7 fp;generalize G.setCell _ _=A at *;clear z0 z1 b z3 c d h j;obtain⟨z0,z1,b,z3,c,d,h,j,hq⟩:=kK (ws:=(ep kd n 2).set 4 (bi a)) (by simp[jN,ep]);have HQ:=M hq;have m:=HR.out;rw[hq]at m;obtain⟨r0,r1,r2,r3,r4,r5,r6,r7⟩:=eB m;have l:=HO.bF a3 (by have:=HX.out;omega);obtain⟨t0,t1,t2,t3,t4,t5,t6,t7⟩:=eB l;have f0:=λk=>ey k l;have a5:Hid (ae w A):=M (F.trans HO (λk hk e=>by have:=HX.out;omega));clear hq m;go_wp2_with fail;have b2:((((((((A.setCell (I w.heap.size 0) (U z0.1 z0.2)).setCell (I w.heap.size 1) (U z1.1 z1.2)).setCell (I w.heap.size 2) (U b.1 b.2)).setCell (I w.heap.size 3) (U z3.1 z3.2)).setCell (I w.heap.size 4) (U c.1 c.2)).setCell (I w.heap.size 5) (U d.1 d.2)).setCell (I w.heap.size 6) (U h.1 h.2)).setCell (I w.heap.size 7) (U j.1 j.2)).heap[w.heap.size]?=some (D (gn z0 z1 b z3 c d h j) 299 (0,0)):=by
  have:=az (i:=7) (u:=(U j.1 j.2)) (az (i:=6) (u:=(U h.1 h.2)) (az (i:=5) (u:=(U d.1 d.2)) (az (i:=4) (u:=(U c.1 c.2)) (az (i:=3) (u:=(U z3.1 z3.2)) (az (i:=2) (u:=(U b.1 b.2)) (az (i:=1) (u:=(U z1.1 z1.2)) (az (i:=0) (u:=(U z0.1 z0.2)) (l))))))));simpa using this
 have b1:ac (λk=>k=w.heap.size) A ((((((((A.setCell (I w.heap.size 0) (U z0.1 z0.2)).setCell (I w.heap.size 1) (U z1.1 z1.2)).setCell (I w.heap.size 2) (U b.1 b.2)).setCell (I w.heap.size 3) (U z3.1 z3.2)).setCell (I w.heap.size 4) (U c.1 c.2)).setCell (I w.heap.size 5) (U d.1 d.2)).setCell (I w.heap.size 6) (U h.1 h.2)).setCell (I w.heap.size 7) (U j.1 j.2)):=bw (bw (bw (bw (bw (bw (bw (bw (ac.refl (λk=>k=w.heap.size) A) _ _) _ _) _ _) _ _) _ _) _ _) _ _) _ _;have R:ae w ((((((((A.setCell (I w.heap.size 0) (U z0.1 z0.2)).setCell (I w.heap.size 1) (U z1.1 z1.2)).setCell (I w.heap.size 2) (U b.1 b.2)).setCell (I w.heap.size 3) (U z3.1 z3.2)).setCell (I w.heap.size 4) (U c.1 c.2)).setCell (I w.heap.size 5) (U d.1 d.2)).setCell (I w.heap.size 6) (U h.1 h.2)).setCell (I w.heap.size 7) (U j.1 j.2)):=a5.trans b1 (λk hk e=>by omega);generalize((((((((A.setCell _ _).setCell _ _).setCell _ _).setCell _ _).setCell _ _).setCell _ _).setCell _ _).setCell _ _)=W9 at *;obtain⟨u0,u1,u2,u3,u4,u5,u6,u7⟩:=eB b2;refine au (v:=.agg (gn z0 z1 b z3 c d h j)) (by simp[results,results266,go_sem,u0,u1,u2,u3,u4,u5,u6,u7]) T ⟨?_,R⟩;rw[show iT kd n 2 xs t=(ep kd n 2).set 4 (bi a)from(by rw[iT,aa (by decide),aa (by decide),a6.out]),HQ.out];rfl
end Pl
namespace fG
open Ac (Vl Wr)
def DR:Option Nat->Nat × Nat
 | none=>bD
 | some i=>bi i
def Mr:Option (Option Nat)->Vl
 | none=>(false,0,0)
 | some v=>(true,DR v)
structure EY(ws:List (Nat × Nat))(i:N)(v:Option Nat):Prop where
 w0:ws[8*i]?=some bD
 w1:ws[8*i+1]?=some (cQ 0 1)
 w2:ws[8*i+2]?=some (DR v)
 w3:ws[8*i+3]?=some bD
theorem EY.set{ws:List (Nat × Nat)}{i j:N}{v:Option Nat}{z:Nat × Nat}(h:EY ws i v)(b:j/8≠i):EY (ws.set j z) i v:=by
 have e:∀d,d<8->(ws.set j z)[8*i+d]?=ws[8*i+d]?:=λd a=>by rw[kT];omega
 exact⟨(e 0 (by omega)).trans h.w0,(e 1 (by omega)).trans h.w1,(e 2 (by omega)).trans h.w2,(e 3 (by omega)).trans h.w3⟩
theorem EY.put{ws:List (Nat × Nat)}{i:N}{v:Option Nat}(h:EY ws i v)(a:Option Nat):EY (ws.set (8*i+2) (DR a)) i a:=by
 have b:8*i+2<ws.length:=(dH.1 h.w2).1;refine⟨?_,?_,?_,?_⟩
 ·rw[kT (by omega)];exact h.w0
 ·rw[kT (by omega)];exact h.w1
 ·rw[kS b]
 ·rw[kT (by omega)];exact h.w3
structure Me(a:A)(ws:List (Nat × Nat)):Prop where
 len:ws.length=353
 obj:∀i,44-a.cY<=i->i<44->EY ws i (a.nx i)
 fC:ws[352]?=some (DR a.g)
theorem Me.store{a:A}{ws:List (Nat × Nat)}{i:N}{v:Option Nat}(h:Me a ws)(d:44-a.cY<=i)(f:i<44):Me {a with nx:=pH a.nx i v} (ws.set (8*i+2) (DR v)):=by
 refine⟨by rw[iC];exact h.len,λk c b=>?_,by rw[kT (by omega)];exact h.fC⟩;show EY _ k (pH a.nx i v k);by_cases e:k=i
 ·subst e;rw[vq];exact(h.obj k c b).put v
 ·rw[sS e];exact(h.obj k c b).set (by omega)
theorem Me.new{a:A}{ws:List (Nat × Nat)}(h:Me a ws)(d:a.cY<44)(c:EY ws (43-a.cY) none)(x:Option (Option Nat)):Me {a with cY:=a.cY+1,nx:=pH a.nx (43-a.cY) none,l0:=x} ws:=by
 refine⟨h.len,λk (f:44-(a.cY+1)<=k) b=>?_,h.fC⟩;show EY _ k (pH a.nx (43-a.cY) none k);by_cases e:k=43-a.cY
 ·rw[e,vq];exact c
 ·rw[sS e];exact h.obj k (by omega) b
theorem Me.same{a b:A}{ws:List (Nat × Nat)}(h:Me a ws)(f:b.cY=a.cY)(d:b.nx=a.nx)(e:b.g=a.g):Me b ws:=⟨h.len,λk g c=>by rw[d];exact h.obj k (by omega) c,by rw[e];exact h.fC⟩
def fF(l:List Wr)(j:N)(ws:List (Nat × Nat)):Prop:=∀k (x:Wr),k<j->l[k]?=some x->ws[x.1.toNat]?=some x.2
theorem fF.zero(l:List Wr)(ws:List (Nat × Nat)):fF l 0 ws:=λk x h=>absurd h (by omega)
theorem fF.step{l:List Wr}{j:N}{ws:List (Nat × Nat)}{x:Wr}(h:fF l j ws)(f:l[j]?=some x)(c:x.1.toNat<ws.length)(d:∀k (y:Wr),k<j->l[k]?=some y->y.1.toNat≠x.1.toNat):fF l (j+1) (ws.set x.1.toNat x.2):=by
 intro k y g a;by_cases e:k=j
 ·subst e;rw[f]at a;injection a with a;subst a;exact kS c
 ·have b:k<j:=by omega
  rw[kT (λe=>d k y b a e.symm)];exact h k y b a
open Pl (gB fK gU ir cK gk mr)
theorem re(kd:N)(b:Bool)(xs:List Nat)(bs:List Bool):∀n,∀j k,j<n->k<8->(gB kd b xs bs n)[8*j+k]?=some (((8*xs.getD j 0+k:N):V),(fK kd b xs bs j).getD k (0,0)):=by
 intro n
 induction n with
 | zero=>intro j k h;omega
 | succ n c =>
  intro j k d a;rw[gk];by_cases e:j<n
  ·rw[pL (by rw[cK];omega)];exact c j k e a
  ·obtain rfl:j=n:=by omega
   rw[oc (by rw[cK];omega),cK,show 8*j+k-8*j=k from by omega];simp[gU,ir,a]
theorem DJ{kd:N}{c:Bool}{xs:List Nat}{bs:List Bool}(l:xs.Nodup){p q:N}{x y:Wr}(h:(gB kd c xs bs xs.length)[p]?=some x)(i:(gB kd c xs bs xs.length)[q]?=some y)(m:p≠q):x.1.toNat≠y.1.toNat:=by
 have d:=(dH.1 h).1;have f:=(dH.1 i).1;rw[cK]at d f;have a:=re kd c xs bs xs.length (p/8) (p%8) (by omega) (by omega);have b:=re kd c xs bs xs.length (q/8) (q%8) (by omega) (by omega);rw[show 8*(p/8)+p%8=p from by omega,h]at a;rw[show 8*(q/8)+q%8=q from by omega,i]at b;injection a with a;injection b with b;rw[a,b];simp only[iY];intro e;have g:xs.getD (p/8) 0=xs.getD (q/8) 0:=by omega
 have n:p%8=q%8:=by omega
 have j:p/8<xs.length:=by omega
 have k:q/8<xs.length:=by omega
 simp only[List.getD,cR j,cR k,Option.getD_some]at g;have:=(List.getElem_inj l).1 g;omega
theorem fF.word{kd:N}{a:Bool}{xs:List Nat}{bs:List Bool}{ws:List (Nat × Nat)}(h:fF (gB kd a xs bs xs.length) (8*xs.length) ws){j k:N}(b:j<xs.length)(c:k<8):ws[8*xs.getD j 0+k]?=some ((fK kd a xs bs j).getD k (0,0)):=by
 have:=h (8*j+k) _ (by omega) (re kd a xs bs xs.length j k b c)
 rwa [iY]at this
end fG
section
open Ac (jm dx jb gC av Vl Wr iJ gm aA bc aJ nT aO cC ed dZ dY CT)
section
variable{w a:Y}{c:Cn}{K:aW.Q}{κ:N->N}{m:aW.St}{b:Ac.B}{s:Ac.St}
open Ac (fY GW vu mq vv av)
def lS(w:Y)(v:Value)(l:List Vl):Prop:=∃(A:Option Addr) (c:N),v=Z A l.length c/\l.length<=8/\(0<l.length->∃g,A=some ⟨g,0,none⟩/\g<w.heap.size/\∀j u,(fY l)[j]?=some u->w.cell? (I g j)=some u)
theorem lS.pure{l:List Vl}{v:Value}(h:lS w v l)(d:ae w a):lS a v l:=by
 obtain⟨A,c,e,f,i⟩:=h;refine⟨A,c,e,f,λn=>?_⟩;obtain⟨g,e,k,p⟩:=i n;exact⟨g,e,eR k d.size,λj u o=>d.aj (p j u o)⟩
theorem lS.nil:lS w (Z none 0 0) []:=⟨none,0,T,by simp,λh=>absurd h (by simp)⟩
theorem lS.one{x:Vl}{g c:N}(e:w.heap[g]?=some (D #[L x.1,U x.2.1 x.2.2] 44 (0,0))):lS w (Z (some (I g 0)) 1 c) [x]:=by
 refine⟨_,c,T,by simp,λ_=>⟨g,T,(bR.1 e).1,λj u d=>?_⟩⟩;have f:j<2:=by have:=(dH.1 d).1;rw[vv]at this;simpa using this
 rw[bK e];rcases(by omega:j=0\/j=1)with rfl|rfl
 ·exact d
 ·exact d
theorem lS.get{l:List Vl}{A:Option Addr}{n c j:N}{x:Vl}(h:lS w (Z A n c) l)(d:l[j]?=some x):∃g,A=some ⟨g,0,none⟩/\w.cell? (I g (j*2))=some (L x.1)/\w.cell? (I g (j*2+1))=some (U x.2.1 x.2.2):=by
 obtain⟨o,p,e,q,k⟩:=h;injection e with e1 e2 e3;subst e1;have t:=(dH.1 d).1;obtain⟨g,i,r,f⟩:=k (by omega);exact⟨g,i,by simpa using f (j*2+0) _ ((mq d 0 (by omega)).trans T),f (j*2+1) _ ((mq d 1 (by omega)).trans T)⟩
def zu(p:Vl->Bool)(l:List Vl):V:=if l.findIdx p<l.length then(l.findIdx p:V)else -1
theorem Df{p:Vl->Bool}{l:List Vl}{i:N}{t:Vl}(f:l[i]?=some t)(n:p t=true)(d:∀k,k<i->∀u,l[k]?=some u->p u=false):(i:V)=zu p l:=by
 have e:=(dH.1 f).1;have h:l.findIdx p=i:=by
  refine(List.findIdx_eq e).2 ⟨?_,λj g=>?_⟩
  ·rw[(dH.1 f).2];exact n
  ·exact d j g _ (cR (by omega))
 rw[zu,h,af e]
theorem wC{p:Vl->Bool}{l:List Vl}(d:∀(k:N) (u:Vl),l[k]?=some u->p u=false):-1=zu p l:=by
 rw[zu,aa];intro h;have:=List.findIdx_getElem (w:=h);rw[d _ _ (cR h)]at this;cases this
theorem FW(p:Vl->Bool)(x:Vl):zu p [x]=if p x then 0 else -1:=by
 cases h:p x<;>simp[zu,List.findIdx_cons,h]
def yv(r:Bool)(v:Vl):Bool:=v.1 !=r
def qz(v:Vl):Bool:=jk v.2.1 v.2.2 0 Gu
theorem tM(r:Bool)(x:Vl)(b:N)(w:Y)(e:w.cell? (I b 0)=some (L r)):C 242 #[GW x,I b 0] w λd a=>d=O (L (yv r x))/\ae w a:=by
 obtain⟨g,h,i⟩:=x;have f:=ae.aj ((ck w).alloc (D #[L g,U h i] 44)) e;go_enter func242,ntmps242;go_wp2_with fail;go_ret;exact⟨T,(bo _).alloc _⟩
theorem tN(x:Vl)(w:Y):C 243 #[GW x] w λj a=>j=O (L (qz x))/\ae w a:=by
 obtain⟨i,d,e⟩:=x;go_enter func243,ntmps243;go_wp2_with fail;obtain⟨f,-,g⟩:=Ac.aO w #[L i,U d e] 44;have HP:=M f;generalize w.alloc _=k at *;generalize w.heap.size=X at *;have c1:k.cell? (I X 1)=some (U d e):=by rw[bK g];rfl
 clear f g;go_quiet ((first|(go_at_call 52;exact Calls.quiet_of_same ((Pl.mY _).mono λ_ _ h=>⟨h.1,h.2.symm⟩))|(go_at_call 152;exact Calls.quiet_of_same ((kO _ _ _ _ _).mono λ_ _ h=>⟨h.1,h.2.symm⟩))));go_wp2_with fail;go_ret;exact⟨T,HP.MD ((bo _).drewN _)⟩
theorem FX(b:N)(r:Bool)(v:Value)(l:List Vl)(w:Y)(H:lS w v l)(F:w.cell? (I b 0)=some (L r)):C 291 #[v,.func (.func 242) #[] #[I b 0]] w λe a=>e=O (J (zu (yv r) l))/\ae w a:=by
 have Q:=M (λ(a:Y) (p:ae w a)=>H.pure p);obtain⟨A,c,rfl,G,-⟩:=H;go_enter func291,ntmps291;go_wp2_with fail;go_loopw [8] (λi wr=>∃k:N,k<=l.length/\i=J k/\(∀j,j<k->∀u,l[j]?=some u->((yv r)) u=false)/\ae w wr) (λi _=>l.length-(intOf i).toNat)
 case atStart=>exact⟨0,aw _,T,(by omega),bo _⟩
 case round =>
  obtain⟨k,hk,rfl,h,p⟩:=hrel;have d:=M h;have HP:=M p;clear h p;by_cases y:k<l.length
  ·obtain⟨e,x⟩:∃e,l[k]?=some e:=⟨l[k],cR y⟩;obtain⟨g,B,X,d1⟩:=(Q _ HP).get x;subst B;have E:=M x;clear x;cases o:((yv r)) e with
   | true =>
    have n:=M o;go_wp2_with fail;refine(tM r e b _ (HP.aj F)).mono ?_;rw[n.out];rintro S W⟨rfl,f⟩;have q:=M (HP.MD f);clear f o;go_wp2_with fail;go_ret;exact⟨dP (Df E n d).symm,q⟩
   | false =>
    have n:=M o;go_wp2_with fail;refine(tM r e b _ (HP.aj F)).mono ?_;rw[n.out];rintro S W⟨rfl,f⟩;have q:=M (HP.MD f);clear f o;go_wp2_with fail;go_roundw
    case rel =>
     refine⟨k+1,by omega,by first|rfl|simp,?_,q⟩;intro j hj u z;by_cases R:j<k
     ·exact d j R u z
     ·obtain rfl:j=k:=by omega
      rw[E.out]at z;cases z;exact n
    case measure=>simp[intOf];omega
  ·obtain rfl:k=l.length:=by omega
   go_wp2_with fail;go_ret;refine⟨dP (wC λj t P=>d j (dH.1 P).1 t P).symm,HP⟩
theorem uD(b:N)(r:Bool)(v:Value)(l:List Vl)(p:Bool)(w:Y)(k:lS w v l)(u:w.cell? (I b 0)=some (L r))(n:decide (0<=zu (yv r) l)=p):C 241 #[v,.func (.func 242) #[] #[I b 0]] w λe a=>e=O (L p)/\ae w a:=by
 have q:=M k;have i:=M n;obtain⟨A,c,rfl,j,-⟩:=k;clear n;go_enter func241,ntmps241;go_wp2_with fail;refine(FX b r _ l _ q u).mono ?_;obtain⟨o,d⟩:∃o,zu (yv r) l=o:=⟨_,T⟩;rw[d];have f:=i.out;rw[d]at f;have h:=M f;clear d f;rintro e x⟨rfl,g⟩;have t:=M g;clear g;go_wp2_with fail;go_ret;refine⟨eH ?_,t⟩;rw[<-h.out]
theorem Dh(v:Value)(l:List Vl)(w:Y)(F:lS w v l):C 291 #[v,.func (.func 243) #[] #[]] w λe a=>e=O (J (zu qz l))/\ae w a:=by
 have H:=M (λ(a:Y) (p:ae w a)=>F.pure p);obtain⟨A,c,rfl,E,-⟩:=F;go_enter func291,ntmps291;go_wp2_with fail;go_loopw [8] (λi wr=>∃k:N,k<=l.length/\i=J k/\(∀j,j<k->∀u,l[j]?=some u->(qz) u=false)/\ae w wr) (λi _=>l.length-(intOf i).toNat)
 case atStart=>exact⟨0,aw _,T,(by omega),bo _⟩
 case round =>
  obtain⟨k,hk,rfl,h,p⟩:=hrel;have d:=M h;have HP:=M p;clear h p;by_cases x:k<l.length
  ·obtain⟨e,r⟩:∃e,l[k]?=some e:=⟨l[k],cR x⟩;obtain⟨g,z,S,W⟩:=(H _ HP).get r;subst z;have B:=M r;clear r;cases o:(qz) e with
   | true =>
    have n:=M o;go_wp2_with fail;refine(tN e _).mono ?_;rw[n.out];rintro Q R⟨rfl,f⟩;have q:=M (HP.MD f);clear f o;go_wp2_with fail;go_ret;exact⟨dP (Df B n d).symm,q⟩
   | false =>
    have n:=M o;go_wp2_with fail;refine(tN e _).mono ?_;rw[n.out];rintro Q R⟨rfl,f⟩;have q:=M (HP.MD f);clear f o;go_wp2_with fail;go_roundw
    case rel =>
     refine⟨k+1,by omega,by first|rfl|simp,?_,q⟩;intro j X u y;by_cases P:j<k
     ·exact d j P u y
     ·obtain rfl:j=k:=by omega
      rw[B.out]at y;cases y;exact n
    case measure=>simp[intOf];omega
  ·obtain rfl:k=l.length:=by omega
   go_wp2_with fail;go_ret;refine⟨dP (wC λj t G=>d j (dH.1 G).1 t G).symm,HP⟩
theorem rM(v:Value)(l:List Vl)(p:Bool)(w:Y)(k:lS w v l)(n:decide (0<=zu qz l)=p):C 241 #[v,.func (.func 243) #[] #[]] w λe a=>e=O (L p)/\ae w a:=by
 have q:=M k;have i:=M n;obtain⟨A,c,rfl,j,-⟩:=k;clear n;go_enter func241,ntmps241;go_wp2_with fail;refine(Dh _ l _ q).mono ?_;obtain⟨o,d⟩:∃o,zu qz l=o:=⟨_,T⟩;rw[d];have f:=i.out;rw[d]at f;have h:=M f;clear d f;rintro e t⟨rfl,g⟩;have r:=M g;clear g;go_wp2_with fail;go_ret;refine⟨eH ?_,r⟩;rw[<-h.out]
end
end
section
open Ac (jm dx jb gC av Vl Wr iJ gm aA bc aJ nT aO cC ed dZ dY CT)
section
variable{w a:Y}{c:Cn}{K:aW.Q}{κ:N->N}{m:aW.St}{b:Ac.B}{s:Ac.St}
open Ac (fY GW vu av)
theorem Dg{p:Vl->Bool}{x:Vl}(h:p x=false):decide (0<=zu p [x])=false:=by rw[FW,h];rfl
theorem zv(p:Vl->Bool):decide (0<=zu p [])=false:=rfl
theorem Ba(i:N)(h:i<=1000000):qz (true,bi i)=false:=Bo i h
theorem uS(o:dx)(w:Y)(h:Ac.At w κ b s)(E:o.aE=1):C 178 #[I b.ab 0,jb o] w λe a=>e=O (J 0)/\ae w a:=by
 obtain⟨g,-,q⟩:=aO w #[J o.aE,J o.a,J o.b,J o.c,J o.n,U o.x o.y] 32;have j:=M g;have r:=M (h.pure g);have H:=M E;have k:=M q;clear g q h E;go_enter func178,ntmps178;go_upto_region 1 with fail;generalize w.alloc _=z at *;generalize w.heap.size=X at *;have A:=r.p2;go_upto_region 4 with fail;obtain⟨d,-,p⟩:=aO z #[L true] 4;have t:=M (j.MD d);have G:=M (r.pure d);have HV:=M (ae.bF d k);have P:=M p;clear A d p j r k;generalize z.alloc _=W at *;generalize z.heap.size=R at *;have A:=G.p2;obtain⟨F,Q,S,o3,o4,o5⟩:=av HV;rw[H.out]at F;have B:W.cell? (I R 0)=some (L true):=by rw[bK P.out];rfl
 go_wp2_with fail;have u:=t;have l:=B;have f:Hid (lS W (Z none 0 0) []):=M lS.nil;clear A F Q S o3 o4 o5 B;refine(uD R true _ [] false W f l (zv _)).mono ?_;rintro e w4⟨rfl,i⟩;have v:=M (u.MD i);have y:=M (f.pure i);clear i l f;go_wp2_with fail;refine(rM _ [] false w4 y (zv _)).mono ?_;rintro e w5⟨rfl,n⟩;have x:=M (v.MD n);clear n;go_wp2_with fail;go_ret;exact⟨T,x⟩
theorem so(o:dx)(w:Y)(h:Ac.At w κ b s)(E:o.aE=2):C 178 #[I b.ab 0,jb o] w λe a=>e=O (J 0)/\ae w a:=by
 obtain⟨g,-,q⟩:=aO w #[J o.aE,J o.a,J o.b,J o.c,J o.n,U o.x o.y] 32;have j:=M g;have r:=M (h.pure g);have H:=M E;have k:=M q;clear g q h E;go_enter func178,ntmps178;go_upto_region 1 with fail;generalize w.alloc _=z at *;generalize w.heap.size=X at *;have A:=r.p2;go_upto_region 4 with fail;obtain⟨d,-,p⟩:=aO z #[L true] 4;have t:=M (j.MD d);have G:=M (r.pure d);have HV:=M (ae.bF d k);have P:=M p;clear A d p j r k;generalize z.alloc _=W at *;generalize z.heap.size=R at *;have A:=G.p2;obtain⟨F,Q,S,o3,o4,o5⟩:=av HV;rw[H.out]at F;have B:W.cell? (I R 0)=some (L true):=by rw[bK P.out];rfl
 go_wp2_with fail;have u:=t;have l:=B;have f:Hid (lS W (Z none 0 0) []):=M lS.nil;clear A F Q S o3 o4 o5 B;refine(uD R true _ [] false W f l (zv _)).mono ?_;rintro e w4⟨rfl,i⟩;have v:=M (u.MD i);have y:=M (f.pure i);clear i l f;go_wp2_with fail;refine(rM _ [] false w4 y (zv _)).mono ?_;rintro e w5⟨rfl,n⟩;have x:=M (v.MD n);clear n;go_wp2_with fail;go_ret;exact⟨T,x⟩
theorem qB(o:dx)(w:Y)(h:Ac.At w κ b s)(d:o.aE=1\/o.aE=2):C 178 #[I b.ab 0,jb o] w λe a=>e=O (J 0)/\ae w a:=by
 rcases d with d|d
 ·exact uS o w h d
 ·exact so o w h d
theorem tm(o:dx)(j:N)(x:Vl)(w:Y)(h:Ac.At w κ b s)(hk:o.aE=11)(ho:o.b=(j:V))(hj:s.ak[j]?=some x)(hx:x.1=true)(hn:qz x=false):C 178 #[I b.ab 0,jb o] w λe a=>e=O (J 0)/\ae w a:=by
 obtain⟨d,g,i⟩:=x;obtain⟨l,-,z⟩:=aO w #[J o.aE,J o.a,J o.b,J o.c,J o.n,U o.x o.y] 32;have q:=M l;have A:=M (h.pure l);have HK:=M hk;have HO:=M ho;have HJ:=M hj;have HX:=M hx;have HN:=M hn;have r:=M z;clear l z h hk ho hj hx hn;go_enter func178,ntmps178;go_upto_region 1 with fail;generalize w.alloc _=Q at *;generalize w.heap.size=X at *;have S:=A.p2;go_upto_region 4 with fail;obtain⟨f,-,y⟩:=aO Q #[L true] 4;have B:=M (q.MD f);have H2:=M (A.pure f);have HV:=M (ae.bF f r);have HR:=M y;clear S f y q A r;generalize Q.alloc _=W at *;generalize Q.heap.size=R at *;have S:=H2.p2;obtain⟨o0,o1,o2,o3,o4,o5⟩:=av HV;rw[HK.out]at o0;have cr:W.cell? (I R 0)=some (L true):=by rw[bK HR.out];rfl
 rw[HO.out]at o2;obtain⟨l0,l1⟩:=H2.oj HJ;have a1:=(dH.1 HJ).1;have i0:(0:V)<=(j:V):=by omega
 have i1:(j:V)<(s.ak.length:V):=by omega
 go_wp2_with fail;obtain⟨n,-,u⟩:=aO W #[L d,U g i] 44;have E:=M (B.MD n);have t:=n.aj cr;have k:Hid (lS (W.alloc (D #[L d,U g i] 44)) (Z (some (I W.heap.size 0)) 1 1) [(d,g,i)]):=M (lS.one (x:=(d,g,i)) u);clear n u l0 l1 i0 i1 a1 S o0 o1 o2 o3 o4 o5 cr;generalize W.alloc _=W3 at *;generalize W.heap.size=G at *;refine(uD R true _ [(d,g,i)] false W3 k t (Dg (show yv true (d,g,i)=false from by show(d !=true)=false;rw[show d=true from HX.out];rfl))).mono ?_;rintro e w4⟨rfl,p⟩;have F:=M (E.MD p);have P:=M (k.pure p);clear p t k;go_wp2_with fail;refine(rM _ [(d,g,i)] false w4 P (Dg HN)).mono ?_;rintro e w5⟨rfl,v⟩;have H:=M (F.MD v);clear v;go_wp2_with fail;go_ret;exact⟨T,H⟩
