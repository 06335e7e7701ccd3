/- Part 34 of the proof of spotop.TopChurn. -/
import Derived.Test.YtpgdiceeimehiaaGreatR29
import Derived.Test.YtpgdiceeimehiaaGreatR30
set_option maxRecDepth 100000
set_option maxHeartbeats 16000000
set_option linter.all false
open Go.Proofs.Tryz
namespace Go.Proofs.YtpgdiceeimehiaaGreat
open RowKit
namespace Pl
open Ac (Wr jm Ia nr)
theorem ww{P:Program}{Q:Exit->Act->Y->Prop}{c:Code}{l:N}{b:Code}(o:findLabel c l=some (Code.skip.seq b))(g:N->Act->Y->Prop)
  (step:∀n a w,g n a w->b.wp P (Exit.jump l (λd f=>∃m,n=m+1/\g m d f) Q) a w):∀n a w,g n a w->b.wp P (BR P c Q n) a w:=by
 intro n
 induction n with
 | zero =>
  intro a w i;refine Code.wp_mono (λe d f h=>?_) (step 0 a w i);cases e with
  | goto s =>
   obtain⟨_,m,q,_⟩:=h;omega
  | normal=>exact h
  | exit id=>exact h
  | ret=>exact h
  | panic k=>exact h
  | outgrown=>exact h
 | succ n r =>
  intro a w i;refine Code.wp_mono (λe d f h=>?_) (step (n+1) a w i);cases e with
  | goto s =>
   obtain⟨p,m,q,j⟩:=h;obtain rfl:n=m:=by omega
   subst p;exact⟨_,o,wp_seq (wp_skip (r d f j))⟩
  | normal=>exact h
  | exit id=>exact h
  | ret=>exact h
  | panic k=>exact h
  | outgrown=>exact h
theorem vg(kd n m:N)(gv:Value)(xs:List Nat)(a:V)(w:Y)(b:kd<=1000)(g:n<=1000)(d:eO w w.heap.size gv (aI xs))(h:∀x∈xs,x<=1000000)(j:m<=2)(c:m=1->0<=a/\a<=1000000)(f:m=2->2<=xs.length):C 266 #[J kd,J n,J m,gv,J a] w λe i=>e=O (.agg (Mm.cI (iT kd n m xs a)).toArray)/\ae w i:=by
 rcases(by omega:m=0\/m=1\/m=2)with rfl|rfl|rfl
 ·exact yM kd n gv xs a w b g d h
 ·exact yN kd n gv xs a w b g d h (c T)
 ·exact yO kd n gv xs a w b g d h (f T)
def jn(b:Bool)(k:N):List (Nat × Nat):=List.replicate k (fW b)++List.replicate (8-k) (0,0)
theorem tG(b:Bool)(k:N)(h:k<=8):(jn b k).length=8:=by simp[jn];omega
theorem Ap(b:Bool)(k:N)(h:k<8):(jn b k).set k (fW b)=jn b (k+1):=by
 unfold jn;rw[cX _ _ (by simp),lm,fj,show 8-k=(8-(k+1))+1 by omega,fy,dv,List.replicate_succ',cS];rfl
def oV(xs:List Nat)(b:Bool)(j:N):List Wr:=(List.range j).flatMap λk=>gU (xs.getD (k+1) 0) (jn b 8)
theorem rB(xs:List Nat)(b:Bool)(j:N):oV xs b (j+1)=oV xs b j++gU (xs.getD (j+1) 0) (jn b 8):=by simp[oV,dK]
theorem An(xs:List Nat)(b:Bool)(j:N):(oV xs b j).length=8*j:=by
 induction j with
 | zero=>rfl
 | succ j a=>rw[rB,iB,a,gU,mr];omega
def sJ(xs:List Nat)(gat:V):N->List Wr
 | 0=>[(gat,bi (xs.getD 0 0)),(gat+1,bH ((xs.length:V)-1))]
 | j+1=>sJ xs gat j++[(gat+2+(j:V),bi (xs.getD (j+1) 0))]
theorem nK(xs:List Nat)(a:V):∀j,(sJ xs a j).length=j+2
 | 0=>rfl
 | j+1=>by rw[sJ,iB,nK xs a j];rfl
def kg(kd n m:N)(xs:List Nat)(gat:V)(b:Bool)(j:N):List Wr:=gU (xs.getD 0 0) (iT kd n m xs gat)++oV xs b j
def qG(kd n m:N)(xs:List Nat)(gat:V)(b:Bool):List Wr:=kg kd n m xs gat b (xs.length-1)++(if m=1 then sJ xs gat (xs.length-1)else[])
theorem mP(kd n m:N)(xs:List Nat)(a:V)(b:Bool)(j:N):(kg kd n m xs a b j).length=8+8*j:=by rw[kg,iB,gU,mr,An]
theorem tC(kd n m:N)(xs:List Nat)(a:V)(b:Bool)(j:N):kg kd n m xs a b (j+1)=kg kd n m xs a b j++gU (xs.getD (j+1) 0) (jn b 8):=by rw[kg,rB,<-cS];rfl
theorem Bp(kd n m:N)(xs:List Nat)(a:V):(iT kd n m xs a).length=8:=by
 unfold iT;split
 ·rw[jN];rfl
 ·split<;>(rw[iC];rfl)
structure BN(c:Cn)(sh:List Sh)(kd n m:N)(b:Bool)(xs:List Nat)(gat:V):Prop where
 aM:∃s,sh[kd]?=some s/\s.a=true/\s.bs=[b]
 len:(xs.length:V)=1+bX (n:V)
 lt:∀x∈xs,(x:V)<c.ag
 nd:xs.Nodup
 eT:n<=512
 mode:jh (bX (n:V)) (Sk.eP (aI xs))=m
 kd:kd<=1000
 al:m=1->∃sp k:V,(sp=0\/sp=1)/\0<=k/\k+(bX (n:V)+2)<=c.al/\gat=8*c.ag+sp*c.al+k
structure Ic(w:Y)(c:Cn)(v:Value)(X13:N)(w5:Y)(kd n m:N)(xs:List Nat)(gat:V)(b:Bool)(j:N)(lv:Value)(wr:Y):Prop where
 cI:Row w w.heap.size c v wr
 own:wr.ownsRow w5.heap.size 249 2 lv (8*j) (jm (kg kd n m xs gat b (j-1)))
 data:wr.heap[X13]?=some (D (Mm.cI (jn b 8)).toArray 299 (0,0))
 size:w5.heap.size<=wr.heap.size
theorem Ic.pure{w:Y}{c:Cn}{v:Value}{a:N}{i:Y}{kd n m:N}{xs:List Nat}{d:V}{b:Bool}{j:N}{lv:Value}{wr e:Y}(h:Ic w c v a i kd n m xs d b j lv wr)(g:ae wr e):Ic w c v a i kd n m xs d b j lv e:=⟨h.cI.aj g,g.own h.own (λ_ _ f=>f),g.bF h.data,aF h.size g.size⟩
theorem tF(k:V):0<=bX k/\bX k<=64:=by unfold bX;split<;>omega
theorem wI(d:V)(a:Bool):jh d a<=2:=by unfold jh;split;omega;split<;>omega
theorem vM(c:Cn)(v:Value)(sh:List Sh)(kd n m:N)(o:Bool)(gv:Value)(xs:List Nat)(a:V)(w:Y)(hl:dm w w.heap.size v sh)(y7:∀k,mK v sh k->k<w.heap.size)(o0:bk c sh=0)(hg:eO w w.heap.size gv (aI xs))(h:BN c sh kd n m o xs a):C 201 #[hI c v,J kd,J n,gv,J a] w λe r=>∃v',e=O (.tuple #[v',J 0])/\ae w r/\r.ownsRow w.heap.size 249 2 v' (qG kd n m xs a o).length (jm (qG kd n m xs a o)):=by
 obtain⟨A,cc,rfl⟩:∃A cc,v=Z A sh.length cc:=by
  obtain⟨⟨A,cc,rfl,_⟩,_⟩:=hl;exact⟨A,cc,T⟩
 have y5:=db o0;obtain⟨s,hk,ha,n6⟩:=h.aM;obtain⟨Ag,cg,a4,E2,F9⟩:=hg.len;rw[bQ]at a4 E2;have y8:=tF (n:V);have k9:=h.len;have F2:xs.length<=65:=by omega
 have G1:1<=xs.length:=by omega
 have B2:m<=2:=by rw[<-h.mode];exact wI _ _
 have G3:=h.eT;have E1:=h.kd;have j8:m=1->0<=a/\a<=1000000:=λe=>by
  obtain⟨sp,k,h1,h2,h3,h4⟩:=h.al e;rcases h1 with rfl|rfl<;>omega
 have C0:bM s.a s.bs.length (n:V)=(xs.length:V):=by
  rw[ha,n6];unfold bM gZ;rw[aa (by simp;omega),af rfl];omega
 have B1:m=2->2<=xs.length:=λe=>by
  have:=h.mode;rw[e]at this;unfold jh at this;split at this
  ·omega
  ·omega
 have HL:=M (λ(r:Y) (hp:ae w r)=>hl.pure hp);have HG:=M (λ(r:Y) (hp:ae w r)=>(hg.MC hp (λ_ _ f=>f):eO r r.heap.size gv (aI xs)));have HH:=M (aq o0 (aq hk (aq ha (aq n6 (aq C0 (aq y7 y5))))));have HA:=M h;have HQ:=M (aq j8 (aq B1 (aq B2 y8)));have s8:=M k9;have m6:Hid (Row w w.heap.size c (Z A sh.length cc) (w.alloc (Fz c A sh.length cc))):=M (Row.new w c _);subst a4;clear hl hg o0 hk ha n6 C0 y7 y5 h j8 B1 B2 k9 y8;go_enter func201,ntmps201;go_upto_region 1 with fail;generalize w.alloc _=W0 at *;obtain⟨mm,B4⟩:∃mm,xs.length=mm+1:=⟨xs.length-1,by omega⟩;have D2:=M B4;clear B4;refine bf mm (λCq o7=>?_);have HC:=M o7;clear o7;go_upto_region 4 with fail;obtain⟨b5,-,y3⟩:=Ac.aO W0 (gn (0,0) (0,0) (0,0) (0,0) (0,0) (0,0) (0,0) (0,0)) 299;have b9:=M (m6.aj b5);have l4:=M y3;have b1:Hid (w.heap.size<W0.heap.size):=M (bR.1 m6.2.1).1;clear b5 y3 m6;generalize W0.alloc _=W1 at *;generalize W0.heap.size=F at *;have x3:Hid (F<W1.heap.size):=M (bR.1 l4).1;obtain⟨k0,k1,k2,k3,k4,k5,k6,k7,k8,kf⟩:=b9.cells;have o2:=xF c _ sh kd s n _ xs W1 (HL W1 b9.2.2) HH.1 HH.2.1 (by rw[HH.out.2.2.2.1];simp) HH.2.2.2.2.1 (HG W1 b9.2.2) HA.lt HA.nd (by omega);rw[HH.out.2.2.1,HH.out.2.2.2.1]at o2;have x2:=M o2;clear o2;go_wp2_with fail;refine x2.mono ?_;rintro e w1⟨A8,d8,rfl,b5,b6,n7⟩;simp only[bu,dJ,br]at b6 n7 ⊢;have g9:=M (b9.aj b5);have l5:=M (b5.bF l4);have v4:=M b6;have s3:=M n7;clear b5 b6 n7 k0 k1 k2 k3 k4 k5 k6 k7 k8 kf x2 b9 l4;go_upto_region 5 with fail;obtain⟨j1,-,y4⟩:=Ac.aO w1 #[L true,Z A8 1 d8] 35;have m7:=M (g9.aj j1);have o9:=M (j1.bF l5);have v5:=M (v4.pure j1);have x4:=M y4;have c3:Hid (F<w1.heap.size/\∀k,(Z A8 1 d8).ownBlock=some k->W1.heap.size<=k/\k<w1.heap.size):=M ⟨(bR.1 l5).1,s3⟩;clear j1 y4 g9 l5 v4 s3;generalize w1.alloc _=W3 at *;generalize w1.heap.size=x7 at *;go_wp2_with fail;refine(gH (n:V) W3).mono ?_;rintro e w4⟨rfl,rfl⟩;go_wp2_with fail;have a8:=DA (bX (n:V)) _ (aI xs) W3 (HG W3 m7.2.2);rw[HA.out.mode]at a8;refine a8.mono ?_;clear a8;rintro e w4⟨rfl,e7⟩;have h5:=M (m7.aj e7);have r8:=M (e7.bF o9);have v6:=M (v5.pure e7);have n3:=M (e7.bF x4);clear e7 m7 o9 v5 x4;go_upto_region 7 with fail;obtain⟨k0,k1,k2,k3,k4,k5,k6,k7,k8,kf⟩:=h5.cells;obtain⟨y0,y1⟩:=dG n3;go_cut [45] (λE9 wx=>E9=L false/\ae w4 wx)
 case first =>
  by_cases Q:m=1
  ·have d1:((m:V)==1)=true:=by simp;omega
   obtain⟨sp,kk,b6,B7,B8,B9⟩:=HA.al Q;have l3:cE true 1 (n:V)=bX (n:V)+2:=by
    have a8:=HA.mode;rw[Q]at a8;unfold jh at a8;split at a8
    ·omega
    ·unfold cE;rw[aa];simp[gZ];omega
   have D6:=M l3;have g7:=M (aq b6 (aq B7 (aq B8 B9)));clear Q b6 B7 B8 B9 l3 kf;refine bB (λr=>ae w4 r) ((bo w4).drewN 1) (by kernel_rfl) (by kernel_rfl) ?_;intro S f _ E B3;have q0:=λs=>(E s).aj k0;have q1:=λs=>(E s).aj k1;have q2:=λs=>(E s).aj k2;have q3:=λs=>(E s).aj k3;have q4:=λs=>(E s).aj k4;have q5:=λs=>(E s).aj k5;have q6:=λs=>(E s).aj k6;have q7:=λs=>(E s).aj k7;have q8:=λs=>(E s).aj k8;have qa:=λs=>(E s).aj y0;have qb:=λs=>(E s).aj y1;have HF:=M E;have m4:=M B3;clear E B3 k0 k1 k2 k3 k4 k5 k6 k7 k8 y0 y1
   repeat(go_big_quiet_step ((first|(go_at_call 240;exact aN m4 (HF _) (λr hD k=>hD.MD k) (D6▸lM true A8 1 d8 (n:V) _ (by omega)))|(go_at_call 265;exact aN m4 (HF _) (λr hD k=>hD.MD k) (by rw[g7.out.2.2.2];exact Aj c _ sh sp kk (bX (n:V)+2) _ (HL _ (h5.2.2.MD (HF _))) HH.1 g7.1 g7.2.1 (by have:=HQ.2.2.2;omega) g7.2.2.1)))))
   refine wpQuiet_nil ?_;rintro y⟨q,rfl⟩;have E4:=HF q;clear q0 q1 q2 q3 q4 q5 q6 q7 q8 qa qb HF m4;generalize f q=y at *;go_wp2_with fail;go_meet;exact⟨T,E4⟩
  ·have d1:((m:V)==1)=false:=by simp;omega
   clear Q;go_quiet (fail);go_wp2_with fail;go_meet;exact⟨T,(ck w4).drewN nq⟩
 case rest =>
  obtain⟨rfl,e8⟩:=hcut;generalize wc=y at *;have a3:=M (h5.aj e8);have r9:=M (e8.bF r8);have v7:=M (v6.pure e8);have h6:=M (e8.bF n3);clear e8 h5 r8 v6 n3 k0 k1 k2 k3 k4 k5 k6 k7 k8 kf y0 y1;obtain⟨k0,k1,k2,k3,k4,k5,k6,k7,k8,kf⟩:=a3.cells;obtain⟨H,X⟩:∃H,xs[0]?=some H:=⟨_,cR (by omega)⟩;obtain⟨o4,x9,a4,-,-,-,G⟩:=HG y a3.2.2;rw[bQ]at G;obtain⟨g,off,hA,b4,P⟩:=G (by omega);injection a4 with e1 e2 e3;rw[<-e1]at hA;subst hA;have l7:Hid (g<w.heap.size):=M (by
   obtain⟨F6,F7,A3,-,-,-,j9⟩:=HG w (bo w);rw[bQ]at j9;obtain⟨g2,F5,h9,A1,-⟩:=j9 (by omega);injection A3 with f1 f2 f3;rw[<-f1]at h9;injection h9 with f4;injection f4 with f5 f6;rw[f5];exact A1)
  have g0:y.cell? (I g off)=some (J H):=by rw[show off=off+0 from rfl,P 0 (by omega),eg xs _ _ X]
  have g3:(H:V)<c.ag:=HA.lt H (cZ X);have n0:=M X;have i1:(0:V)<(xs.length:V):=by omega
  clear G P b4 e1 e2 e3 X;have i2:0<xs.length:=by omega
  obtain⟨z0,z1,z2,z3,z4,z5,z6,z7,hq⟩:=kK (Bp kd n m xs a);have j4:Hid (∀r,ae y r->C 266 #[J kd,J n,J m,Z (some (I g off)) xs.length cg,J a] r λe j2=>e=O (.agg (gn z0 z1 z2 z3 z4 z5 z6 z7))/\ae r j2):=M (λr hp=>by
   have:=vg kd n m _ xs a r E1 (by omega) (HG r (a3.2.2.MD hp)) (λx hx=>by have:=HA.lt x hx;have:=HH.2.2.2.2.2.2;omega) HQ.2.2.1 HQ.1 HQ.2.1;rw[hq]at this;exact this)
  have j5:Hid (∀r,ae y r->C 262 #[hI c (Z A sh.length cc),Z none 0 0,J H,.agg (gn z0 z1 z2 z3 z4 z5 z6 z7)] r λe j2=>∃v',e=O v'/\j2.ownsRow r.heap.size 249 2 v' 8 (jm (kg kd n m xs a o 0))/\ae r j2):=M (λr hp=>by
   have:=gQ c _ sh (Z none 0 0) [] r.heap.size H z0 z1 z2 z3 z4 z5 z6 z7 r (HL r (a3.2.2.MD hp)) (λk hk=>by have:=HH.2.2.2.2.2.1 k hk;have:=(a3.2.2.MD hp).size;omega) (ci _) HH.1 g3 (jD _ _ _ _) (by simp);rw[<-hq]at this;refine this.mono ?_;rintro e w8⟨v8,rfl,t,E3,-⟩;refine⟨v8,T,?_,E3.mono (λk _ hk=>by simp[Value.ownBlock]at hk)⟩;rw[kg,oV,List.range_zero,List.flatMap_nil,bJ,ko,n0.out];exact t)
  clear hq kf;go_upto_region 9 with fail;go_cut [12] (λE8 wx=>∃A9 c9,E8=Z A9 8 c9/\ae y wx/\wx.ownsRow y.heap.size 249 2 (Z A9 8 c9) 8 (jm (kg kd n m xs a o 0)))
  case first =>
   go_region_held3 (λr=>r.cell? (I w.heap.size 0)=some (J c.ag)/\r.cell? (I w.heap.size 1)=some (J c.al)/\r.cell? (I w.heap.size 2)=some (J c.ap)/\r.cell? (I w.heap.size 3)=some (J c.ao)/\r.cell? (I w.heap.size 4)=some (J c.ak)/\r.cell? (I w.heap.size 5)=some (J c.aB)/\r.cell? (I w.heap.size 6)=some (J c.be)/\r.cell? (I w.heap.size 7)=some (J c.di)/\r.cell? (I w.heap.size 8)=some (Z A sh.length cc)/\r.cell? (I g off)=some (J H)) (first|go_keep) (first|(go_at_call 266;refine(j4 _ ((ck y).drewN 1)).mono ?_;rintro e w7⟨rfl,B5⟩;have P7:ae y w7:=ae.MD (b:=y.drew) ((ck y).drewN 1) B5;have t0:=P7.aj k0;have t1:=P7.aj k1;have t2:=P7.aj k2;have t3:=P7.aj k3;have t4:=P7.aj k4;have t5:=P7.aj k5;have t6:=P7.aj k6;have t7:=P7.aj k7;have t8:=P7.aj k8;have t9:=P7.aj g0;have m5:=M P7;clear P7 B5)|(go_at_call 262;refine(j5 _ m5).mono ?_;rintro e w8⟨v8,rfl,t,W⟩;obtain⟨A9,c9,rfl⟩:=aD t;clear t0 t1 t2 t3 t4 t5 t6 t7 t8 t9;have P8:ae y w8:=m5.MD W;have t0:=P8.aj k0;have t1:=P8.aj k1;have t2:=P8.aj k2;have t3:=P8.aj k3;have t4:=P8.aj k4;have t5:=P8.aj k5;have t6:=P8.aj k6;have t7:=P8.aj k7;have t8:=P8.aj k8;have t9:=P8.aj g0;have D4:=M P8;have b8:=M (dA t m5.size);clear P8 W t))
   all_goals
    go_wp2_with fail;go_meet;exact⟨_,_,T,D4,b8⟩
  case rest =>
   obtain⟨A9,c9,rfl,W,t⟩:=hcut;have C2:=h6.out;have m8:=M (a3.aj W);have l6:=M (W.bF r9);have v9:=M (v7.pure W);have x5:=M (W.bF h6);have b8:=M t;have h7:Hid (x7<y.heap.size):=M (bR.1 h6).1;have o6:Hid (y.heap.size<=wc.heap.size):=M W.size;have a7:Hid (w.heap.size<=y.heap.size):=M a3.2.2.size;clear W t C2 a3 r9 v7 h6 k0 k1 k2 k3 k4 k5 k6 k7 k8 g0 j4 j5;go_wp2_with fail;obtain⟨rv,rc,D9,E5,E6,B6⟩:=v9.out;obtain⟨g8,g6,j6,z9,y6⟩:=B6 (by simp[da]);injection D9 with e1 e2 e3;rw[<-e1]at j6;subst j6;have A0:g8≠F:=λe=>by have:=(c3.2 g8 T).1;have:=x3.out;omega
   have s7:=M A0;have o8:Hid (wc.cell? (I g8 g6)=some (L o)):=M (by have:=y6 0 (L o) (by simp[da]);simpa using this);have s4:=M z9;clear e1 e2 e3 E5 E6 B6 y6 A0 z9 v9;have y9:(gn (0,0) (0,0) (0,0) (0,0) (0,0) (0,0) (0,0) (0,0))=(Mm.cI (jn o 0)).toArray:=rfl;rw[y9]at l6;clear y9;go_loopw [18,58] (λ_ i wr=>∃k:N,k<=8/\i=J k/\ac (λq=>q=F) wc wr/\wr.heap[F]?=some (D (Mm.cI (jn o k)).toArray 299 (0,0))) (λ_ i _=>8-(intOf i).toNat)
   case atStart=>exact⟨0,aw _,T,bo _,l6⟩
   case round =>
    obtain⟨k,hk,rfl,ho,a6⟩:=hrel;have HO:=M ho;have HR:=M a6;have g4:=ho.bF x5 (λe=>by have:=c3.1;omega);by_cases c6:k<8
    ·obtain⟨y0,y1⟩:=dG g4;have d0:wr.cell? (I g8 g6)=some (L o):=(ho.cell (p:=⟨g8,g6,none⟩) s4 s7).trans o8;have i8:(k:V)<8:=by omega
     obtain⟨zz,C7⟩:∃zz,(jn o k)[k]?=some zz:=⟨_,cR (by rw[tG o k hk];exact c6)⟩;have cp:wr.cell? (I F k)=some (U zz.1 zz.2):=by rw[bK a6];simpa using Mm.kl _ _ _ C7
     have fp:=λk=>ey k a6;clear ho a6 g4 C7;go_wp2_with fail;refine(tD o wr).mono ?_;rintro e w9⟨rfl,rfl⟩;have h2:=az (i:=k) (u:=U (fW o).1 (fW o).2) HR;have e2:(Mm.cI (jn o k)).toArray.setIfInBounds k (U (fW o).1 (fW o).2)=(Mm.cI (jn o (k+1))).toArray:=by rw[pM,<-Mm.ji,Ap o k c6]
     rw[e2]at h2;have g9:=M h2;have D3:=M (bw HO k (U (fW o).1 (fW o).2));clear h2 e2;go_wp2_with fail;exact⟨⟨k+1,by omega,by go_num,D3,g9⟩,by simp[intOf];omega⟩
    ·obtain rfl:k=8:=by omega
     clear ho a6 g4 c6;have K:Hid (wr.ownsRow y.heap.size 249 2 (Z A9 8 c9) 8 (jm (kg kd n m xs a o 0))):=M (HO.own b8 (λk hk e=>by have:=(b8.lt k hk).1;have:=h7.out;have:=c3.1;omega));have v1:Hid (ae w wr):=M (m8.2.2.trans HO (λi hi e=>by have:=b1.out;omega));have v3:Hid (Row w w.heap.size c (Z A sh.length cc) wr):=M ⟨ci _,HO.bF m8.2.1 (by have:=b1.out;omega),v1⟩;have x6:Hid (y.heap.size<=wr.heap.size):=M (by have:=o6.out;have:=HO.size;omega);go_wp2_with fail;go_step3;rename_i hK;refine hK _ _ ?_;clear hK;have e9:=HR.out;have o5:Hid (Ic w c (Z A sh.length cc) F y kd n m xs a o 1 (Z A9 (8*1) c9) wr):=M ⟨v3,K,HR,x6⟩;have m9:Hid (w.heap.size<y.heap.size):=M (by have:=h7.out;have:=c3.1;have:=b1.out;omega);have D7:Hid (F<y.heap.size):=M (by have:=h7.out;have:=c3.1;omega);clear e9 K v1 v3 x6 HO HR b8 m8 l6 x5 h7 o8 s4 s7 o6;refine ww (l:=1) ((ay (λd=>findLabel d 1) HC).trans T) (λNq a' wr=>∃(j:N) (Al:Option Addr) (cl:N) (u:N->Value),a'={tmps:=#[hI c (Z A sh.length cc),J kd,J n,Z (some (I g off)) xs.length cg,J a,I w.heap.size 0,u 6,u 7,u 8,u 9,Z none 0 0,J 0,Z Al (8*j) cl,I F 0,J m,J j,I x7 0,J 0,u 18,u 19,u 20,u 21,u 22,u 23,u 24,u 25,u 26,u 27,u 28,u 29,u 30,u 31,u 32,u 33,u 34,u 35,u 36,u 37,u 38,u 39,u 40,u 41,u 42,u 43,u 44,u 45,u 46,u 47,u 48,u 49,u 50,u 51,u 52,u 53,u 54,u 55,u 56,u 57,u 58,u 59,u 60,u 61,u 62,u 63,u 64,u 65,u 66,u 67,u 68,u 69,u 70,u 71,u 72,u 73,u 74,u 75,u 76,u 77,u 78,u 79,u 80,u 81,u 82,u 83,u 84,u 85,u 86,u 87,u 88,u 89,u 90,u 91,u 92,u 93,u 94,u 95,u 96,u 97,u 98,u 99,u 100,u 101,u 102,u 103,u 104,u 105,u 106,u 107,u 108,u 109,u 110,u 111,u 112,u 113,u 114,u 115,u 116,u 117,u 118,u 119,u 120,u 121],defers:=[]}/\1<=j/\j+Nq=xs.length/\Ic w c (Z A sh.length cc) F y kd n m xs a o j (Z Al (8*j) cl) wr) ?_ mm _ _ ⟨1,A9,c9,λi=>([undef,undef,undef,undef,undef,undef,_,_,_,_,undef,undef,undef,undef,undef,undef,undef,undef,_,_,_,_,_,_,_,_,_,_,_,_,_,_,_,_,_,_,_,_,_,_,_,_,_,_,_,_,_,_,_,_,_,_,_,_,_,_,_,_,_,_,_,_,_,_,_,_,_,_,_,_,_,_,_,_,_,_,_,_,_,_,_,_,_,_,_,_,_,_,_,_,_,_,_,_,_,_,_,_,_,_,_,_,_,_,_,_,_,_,_,_,_,_,_,_,_,_,_,_,_,_,_,_]:List Value).getD i undef,T,ci _,by have:=D2.out;omega,o5⟩;clear o5 HC;intro Nq a' wr hJ;obtain⟨j,Al,cl,u,rfl,G0,A6,c7⟩:=hJ;have z:=M c7;have l8:=M A6;have F1:j<=65:=by omega
     clear c7 A6;by_cases n9:j<xs.length
     ·obtain⟨k0,k1,k2,k3,k4,k5,k6,k7,k8,kf⟩:=z.cI.cells;obtain⟨q0,q1,q2,q3,q4,q5,q6,q7,hq⟩:=kK (tG o 8 (ci _));have e9:=z.data;rw[hq]at e9;obtain⟨r0,r1,r2,r3,r4,r5,r6,r7⟩:=eB e9;obtain⟨x1,a1⟩:∃x1,xs[j]?=some x1:=⟨_,cR n9⟩;obtain⟨o4,x9,a4,-,-,-,G⟩:=HG wr z.cI.2.2;rw[bQ]at G;obtain⟨gg,oo,hA,b4,P⟩:=G (by omega);injection a4 with e1 e2 e3;rw[<-e1]at hA;injection hA with e4;injection e4 with e5 e6;subst e5 e6;have g1:wr.cell? (I g (off+j))=some (J x1):=by rw[P j n9,eg xs _ _ a1]
      have g5:(x1:V)<c.ag:=HA.lt x1 (cZ a1);have n2:=M a1;have D5:=M hq;have E0:(j:V)<(xs.length:V):=by omega
      have d1:decide ((j:V)<(xs.length:V))=true:=fN E0;clear G P b4 e1 e2 e3 a1 e9 hq kf;go_wp2_with fail;go_still_tail 7,(by kernel_rfl);change wpList _ _ _ _ _ wr.drew;have c7:Ic w c (Z A sh.length cc) F y kd n m xs a o j (Z Al (8*j) cl) wr.drew:=z.pure ((ck wr).drewN 1);have B:=M c7;clear c7 r0 r1 r2 r3 r4 r5 r6 r7 k0 k1 k2 k3 k4 k5 k6 k7 k8 g1 z;generalize wr.drew=w9 at *;have o1:=gQ c _ sh (Z Al (8*j) cl) (kg kd n m xs a o (j-1)) y.heap.size x1 q0 q1 q2 q3 q4 q5 q6 q7 w9 (HL w9 B.cI.2.2) (λk hk=>by have:=HH.2.2.2.2.2.1 k hk;have:=a7.out;omega) B.size HH.1 g5 (by rw[mP,show 8+8*(j-1)=8*j by omega];exact B.own) (by rw[mP];omega);rw[<-D5.out]at o1;have w6:=M o1;clear o1;go_wp2_with fail;refine w6.mono ?_;rintro e a2⟨F0,rfl,R,a5,-⟩;have a9:a2.ownsRow y.heap.size 249 2 F0 (8*(j+1)) (jm (kg kd n m xs a o (j+1-1))):=by
       rw[show j+1-1=(j-1)+1 by omega,tC,show j-1+1=j by omega,ko,n2.out];rw[mP,show 8+8*(j-1)+8=8*(j+1)by omega]at R;exact R
      obtain⟨o3,x8,rfl⟩:=aD a9;have j0:=B.own.lt;have v0:Hid (Ic w c (Z A sh.length cc) F y kd n m xs a o (j+1) (Z o3 (8*(j+1)) x8) a2):=M ⟨⟨ci _,a5.bF B.cI.2.1 (λe=>by have:=(j0 _ e).1;have:=a7.out;have:=b1.out;have:=m9.out;omega),B.cI.2.2.trans a5 (λk hk e=>by have:=(j0 _ e).1;have:=a7.out;omega)⟩,a9,a5.bF B.data (λe=>by have:=(j0 _ e).1;have:=D7.out;omega),aF B.size a5.size⟩;clear R a9 a5 j0 w6 B;go_wp2_with fail;go_step3;have D8:(j:V)+1=((j+1:N):V):=by omega
      rw[D8];exact⟨T,Nq-1,by have:=l8.out;omega,j+1,o3,x8,λi=>([undef,undef,undef,undef,undef,undef,_,_,_,_,undef,undef,undef,undef,undef,undef,undef,undef,_,_,_,_,_,_,_,_,_,_,_,_,_,_,_,_,_,_,_,_,_,_,_,_,_,_,_,_,_,_,_,_,_,_,_,_,_,_,_,_,_,_,_,_,_,_,_,_,_,_,_,_,_,_,_,_,_,_,_,_,_,_,_,_,_,_,_,_,_,_,_,_,_,_,_,_,_,_,_,_,_,_,_,_,_,_,_,_,_,_,_,_,_,_,_,_,_,_,_,_,_,_,_,_]:List Value).getD i undef,T,by omega,by have:=l8.out;omega,v0⟩
     ·have A7:j=xs.length:=by have:=l8.out;omega
      have d1:decide ((j:V)<(xs.length:V))=false:=dT (by omega);have F8:decide (j<xs.length)=false:=dT (by omega);have l9:=M A7;clear A7 n9;by_cases Q:m=1
      ·have d2:((m:V)==1)=true:=by simp;omega
       have b7:=M Q;clear Q;obtain⟨i0,A5,C3,C4,C6⟩:=aR Ad;obtain⟨H,X⟩:∃H,xs[0]?=some H:=⟨_,cR (by omega)⟩;have G4:6<=xs.length:=by
        have:=HA.mode;rw[b7.out]at this;unfold jh at this;split at this
        ·omega
        ·have:=s8.out;omega
       obtain⟨o4,x9,a4,-,-,-,G⟩:=HG wr z.cI.2.2;rw[bQ]at G;obtain⟨gg,oo,hA,b4,P⟩:=G (by omega);injection a4 with e1 e2 e3;rw[<-e1]at hA;injection hA with e4;injection e4 with e5 e6;subst e5 e6;have g0:wr.cell? (I g off)=some (J H):=by rw[show off=off+0 from rfl,P 0 (by omega),eg xs _ _ X]
       have g3:H<=1000000:=by have:=HA.lt H (cZ X);have:=HH.2.2.2.2.2.2;omega
       have n0:Hid (xs.getD 0 0=H):=M (by rw[ko,X];rfl);have i3:(0:V)<(xs.length:V):=by omega
       have n8:=HQ.1 b7;have i4:0<=a:=n8.1;have i5:a<=1000000:=n8.2;have s5:Hid (∀(k x:N),xs[k]?=some x->k<xs.length->wr.cell? (I g (off+k))=some (J x)):=M (λk x h h2=>by rw[P k h2,eg xs _ _ h]);have D0:=M b4;have K:Hid (wr.ownsRow y.heap.size 249 2 (Z Al (8*j) cl) (8*j) (jm (kg kd n m xs a o (j-1)))):=M z.own;have C1:y.heap.size<=wr.heap.size:=z.size;clear G P e1 e2 e3 X n8 b4;go_wp2_with fail;refine(mC H wr g3).mono ?_;rintro e w9⟨rfl,rfl⟩;go_wp2_with fail;refine(fm ((xs.length:V)-1) wr (by omega) (by omega)).mono ?_;rintro e w9⟨rfl,rfl⟩;have h9:(if cg=1 then some (⟨g,off,none⟩:Addr)else some ⟨g,off+1,none⟩)=some ⟨g,off+1,none⟩:=aa (by omega);go_wp2_with (at_builtin;refine bT _ T (.tmp 85) (.tmp 99) _ T y.heap.size 249 i0 _ 2 24 underlying130 A5 C3 C4 C6 T (by omega) (Z Al (8*j) cl) (8*j) (jm (kg kd n m xs a o (j-1))) T (aH (w:=wr) K _) _ 2 2 [J a,U (bi H).1 (bi H).2,J (a+1),U (floatOfInt .f64 ((xs.length:V)-1)) 0] T (jd.cI wr _ #[J a,U (bi H).1 (bi H).2,J (a+1),U (floatOfInt .f64 ((xs.length:V)-1)) 0] 2 2 _ T T) (by simp[Value.oneCell']) (by simp only[maxLen];omega) (by omega) (by simp;omega) ?_;intro v2 a2 e0 z8 y2;have c5:=M e0;have G2:=M z8;clear e0 z8 y2);clear g0 h9;have b2:ac (λk=>(Z Al (8*j) cl).ownBlock=some k) wr a2:=((bo wr).alloc _).grown G2 (λk _ e=>e);obtain⟨A2,c2,rfl⟩:=aD c5;have j3:Hid (ae w a2):=M (z.cI.2.2.trans b2 (λk hk e=>by have:=(z.own.lt k e).1;have:=a7.out;omega));have s6:Hid (∀(k x:N),xs[k]?=some x->k<xs.length->a2.cell? (I g (off+k))=some (J x)):=M (λk x h h2=>(b2.cell (p:=⟨g,off+k,none⟩) D0 (λe=>by have:=(z.own.lt g e).1;have:=l7.out;have:=a7.out;omega)).trans (s5 k x h h2));have s9:Hid (a2.ownsRow y.heap.size 249 2 (Z A2 (8*j+2) c2) (8*j+2) (jm (kg kd n m xs a o (xs.length-1)++sJ xs a 0))):=M (by
        have:=c5.out;rw[<-l9.out];simp only[jm,List.flatMap_append]at this ⊢;rw[show sJ xs a 0=[(a,bi H),(a+1,bH ((xs.length:V)-1))]by rw[sJ,n0.out]];exact this)
       have E7:y.heap.size<=a2.heap.size:=by have:=b2.size;omega
       clear b2 c5 G2 s5 K z C1;go_loopw [12,104] (λv' i' wr=>∃k:N,k<=xs.length-1/\i'=J k/\ac (λq=>y.heap.size<=q) a2 wr/\wr.ownsRow y.heap.size 249 2 v' (8*j+2+k) (jm (kg kd n m xs a o (xs.length-1)++sJ xs a k))) (λ_ i' _=>xs.length-(intOf i').toNat)
       case atStart=>exact⟨0,aw _,T,bo _,s9⟩
       case round =>
        obtain⟨k,hk,rfl,ho,c8⟩:=hrel;obtain⟨A4,c4,rfl⟩:=aD c8;have HO:=M ho;have K:=M c8;have F3:y.heap.size<=wr.heap.size:=by have:=ho.size;omega
        clear ho c8;by_cases c6:k<xs.length-1
        ·obtain⟨x1,a1⟩:∃x1,xs[k+1]?=some x1:=⟨_,cR (by omega)⟩;have g1:wr.cell? (I g (off+1+k))=some (J x1):=by
          rw[show off+1+k=off+(k+1)by omega,HO.out.cell (p:=⟨g,off+(k+1),none⟩) (by have:=l7.out;have:=j3.out.size;show g<_;omega) (by have:=l7.out;have:=m9.out;show ¬_<=g;omega)];exact s6 (k+1) x1 a1 (by omega)
         have g5:x1<=1000000:=by have:=HA.lt x1 (cZ a1);have:=HH.2.2.2.2.2.2;omega
         have n2:Hid (xs.getD (k+1) 0=x1):=M (by rw[ko,a1];rfl);have i6:(k:V)<((xs.length-1:N):V):=by omega
         have i7:(k:V)<(xs.length:V)-1:=by omega
         have i8:k<=65:=by omega
         clear a1;go_wp2_with fail;refine(mC x1 wr g5).mono ?_;rintro e G6⟨rfl,rfl⟩;go_wp2_with (at_builtin;refine bT _ T (.tmp 109) (.tmp 117) _ T y.heap.size 249 i0 _ 2 24 underlying130 A5 C3 C4 C6 T (by omega) (Z A4 (8*j+2+k) c4) (8*j+2+k) (jm (kg kd n m xs a o (xs.length-1)++sJ xs a k)) T (aH (w:=wr) K _) _ 1 1 [J (a+2+(k:V)),U (bi x1).1 (bi x1).2] T (jd.cI wr _ #[J (a+2+(k:V)),U (bi x1).1 (bi x1).2] 2 1 _ T T) (by simp[Value.oneCell']) (by simp only[maxLen];omega) (by omega) (by simp;omega) ?_;intro G5 G7 b3 j7 n5;have n4:=M b3;have C9:=M j7;clear b3 j7 n5);go_roundw
         case rel =>
          refine⟨k+1,by omega,by go_num,HO.trans (((ac.refl (λq=>(Z A4 (8*j+2+k) c4).ownBlock=some q) wr).alloc _).grown C9 (λq _ e=>e)) (λq _ e=>(K.lt q e).1),?_⟩;have:=n4.out;rw[sJ,<-cS,xG,n2.out];exact this
         case measure=>simp[intOf];omega
        ·have B0:k=xs.length-1:=by omega
         have i6:decide ((k:V)<(xs.length:V)-1)=false:=dT (by omega);have i7:decide (k<xs.length-1)=false:=dT (by omega);have D1:=M B0;clear B0 c6;go_wp2_with fail
         try go_step3
         try go_wp2_with fail
         try simp only[Exit.jump]
         go_ret2;refine⟨_,T,j3.trans HO (λq hq e=>by have:=m9.out;omega),?_⟩;have hF:qG kd n m xs a o=kg kd n m xs a o (xs.length-1)++sJ xs a k:=by rw[qG,af b7.out,D1.out]
         rw[hF,iB,mP,nK,show 8+8*(xs.length-1)+(k+2)=8*j+2+k by have:=l9.out;omega];exact dA K a7
      ·have d2:((m:V)==1)=false:=by simp;omega
       have b7:=M Q;clear Q;go_wp2_with fail
       try go_step3
       try go_wp2_with fail
       try simp only[Exit.jump]
       go_ret2;refine⟨_,T,z.cI.2.2,?_⟩;have hF:qG kd n m xs a o=kg kd n m xs a o (xs.length-1):=by rw[qG,aa b7.out,bJ]
       rw[hF,mP,show 8+8*(xs.length-1)=8*xs.length by omega,<-l9.out];exact dA z.own a7
end Pl
section
open Ac (dx)
open Pl (BN qG vM aI)
theorem jt.KZ{c:Cn}{K:aW.Q}(o:dx)(kd n m:N)(b:Bool)(xs:List Nat)(a:V)(k:o.aE=2)(j:o.b=(kd:V))(l:o.n=(n:V))(p:BN c K.ba kd n m b xs a):jt c K o xs a (qG kd n m xs a b) :=
 ⟨.inr k,λh=>by omega,λ_ w d e f g i=>by
  rw[j,l];exact vM c K.cv K.ba kd n m b d xs a w e f g i p⟩
end
section
open Ac (jm dx jb gC av Vl Wr iJ gm aA bc aJ nT aO cC ed dZ dY CT)
section
variable{w f:Y}{c:Cn}{K:aW.Q}{κ:N->N}{m:aW.St}{b:Ac.B}{s:Ac.St}
open Ac (fY GW vu av)
theorem vt{w:Y}{X:N}{a:Bool}{p q:N}(h:w.heap[X]?=some (D #[L a,U p q] 44 (0,0))):w.cell? (I X 0)=some (L a)/\w.cell? (I X 1)=some (U p q):=by
 refine⟨?_,?_⟩<;>(rw[bK h];rfl)
theorem Bi(o:dx)(w:Y)(h:Ac.At w κ b s)(j:o.aE=1):C 179 #[I b.ab 0,jb o] w λe f=>e=O (.tuple #[.agg #[L false,U 0 0],L false])/\ae w f:=by
 obtain⟨g,-,n,l⟩:=cC w #[J o.aE,J o.a,J o.b,J o.c,J o.n,U o.x o.y] #[L false,U 0 0] 32 44;have p:=M (h.pure g);have HP:=M g;have HV:=M n;have d:=M l;have q:=M j;clear g n l h j;go_enter func179,ntmps179;go_upto_region 1 with fail;generalize(w.alloc _).alloc _=W at *;have a:Hid (w.heap.size<=w.heap.size+1):=M (by omega);obtain⟨X,i⟩:∃X,w.heap.size+1=X:=⟨_,T⟩;rw[i]at d a ⊢;clear i;have t:=p.p2;obtain⟨r,x,y,z,A,B⟩:=av HV;rw[q.out]at r;obtain⟨z0,z1⟩:=vt d;have u:=λk=>ey k d;go_wp2_with fail;refine au (v:=.tuple #[.agg #[L false,U 0 0],L false]) (by simp[results,results179,go_sem,z0,z1]) T ⟨T,?_⟩;exact Ac.ac.new (Ac.ac.new HP X 0 _ a) X 1 _ a
theorem wS(o:dx)(w:Y)(h:Ac.At w κ b s)(j:o.aE=2):C 179 #[I b.ab 0,jb o] w λe f=>e=O (.tuple #[.agg #[L false,U 0 0],L false])/\ae w f:=by
 obtain⟨g,-,n,l⟩:=cC w #[J o.aE,J o.a,J o.b,J o.c,J o.n,U o.x o.y] #[L false,U 0 0] 32 44;have p:=M (h.pure g);have HP:=M g;have HV:=M n;have d:=M l;have q:=M j;clear g n l h j;go_enter func179,ntmps179;go_upto_region 1 with fail;generalize(w.alloc _).alloc _=W at *;have a:Hid (w.heap.size<=w.heap.size+1):=M (by omega);obtain⟨X,i⟩:∃X,w.heap.size+1=X:=⟨_,T⟩;rw[i]at d a ⊢;clear i;have t:=p.p2;obtain⟨r,x,y,z,A,B⟩:=av HV;rw[q.out]at r;obtain⟨z0,z1⟩:=vt d;have u:=λk=>ey k d;go_wp2_with fail;refine au (v:=.tuple #[.agg #[L false,U 0 0],L false]) (by simp[results,results179,go_sem,z0,z1]) T ⟨T,?_⟩;exact Ac.ac.new (Ac.ac.new HP X 0 _ a) X 1 _ a
theorem yG(o:dx)(w:Y)(h:Ac.At w κ b s)(j:o.aE=11):C 179 #[I b.ab 0,jb o] w λe f=>e=O (.tuple #[.agg #[L false,U 0 0],L false])/\ae w f:=by
 obtain⟨g,-,n,l⟩:=cC w #[J o.aE,J o.a,J o.b,J o.c,J o.n,U o.x o.y] #[L false,U 0 0] 32 44;have p:=M (h.pure g);have HP:=M g;have HV:=M n;have d:=M l;have q:=M j;clear g n l h j;go_enter func179,ntmps179;go_upto_region 1 with fail;generalize(w.alloc _).alloc _=W at *;have a:Hid (w.heap.size<=w.heap.size+1):=M (by omega);obtain⟨X,i⟩:∃X,w.heap.size+1=X:=⟨_,T⟩;rw[i]at d a ⊢;clear i;have t:=p.p2;obtain⟨r,x,y,z,A,B⟩:=av HV;rw[q.out]at r;obtain⟨z0,z1⟩:=vt d;have u:=λk=>ey k d;go_wp2_with fail;refine au (v:=.tuple #[.agg #[L false,U 0 0],L false]) (by simp[results,results179,go_sem,z0,z1]) T ⟨T,?_⟩;exact Ac.ac.new (Ac.ac.new HP X 0 _ a) X 1 _ a
theorem wT(o:dx)(w:Y)(h:Ac.At w κ b s)(a:o.aE=1\/o.aE=2):C 179 #[I b.ab 0,jb o] w λe f=>e=O (.tuple #[.agg #[L false,U 0 0],L false])/\ae w f:=by
 rcases a with a|a
 ·exact Bi o w h a
 ·exact wS o w h a
theorem Kk(i j:N)(z:Nat × Nat)(w:Y)(h:dt w c K κ m b s)(Q:(i:V)<c.ag)(hj:j<8)(hz:m.am[8*i+j]?=some z):C 194 #[I K.kb 0,J i,J j] w λr f =>
  r=O (.tuple #[U z.1 z.2,L true])/\∃κ',aG CT w κ f κ'/\dt f c K κ' m b s:=by
 obtain⟨Av,cv,d⟩:∃A y,K.cv=Z A K.ba.length y:=by
  obtain⟨⟨A,y,h,_⟩,_⟩:=h.bm.cH;exact⟨A,y,h⟩
 have a:=M h;have B:=M hz;have p:=M d;obtain⟨R,S,W,X,k4,k5,k6,k7,P⟩:=h.bm.qc;rw[d]at P;clear h hz d;go_enter func194,ntmps194;go_wp2_with fail;refine(p▸lZ c _ K.ba i j w a.bm.cH a.bm.ok (by omega) Q (by omega) (by omega)).mono ?_;rintro e w2⟨rfl,o⟩;obtain⟨F,v⟩:=a.bS o;have g:=M v;have q:=M F;have q9:=v.bm.q9;have H:(8*(i:V)+(j:V))=((8*i+j:N):V):=by omega
 rw[H];obtain⟨x,k⟩:∃x:N,8*i+j=x:=⟨_,T⟩;rw[k]at B ⊢;clear R S W X k4 k5 k6 k7 P H o k F v;go_wp2_with fail;refine(aW.read x z w2 g.bm B).mono ?_;rintro e w3⟨rfl,n,l⟩;obtain⟨G,E⟩:=g.cJ n l;have u:=M E;have t:=M (q.trans G);clear n l G E q9;go_wp2_with fail;go_ret2;exact⟨T,_,t,u⟩
theorem zm{w:Y}{X:N}{a b:Value}(h:w.heap[X]?=some (D #[a,b] 35 (0,0))):w.cell? (I X 0)=some a/\w.cell? (I X 1)=some b:=by
 refine⟨?_,?_⟩<;>(rw[bK h];rfl)
theorem Im(kd l:N)(s0:Sh)(v:Value)(sh:List Sh)(w:Y)(G:dm w w.heap.size v sh)(q:sh[kd]?=some s0)(ha:s0.a=false)(a2:l<=1)(a1:kd<=1000)(hx:s0.bs.length<=1000000):C 253 #[hI c v,U (cQ kd l).1 (cQ kd l).2] w λe f =>
  ∃A d,e=O (.tuple #[J kd,.agg #[L false,Z A s0.bs.length d],L true])/\ae w f:=by
 obtain⟨A,a,rfl⟩:∃A a,v=Z A sh.length a:=by
  obtain⟨⟨A,a,e,_⟩,_⟩:=G;exact⟨A,a,e⟩
 have H:=Row.new w c (Z A sh.length a);have HL:=M (λ(f:Y) (hp:ae w f)=>G.pure hp);have R:=M (aq q ha);have P:=H;have r:=(ck (w.alloc (D #[J c.ag,J c.al,J c.ap,J c.ao,J c.ak,J c.aB,J c.be,J c.di,Z A sh.length a] 24))).alloc (D #[L false,Z none 0 0] 35);have h:=ai (w.alloc (D #[J c.ag,J c.al,J c.ap,J c.ao,J c.ak,J c.aB,J c.be,J c.di,Z A sh.length a] 24)) (D #[L false,Z none 0 0] 35);have t:(w.alloc (D #[J c.ag,J c.al,J c.ap,J c.ao,J c.ak,J c.aB,J c.be,J c.di,Z A sh.length a] 24)).heap.size=w.heap.size+1:=by simp
 rw[t]at h;have y:=M (H.aj r);have B:=M h;clear H P G r h t q ha;go_enter func253,ntmps253;go_upto_region 1 with fail;generalize(w.alloc _).alloc _=W at *;have g:Hid (w.heap.size<=w.heap.size+1):=M (by omega);obtain⟨X,S⟩:∃X,w.heap.size+1=X:=⟨_,T⟩;rw[S]at B g ⊢;clear S;obtain⟨k0,k1,k2,k3,k4,k5,k6,k7,k8,kf⟩:=y.cells;go_wp2_with fail;refine(sQ kd l W (by omega) (by omega)).mono ?_;rintro e w1⟨rfl,rfl⟩;go_wp2_with fail;refine(iy c _ sh kd s0 W (HL W y.2.2) R.1 hx).mono ?_;rw[R.out.2];rintro e Q⟨x,z,rfl,i,-,-⟩;have p:=M (y.2.2.MD i);have n:=M (i.bF B);clear i k0 k1 k2 k3 k4 k5 k6 k7 k8 kf y B;go_upto_region 3 with fail;obtain⟨j,-,u⟩:=Ac.aO Q #[L false,Z x s0.bs.length z] 35;have E:=M (p.MD j);have o:=M (j.bF n);have F:=M u;clear j u p n;generalize Q.alloc _=w3 at *;generalize Q.heap.size=X3 at *;obtain⟨y0,y1⟩:=zm F;obtain⟨z0,z1⟩:=zm o;have f1:=λk=>ey k o;rcases(by omega:l=0\/l=1)with rfl|rfl
 all_goals
  go_region;go_wp2_with fail;refine au (v:=.tuple #[J kd,.agg #[L false,Z x s0.bs.length z],L true]) (by simp[results,results253,go_sem,z0,z1]) T ⟨x,z,T,?_⟩;exact(Ac.ac.new (Ac.ac.new E X 0 _ g) X 1 _ g).drewN 1
end
end
section
open Ac (jm dx jb gC av Vl Wr iJ gm aA bc aJ nT aO cC ed dZ dY CT)
section
variable{w w':Y}{c:Cn}{K:aW.Q}{κ:N->N}{m:aW.St}{b:Ac.B}{s:Ac.St}
open Ac (av)
theorem yW(o:dx)(i j jo kd md:N)(s0:Sh)(w:Y)(h:dt w c K κ m b s)(hk:o.aE=11)(ho:o.a=(jo:V))(a1:o.b=(j:V))(hj:s.ak[j]?=some (true,bi i))(c8:jo<s.ak.length)(hi:i<=1000000)(a4:s.bn≠4)(e1:s.next<=100000)(hz:m.am[8*i+1]?=some (cQ kd md))(R:K.ba[kd]?=some s0)(a7:s0.a=false)(e0:md<=1)(hb:s0.bs.length<=1000000)(hh:(i:V)<c.ag)(c9:kd<=1000):C 185 #[I b.ab 0,I K.kb 0,jb o] w λr w'=>r=O (.tuple #[iJ s.next s.own 0 (false,bH kd),L true])/\∃κ',aG CT w κ w' κ'/\dt w' c K κ' m b {s with next:=s.next+1,bn:=1,pc:=0,ak:=s.ak.set jo (false,bH kd)}:=by
 obtain⟨hp,-,hv,a6⟩:=cC w #[J o.aE,J o.a,J o.b,J o.c,J o.n,U o.x o.y] #[J 0,J 0,J 0,L false,U 0 0] 32 46;have H1:=M (h.bS hp);have HR:=M a6;have HV:=M hv;have z:Hid (aL w.heap.size κ 9 w.heap.size=9):=M (aU (by omega));have c3:Hid (aL w.heap.size κ 9 (w.heap.size+1)=9):=M (aU (by omega));have g:Hid (w.heap.size<=w.heap.size+1):=M (by omega);have HK:=M hk;have HO:=M (aq a1 ho);have HJ:=M hj;have HZ:=M (aq hz (aq R (aq a7 a4)));clear hp a6 h hv hk ho a1 hj hz R a7 a4;go_enter func185,ntmps185;go_upto_region 1 with fail;generalize(w.alloc _).alloc _=W at *;generalize aL w.heap.size κ 9=e9 at *;generalize w.heap.size+1=X at *;obtain⟨E1,S1⟩:=H1.out;have b0:=M E1;have t:=M S1;clear E1 S1 H1;have o2:=(av HV).2.2.1;rw[HO.out.1]at o2;go_wp2_with fail;refine(Ac.CS j i W t.bj HJ hi).mono ?_;rintro r w2⟨rfl,rfl⟩;go_wp2_with fail;refine(Kk i 1 (cQ kd md) W t hh (by omega) HZ.1).mono ?_;rintro r w2⟨rfl,e6,F,S2⟩;have n:=M S2;have b1:=M (b0.trans F);obtain⟨a,e⟩:=aJ F c3 nT HR;have b5:=M a;have c4:=M e;have d:=(F).bF HV (by rw[z.out];exact nT);have f:=((F).ft (bR.1 HV).1).trans z;have x:=M d;have B:=M f;clear F S2 a e d f o2;obtain⟨Av,cv,p⟩:∃A cc,K.cv=Z A K.ba.length cc:=by
  obtain⟨⟨A,cc,h,_⟩,_⟩:=n.bm.cH;exact⟨A,cc,h⟩
 have a9:=M p;obtain⟨k0,k1,k2,k3,k4,k5,k6,k7,k8⟩:=n.bm.qc;rw[p]at k8;clear p;go_wp2_with fail;refine(a9▸Im (c:=c) kd md s0 _ K.ba w2 n.bm.cH HZ.2.1 HZ.2.2.1 e0 c9 hb).mono ?_;rintro r w3⟨A3,d3,rfl,a2⟩;obtain⟨G,S3⟩:=n.bS a2;have b8:=M S3;have b2:=M (b1.trans G);obtain⟨a,e⟩:=aJ G c4 nT b5;have b6:=M a;have c5:=M e;have d:=(G).bF x (by rw[B.out];exact nT);have f:=((G).ft (bR.1 x).1).trans B;have y:=M d;have E:=M f;clear G S3 a e d f a2 k0 k1 k2 k3 k4 k5 k6 k7 k8;go_upto_region 3 with fail;obtain⟨a3,-,c7⟩:=aO w3 #[L false,Z A3 s0.bs.length d3] 35;obtain⟨H,S4⟩:=b8.bS a3;have u:=M S4;have b3:=M (b2.trans H);obtain⟨a,e⟩:=aJ H c5 nT b6;have b7:=M a;have c6:=M e;have d:=(H).bF y (by rw[E.out];exact nT);have f:=((H).ft (bR.1 y).1).trans E;have c2:=M d;have e8:=M f;clear H S4 a e d f a3 c7;generalize w3.alloc _=w4 at *;generalize aL w3.heap.size (aL w2.heap.size e6 9) 9=g0 at *;generalize w3.heap.size=X4 at *;obtain⟨o0,o1,-⟩:=av c2;rw[HK.out]at o0;rw[HO.out.2]at o1;have e7:(kd:V)<=1000:=by omega
 go_wp2_with fail;have S:s.next<=100000:=e1;go_region_with (first|(go_at_call 195;refine(fm (kd:V) _ (by omega) (by omega)).mono ?_;rintro r w5⟨rfl,rfl⟩)|(go_at_call 180;refine(Ac.ed jo (false,bH kd) _ u.drew.bj HZ.2.2.2 c8 S).mono ?_;rintro r w5⟨rfl,g1,Q,P⟩;obtain⟨e5,S5⟩:=u.drew.fk Q P;have b4:=M (b3.trans e5.qr);obtain⟨a5,a8⟩:=aJ e5.qr c6 nT b7;have b9:=M S5;have l:=M a8;have q:=M a5;obtain⟨z0,z1,z2,z3,z4⟩:=bc q;have f1:=λk=>ey k q;clear Q P e5 S5 a5 a8))
 all_goals
  go_wp2_with fail;refine au (v:=.tuple #[.agg #[J s.next,J s.own,J 0,L false,U (bH kd).1 (bH kd).2],L true]) (by simp[results,results185,go_sem,z0,z1,z2,z3,z4]) T ⟨T,_,(((((b4.new g _ _).new g _ _).new g _ _).new g _ _).new g _ _),(((((b9.aZ l _ _).aZ l _ _).aZ l _ _).aZ l _ _).aZ l _ _)⟩
