/- Part 13 of the proof of spotop.TopChurn. -/
import Derived.Test.YtpgdiceeimehiaaGreatR12
set_option maxRecDepth 100000
set_option maxHeartbeats 16000000
set_option linter.all false
open Go.Proofs.Tryz
namespace Go.Proofs.YtpgdiceeimehiaaGreat
open RowKit
section
namespace Sp
section
variable(c:Cn)(sh:List Sh)(q:Q)(s:St)
theorem uh(k sp:N)(se:Bool)(w:Y)(h:At w c sh q s)(hn:0<q.ns)(m:1<=k)(m6:sp=0->s.sx.length<k)(k9:s.en=[])(t:gY s k sp=true)(m7:s.size=c.al)(l4:s.fr.length=s.l.length):C 248 #[I q.sp 0,J 0,J k,J sp,L se] w λe w'=>∃v sv',e=O (.agg #[J 1,v,J (vF c s k sp)])/\ac (F q s) w w' /\
   At w' c sh q {s with l:=de (de s.l (Po.take s.fr k) 2 se) (Po.di (Po.off s.fr (Po.take s.fr k)) (c.aB.toNat-s.sx.length)) 1 se,fr:=Po.off (Po.off s.fr (Po.take s.fr k)) (Po.di (Po.off s.fr (Po.take s.fr k)) (c.aB.toNat-s.sx.length)),u:=uX s k sp,sv:=sv',sx:=s.sx++Po.aI (Po.di (Po.off s.fr (Po.take s.fr k)) (c.aB.toNat-s.sx.length))} /\
   (sv'.ownBlock=s.sv.ownBlock\/∃k,sv'.ownBlock=some k/\w.heap.size<=k)/\w'.ownsRow w.heap.size 3 1 v (Po.take s.fr k).length (bI (Po.aI (Po.take s.fr k)))/\sv'.ownBlock≠v.ownBlock:=by
 have l3:k<=Po.cY s.fr:=by simp only[gY,bt,aQ]at t;exact t.1
 have e8:=M (aq t m7);obtain⟨f,b7⟩:∃x,Po.take s.fr k=x:=⟨_,T⟩;have b3:=kA (c:=c) (sh:=sh) (q:=q) (s:=s) k sp;rw[b7]at b3;obtain⟨ax,j9⟩:∃x,vF c s k sp=x:=⟨_,T⟩;obtain⟨ux,n2⟩:∃x,uX s k sp=x:=⟨_,T⟩;rw[j9,n2]at b3 ⊢;have K:=mV (c:=c) (sh:=sh) (q:=q) (s:=s) k sp;rw[t]at K;obtain⟨z,hz⟩:∃z:V,(sp:V)=z:=⟨_,T⟩;rw[hz]at b3 K ⊢;have r2:decide (z<0)=false:=by simp;omega
 have o1:Hid (sp=0/\z=0\/(z==0)=false):=M (by rcases kc sp with h|h;exact .inl ⟨h,by omega⟩;exact .inr (by simp;omega));have o3:=M b3;have g3:=M K;clear b3 K j9 n2 t m7 hz;obtain⟨r,hr⟩:∃r,c.aB.toNat-s.sx.length=r:=⟨_,T⟩;have l9:c.aB-(s.sx.length:V)=(r:V):=by have:=h.kz.le;have:=h.kz.h0;omega
 have r7:r<=8:=by have:=h.kz.h8;omega
 rw[hr,b7];have HR:=M hr;have j1:=M l9;clear hr l9;have r5:=Po.mS s.fr;have r1:=h.fL.eA.eT;have H0:=M h;have c8:=M k9;have hG:=ai w (D #[J 0,Z none 0 0,J 0] 191);have b8:=(ck w).alloc (D #[J 0,Z none 0 0,J 0] 191);have hW:=h.pure b8;have o0:=M b8;have h4:=M hG;obtain⟨-,-,-,⟨n,c3⟩,-⟩:=hW.cs;have fb:=hW.fb;have m8:(w.alloc (D #[J 0,Z none 0 0,J 0] 191)).heap.size=w.heap.size+1:=by simp
 have H1:=M (hW.count (wrap64 (n+1)));have O1:Hid (ac (F q s) w ((w.alloc (D #[J 0,Z none 0 0,J 0] 191)).setCell (I q.sp 3) (J (wrap64 (n+1))))):=M (eX (dD b8) 3 _);clear h hW b8 hG k9;have o2:=M m6;clear m6;go_enter func248,ntmps248;go_upto_region 2 with fail;have m4:w.heap.size≠q.sp:=λe=>by have:=H0.lt q.sp (.inl T);omega
 have n7:Hid (((w.alloc (D #[J 0,Z none 0 0,J 0] 191)).setCell (I q.sp 3) (J (wrap64 (n+1)))).heap[w.heap.size]?=some (D #[J 0,Z none 0 0,J 0] 191 (0,0))):=M (aK h4 m4);have q0:Hid (((w.alloc (D #[J 0,Z none 0 0,J 0] 191)).setCell (I q.sp 3) (J (wrap64 (n+1)))).heap.size=w.heap.size+1):=M (by simp[World.setCell]);generalize(w.alloc _).setCell _ _=w1 at *;clear c3 fb h4 o0 m8;have j:Hid (∀k,F q s k->k<w.heap.size):=M (λk m=>H0.lt k m);obtain⟨-,-,-,-,-,-,-,H⟩:=H1.cs;go_wp2_with fail;refine(rk c sh q s w1 H1 hn).mono ?_;rintro e w2⟨rfl,rfl⟩;have l7:C 197 #[I q.li 0,J 0] w1 λe' w'=>e'=O (.tuple #[.agg #[J 0,J 0,J 0,J 0,J 0,J 0,Z none 0 0],L false])/\ae w1 w':=Ln.pX q.li s.lv s.en 0 w1 H1.eM (by rw[c8.out];rfl);have j0:=M l7;clear l7;go_wp2_with fail;refine j0.mono ?_;rintro e w2⟨rfl,l8⟩;have a7:=ae.MD l8 ((ck _).alloc (D #[J 0,J 0,J 0,J 0,J 0,J 0,Z none 0 0] 229));have H3:=M (H1.pure a7);have g4:=M (ae.bF a7 n7);have O3:Hid (ac (F q s) w (w2.alloc (D #[J 0,J 0,J 0,J 0,J 0,J 0,Z none 0 0] 229))):=M (O1.trans (dD a7) (λ_ _ h=>h));have n5:w.heap.size+1<=(w2.alloc (D #[J 0,J 0,J 0,J 0,J 0,J 0,Z none 0 0] 229)).heap.size:=by have:=a7.size;have:=q0.out;omega
 have j4:=M n5;clear l8 a7 j0 H n5;have d1:decide ((k:V)<1)=false:=by simp;omega
 go_upto_region 6 with fail;generalize w2.alloc _=w3 at *;have n0:=Sk.zV q.s0 c.aB (k:V) s.sv s.sx w3 H3.kz;have o4:=M n0;clear n0;rcases o1.out with⟨r0,rfl⟩|r8
 case' inl =>
  go_wp2_with fail;refine(o4 (.inr (by have:=o2 r0;omega))).mono ?_;rintro e w4⟨rfl,rfl⟩
 all_goals
  obtain⟨-,-,-,-,-,G,a2,H⟩:=H3.cs;obtain⟨d4,d5,d6,d7,d8,d9,a3,a4,a5⟩:=H3.cc;have e6:=lN c sh q s w3 H3;rw[c8.out]at e6;have j2:=M e6;clear e6;go_wp2_with fail;refine j2.mono ?_;rintro e w4⟨rfl,a8⟩;have H4:=M (H3.pure a8);have g5:=M (ae.bF a8 g4);have O4:Hid (ac (F q s) w w4):=M (O3.trans (dD a8) (λ_ _ h=>h));have j5:Hid (w.heap.size+1<=w4.heap.size):=M (aF j4 a8.size);clear a8 j2 G a2 H d4 d5 d6 d7 d8 d9 a3 a4 a5 H3 g4 O3 j4;simp only[List.countP_nil];obtain⟨-,-,-,-,-,G,a2,H⟩:=H4.cs;obtain⟨d4,d5,d6,d7,d8,d9,a3,a4,a5⟩:=H4.cc;have e9:=M (g3 w4 H4 m (by omega));go_wp2_with fail;refine e9.mono ?_;rintro e w5⟨rfl,a9⟩;have H5:=M (H4.pure a9);have g6:=M (ae.bF a9 g5);have O5:Hid (ac (F q s) w w5):=M (O4.trans (dD a9) (λ_ _ h=>h));have e3:Hid (w.heap.size+1<=w5.heap.size):=M (aF j5 a9.size);clear a9 e9 G a2 H d4 d5 d6 d7 d8 d9 a3 a4 a5 H4 g5 O4 j5;obtain⟨-,-,-,-,-,G,a2,H⟩:=H5.cs;obtain⟨d4,d5,d6,d7,d8,d9,a3,a4,a5⟩:=H5.cc;go_wp2_with fail;refine(o3 w5 H5 m (by omega) e8.2 e8.1).mono ?_;rintro e w6⟨v,rfl,o6,b5,h6⟩;have n4:∀x∈f,x<s.l.length:=λx hx=>by rw[<-l4];rw[<-b7]at hx;exact Po.rr _ _ m x hx
  have n3:∀k,v.ownBlock=some k->w.heap.size+1<=k:=λk m=>aF e3 (b5.lt k m).1;have B:=M n3;have j3:=M n4;have H6:=M h6;have X:=M b5;have g7:=M (o6.bF g6 (λm=>by have:=j _ m;omega));have O6:Hid (ac (F q s) w w6):=M (O5.trans o6 (λ_ _ h=>h));have q1:Hid (w.heap.size+1<=w6.heap.size):=M (aF e3 o6.size);clear o6 b5 h6 n3 n4 G a2 H d4 d5 d6 d7 d8 d9 a3 a4 a5 H5 g6 O5;go_wp2_with fail;have b1:eO w6 w6.heap.size v (Po.aI f):=eO.fQ (by have:=X.out;simpa[Po.aI]using this) (Po.jA _ (λx hx=>by have:=j3 x hx;omega));refine(oA c sh q {s with fr:=Po.off s.fr f,u:=ux} v f 2 (by omega) se w6 H6 b1 (λk m S=>by have:=j k S;have:=B k m;omega) j3).mono ?_;rintro e w7⟨rfl,o7,h7⟩;have b4:ac (F q s) w6 w7:=o7;have H7:=M h7;have j6:=M (b4.own X (λk m S=>by have:=j k S;have:=B k m;omega));have n8:=M (b4.bF g7 (λm=>by have:=j _ m;omega));have O7:Hid (ac (F q s) w w7):=M (O6.trans b4 (λ_ _ h=>h));have e4:Hid (w.heap.size+1<=w7.heap.size):=M (aF q1 b4.size);clear o7 b4 h7 b1 H6 X g7 O6;obtain⟨As,j7,b2,b1⟩:=H7.kz.form;have b0:C 295 #[I q.s0 0] w7.drew λe w'=>e=O (J r)/\∃d,w'=w7.drew.drewN d:=by
   have q8:Sk.qp w7.drew q.s0 (Z As s.sx.length j7) c.aB:=by rw[<-b2];exact H7.kz.aM
   have:=Sk.nf q.s0 As s.sx.length j7 c.aB w7.drew q8 b1 H7.kz.h0 H7.kz.h8
   rwa [j1.out]at this
  have e1:=M b0;obtain⟨-,-,-,-,-,G,-⟩:=H7.cs;clear b0 b2 b1;go_wp2_with fail;have e0:=M (λd=>H7.pure ((ck w7).drewN d));go_region_with (first|(go_at_call 295;refine e1.mono ?_;rintro e w8⟨rfl,d,rfl⟩)|(go_at_call 288;refine(Po.Ds q.po q.pg (Po.off s.fr f) r _ (e0 (1+d)).fL (by omega)).mono ?_;rintro e w8⟨v2,rfl,m9⟩;have R:=M m9;clear m9))
  all_goals
   obtain⟨eG,A⟩:∃x,Po.di (Po.off s.fr f) r=x:=⟨_,T⟩;rw[A]at R;have r6:eG.length<=r:=by rw[<-A];exact Po.Gi _ _
   have e5:∀x∈eG,x<(de s.l f 2 se).length:=λx hx=>by rw[oz,<-l4,<-Po.zG s.fr f];rw[<-A]at hx;exact Po.Dt _ _ x hx
   have q7:s.l.length<=1024:=by omega
   have l6:∀x∈eG,x<1000000:=λx hx=>by have:=e5 x hx;rw[oz]at this;omega
   have n9:=M e5;have h5:=M l6;have c9:=M A;have o8:ac (F q s) w7 w8:=((ac.refl (F q s) w7).drewN (1+d)).trans (uY R.MC) (λ_ _ h=>h);have H8:=M ((e0 (1+d)).uZ R.MC R.aM);have c5:=M (o8.own j6 (λk m S=>by have:=j k S;have:=B k m;omega));have g9:=M (o8.bF n8 (λm=>by have:=j _ m;omega));have O8:Hid (ac (F q s) w w8):=M (O7.trans o8 (λ_ _ h=>h));have q2:Hid (w.heap.size+1<=w8.heap.size):=M (aF e4 o8.size);have V2:Hid (w8.ownsRow w7.heap.size 3 1 v2 eG.length (bI (Po.aI eG))):=M R.own;clear o8 A e5 l6 R e0 H7 G;go_wp2_with fail;have c6:eO w8 w8.heap.size v2 (Po.aI eG):=eO.fQ (by have:=V2.out;simpa[Po.aI]using this) (Po.jA _ h5);refine(oA c sh q _ v2 eG 1 (by omega) se w8 H8 c6 (λk m S=>by have:=j k S;have:=(V2.lt k m).1;have:=e4.out;omega) n9).mono ?_;rintro e w9⟨rfl,o9,h9⟩;have W:ac (F q s) w8 w9:=o9;have H9:=M h9;have a1:=M (W.own c5 (λk m S=>by have:=j k S;have:=B k m;omega));have q5:=M (W.own V2 (λk m S=>by have:=j k S;have:=(V2.lt k m).1;have:=e4.out;omega));have h3:=M (W.bF g9 (λm=>by have:=j _ m;omega));have O9:Hid (ac (F q s) w w9):=M (O8.trans W (λ_ _ h=>h));have q3:Hid (w.heap.size+1<=w9.heap.size):=M (aF q2 W.size);clear o9 W h9 c6 H8 c5 g9 O8 V2;go_wp2_with fail;have c7:eO w9 w9.heap.size v2 (Po.aI eG):=eO.fQ (by have:=q5.out;simpa[Po.aI]using this) (Po.jA _ h5);refine(Sk.JD q.s0 c.aB s.sv v2 s.sx (Po.aI eG) w9 H9.kz c7 (by have:=j1.out;simp[Po.aI];omega)).mono ?_;rintro e b6⟨sv',rfl,j8,e7,a6⟩;have P:ac (F q s) w9 b6:=e7.mono λk _ m=>xH m;have n6:=M (H9.GP e7 j8 a6);have E:=M (P.own a1 (λk m S=>by have:=j k S;have:=B k m;omega));have c4:=M (P.bF h3 (λm=>by have:=j _ m;omega));have q4:Hid (ac (F q s) w b6):=M (O9.trans P (λ_ _ h=>h));have c2:=M a6;have o5:Hid (∀k,v.ownBlock=some k->k<w9.heap.size):=M (λk m=>(a1.lt k m).2);clear e7 P j8 a6 c7 H9 h3 a1;obtain⟨g0,g1,g2⟩:=gw c4;have gf:=λi=>ey i c4;obtain⟨Av,cv,rfl⟩:=aD E;go_wp2_with fail;have hX:∀x y z:Value,ac (λk=>k=w.heap.size) b6 (((b6.setCell (I w.heap.size 0) x).setCell (I w.heap.size 1) y).setCell (I w.heap.size 2) z):=λx y z=>(((ac.refl (λk=>k=w.heap.size) b6).setCell (p:=⟨w.heap.size,0,none⟩) (λ_=>T) x).setCell (p:=⟨w.heap.size,1,none⟩) (λ_=>T) y).setCell (p:=⟨w.heap.size,2,none⟩) (λ_=>T) z;have m5:∀b,s.sv.ownBlock=some b->b<w.heap.size:=λb o=>j b (LN o);have b2:∀b,sv'.ownBlock=some b->b<w.heap.size\/w9.heap.size<=b:=λb o=>by
    rcases c2.out with h|⟨b',h,l5⟩
    ·exact .inl (m5 b (h▸o))
    ·rw[h]at o;injection o with o;exact .inr (o▸l5)
   have q6:∀b,F q {s with l:=de (de s.l f 2 se) eG 1 se,fr:=Po.off (Po.off s.fr f) eG,u:=ux,sv:=sv',sx:=s.sx++Po.aI eG} b->b<w.heap.size\/w9.heap.size<=b:=λb o=>by
    rcases o with o|o|o|o|o|o|o|o|o
    ·exact .inl (j b (.inl o))
    ·exact .inl (j b (.inr (.inl o)))
    ·exact .inl (j b (js (.inl o)))
    ·exact .inl (j b (pN (.inl o)))
    ·exact .inl (j b (tw (.inl o)))
    ·exact .inl (j b (xL (.inl o)))
    ·exact .inl (j b (vC (.inl o)))
    ·exact .inl (j b (xH (.inl o)))
    ·exact b2 b o
   have r9:=q3.out;refine au (v:=.agg #[J 1,Z Av f.length cv,J ax]) (by simp[results,results248,go_sem,g0,g1,g2]) T ⟨Z Av f.length cv,sv',T,?_,?_,?_,?_,?_⟩
   ·exact q4.trans (hX _ _ _) (λb o e=>absurd o (by omega))
   ·rw[c9.out];refine n6.MC (hX _ _ _) (λb o e=>?_) (λb o e=>?_) (λe he=>?_)
    ·have:=q6 b o;omega
    ·have:=(H0.ro b o).2;omega
    ·rw[show({s with l:=de (de s.l f 2 se) eG 1 se,fr:=Po.off (Po.off s.fr f) eG,u:=ux,sv:=sv',sx:=s.sx++Po.aI eG}:St).en=[]from c8.out]at he;cases he
   ·rcases c2.out with h|⟨b',h,l5⟩
    ·exact .inl h
    ·exact .inr ⟨b',h,by omega⟩
   ·exact dA ((hX _ _ _).own E (λb o e=>by have:=B b o;omega)) (by have:=e3.out;omega)
   ·intro e;rcases b9:(Z Av f.length cv).ownBlock with _|b
    ·rcases Av with _|a
     ·have:=E.2;rcases this with⟨h1,h2⟩|⟨g,r3,r4,h1,-⟩
      ·have:=b7▸Po.EI s.fr k m l3;omega
      ·cases h1
     ·cases b9
    ·have h1:=B b b9;have h2:=o5 b b9;have:=b2 b (e▸b9);omega
