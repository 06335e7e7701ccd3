/- Part 16 of the proof of spotop.TopChurn. -/
import Derived.Test.YtpgdiceeimehiaaGreatR09
import Derived.Test.YtpgdiceeimehiaaGreatR15
set_option maxRecDepth 100000
set_option maxHeartbeats 16000000
set_option linter.all false
open Go.Proofs.Tryz
namespace Go.Proofs.YtpgdiceeimehiaaGreat
open RowKit
section
namespace Sp
section
variable(c:Cn)(sh:List Sh)(q:Q)(s:St)
theorem FE(w:Y)(h:At w c sh q s)(H:0<q.ns)(l:s.sx=[]):C 119 #[I q.sp 0,J 0] w λG y=>G=O (J 0)/\ac (F q s) w y/\At y c sh q {s with sv:=Z none 0 0,sx:=[]}:=by
 obtain⟨-,-,-,⟨n,R⟩,-⟩:=h.cs;have S:=h.fb;have P:=M h;have a:=M (h.count (wrap64 (n+1)));have B:=M (eX (ac.refl (F q s) w) 3 (J (wrap64 (n+1))));have o:=M l;clear h l;go_enter func119,ntmps119;go_upto_region 2 with fail;generalize w.setCell _ _=f at *;go_wp2_with fail;refine(rk c sh q s f a H).mono ?_;rintro e W⟨rfl,rfl⟩;have d:s.sv=Z (match s.sv with|.slice A _ _=>A|_=>none) 0 (match s.sv with|.slice _ _ k=>k|_=>0):=by
  have x:=a.kz.own;rw[o.out]at x;obtain⟨A,k,h⟩:=aD x;rw[h];rfl
 obtain⟨A,v⟩:∃A,(match s.sv with|.slice A _ _=>A|_=>none)=A:=⟨_,rfl⟩;obtain⟨k,g⟩:∃k,(match s.sv with|.slice _ _ k=>k|_=>0)=k:=⟨_,rfl⟩;rw[v,g]at d;have m:=M d;clear v g d;have b:=Sk.AA q.s0 s.sv c.aB f a.kz.aM;rw[m.out]at b;have j:=M b;clear b;go_wp2_with fail;refine j.mono ?_;rintro e X⟨rfl,rfl⟩;have r:ac (Sk.og q.s0 s.sv) f (f.setCell (I q.s0 0) (Z none 0 0)):=(bo f).setCell (p:=⟨q.s0,0,none⟩) (λ_=>.inl T) _;have t:=a.sM r (sv':=Z none 0 0) (sx':=[]) ⟨az (i:=0) (u:=Z none 0 0) a.kz.aM,jD _ _ _ _,a.kz.h0,a.kz.h8,by have:=a.kz.h0;simpa using this,by simp⟩ (λk g=>by cases g);have z:=M t;have E:Hid (ac (F q s) w (f.setCell (I q.s0 0) (Z none 0 0))):=M (B.trans (r.mono λk _ g=>xH g) (λ_ _ h=>h));clear r t j;generalize f.setCell _ _=K at *;go_wp2_with fail;go_loopw [25] (λi wr=>i=J 0/\wr=K) (λ_ _=>0)
 case atStart=>exact⟨T,T⟩
 case round =>
  obtain⟨rfl,rfl⟩:=hrel;go_wp2_with fail;go_ret;exact⟨T,E,z⟩
end
end Sp
end
section
theorem xV{c:Cn}{l:List Sh}(h:bk c l=0):1<=l.length/\l.length<=8:=by
 obtain⟨-,-,h⟩:=kE h;simp only[bl,bt,aQ]at h;omega
theorem kD{c:Cn}{l:List Sh}(h:bk c l=0):1<=c.ao/\c.ao<=16/\1<=c.ak/\c.ak<=8/\0<=c.aB/\c.aB<=8/\1<=c.be/\c.be<=256/\0<=c.di/\c.di<=c.ag:=by
 obtain⟨a,_,_⟩:=kE h;simp only[gq,bl,List.all_cons,List.all_nil,id,bt,aQ,Bool.and_true,and_assoc]at a;omega
theorem lV(c:Cn)(v:Value)(l:List Sh)(w:Y)(n:dm w w.heap.size v l)(g:bk c l=0)(q:∀s∈l,s.bs.length<=1000000):C 53 #[hI c v] w λe f=>∃(A:Option Addr) (d:N) (m:List Sh),e=O (hI c (Z A l.length d))/\ae w f/\dm f f.heap.size (Z A l.length d) m /\
   (∀k,mK (Z A l.length d) m k->w.heap.size<=k/\k<f.heap.size)/\alike l m:=by
 refine(Cz c v l w n (by have:=xV g;omega) q).mono ?_;rintro e f⟨A,d,m,rfl,o,h,p,i,j⟩;refine⟨A,d,m,T,o,dm.fQ h p,λk a=>?_,j⟩;rcases a with a|⟨s,b,a⟩
 ·exact h.lt k a
 ·exact⟨(i s b k a).2.1,(i s b k a).2.2⟩
theorem alike.max{l m:List Sh}{n:N}(h:alike l m)(e:∀s∈l,s.bs.length<=n):∀s∈m,s.bs.length<=n:=by
 intro s c;have b:(s.a,s.bs)∈m.map (λs=>(s.a,s.bs)):=aX.2 ⟨s,c,T⟩;rw[<-show l.map (λs=>(s.a,s.bs))=m.map (λs=>(s.a,s.bs))from h]at b;obtain⟨t,d,a⟩:=aX.1 b;have:=e t d;injection a with _ a;rw[<-a];exact this
namespace Sp
theorem EC:(prog.info? 169).map (λi=>(i.zero,i.size,i.bytes))=some (some (.pointer none),1,8):=by kernel_rfl
theorem pn(c:Cn)(v:Value)(sh:List Sh)(tb tg:N)(l:List dq.dy)(w:Y)(hc:dm w w.heap.size v sh)(a9:bk c sh=0)(hx:∀s∈sh,s.bs.length<=1000000)(c5:dq.At w tb tg l)(hl:(l.length:V)=c.ag):C 47 #[hI c v,.pointer (some (I tb 0))] w λe w'=>∃q g1,e=O (.tuple #[.pointer (some (I q.sp 0)),J 0])/\ae w w' /\
   At w' c g1 q ⟨l,List.replicate l.length true,c.al,0,λ_=>0,0,Z none 0 0,[],Z none 0 0,[],false⟩/\q.tb=tb/\q.tg=tg/\(q.ns:V)=c.ao/\alike sh g1 /\
   (∀k,F q ⟨l,List.replicate l.length true,c.al,0,λ_=>0,0,Z none 0 0,[],Z none 0 0,[],false⟩ k->k=tb\/k=tg\/w.heap.size<=k)/\(∀k,R q g1 k->w.heap.size<=k):=by
 obtain⟨i0,o8,q5,q6,q7⟩:=aR EC;obtain⟨A,cc,rfl⟩:∃A cc,v=Z A sh.length cc:=by
  obtain⟨⟨A,cc,rfl,_⟩,_⟩:=hc;exact⟨A,cc,T⟩
 have hb:=db a9;have hm:=kD a9;have hr:=Row.new w c (Z A sh.length cc);have HL:=M (λ(w':Y) (hp:ae w w')=>hc.pure hp);have HX:=M hx;have c6:=M a9;have E:=M c5;have a2:=M hl;have HR:=M hr;clear hc hx c5 hr a9 hl;have q1:l.length<=1024:=by have:=a2.out;omega
 go_enter func47,ntmps47;go_upto_region 1 with fail;have o3:Hid ((w.alloc (D #[J c.ag,J c.al,J c.ap,J c.ao,J c.ak,J c.aB,J c.be,J c.di,Z A sh.length cc] 24)).heap.size=w.heap.size+1):=M (by simp);generalize w.alloc _=W at *;obtain⟨S,k1,k2,K,k4,X,k6,k7,k8,kf⟩:=HR.cells;go_wp2_with fail;refine(gK c _ sh W (HL W HR.2.2)).mono ?_;rw[c6.out];rintro e w1⟨rfl,e5⟩;have j7:=HR.aj e5;have R1:=M j7;have j2:Hid (w.heap.size+1<=w1.heap.size):=M (by have:=e5.size;have:=o3.out;omega);clear S k1 k2 K k4 X k6 k7 k8 kf e5 j7;obtain⟨S,k1,k2,K,k4,X,k6,k7,k8,kf⟩:=R1.cells;have n5:=E.MC R1.2.2 (λf=>f) (λf=>f);have e0:=M n5;have q2:((l.length:V) !=c.ag)=false:=by have:=a2.out;simpa using this
 clear n5;go_wp2_with fail;go_quiet ((go_at_call 83;exact Calls.quiet_of_same ((dq.Gb tb tg l _ (e0.MC ((ck _).drewN _) (λf=>f) (λf=>f))).mono λ_ _ h=>⟨h.1,h.2.symm⟩)));have e6:ae w1 (w1.drewN nq):=(bo _).drewN nq;have j8:=R1.aj e6;have R2:=M j8;have j3:Hid (w.heap.size+1<=(w1.drewN nq).heap.size):=M j2;have h6:=M (e0.MC e6 (λf=>f) (λf=>f));clear S k1 k2 K k4 X k6 k7 k8 kf e6 j8 q2 R1 j2 e0;generalize w1.drewN nq=w2 at *;obtain⟨S,k1,k2,K,k4,X,k6,k7,k8,kf⟩:=R2.cells;rw[<-a2.out]at S;go_wp2_with fail;refine(Po.gS l.length w2 q1).mono ?_;obtain⟨o,m8⟩:∃x,w2.heap.size=x:=⟨_,T⟩;rw[m8];rintro e w3⟨rfl,e7,q8,h3⟩;have j9:=R2.aj e7;have R3:=M j9;have h7:=M (h6.MC e7 (λf=>f) (λf=>f));have b6:=M h3;have B:Hid (w.heap.size+1<=o):=M (by have:=j3.out;omega);have o4:Hid (w3.heap.size=o+2):=M (by omega);clear S k1 k2 K k4 X k6 k7 k8 kf e7 j9 h3 q8 m8 R2 h6 j3;obtain⟨S,k1,k2,K,k4,X,k6,k7,k8,kf⟩:=R3.cells;go_wp2_with fail;refine(Co.gS c.al w3 (by omega) (by omega)).mono ?_;rw[o4.out];rintro e w4⟨rfl,b0,r0,h4⟩;have k9:=R3.aj b0;have R4:=M k9;have j0:=M (h7.MC b0 (λf=>f) (λf=>f));have b7:=M (b6.MC b0 (λf=>f) (λf=>f));have b4:=M h4;have e1:Hid (w4.heap.size=o+3):=M (by omega);clear S k1 k2 K k4 X k6 k7 k8 kf b0 k9 h4 r0 R3 h7 b6;obtain⟨S,k1,k2,K,k4,X,k6,k7,k8,kf⟩:=R4.cells;go_wp2_with fail;refine(lV c _ sh w4 (HL w4 R4.2.2) c6 HX).mono ?_;rintro e w5⟨A2,d2,m,rfl,Q,n0,l8,l5⟩;have l3:=R4.aj Q;have R5:=M l3;have j1:=M (j0.MC Q (λf=>f) (λf=>f));have b8:=M (b7.MC Q (λf=>f) (λf=>f));have b5:=M (b4.MC Q (λf=>f));have g9:=M n0;have g6:Hid (∀k,mK (Z A2 sh.length d2) m k->o+3<=k/\k<w5.heap.size):=M (λk d=>by have:=l8 k d;have:=e1.out;omega);have g2:=M l5;have j4:Hid (o+3<=w5.heap.size):=M (by have:=Q.size;have:=e1.out;omega);clear S k1 k2 K k4 X k6 k7 k8 kf Q l3 n0 l8 l5 R4 j0 b7 b4 e1;obtain⟨S,k1,k2,K,k4,X,k6,k7,k8,kf⟩:=R5.cells;go_wp2_with fail;refine(Ln.pn w5).mono ?_;rintro e w6⟨rfl,b1⟩;obtain⟨a,a8⟩:∃x,w5.heap.size=x:=⟨_,T⟩;have m6:ae w5 w6:=by rw[b1];exact(bo _).alloc _
 have b3:w6.heap.size=a+1:=by rw[b1,<-a8];simp
 have m4:Ln.bO w6 a (Z none 0 0) []:=by rw[b1,<-a8];exact Ln.Dn w5
 clear b1;rw[a8];have e3:=ai w6 (D #[.pointer (some (I tb 0)),Z none 0 0,L false,J 0,J c.ag,J c.al,J c.ap,J c.ao,J c.ak,J c.aB,J c.be,J c.di,Z A2 sh.length d2,.pointer (some (I (o+1) 0)),.pointer (some (I (o+2) 0)),.pointer (some (I a 0))] 168);rw[b3]at e3;have e8:=(ck w6).alloc (D #[.pointer (some (I tb 0)),Z none 0 0,L false,J 0,J c.ag,J c.al,J c.ap,J c.ao,J c.ak,J c.aB,J c.be,J c.di,Z A2 sh.length d2,.pointer (some (I (o+1) 0)),.pointer (some (I (o+2) 0)),.pointer (some (I a 0))] 168);have t:=ae.MD m6 e8;have l4:=R5.aj t;have R7:=M l4;have o2:=M (j1.MC t (λf=>f) (λf=>f));have g7:=M (b8.MC t (λf=>f) (λf=>f));have g5:=M (b5.MC t (λf=>f));have o0:=M (g9.pure t);have n9:=M (m4.pure e8);have n7:=M e3;have a5:Hid (∀k,mK (Z A2 sh.length d2) m k->o+3<=k/\k<a):=M (λk d=>by have:=g6 k d;omega);have j5:Hid ((w6.alloc (D #[.pointer (some (I tb 0)),Z none 0 0,L false,J 0,J c.ag,J c.al,J c.ap,J c.ao,J c.ak,J c.aB,J c.be,J c.di,Z A2 sh.length d2,.pointer (some (I (o+1) 0)),.pointer (some (I (o+2) 0)),.pointer (some (I a 0))] 168)).heap.size=a+2):=M (by simp[b3]);have r:Hid (o+3<=a):=M (by have:=j4.out;omega);have o5:=M b3;clear S k1 k2 K k4 X k6 k7 k8 kf m6 e8 t b3 m4 e3 l4 R5 j1 b8 b5 g9 g6 j4 a8;go_upto_region 13 with fail;rw[o5.out];generalize w6.alloc _=w7 at *;obtain⟨S,k1,k2,K,k4,X,k6,k7,k8,kf⟩:=R7.cells;obtain⟨n,hn⟩:=dg (show 0<=c.ao by omega);have s4:1<=n/\n<=16:=by omega
 have HN:=M hn;rw[hn]at K;clear hn;go_wp2_with fail;go_loopw [52] (λi wr=>∃j:N,i=J j/\j<=n/\∃A8 d8 Lq,Lq.length=j/\ac (λk=>k=a+1) w7 wr/\wr.heap[a+1]?=some (D #[.pointer (some (I tb 0)),Z A8 j d8,L false,J 0,J c.ag,J c.al,J c.ap,J c.ao,J c.ak,J c.aB,J c.be,J c.di,Z A2 sh.length d2,.pointer (some (I (o+1) 0)),.pointer (some (I (o+2) 0)),.pointer (some (I a 0))] 168 (0,0))/\wr.ownsRow (a+2) 169 1 (Z A8 j d8) j Lq/\∀v0,Lq[0]?=some v0->∃s0,v0=.pointer (some (I s0 0))/\a+2<=s0/\Sk.iO wr s0 c.aB (Z none 0 0) []) (λi _=>n-(intOf i).toNat)
 case atStart=>exact⟨0,T,by omega,none,0,[],T,bo _,n7,jD _ _ _ _,λv0 h=>by cases h⟩
 case round =>
  obtain⟨j,rfl,hj,A8,d8,Lq,hL,ho,hb,c3,c4⟩:=hrel;have c9:=M hb;have HO:=M ho;have g:=M c3;have b9:=M c4;have a1:=M hL;have o6:Hid (a+2<=wr.heap.size):=M (by have:=ho.size;have:=j5.out;omega);clear hb ho c3 c4 hL;rcases Nat.lt_or_ge j n with s3|r8
  ·have hd:decide ((j:V)<(n:V))=true:=by simp;omega
   have n3:=Sk.Jj c.aB wr hm.2.2.2.2.1 hm.2.2.2.2.2.1;have r2:=HO.cell (p:=⟨w.heap.size,5,none⟩) (by have:=R7.2.1;exact(bR.1 this).1) (λe=>by have e:w.heap.size=a+1:=e;have:=r.out;have:=B.out;omega);rw[X]at r2;have o1:=M n3;have HM:=M hm;clear n3 hm;go_wp2_with fail;refine o1.mono ?_;rintro e w8⟨rfl,b2⟩;obtain⟨z,hz⟩:∃z,wr.heap.size=z:=⟨_,T⟩;rw[hz];have e9:ae wr w8:=by rw[b2];exact(bo _).alloc _
   have n6:w8.heap.size=z+1:=by rw[b2];simp[hz]
   have l7:w8.heap[z]?=some (D #[Z none 0 0,J c.aB] 219 (0,0)):=by rw[b2,<-hz];exact ai wr _
   clear b2;have H:=ae.bF e9 c9;have c1:w8.cell? (I (a+1) 1)=some (Z A8 j d8):=by rw[bK H];rfl
   have fb:=λi=>ey i H;have P:=M e9;have g3:=M l7;have g4:=M H;have j6:=M n6;have a6:Hid (a+2<=z):=M (by have:=o6.out;omega);clear e9 l7 H n6 hz;have m7:=(ck w8).alloc (D #[.pointer (some (I z 0))] 169);have a4:(w8.alloc (D #[.pointer (some (I z 0))] 169)).ownsRow (a+2) 169 1 (Z A8 j d8) j Lq:=(ae.MD P m7).own g (λ_ _ f=>f);have c7:=M a4;have r3:Hid (a+1<w8.heap.size):=M (by have:=j6.out;have:=a6.out;omega);have r7:(w8.alloc (D #[.pointer (some (I z 0))] 169)).cell? (I (a+1) 1)=some (Z A8 j d8):=ae.aj ((ck w8).alloc _) c1;have h5:Hid (a+2<=(w8.alloc (D #[.pointer (some (I z 0))] 169)).heap.size):=M (by have:=j6.out;have:=a6.out;simp;omega);clear a4 m7;go_wp2_with (at_builtin;refine bT _ T (.tmp 67) (.tmp 69) _ T (a+2) 169 i0 _ 1 8 underlying166 o8 q5 q6 q7 T (by omega) (Z A8 j d8) j Lq T c7 _ 1 1 [.pointer (some (I z 0))] T (jd.cI w8 _ #[.pointer (some (I z 0))] 1 1 _ T T) (by simp[Value.oneCell']) (by unfold maxLen;omega) (by omega) h5 ?_;intro v2 w9 G l9 l6;obtain⟨A9,d9,rfl⟩:=aD G;have e4:ac (λk=>(Z A8 j d8).ownBlock=some k) w8 w9:=(((bo w8).alloc (D #[.pointer (some (I z 0))] 169)).grown l9 (λ_ _ e=>e));have a7:=e4.bF g4 (λe=>by have:=(g.lt _ e).1;omega);have r6:=λi=>ey i a7;have r5:w9.cell? (I (a+1) 1)=some (Z A8 j d8):=(by rw[bK a7]<;>rfl);have n8:=M a7;have c8:=M e4;have c2:=M G;clear G l9 l6 e4 a7);have q3:∀k,(Z A8 j d8).ownBlock=some k->a+2<=k:=λk e=>(g.lt k e).1;have o9:ac (λk=>k=a+1\/(Z A8 j d8).ownBlock=some k) wr w9:=(P.mono (λ_ _ h=>h.elim)).trans c8 (λk _ h=>.inr h);have g0:ac (λk=>k=a+1) w9 (w9.setCell (I (a+1) 1) (Z A9 (j+1) d9)):=(ac.refl (λk=>k=a+1) w9).setCell (p:=⟨a+1,1,none⟩) (λ_=>T) _;have n4:∀v0,(Lq++[.pointer (some (I z 0))])[0]?=some v0->∃s0,v0=.pointer (some (I s0 0))/\a+2<=s0/\Sk.iO (w9.setCell (I (a+1) 1) (Z A9 (j+1) d9)) s0 c.aB (Z none 0 0) []:=by
    intro v0 y;rcases kc j with h0|h0
    ·have o7:Lq=[]:=eE.1 (by have:=a1.out;omega);rw[o7]at y;simp at y;exact⟨z,y.symm,a6,g0.bF (c8.bF g3 (λe=>ca (P.own g (λ_ _ f=>f)) g3 (by decide) e)) (λe=>by have:=a6.out;omega),jD _ _ _ _,HM.2.2.2.2.1,HM.2.2.2.2.2.1,by simpa using HM.out.2.2.2.2.1,by simp⟩
    ·rw[pL (by have:=a1.out;omega)]at y;obtain⟨s0,h1,h2,h3⟩:=b9 v0 y;refine⟨s0,h1,h2,((h3.MC P (λ_ _ f=>f)).MC c8 (λk d e=>?_)).MC g0 (λk d e=>?_)⟩
     ·rcases d with rfl|d
      ·exact ca (P.own g (λ_ _ f=>f)) (ae.bF P h3.aM) (by decide) e
      ·exact nomatch d
     ·rcases d with rfl|d
      ·have e:k=a+1:=e;omega
      ·exact nomatch d
   go_roundw
   case rel =>
    refine⟨j+1,by go_num,by omega,A9,d9,Lq++[.pointer (some (I z 0))],by simp[a1.out],?_,?_,?_,n4⟩
    ·exact(HO.trans o9 (λk d h=>by rcases h with h|h;exact h;exact absurd (q3 k h) (by have:=j5.out;omega))).setCell (p:=⟨a+1,1,none⟩) (λ_=>T) _
    ·simpa using az (i:=1) (u:=Z A9 (j+1) d9) n8
    ·exact g0.own c2 (λk d e=>by have:=(c2.lt k d).1;omega)
   case measure=>simp[intOf];omega
  ·have q0:j=n:=by omega
   subst q0;have hd:decide ((j:V)<(j:V))=false:=by simp
   have r1:=HO.cell (p:=⟨w.heap.size,3,none⟩) (by have:=R7.2.1;exact(bR.1 this).1) (λe=>by have e:w.heap.size=a+1:=e;have:=r.out;have:=B.out;omega);rw[K]at r1;obtain⟨v0,y⟩:∃v0,Lq[0]?=some v0:=⟨_,cR (by have:=a1.out;omega)⟩;obtain⟨s0,rfl,m9,n2⟩:=b9 v0 y;have a3:=M (aq m9 (aq n2 y));clear m9 n2 y;go_wp2_with fail;go_ret2;have m5:∀k,mK (Z A2 sh.length d2) m k->k≠a+1:=λk d e=>by have:=a5 k d;omega
   have q4:=o2.MC HO (λe=>by have:=E.eA.lb;have:=r.out;have:=B.out;omega) (λe=>by have:=E.eA.lg;have:=r.out;have:=B.out;omega);refine⟨⟨a+1,tb,tg,o+1,o,o+2,a,s0,Z A8 j d8,j,Z A2 sh.length d2⟩,m,T,?_,⟨⟨0,c9⟩,q4,g7.MC HO (λe=>by have:=r.out;omega) (λe=>by have:=r.out;omega),g5.MC HO (λe=>by have:=r.out;omega),n9.MC HO (λk d e=>?_) (λe he=>by cases he),a3.2.1,⟨Lq.tail,by obtain⟨x,r4,rfl⟩:=List.exists_cons_of_length_pos (show 0<Lq.length by have:=a1.out;omega);have h9:=a3.2.2;simp at h9;subst h9;exact dA g (aw _)⟩,o0.MC HO m5,by rw[<-g2.out.check];exact c6,HN.symm,λk d=>?_,λe he=>by cases he⟩,rfl,rfl,HN.symm,g2,λk d=>?_,λk d=>?_⟩
   ·exact R7.2.2.trans HO (λi hi e=>by have e:i=a+1:=e;have:=r.out;have:=B.out;omega)
   ·rcases d with rfl|d
    ·have e:k=k+1:=e;omega
    ·exact nomatch d
   ·have hT:tb<w.heap.size/\tg<w.heap.size:=⟨E.eA.lb,E.eA.lg⟩;have h1:=r.out;have h2:=B.out;have h0:=a3.1;have r9:(o+3<=k/\k<a)\/(a+2<=k/\k≠s0):=by
     rcases d with d|d
     ·exact .inl (a5 k d)
     ·have h3:=(g.lt k d).1;exact .inr ⟨h3,λe=>ca g a3.2.1.aM (by decide) (e▸d)⟩
    refine⟨λb=>?_,?_⟩
    ·rcases b with b|b|b|b|b|b|(b|b)|(b|b)
     ·have e:k=a+1:=b;omega
     ·have e:k=tb:=b;omega
     ·have e:k=tg:=b;omega
     ·have e:k=o+1:=b;omega
     ·have e:k=o:=b;omega
     ·have e:k=o+2:=b;omega
     ·have e:k=a:=b;omega
     ·exact nomatch b
     ·have e:k=s0:=b;omega
     ·exact nomatch b
    ·rcases d with d|d
     ·have:=(a5 k d).2;have:=(bR.1 c9).1;omega
     ·exact(g.lt k d).2
   ·have h1:=r.out;have h2:=B.out;rcases d with b|b|b|b|b|b|(b|b)|(b|b)
    ·have e:k=a+1:=b;exact js (by omega)
    ·exact .inl b
    ·exact .inr (.inl b)
    ·have e:k=o+1:=b;exact js (by omega)
    ·have e:k=o:=b;exact js (by omega)
    ·have e:k=o+2:=b;exact js (by omega)
    ·have e:k=a:=b;exact js (by omega)
    ·exact nomatch b
    ·have h0:=a3.1;have e:k=s0:=b;exact js (by omega)
    ·exact nomatch b
   ·have h1:=r.out;have h2:=B.out;rcases d with d|d
    ·have:=(a5 k d).1;omega
    ·have:=(g.lt k d).1;omega
end Sp
end
section
structure aG(Cq:N->Prop)(w:Y)(κ:N->N)(w':Y)(κ':N->N):Prop where
 MC:ac (λk=>Cq (κ k)) w w'
 same:∀k,k<w.heap.size->κ' k=κ k
section
variable{Cq Dq:N->Prop}{w w1 w2:Y}{κ a b:N->N}
theorem aG.refl(Cq:N->Prop)(w:Y)(κ:N->N):aG Cq w κ w κ:=⟨bo _,λ_ _=>T⟩
theorem aG.trans(h:aG Cq w κ w1 a)(d:aG Cq w1 a w2 b):aG Cq w κ w2 b:=⟨h.MC.trans d.MC (λi g f=>by have c:Cq (a i):=f;rw[h.same i g]at c;exact c),λk e=>(d.same k (eR e h.MC.size)).trans (h.same k e)⟩
theorem aG.mono(h:aG Cq w κ w1 a)(c:∀x,Cq x->Dq x):aG Dq w κ w1 a:=⟨h.MC.mono (λ_ _ d=>c _ d),h.same⟩
theorem aG.pure(c:ae w w1):aG Cq w κ w1 κ:=⟨c.mono (λ_ _ f=>f.elim),λ_ _=>T⟩
theorem aG.of(c:ac (λk=>Cq (κ k)) w w1):aG Cq w κ w1 κ:=⟨c,λ_ _=>T⟩
theorem aG.size(h:aG Cq w κ w1 a):w.heap.size<=w1.heap.size:=h.MC.size
end
def aL(n:N)(κ:N->N)(c:N)(k:N):N:=if k<n then κ k else c
theorem dE{n c k:N}{κ:N->N}(h:k<n):aL n κ c k=κ k:=af h
theorem aU{n c k:N}{κ:N->N}(h:n<=k):aL n κ c k=c:=aa (by omega)
theorem aG.aL{Cq:N->Prop}{w w1:Y}{κ:N->N}(c:N)(b:ac (λk=>Cq (κ k)) w w1):aG Cq w κ w1 (aL w.heap.size κ c):=⟨b,λ_ a=>dE a⟩
namespace Sp
theorem At.K4{Tq:N->Prop}{w m:Y}{c:Cn}{sh:List Sh}{q:Q}{s:St}{p:List dq.dy}(h:At w c sh q s)(b:ac Tq w m)(g:∀k,F q s k->k≠q.tb->k≠q.tg->¬Tq k)(o:∀k,R q sh k->¬Tq k)(r:∀e∈s.en,∀k,e.gv.ownBlock=some k->¬Tq k)(u:dq.At m q.tb q.tg p):At m c sh q {s with l:=p}:=by
 obtain⟨n,t⟩:=h.me;obtain⟨i,j⟩:=h.vk;obtain⟨v,x,-⟩:=h.sf;have d:=h.im.eA.me;have f:=h.im.eA.cI;refine⟨⟨n,b.bF t (g _ (.inl T) v x)⟩,u,
  h.fL.MC b (g _ (pN (.inl T)) (aV h.fL.eA.me d (by decide)) (aV h.fL.eA.me f (by decide))) (g _ (tw (.inl T)) (aV h.fL.eA.cI d (by decide)) (aV h.fL.eA.cI f (by decide))),
  h.gA.MC b (g _ (xL (.inl T)) (aV h.gA.me d (by decide)) (aV h.gA.me f (by decide))),
  h.eM.MC b (λk a=>g k (vC (.inl a)) (λe=>?_) (λe=>?_)) r,h.kz.MC b (λk a=>g k (xH a) (λe=>?_) (λe=>?_)),⟨i,b.own j (λk a=>o k (.inr a))⟩,h.cH.MC b (λk a=>o k (.inl a)),h.ok,h.ns,λk a=>⟨(h.ro k a).1,eR (h.ro k a).2 b.size⟩,h.gv⟩
 ·rcases a with rfl|a
  ·exact aV h.eM.aM d (by decide) e
  ·exact ca h.eM.own d (by decide) (e▸a)
 ·rcases a with rfl|a
  ·exact aV h.eM.aM f (by decide) e
  ·exact ca h.eM.own f (by decide) (e▸a)
 ·rcases a with rfl|a
  ·exact aV h.kz.aM d (by decide) e
  ·exact ca h.kz.own d (by decide) (e▸a)
 ·rcases a with rfl|a
  ·exact aV h.kz.aM f (by decide) e
  ·exact ca h.kz.own f (by decide) (e▸a)
end Sp
namespace aW
structure Q where
 kb:N
 mb:N
 mg:N
 sb:N
 pb:N
 hb:N
 hg:N
 bp:N
 cv:Value
 ba:List Sh
 xi:List Sh
 q:Sp.Q
structure St where
 am:List (Nat × Nat)
 pv:Value
 cb:Bool
 xs:List Int
 s:Sp.St
 st:V
 se:Bool
 bA:List Int
structure At(w:Y)(c:Cn)(K:Q)(κ:N->N)(m:St):Prop where
 me:w.heap[K.kb]?=some (D #[J c.ag,J c.al,J c.ap,J c.ao,J c.ak,J c.aB,J c.be,J c.di,K.cv,I K.mb 0,I K.sb 0,I K.q.sp 0,I K.hb 0] 123 (0,0))
 mem:Mm.At w K.mb K.mg m.am
 fB:Sd.At w K.sb K.q.tb K.q.tg K.pb m.pv m.s.l K.bp m.cb m.xs
 dB:Sp.At w c K.xi K.q m.s
 hand:Ha.At w K.hb K.hg m.st m.se m.bA
 cH:dm w w.heap.size K.cv K.ba
 ok:bk c K.ba=0
 mf:alike K.ba K.xi
 k0:∀k,k=K.kb\/mK K.cv K.ba k\/Sp.R K.q K.xi k->κ k=0/\k<w.heap.size
 k1:κ K.mb=1/\κ K.mg=1
 k2:κ K.q.tb=2/\κ K.q.tg=2
 k3:∀k,k=K.sb\/k=K.pb\/m.pv.ownBlock=some k->κ k=3
 k4:∀k,(Sp.F K.q m.s k/\k≠K.q.tb/\k≠K.q.tg)\/(∃e∈m.s.en,e.gv.ownBlock=some k)->κ k=4
 k5:κ K.hb=5/\κ K.hg=5
section
variable{w a:Y}{c:Cn}{K:Q}{κ κ':N->N}{m:St}
theorem At.qj(h:At w c K κ m)(k:N)(e:Sp.F K.q m.s k):κ k=2\/κ k=4:=by
 by_cases b:k=K.q.tb
 ·exact .inl (b▸h.k2.1)
 ·by_cases d:k=K.q.tg
  ·exact .inl (d▸h.k2.2)
  ·exact .inr (h.k4 k (.inl ⟨e,b,d⟩))
theorem At.vf(h:At w c K κ m)(k:N)(b:Sd.S K.sb K.q.tb K.q.tg K.pb m.pv k):κ k=2\/κ k=3:=by
 rcases b with b|b|b|b|b
 ·exact .inr (h.k3 k (.inl b))
 ·exact .inl (b▸h.k2.1)
 ·exact .inl (b▸h.k2.2)
 ·exact .inr (h.k3 k (.inr (.inl b)))
 ·exact .inr (h.k3 k (js b))
theorem At.Hi(h:At w c K κ m)(k:N)(b:∃e∈m.s.en,e.gv.ownBlock=some k):k<w.heap.size:=by
 obtain⟨e,d,b⟩:=b;exact((h.dB.eM.cG e d).2 k b).2
theorem At.nc(h:At w c K κ m)(d:∀k,k<w.heap.size->κ' k=κ k):At w c K κ' m:=by
 refine⟨h.me,h.mem,h.fB,h.dB,h.hand,h.cH,h.ok,h.mf,λk b=>⟨(d k (h.k0 k b).2).trans (h.k0 k b).1,(h.k0 k b).2⟩,⟨(d _ h.mem.lb).trans h.k1.1,(d _ h.mem.lg).trans h.k1.2⟩,⟨(d _ h.fB.im.eA.lb).trans h.k2.1,(d _ h.fB.im.eA.lg).trans h.k2.2⟩,λk b=>(d k ?_).trans (h.k3 k b),λk b=>(d k ?_).trans (h.k4 k b),⟨(d _ h.hand.lb).trans h.k5.1,(d _ h.hand.lg).trans h.k5.2⟩⟩
 ·rcases b with b|b|b
  ·exact h.fB.lt k (.inl b)
  ·exact h.fB.lt k (pN (.inl b))
  ·exact h.fB.lt k (tw b)
 ·rcases b with b|b
  ·exact h.dB.lt k b.1
  ·exact h.Hi k b
theorem At.MC{Tq:N->Prop}(h:At w c K κ m)(d:ac Tq w a)(j:∀k,Tq k->¬κ k<=5):At a c K κ m:=by
 have i:∀k,k=K.kb\/mK K.cv K.ba k\/Sp.R K.q K.xi k->¬Tq k:=λk b g=>j k g (by rw[(h.k0 k b).1];omega);have f:∀k,κ k<=5->¬Tq k:=λk b g=>j k g b;refine⟨d.bF h.me (i _ (.inl T)),h.mem.MC d (f _ (by rw[h.k1.1];omega)) (f _ (by rw[h.k1.2];omega)),h.fB.MC d (λk b=>f k (by have:=h.vf k b;omega)),h.dB.MC d (λk b=>f k (by have:=h.qj k b;omega)) (λk b=>i k (js b)) (λe l k b=>f k (by rw[h.k4 k (.inr ⟨e,l,b⟩)];omega)),h.hand.MC d (f _ (by rw[h.k5.1];omega)) (f _ (by rw[h.k5.2];omega)),h.cH.MC d (λk b=>i k (.inr (.inl b))),h.ok,h.mf,λk b=>⟨(h.k0 k b).1,eR (h.k0 k b).2 d.size⟩,h.k1,h.k2,h.k3,h.k4,h.k5⟩
theorem At.pure(h:At w c K κ m)(b:ae w a):At a c K κ m:=h.MC b (λ_ f=>f.elim)
theorem At.sa{d:List (Nat × Nat)}(h:At w c K κ m)(g:ac (λk=>k=K.mb\/k=K.mg) w a)(l:Mm.At a K.mb K.mg d):At a c K κ {m with am:=d}:=by
 have i:∀k,(k=K.mb\/k=K.mg)->κ k=1:=λk b=>by rcases b with rfl|rfl;exact h.k1.1;exact h.k1.2
 have f:∀k,κ k≠1->¬(k=K.mb\/k=K.mg):=λk b n=>b (i k n);exact⟨g.bF h.me (f _ (by rw[(h.k0 _ (.inl rfl)).1];omega)),l,h.fB.MC g (λk b=>f k (by have:=h.vf k b;omega)),h.dB.MC g (λk b=>f k (by have:=h.qj k b;omega)) (λk b=>f k (by rw[(h.k0 k (js b)).1];omega)) (λe j k b=>f k (by rw[h.k4 k (.inr ⟨e,j,b⟩)];omega)),h.hand.MC g (f _ (by rw[h.k5.1];omega)) (f _ (by rw[h.k5.2];omega)),h.cH.MC g (λk b=>f k (by rw[(h.k0 k (.inr (.inl b))).1];omega)),h.ok,h.mf,λk b=>⟨(h.k0 k b).1,eR (h.k0 k b).2 g.size⟩,h.k1,h.k2,h.k3,h.k4,h.k5⟩
theorem At.pU{i:V}{g:Bool}{stats':List Int}(h:At w c K κ m)(f:ac (Ha.S K.hb K.hg) w a)(n:Ha.At a K.hb K.hg i g stats'):At a c K κ {m with st:=i,se:=g,bA:=stats'}:=by
 have j:∀k,Ha.S K.hb K.hg k->κ k=5:=λk b=>by rcases b with rfl|rfl;exact h.k5.1;exact h.k5.2
 have d:∀k,κ k≠5->¬Ha.S K.hb K.hg k:=λk b o=>b (j k o);exact⟨f.bF h.me (d _ (by rw[(h.k0 _ (.inl rfl)).1];omega)),h.mem.MC f (d _ (by rw[h.k1.1];omega)) (d _ (by rw[h.k1.2];omega)),h.fB.MC f (λk b=>d k (by have:=h.vf k b;omega)),h.dB.MC f (λk b=>d k (by have:=h.qj k b;omega)) (λk b=>d k (by rw[(h.k0 k (js b)).1];omega)) (λe l k b=>d k (by rw[h.k4 k (.inr ⟨e,l,b⟩)];omega)),n,h.cH.MC f (λk b=>d k (by rw[(h.k0 k (.inr (.inl b))).1];omega)),h.ok,h.mf,λk b=>⟨(h.k0 k b).1,eR (h.k0 k b).2 f.size⟩,h.k1,h.k2,h.k3,h.k4,h.k5⟩
theorem At.JG{t:List dq.dy}{pv':Value}{f:Bool}{n:List Int}(h:At w c K κ m)(r:ac (Sd.S K.sb K.q.tb K.q.tg K.pb m.pv) w a)(q:Sd.At a K.sb K.q.tb K.q.tg K.pb pv' t K.bp f n)(y:∀k,pv'.ownBlock=some k->m.pv.ownBlock=some k\/w.heap.size<=k):aG (λx=>x=2\/x=3) w κ a (aL w.heap.size κ 3)/\At a c K (aL w.heap.size κ 3) {m with pv:=pv',cb:=f,xs:=n,s:={m.s with l:=t}}:=by
 have d:ac (λk=>κ k=2\/κ k=3) w a:=r.mono (λk _ b=>h.vf k b);have j:∀k,κ k≠2->κ k≠3->¬(κ k=2\/κ k=3):=λk p z A=>by omega
 have g:∀k,k<w.heap.size->aL w.heap.size κ 3 k=κ k:=λk b=>dE b;have o:=λk b=>j k (by rw[(h.k0 k b).1];omega) (by rw[(h.k0 k b).1];omega);refine⟨aG.aL 3 d,⟨d.bF h.me (o _ (.inl T)),h.mem.MC d (j _ (by rw[h.k1.1];omega) (by rw[h.k1.1];omega)) (j _ (by rw[h.k1.2];omega) (by rw[h.k1.2];omega)),q,
  h.dB.K4 d (λk b u p=>by have:=h.k4 k (.inl ⟨b,u,p⟩);omega) (λk b=>o k (js b)) (λe v k b=>by have:=h.k4 k (.inr ⟨e,v,b⟩);omega) q.im,
  h.hand.MC d (j _ (by rw[h.k5.1];omega) (by rw[h.k5.1];omega)) (j _ (by rw[h.k5.2];omega) (by rw[h.k5.2];omega)),h.cH.MC d (λk b=>o k (.inr (.inl b))),h.ok,h.mf,
  λk b=>⟨(g k (h.k0 k b).2).trans (h.k0 k b).1,eR (h.k0 k b).2 r.size⟩,⟨(g _ h.mem.lb).trans h.k1.1,(g _ h.mem.lg).trans h.k1.2⟩,⟨(g _ h.fB.im.eA.lb).trans h.k2.1,(g _ h.fB.im.eA.lg).trans h.k2.2⟩,λk b=>?_,λk b=>?_,⟨(g _ h.hand.lb).trans h.k5.1,(g _ h.hand.lg).trans h.k5.2⟩⟩⟩
 ·by_cases i:k<w.heap.size
  ·rw[g k i];refine h.k3 k ?_;rcases b with b|b|b
   ·exact .inl b
   ·exact .inr (.inl b)
   ·rcases y k b with b|b
    ·exact js b
    ·omega
  ·exact aU (by omega)
 ·have i:k<w.heap.size:=by
   rcases b with b|b
   ·exact h.dB.lt k b.1
   ·exact h.Hi k b
  exact(g k i).trans (h.k4 k b)
end
end aW
end
namespace aW
def C5(x:N):Prop:=1<=x/\x<=5
def vL(K:Q)(s:Sp.St)(k:N):Prop:=Sp.F K.q s k\/∃e∈s.en,e.gv.ownBlock=some k
open Classical in
noncomputable def vS (n:N) (κ:N->N) (P:N->Prop) (k:N):N:=if k<n then κ k else if P k then 4 else 8
section
variable{n k:N}{κ:N->N}{P:N->Prop}
theorem vT(h:k<n):vS n κ P k=κ k:=af h
theorem FB(h:n<=k)(a:P k):vS n κ P k=4:=by unfold vS;rw[aa (by omega),af a]
theorem Cy(h:n<=k)(a:¬P k):vS n κ P k=8:=by unfold vS;rw[aa (by omega),aa a]
end
section
variable{w a:Y}{c:Cn}{K:Q}{κ κ':N->N}{m:St}
theorem At.GL{s':Sp.St}(h:At w c K κ m)(r:ac (Sp.F K.q m.s) w a)(p:Sp.At a c K.xi K.q s')(v:∀k,Sp.F K.q s' k\/(∃e∈s'.en,e.gv.ownBlock=some k)->Sp.F K.q m.s k\/(∃e∈m.s.en,e.gv.ownBlock=some k)\/w.heap.size<=k):aG (λx=>x=2\/x=4) w κ a (vS w.heap.size κ (vL K s'))/\At a c K (vS w.heap.size κ (vL K s')) {m with s:=s'}:=by
 have d:ac (λk=>κ k=2\/κ k=4) w a:=r.mono (λk _ b=>h.qj k b);have j:∀k,κ k≠2->κ k≠4->¬(κ k=2\/κ k=4):=λk y z A=>by omega
 have f:∀k,k<w.heap.size->vS w.heap.size κ (vL K s') k=κ k:=λk b=>vT b;have t:=λk b=>j k (by rw[(h.k0 k b).1];omega) (by rw[(h.k0 k b).1];omega);obtain⟨n,q⟩:=h.fB.me;refine⟨⟨d,λk b=>vT b⟩,⟨d.bF h.me (t _ (.inl T)),h.mem.MC d (j _ (by rw[h.k1.1];omega) (by rw[h.k1.1];omega)) (j _ (by rw[h.k1.2];omega) (by rw[h.k1.2];omega)),
  ⟨⟨n,d.bF q (by rw[h.k3 _ (.inl rfl)];omega)⟩,p.im,h.fB.mZ.MC d (λk b=>by
   have:=h.k3 k (by rcases b with b|b;exact .inr (.inl b);exact js b);omega)⟩,p,
  h.hand.MC d (j _ (by rw[h.k5.1];omega) (by rw[h.k5.1];omega)) (j _ (by rw[h.k5.2];omega) (by rw[h.k5.2];omega)),h.cH.MC d (λk b=>t k (.inr (.inl b))),h.ok,h.mf,
  λk b=>⟨(f k (h.k0 k b).2).trans (h.k0 k b).1,eR (h.k0 k b).2 r.size⟩,⟨(f _ h.mem.lb).trans h.k1.1,(f _ h.mem.lg).trans h.k1.2⟩,⟨(f _ h.fB.im.eA.lb).trans h.k2.1,(f _ h.fB.im.eA.lg).trans h.k2.2⟩,λk b=>?_,λk b=>?_,⟨(f _ h.hand.lb).trans h.k5.1,(f _ h.hand.lg).trans h.k5.2⟩⟩⟩
 ·have i:k<w.heap.size:=by
   rcases b with b|b|b
   ·exact h.fB.lt k (.inl b)
   ·exact h.fB.lt k (pN (.inl b))
   ·exact h.fB.lt k (tw b)
  exact(f k i).trans (h.k3 k b)
 ·by_cases i:k<w.heap.size
  ·rw[f k i];refine h.k4 k ?_;have o:Sp.F K.q s' k\/(∃e∈s'.en,e.gv.ownBlock=some k):=by
    rcases b with b|b
    ·exact .inl b.1
    ·exact .inr b
   rcases v k o with l|l|l
   ·by_cases g:k=K.q.tb\/k=K.q.tg
    ·rcases b with b|b
     ·exact absurd g (by simp[b.2.1,b.2.2])
     ·obtain⟨e,u,b⟩:=b;refine absurd ?_ (p.gv e u k b);rcases g with g|g
      ·exact .inr (.inl g)
      ·exact js (.inl g)
    ·exact .inl ⟨l,λe=>g (.inl e),λe=>g (.inr e)⟩
   ·exact .inr l
   ·omega
  ·refine FB (by omega) ?_;rcases b with b|b
   ·exact .inl b.1
   ·exact .inr b
theorem CG(h:At w c K κ m)(d:ac (λk=>k=K.mb\/k=K.mg) w a):aG C5 w κ a κ:=aG.of (d.mono (λk _ b=>by rcases b with rfl|rfl;rw[h.k1.1];unfold C5;omega;rw[h.k1.2];unfold C5;omega))
theorem AC(h:At w c K κ m)(d:ac (Ha.S K.hb K.hg) w a):aG C5 w κ a κ:=aG.of (d.mono (λk _ b=>by rcases b with rfl|rfl;rw[h.k5.1];unfold C5;omega;rw[h.k5.2];unfold C5;omega))
theorem Kw(h:aG (λx=>x=2\/x=3) w κ a κ'):aG C5 w κ a κ':=h.mono (λx b=>by unfold C5;omega)
theorem Kx(h:aG (λx=>x=2\/x=4) w κ a κ'):aG C5 w κ a κ':=h.mono (λx b=>by unfold C5;omega)
theorem read(j:N)(z:Nat × Nat)(w:Y)(h:At w c K κ m)(i:m.am[j]?=some z):C 97 #[.pointer (some ⟨K.mb,0,Option.none⟩),J j] w λe a=>e=O (.tuple #[U z.1 z.2,J 0])/\aG C5 w κ a κ/\At a c K κ m:=(Mm.eY K.mb K.mg m.am j z w h.mem i).mono λ_ _ ⟨g,d,f⟩=>⟨g,CG h (d.mono (λ_ _ b=>.inl b)),h.sa (d.mono (λ_ _ b=>.inl b)) f⟩
theorem write(j x y:N)(w:Y)(h:At w c K κ m)(g:j<m.am.length):C 192 #[.pointer (some ⟨K.mb,0,Option.none⟩),J j,U x y] w λe a=>e=O (J 0)/\aG C5 w κ a κ/\At a c K κ {m with am:=m.am.set j (x,y)}:=(Mm.lO K.mb K.mg m.am j x y w h.mem g).mono λ_ _ ⟨f,b,d⟩=>⟨f,CG h b,h.sa b d⟩
theorem LI(j:N)(z:Nat × Nat)(w:Y)(h:At w c K κ m)(b:m.am[j]?=some z):C 202 #[.pointer (some ⟨K.mb,0,Option.none⟩),J j] w λe a=>e=O (U z.1 z.2)/\w=a:=Mm.GD K.mb K.mg m.am j z w h.mem b
theorem look(w:Y)(h:At w c K κ m):C 172 #[.pointer (some ⟨K.hb,0,Option.none⟩)] w λe a=>e=O (.tuple #[J m.st,L m.se])/\aG C5 w κ a κ/\At a c K κ m:=(Ha.Dp K.hb K.hg m.st m.se m.bA w h.hand).mono λ_ _ ⟨f,b,d⟩=>⟨f,AC h b,h.pU b d⟩
theorem post(s:V)(f:Bool)(w:Y)(h:At w c K κ m)(d:0<=s)(g:s<=4):C 94 #[.pointer (some ⟨K.hb,0,Option.none⟩),J s,L f] w λe a=>e=O (L true)/\aG C5 w κ a κ/\At a c K κ {m with st:=s,se:=m.se !=f}:=(Ha.DY K.hb K.hg m.st m.se m.bA s f w h.hand d g).mono λ_ _ ⟨j,b,i⟩=>⟨j,AC h b,h.pU b i⟩
theorem Io(j:N)(z s:V)(w:Y)(h:At w c K κ m)(k:m.bA[j]?=some z)(hz:z≠-1)(d:0<=s)(f:s<=4):C 173 #[.pointer (some ⟨K.hb,0,Option.none⟩),J j,J s] w λe a=>e=O (L true)/\aG C5 w κ a κ/\At a c K κ {m with bA:=m.bA.set j s}:=(Ha.Ah K.hb K.hg m.st m.se m.bA j z s w h.hand k hz d f).mono λ_ _ ⟨i,b,g⟩=>⟨i,AC h b,h.pU b g⟩
theorem eN(j:N)(z:V)(w:Y)(h:At w c K κ m)(g:m.bA[j]?=some z):C 147 #[.pointer (some ⟨K.hb,0,Option.none⟩),J j] w λe a=>e=O (L (z==-1||z==m.st))/\aG C5 w κ a κ/\At a c K κ m:=(Ha.GF K.hb K.hg m.st m.se m.bA j z w h.hand g).mono λ_ _ ⟨f,b,d⟩=>⟨f,AC h b,h.pU b d⟩
theorem join(j:N)(w:Y)(h:At w c K κ m)(g:m.bA[j]?=some (-1)):C 66 #[.pointer (some ⟨K.hb,0,Option.none⟩),J j] w λe a=>e=O (.tuple #[J m.st,L m.se,L true])/\aG C5 w κ a κ/\At a c K κ {m with bA:=m.bA.set j m.st}:=(Ha.FY K.hb K.hg m.st m.se m.bA j w h.hand g).mono λ_ _ ⟨f,b,d⟩=>⟨f,AC h b,h.pU b d⟩
theorem zy(j:N)(z:V)(w:Y)(h:At w c K κ m)(g:m.bA[j]?=some z)(hz:z≠-1):C 176 #[.pointer (some ⟨K.hb,0,Option.none⟩),J j] w λe a=>e=O (L true)/\aG C5 w κ a κ/\At a c K κ {m with bA:=m.bA.set j (-1)}:=(Ha.Dj K.hb K.hg m.st m.se m.bA j z w h.hand g hz).mono λ_ _ ⟨f,b,d⟩=>⟨f,AC h b,h.pU b d⟩
theorem tU{s':Sp.St}(h:At w c K κ m)(j:ac (Sp.F K.q m.s) w a)(g:Sp.At a c K.xi K.q s')(f:∀k,vL K s' k->vL K m.s k\/w.heap.size<=k):∃κ',aG C5 w κ a κ'/\At a c K κ' {m with s:=s'}/\∀k,w.heap.size<=k->¬vL K s' k->κ' k=8:=by
 have e:=h.GL j g (λk d=>by
  rcases f k d with b|b
  ·rcases b with b|b
   ·exact .inl b
   ·exact .inr (.inl b)
  ·exact js b)
 exact⟨_,Kx e.1,e.2,λk d i=>Cy d i⟩
theorem eK{s':Sp.St}(d:s'.lv.ownBlock=m.s.lv.ownBlock)(f:s'.sv.ownBlock=m.s.sv.ownBlock)(g:∀e∈s'.en,∀k,e.gv.ownBlock=some k->∃e∈m.s.en,e.gv.ownBlock=some k):∀k,vL K s' k->vL K m.s k\/w.heap.size<=k:=by
 intro k b;refine .inl ?_;rcases b with b|⟨e,h,b⟩
 ·refine .inl ?_;unfold Sp.F Ln.eU Sk.og at b ⊢;rw[d,f]at b;exact b
 ·exact .inr (g e h k b)
theorem born(j:N)(o:dq.dy)(w:Y)(h:At w c K κ m)(q:m.s.l[j]?=some o)(f:o.st=2)(d:o.head=false):C 193 #[.pointer (some ⟨K.q.sp,0,Option.none⟩),J j] w λg a=>g=O (L true)/\∃κ',aG C5 w κ a κ'/\At a c K κ' {m with s:={m.s with l:=m.s.l.set j {o with head:=true}}}:=(Sp.un _ _ _ _ j o w h.dB q f d).mono λ_ _ ⟨b,t,p⟩=>⟨b,by obtain⟨κ',i,n,-⟩:=tU h t p (eK T T (λe b k r=>⟨e,b,r⟩));exact⟨κ',i,n⟩⟩
theorem Iw(w:Y)(h:At w c K κ m):C 93 #[.pointer (some ⟨K.q.sp,0,Option.none⟩)] w λd a=>d=O (.tuple #[])/\∃κ',aG C5 w κ a κ'/\At a c K κ' {m with s:={m.s with cm:=false,en:=m.s.en.map Ln.sg}}:=(Sp.pP _ _ _ _ w h.dB).mono λ_ _ ⟨b,o,l⟩=>⟨b,by obtain⟨κ',i,j,-⟩:=tU h o l (eK T T (λe b k n=>by simp only[aX]at b;obtain⟨f,g,rfl⟩:=b;exact⟨f,g,n⟩));exact⟨κ',i,j⟩⟩
theorem fX(w:Y)(h:At w c K κ m)(d:∀e∈m.s.en,0<=e.bh/\e.bh<=100000):C 115 #[.pointer (some ⟨K.q.sp,0,Option.none⟩)] w λf a=>f=O (.tuple #[])/\∃κ',aG C5 w κ a κ'/\At a c K κ' {m with s:={m.s with en:=m.s.en.map Ln.jX}}:=(Sp.uz _ _ _ _ w h.dB d).mono λ_ _ ⟨b,p,n⟩=>⟨b,by obtain⟨κ',j,l,-⟩:=tU h p n (eK T T (λe b k o=>by simp only[aX]at b;obtain⟨g,i,rfl⟩:=b;exact⟨g,i,o⟩));exact⟨κ',j,l⟩⟩
theorem zZ(w:Y)(h:At w c K κ m):C 55 #[.pointer (some ⟨K.q.sp,0,Option.none⟩)] w λd a=>d=O (L (decide (0<m.s.en.countP Ln.kU)||decide ((Po.cY m.s.fr:V)<c.di)||m.s.cm))/\∃κ',aG C5 w κ a κ'/\At a c K κ' m:=(Sp.BC _ _ _ _ w h.dB).mono λ_ _ ⟨b,l,i⟩=>⟨b,by obtain⟨κ',f,g,-⟩:=tU h l i (eK T T (λe b k j=>⟨e,b,j⟩));exact⟨κ',f,g⟩⟩
theorem qS(w:Y)(h:At w c K κ m)(n:m.s.u (1-m.s.an)=0):C 105 #[.pointer (some ⟨K.q.sp,0,Option.none⟩)] w λd a=>d=O (L true)/\∃κ',aG C5 w κ a κ'/\At a c K κ' {m with s:={m.s with an:=1-m.s.an,kept:=m.s.u m.s.an}}:=(Sp.vp _ _ _ _ w h.dB n).mono λ_ _ ⟨b,l,i⟩=>⟨b,by obtain⟨κ',f,g,-⟩:=tU h l i (eK T T (λe b k j=>⟨e,b,j⟩));exact⟨κ',f,g⟩⟩
theorem Ku(w:Y)(h:At w c K κ m)(d:m.s.kept=0):C 113 #[.pointer (some ⟨K.q.sp,0,Option.none⟩)] w λf a=>f=O (L true)/\∃κ',aG C5 w κ a κ'/\At a c K κ' {m with s:={m.s with u:=λk=>if k=1-m.s.an then 0 else m.s.u k,kept:=0}}:=(Sp.uw _ _ _ _ w h.dB d).mono λ_ _ ⟨b,l,j⟩=>⟨b,by obtain⟨κ',g,i,-⟩:=tU h l j (eK T T (λe b k d=>⟨e,b,d⟩));exact⟨κ',g,i⟩⟩
theorem sN(j:N)(o:dq.dy)(se:Bool)(w:Y)(h:At w c K κ m)(l:m.s.l[j]?=some o)(p:o.st=2->o.ah=se):C 114 #[.pointer (some ⟨K.q.sp,0,Option.none⟩),J j,L se] w λd a=>d=O (L false)/\∃κ',aG C5 w κ a κ'/\At a c K κ' m:=(Sp.sN _ _ _ _ j o se w h.dB l p).mono λ_ _ ⟨b,q,i⟩=>⟨b,by obtain⟨κ',f,g,-⟩:=tU h q i (eK T T (λe b k n=>⟨e,b,n⟩));exact⟨κ',f,g⟩⟩
theorem ql(j:N)(o:dq.dy)(se:Bool)(w:Y)(h:At w c K κ m)(p:m.s.l[j]?=some o)(b:o.st=2)(t:o.ah≠se)(n:m.s.fr[j]?=some false):C 114 #[.pointer (some ⟨K.q.sp,0,Option.none⟩),J j,L se] w λf a=>f=O (L true)/\∃κ',aG C5 w κ a κ'/\At a c K κ' {m with s:={m.s with l:=m.s.l.set j ⟨0,false,false⟩,fr:=m.s.fr.set j true}}:=(Sp.ql _ _ _ _ j o se w h.dB p b t n).mono λ_ _ ⟨d,r,i⟩=>⟨d,by obtain⟨κ',g,b,-⟩:=tU h r i (eK T T (λe d k q=>⟨e,d,q⟩));exact⟨κ',g,b⟩⟩
theorem nC(e:Ln.En)(w:Y)(h:At w c K κ m)(d:m.s.en=[e])(g:e.bx=0)(f:e.bE=0):C 129 #[.pointer (some ⟨K.q.sp,0,Option.none⟩),J 0] w λi a=>i=O (.agg #[J 0,Z Option.none 0 0,J (-1)])/\∃κ',aG C5 w κ a κ'/\At a c K κ' m:=(Sp.nC _ _ _ _ e w h.dB d g f).mono λ_ _ ⟨b,p,n⟩=>⟨b,by obtain⟨κ',j,l,-⟩:=tU h p n (eK T T (λe b k o=>⟨e,b,o⟩));exact⟨κ',j,l⟩⟩
theorem ox(se:Bool)(w:Y)(h:At w c K κ m)(d:Ln.te Ln.kU m.s.en=-1):C 116 #[.pointer (some ⟨K.q.sp,0,Option.none⟩),L se] w λf a=>f=O (L false)/\∃κ',aG C5 w κ a κ'/\At a c K κ' m:=(Sp.ox _ _ _ _ se w h.dB d).mono λ_ _ ⟨b,n,j⟩=>⟨b,by obtain⟨κ',g,i,-⟩:=tU h n j (eK T T (λe b k l=>⟨e,b,l⟩));exact⟨κ',g,i⟩⟩
theorem oy(e:Ln.En)(k sp:N)(se:Bool)(w:Y)(h:At w c K κ m)(l:1<=k)(n:k<=1024)(i:m.s.en=[e])(o:e.bE=0)(j:e.ag=k)(d:e.al=sp)(f:e.bh<2)(b:Sp.gY m.s k sp=false):C 116 #[.pointer (some ⟨K.q.sp,0,Option.none⟩),L se] w λp a=>p=O (L false)/\∃κ',aG C5 w κ a κ'/\At a c K κ' m:=(Sp.oy _ _ _ _ e k sp se w h.dB l n i o j d f b).mono λ_ _ ⟨g,t,s⟩=>⟨g,by obtain⟨κ',q,r,-⟩:=tU h t s (eK T T (λe g k l=>⟨e,g,l⟩));exact⟨κ',q,r⟩⟩
theorem sC(e:Ln.En)(k sp:N)(se:Bool)(w:Y)(h:At w c K κ m)(l:1<=k)(n:k<=1024)(b:m.s.en=[e])(o:e.bE=0)(j:e.ag=k)(f:e.al=sp)(i:2<=e.bh)(d:Sp.gY m.s k sp=false):C 116 #[.pointer (some ⟨K.q.sp,0,Option.none⟩),L se] w λp a=>p=O (L true)/\∃κ',aG C5 w κ a κ'/\At a c K κ' {m with s:={m.s with en:=[Ln.failed e]}}:=(Sp.sC _ _ _ _ e k sp se w h.dB l n b o j f i d).mono λ_ _ ⟨g,u,t⟩=>⟨g,by obtain⟨κ',q,r,-⟩:=tU h u t (eK T T (λv g k l=>by simp only[jr]at g;subst g;exact⟨e,by rw[b];exact jr.2 T,l⟩));exact⟨κ',q,r⟩⟩
theorem drain(w:Y)(h:At w c K κ m)(l:0<K.q.ns)(d:m.s.sx=[]):C 119 #[.pointer (some ⟨K.q.sp,0,Option.none⟩),J 0] w λe a=>e=O (J 0)/\∃κ',aG C5 w κ a κ'/\At a c K κ' {m with s:={m.s with sv:=Z Option.none 0 0,sx:=[]}} :=
 (Sp.FE _ _ _ _ w h.dB l d).mono λ_ _ ⟨j,n,i⟩=>⟨j,by
  obtain⟨κ',f,g,-⟩:=tU h n i (λk b=>by
   refine .inl ?_;rcases b with b|b
   ·refine .inl ?_;unfold Sp.F Ln.eU Sk.og at b ⊢;rcases b with b|b|b|b|b|b|b|b|b
    ·exact .inl b
    ·exact .inr (.inl b)
    ·exact js (.inl b)
    ·exact pN (.inl b)
    ·exact tw (.inl b)
    ·exact xL (.inl b)
    ·exact vC (.inl b)
    ·exact xH (.inl b)
    ·simp[Value.ownBlock]at b
   ·exact .inr b)
  exact⟨κ',f,g⟩⟩
theorem qw(e:Ln.En)(w:Y)(h:At w c K κ m)(d:m.s.en=[e])(g:e.bx=0)(f:e.bE=2):C 129 #[.pointer (some ⟨K.q.sp,0,Option.none⟩),J 0] w λi a=>i=O (.agg #[J 2,Z Option.none 0 0,J (-1)])/\∃lv' κ',aG C5 w κ a κ'/\At a c K κ' {m with s:={m.s with lv:=lv',en:=[]}} :=
 (Sp.qw _ _ _ _ e w h.dB d g f).mono λ_ _ ⟨lv',b,o,l,n⟩=>⟨b,lv',by
  obtain⟨κ',j,k,-⟩:=tU h o l (eK n T (λe b=>by simp at b));exact⟨κ',j,k⟩⟩
theorem kj(e:Ln.En)(w:Y)(h:At w c K κ m)(k:m.s.en=[e])(o:e.bx=0)(n:e.bE=1):C 129 #[.pointer (some ⟨K.q.sp,0,Option.none⟩),J 0] w λq a=>∃d f lv' κ',q=O (.agg #[J 1,Z d e.cG.length f,J e.aM])/\aG C5 w κ a κ'/\At a c K κ' {m with s:={m.s with lv:=lv',en:=[]}} /\
   eO a a.heap.size (Z d e.cG.length f) e.cG/\∀b,(Z d e.cG.length f).ownBlock=some b->κ' b=8/\w.heap.size<=b :=
 (Sp.kj _ _ _ _ e w h.dB k o n).mono λ_ _ ⟨d,f,lv',g,y,x,p,z,j⟩=>by
  obtain⟨κ',r,t,u⟩:=tU h y x (eK p T (λe g=>by simp at g));refine⟨d,f,lv',κ',g,r,t,z,λb l=>⟨u b (by have:=j b l;omega) (λi=>?_),by have:=j b l;omega⟩⟩;have:=j b l;rcases i with i|⟨e,g,_⟩
  ·have v:Sp.F K.q m.s b:=by
    unfold Sp.F Ln.eU Sk.og at i ⊢;rw[p]at i;exact i
   have:=h.dB.lt b v;omega
  ·simp at g
theorem lJ(e:Ln.En)(k sp:N)(se:Bool)(w:Y)(h:At w c K κ m)(B:1<=k)(n:k<=1024)(i:m.s.en=[e])(p:e.bE=0)(j:e.ag=k)(f:e.al=sp)(d:Sp.gY m.s k sp=true)(q:m.s.size=c.al)(o:m.s.fr.length=m.s.l.length):C 116 #[.pointer (some ⟨K.q.sp,0,Option.none⟩),L se] w λr a=>r=O (L true)/\∃gv κ',aG C5 w κ a κ' /\
   At a c K κ' {m with s:={m.s with l:=Sp.de m.s.l (Po.take m.s.fr k) 2 se,fr:=Po.off m.s.fr (Po.take m.s.fr k),u:=Sp.uX m.s k sp,en:=[Ln.granted e gv (Po.aI (Po.take m.s.fr k)) (Sp.vF c m.s k sp)]}} :=
 (Sp.lJ _ _ _ _ e k sp se w h.dB B n i p j f d q o).mono λ_ _ ⟨gv,A,E,y,z⟩=>⟨A,gv,by
  obtain⟨κ',t,v,-⟩:=tU h E y (λx g=>by
   rcases g with g|⟨F,b,g⟩
   ·exact .inl (.inl g)
   ·simp only[jr]at b;subst b;exact .inr (z x g))
  exact⟨κ',t,v⟩⟩
theorem oP(k sp:N)(se:Bool)(w:Y)(h:At w c K κ m)(y:0<K.q.ns)(v:1<=k)(i:k<=1024)(n:sp=0->m.s.sx.length<k)(f:m.s.en=[])(e:Sp.gY m.s k sp=false):C 248 #[.pointer (some ⟨K.q.sp,0,Option.none⟩),J 0,J k,J sp,L se] w λo a=>o=O (.agg #[J 0,Z Option.none 0 0,J (-1)])/\∃lv' κ',aG C5 w κ a κ' /\
   At a c K κ' {m with s:={m.s with lv:=lv',en:=[⟨0,k,sp,0,0,-1,Z Option.none 0 0,[],false⟩]}} :=
 (Sp.oP _ _ _ _ k sp se w h.dB y v i n f e).mono λ_ _ ⟨lv',t,z,r,l⟩=>⟨t,lv',by
  obtain⟨κ',p,q,-⟩:=tU h z r (λx b=>by
   rcases b with b|⟨A,d,b⟩
   ·unfold Sp.F Ln.eU at b;rcases l with l|⟨j,u,g⟩
    ·rw[l]at b;exact .inl (.inl b)
    ·rw[u]at b;rcases b with b|b|b|b|b|b|(b|b)|b
     ·exact .inl (.inl (.inl b))
     ·exact .inl (.inl (.inr (.inl b)))
     ·exact .inl (.inl (js (.inl b)))
     ·exact .inl (.inl (pN (.inl b)))
     ·exact .inl (.inl (tw (.inl b)))
     ·exact .inl (.inl (xL (.inl b)))
     ·exact .inl (.inl (vC (.inl (.inl b))))
     ·injection b with b;exact .inr (b▸g)
     ·exact .inl (.inl (xH b))
   ·simp only[jr]at d;subst d;simp[Value.ownBlock]at b)
  exact⟨κ',p,q⟩⟩
theorem ED{sv':Value}:∀x,Sp.F K.q {m.s with sv:=sv'} x->Sp.F K.q m.s x\/sv'.ownBlock=some x:=λx b=>by
 unfold Sp.F Sk.og at b ⊢;rcases b with b|b|b|b|b|b|b|(b|b)
 ·exact .inl (.inl b)
 ·exact .inl (.inr (.inl b))
 ·exact .inl (js (.inl b))
 ·exact .inl (pN (.inl b))
 ·exact .inl (tw (.inl b))
 ·exact .inl (xL (.inl b))
 ·exact .inl (vC (.inl b))
 ·exact .inl (xH (.inl b))
 ·exact .inr b
theorem uh(k sp:N)(se:Bool)(w:Y)(h:At w c K κ m)(hn:0<K.q.ns)(hk:1<=k)(B:sp=0->m.s.sx.length<k)(g:m.s.en=[])(i:Sp.gY m.s k sp=true)(E:m.s.size=c.al)(y:m.s.fr.length=m.s.l.length):C 248 #[.pointer (some ⟨K.q.sp,0,Option.none⟩),J 0,J k,J sp,L se] w λH a=>∃v sv' κ',H=O (.agg #[J 1,v,J (Sp.vF c m.s k sp)])/\aG C5 w κ a κ' /\
   At a c K κ' {m with s:={m.s with l:=Sp.de (Sp.de m.s.l (Po.take m.s.fr k) 2 se) (Po.di (Po.off m.s.fr (Po.take m.s.fr k)) (c.aB.toNat-m.s.sx.length)) 1 se,fr:=Po.off (Po.off m.s.fr (Po.take m.s.fr k)) (Po.di (Po.off m.s.fr (Po.take m.s.fr k)) (c.aB.toNat-m.s.sx.length)),u:=Sp.uX m.s k sp,sv:=sv',sx:=m.s.sx++Po.aI (Po.di (Po.off m.s.fr (Po.take m.s.fr k)) (c.aB.toNat-m.s.sx.length))}} /\
   a.ownsRow w.heap.size 3 1 v (Po.take m.s.fr k).length (bI (Po.aI (Po.take m.s.fr k)))/\∀b,v.ownBlock=some b->κ' b=8 :=
 (Sp.uh _ _ _ _ k sp se w h.dB hn hk B g i E y).mono λ_ _ ⟨v,sv',q,ho,X,A,G,z⟩=>by
  have n:∀x,Sp.F K.q {m.s with sv:=sv'} x->Sp.F K.q m.s x\/sv'.ownBlock=some x:=ED;obtain⟨κ',R,S,W⟩:=tU h ho X (λx o=>by
   rcases o with o|⟨P,r,o⟩
   ·rcases n x o with d|d
    ·exact .inl (.inl d)
    ·rcases A with A|⟨j,hj,t⟩
     ·exact .inl (.inl (LN (A▸d)))
     ·rw[hj]at d;injection d with d;exact .inr (d▸t)
   ·have f:P∈m.s.en:=r;rw[g]at f;simp at f)
  refine⟨v,sv',κ',q,R,S,G,λb p=>W b (G.lt b p).1 (λF=>?_)⟩;have a1:=(G.lt b p).1;rcases F with F|⟨e,q,_⟩
  ·rcases n b F with d|d
   ·have:=h.dB.lt b d;omega
   ·exact z (d.trans p.symm)
  ·have f:e∈m.s.en:=q;rw[g]at f;simp at f
theorem pO(k:N)(xs:List Nat)(se:Bool)(w:Y)(h:At w c K κ m)(S:0<K.q.ns)(R:1<=k)(z:m.s.sx=Po.aI xs)(q:k<=xs.length)(r:∀x∈xs,x<m.s.l.length)(g:m.s.en=[]):C 248 #[.pointer (some ⟨K.q.sp,0,Option.none⟩),J 0,J k,J 0,L se] w λA a=>∃v sv' κ',A=O (.agg #[J 1,v,J (-1)])/\aG C5 w κ a κ' /\
   At a c K κ' {m with s:={m.s with l:=Sp.de m.s.l (xs.take k) 2 se,sv:=sv',sx:=Po.aI (xs.drop k)}} /\
   a.ownsRow w.heap.size 3 1 v k (bI (Po.aI (xs.take k)))/\∀b,v.ownBlock=some b->κ' b=8 :=
 (Sp.pO _ _ _ _ k xs se w h.dB S R z q r g).mono λ_ _ ⟨v,sv',o,W,H,X,y,t⟩=>by
  have i:∀x,Sp.F K.q {m.s with sv:=sv'} x->Sp.F K.q m.s x\/sv'.ownBlock=some x:=ED;obtain⟨κ',E,F,G⟩:=tU h W H (λx j=>by
   rcases j with j|⟨B,p,j⟩
   ·rcases i x j with f|f
    ·exact .inl (.inl f)
    ·exact .inr (X x f)
   ·have d:B∈m.s.en:=p;rw[g]at d;simp at d)
  refine⟨v,sv',κ',o,E,F,y,λb n=>G b (y.lt b n).1 (λu=>?_)⟩;have P:=(y.lt b n).1;rcases u with u|⟨e,o,_⟩
  ·rcases i b u with f|f
   ·have:=h.dB.lt b f;omega
   ·exact t b f n
  ·have d:e∈m.s.en:=o;rw[g]at d;simp at d
theorem oh{f:N->V}{b:V}(h:At w c K κ m)(d:ac (λk=>k=K.q.co) w a)(n:Co.At a K.q.co m.s.size m.s.an f b):∃κ',aG C5 w κ a κ'/\At a c K κ' {m with s:={m.s with u:=f,kept:=b}}:=by
 obtain⟨κ',g,i,-⟩:=tU h (Sp.ur d) (h.dB.oh d n) (eK T T (λe j k l=>⟨e,j,l⟩));exact⟨κ',g,i⟩
theorem skip(n:N)(w:Y)(h:At w c K κ m)(g:1<=n)(f:(n:V)<=m.s.kept):C 282 #[.pointer (some ⟨K.q.co,0,Option.none⟩),J n] w λb a=>b=O (L true)/\∃κ',aG C5 w κ a κ'/\At a c K κ' {m with s:={m.s with kept:=m.s.kept-n}}:=(Co.zP n w h.dB.gA g f).mono λ_ _ ⟨e,i,d⟩=>⟨e,oh h i d⟩
theorem MD(n:N)(w:Y)(h:At w c K κ m)(i:1<=n)(g:(n:V)<=m.s.kept)(b:m.s.u m.s.an+n<=2048):C 284 #[.pointer (some ⟨K.q.co,0,Option.none⟩),J n] w λd a=>d=O (.tuple #[J (m.s.u m.s.an),L true])/\∃κ',aG C5 w κ a κ'/\At a c K κ' {m with s:={m.s with u:=Co.eG m.s.u m.s.an n,kept:=m.s.kept-n}}:=(Co.lV n w h.dB.gA i g b).mono λ_ _ ⟨f,j,e⟩=>⟨f,oh h j e⟩
theorem JH{i:List dq.dy}{pv':Value}{b:Bool}{e:List Int}(h:At w c K κ m)(o:ac (Sd.S K.sb K.q.tb K.q.tg K.pb m.pv) w a)(n:Sd.At a K.sb K.q.tb K.q.tg K.pb pv' i K.bp b e)(f:pv'.ownBlock=m.pv.ownBlock\/∃q,pv'.ownBlock=some q/\w.heap.size<=q):∃κ',aG C5 w κ a κ'/\At a c K κ' {m with pv:=pv',cb:=b,xs:=e,s:={m.s with l:=i}}:=by
 have g:=h.JG o n (λk d=>by
  rcases f with f|⟨q,p,j⟩
  ·exact .inl (f▸d)
  ·rw[p]at d;injection d with d;exact .inr (d▸j))
 exact⟨_,Kw g.1,g.2⟩
theorem Ko(j:N)(o:dq.dy)(s:Bool)(w:Y)(h:At w c K κ m)(f:m.s.l[j]?=some o):C 104 #[.pointer (some ⟨K.sb,0,Option.none⟩),J j,L s] w λe a=>e=O (L (o.head&&(decide (o.st=2)&&o.ah==s)))/\∃κ',aG C5 w κ a κ'/\At a c K κ' m:=(Sd.jK _ _ _ _ _ _ _ _ _ j o s w h.fB f).mono λ_ _ ⟨d,g,b⟩=>⟨d,JH h g b (.inl T)⟩
theorem part(j:N)(o:dq.dy)(s:Bool)(w:Y)(h:At w c K κ m)(g:m.s.l[j]?=some o)(b:o.st=2):C 309 #[.pointer (some ⟨K.sb,0,Option.none⟩),J j,L s] w λe a=>e=O (L (!(o.ah==s)))/\∃κ',aG C5 w κ a κ'/\At a c K κ' {m with s:={m.s with l:=m.s.l.set j {o with ah:=s}}}:=(Sd.GC _ _ _ _ _ _ _ _ _ j o s w h.fB g b).mono λ_ _ ⟨f,i,d⟩=>⟨f,JH h i d (.inl T)⟩
theorem zp(j:N)(o:dq.dy)(s:Bool)(w:Y)(h:At w c K κ m)(f:m.s.l[j]?=some o)(i:Sd.nZ o s=false):C 96 #[.pointer (some ⟨K.sb,0,Option.none⟩),J j,L s] w λe a=>e=O (L false)/\∃κ',aG C5 w κ a κ'/\At a c K κ' m:=(Sd.zp _ _ _ _ _ _ _ _ _ j o s w h.fB f i).mono λ_ _ ⟨d,g,b⟩=>⟨d,JH h g b (.inl T)⟩
theorem rK(j:N)(o:dq.dy)(s:Bool)(w:Y)(h:At w c K κ m)(g:m.s.l[j]?=some o)(p:Sd.nZ o s=true)(b:o.st=2)(i:m.xs.length<K.bp):C 96 #[.pointer (some ⟨K.sb,0,Option.none⟩),J j,L s] w λe a=>e=O (L true)/\∃pv' κ',aG C5 w κ a κ'/\At a c K κ' {m with pv:=pv',xs:=m.xs++[(j:V)],s:={m.s with l:=m.s.l.set j {o with ah:=s}}}:=(Sd.rK _ _ _ _ _ _ _ _ _ j o s w h.fB g p b i).mono λ_ _ ⟨f,k,pv',n,d⟩=>⟨f,pv',JH h k d n⟩
theorem uQ(w:Y)(h:At w c K κ m)(b:m.xs=[]):C 99 #[.pointer (some ⟨K.sb,0,Option.none⟩)] w λe a=>e=O (.tuple #[J 0,L false])/\∃κ',aG C5 w κ a κ'/\At a c K κ' m:=(Sd.uQ _ _ _ _ _ _ _ _ w (b▸h.fB)).mono λ_ _ ⟨f,g,d⟩=>⟨f,JH h g (by rw[b];exact d) (.inl T)⟩
theorem uP(xs:List Int)(x:V)(w:Y)(h:At w c K κ m)(i:m.xs=xs++[x]):C 99 #[.pointer (some ⟨K.sb,0,Option.none⟩)] w λe a=>e=O (.tuple #[J x,L true])/\∃pv' κ',aG C5 w κ a κ'/\At a c K κ' {m with pv:=pv',xs:=xs}:=(Sd.uP _ _ _ _ _ _ _ _ _ x w (i▸h.fB)).mono λ_ _ ⟨d,f,pv',g,b⟩=>⟨d,pv',JH h f b (.inl g)⟩
theorem cb(w:Y)(h:At w c K κ m):C 103 #[.pointer (some ⟨K.sb,0,Option.none⟩)] w λe a=>e=O (L m.cb)/\∃κ',aG C5 w κ a κ'/\At a c K κ' {m with cb:=false}:=(Sd.rX _ _ _ _ _ _ _ _ _ w h.fB).mono λ_ _ ⟨d,f,b⟩=>⟨d,JH h f b (.inl T)⟩
end
end aW
section
theorem KQ(x y:N)(r:V)(w:Y)(b:∀w:Y,C 98 #[U x y] w λe a=>e=O (.tuple #[J r,L false])/\w=a):C 191 #[U x y] w λe a=>e=O (L (jk x y 0 4607182418800017408))/\w=a:=by
 have d:=M b;clear b;go_enter func191,ntmps191;go_wp2_with fail;refine(d w).mono ?_;rintro e c⟨rfl,rfl⟩;go_wp2_with fail;refine(jO w).mono ?_;rintro e c⟨rfl,rfl⟩;go_wp2_with fail;refine(kO _ _ _ _ w).mono ?_;rintro e c⟨rfl,rfl⟩;go_wp2;go_ret;exact⟨T,T⟩
theorem pa(k m:V)(w:Y)(b:0<=k)(c:k<=1099511627776)(d:0<=m)(f:m<=1099511627776):C 260 #[J k,J m] w λe a=>e=O (U (floatOfInt .f64 k) (floatOfInt .f64 m))/\w=a:=by
 go_enter func260,ntmps260;go_wp2;go_ret;exact⟨T,T⟩
theorem EL(k m:V)(w:Y)(c:0<=k)(d:k<=1099511627776)(f:0<=m)(g:m<=1099511627776):C 134 #[U (floatOfInt .f64 k) (floatOfInt .f64 m)] w λe a=>e=O (.tuple #[J k,J m,L true])/\w=a:=by
 go_enter func134,ntmps134;go_wp2_with fail;refine(eW k w (by omega)).mono ?_;rintro e b⟨rfl,rfl⟩;go_wp2_with fail;refine(eW m w (by omega)).mono ?_;rintro e b⟨rfl,rfl⟩;go_wp2;go_ret3;exact⟨T,T⟩
abbrev Gu:N:=4607182418800017408
def bD:Nat × Nat:=(0,Gu)
def bi(i:N):Nat × Nat:=(floatOfInt .f64 ((i:V)+1),Gu)
def cQ(k m:N):Nat × Nat:=(floatOfInt .f64 (k:V),floatOfInt .f64 (m:V))
def bH(n:V):Nat × Nat:=(floatOfInt .f64 n,0)
theorem mC(i:N)(w:Y)(h:i<=1000000):C 153 #[J i] w λe a=>e=O (U (bi i).1 (bi i).2)/\w=a:=Ed (i:V) w (by omega) (by omega)
theorem ij(i:N)(w:Y)(h:i<=1000000):C 98 #[U (bi i).1 (bi i).2] w λe a=>e=O (.tuple #[J i,L true])/\w=a:=by
 have:=AL ((i:V)+1) w (by omega) (by omega)
 rwa [Int.add_sub_cancel]at this
theorem wz(w:Y):C 151 #[U 0 0] w λe a=>e=O (.tuple #[J 0,L true])/\w=a:=by
 have:=eW 0 w (by decide)
 rwa [show floatOfInt .f64 0=0 from by decide +kernel]at this
theorem index_none(w:Y):C 98 #[U bD.1 bD.2] w λe a=>e=O (.tuple #[J 0,L false])/\w=a:=wy 0 Gu 0 true w wz (.inr (by omega))
theorem yl(w:Y):C 98 #[U 0 0] w λe a=>e=O (.tuple #[J 0,L false])/\w=a:=wy 0 0 0 true w wz (.inr (by omega))
theorem zt(w:Y):C 191 #[U bD.1 bD.2] w λe a=>e=O (L true)/\w=a:=by
 have:=KQ bD.1 bD.2 0 w index_none
 rwa [show jk bD.1 bD.2 0 4607182418800017408=true from by decide +kernel]at this
def Mb(z:Nat × Nat):Prop:=z=bD\/∃i,i<=1000000/\z=bi i
theorem rQ(k m:N)(w:Y)(h:k<=1000)(b:m<=1000):C 260 #[J k,J m] w λe a=>e=O (U (cQ k m).1 (cQ k m).2)/\w=a:=pa (k:V) (m:V) w (by omega) (by omega) (by omega) (by omega)
theorem sQ(k m:N)(w:Y)(h:k<=1000)(b:m<=1000):C 134 #[U (cQ k m).1 (cQ k m).2] w λe a=>e=O (.tuple #[J k,J m,L true])/\w=a:=EL (k:V) (m:V) w (by omega) (by omega) (by omega) (by omega)
theorem Bo(i:N)(h:i<=1000000):jk (bi i).1 (bi i).2 0 4607182418800017408=false:=by
 have:=Eo ((i:V)+1) 0 (by omega) (by omega);rw[show floatOfInt .f64 0=0 from by decide +kernel]at this;simp only[bi];rw[this];simp;omega
