/- Part 27 of the proof of spotop.TopChurn. -/
import Derived.Test.YtpgdiceeimehiaaGreatR25
set_option maxRecDepth 100000
set_option maxHeartbeats 16000000
set_option linter.all false
open Go.Proofs.Tryz
namespace Go.Proofs.YtpgdiceeimehiaaGreat
open RowKit
section
section
variable{w j:Y}{c:Cn}{K:aW.Q}{κ κ':N->N}{m g:aW.St}{b:Ac.B}{s:Ac.St}{a:N}{v:Value}{sh:List Sh}{t t':Tr.St}
theorem ug(k:N)(w:Y)(h:iZ w c K κ m b s a v sh t)(B:t.pc=5)(hh:(t.head:V)<c.ag)(hz:m.am[8*t.head+2]?=some (bH (k:V)))(q:k<=512):C 278 #[I a 0,I K.mb 0] w (jI w c K κ b s a v sh true (λg t'=>g=m/\t'={t with n:=k,pc:=if k=0 then 9 else 6})):=by
 have H:=M h;have R:=M (aq hh hz);have l:=h.tr.kv;rw[B]at l;have p9:=h.tr.p9;clear h B hh hz;go_enter func278,ntmps278;go_wp2_with fail;refine bf 0 (λCq r=>?_);have HC:=M r;clear r;go_wp2_with fail;refine(Tr.eY t.head 2 K.mb K.mg m.am (bH (k:V)) w H.tr H.bU.bm.mem R.1 (by omega) R.2).mono ?_;rintro e Q⟨rfl,A,z⟩;obtain⟨S,s1⟩:=H.lF A z;have i:=M s1;have u:=M S;clear A z S s1 l p9;go_wp2_with fail;refine(eW (k:V) Q (by omega)).mono ?_;rintro e wq⟨rfl,rfl⟩;have p:=i.tr.rh;have E:=i.tr.fz;go_upto_region 12 with fail;have h2:=(i.tr.put 18 (J k) {t with n:=k} (λn=>⟨n,rfl⟩) ⟨rfl,rfl,rfl,rfl⟩);obtain⟨W,s2⟩:=i.my (Tr.dQ (bo Q) 18 (J k)) h2 (λk q=>q);have d:=M s2;have x:=M (u.trans W);clear h2 W s2;generalize(Q.setCell _ _)=w2 at *;clear p E i u;have p:=d.tr.rh;have l:=d.tr.kv;have E:=d.tr.fz;have d1:decide ((k:V)<0)=false:=dT (by omega);have d2:decide ((k:V)>512)=false:=dT (by omega);go_upto_region 15 with fail;have h4:=(d.tr.put 11 (J 6) {t with n:=k,pc:=6} (λn=>⟨n,rfl⟩) ⟨rfl,rfl,rfl,rfl⟩);obtain⟨X,s4⟩:=d.my (Tr.dQ (bo w2) 11 (J 6)) h4 (λk q=>q);have f:=M s4;have y:=M (x.trans X);clear h4 X s4;generalize(w2.setCell _ _)=w4 at *;clear l p E d x d1 d2;have l:=f.tr.kv;have p:=f.tr.rh;have E:=f.tr.fz;by_cases o:k=0
 ·have d3:((k:V)==0)=true:=by simp;omega
  have G:=M o;clear o;go_upto_region 17 with fail;have h5:=(f.tr.put 11 (J 9) {t with n:=k,pc:=9} (λn=>⟨n,rfl⟩) ⟨rfl,rfl,rfl,rfl⟩);obtain⟨e5,s5⟩:=f.my (Tr.dQ (bo w4) 11 (J 9)) h5 (λk q=>q);have P:=M s5;have F:=M (y.trans e5);clear h5 e5 s5;generalize(w4.setCell _ _)=w5 at *;go_wp2_with fail
  try simp only[cF]
  go_ret;exact⟨T,_,_,_,F,P,T,by simp[G.out]⟩
 ·have d3:((k:V)==0)=false:=by simp;omega
  have G:=M o;clear o;go_wp2_with fail
  try simp only[cF]
  go_ret;exact⟨T,_,_,_,y,f,T,by simp[G.out]⟩
theorem xT(l:N)(w:Y)(h:iZ w c K κ m b s a v sh t)(b2:t.pc=6)(hh:(t.head:V)<c.ag)(hz:m.am[8*t.head+3]?=some (bH (l:V)))(b7:l<=2)(a1:l=0↔bX (t.n:V)<=4)(b0:t.aC+t.j<=1000000):C 278 #[I a 0,I K.mb 0] w (jI w c K κ b s a v sh true (λg t'=>g=m/\t'=if l=0 then{t with mode:=0,pc:=8}else{t with mode:=l,pc:=7})):=by
 have HS:=M h;have HH:=M (aq hh hz);have x:=h.tr.kv;rw[b2]at x;have p9:=h.tr.p9;obtain⟨nn,a6⟩:∃nn,t.n=nn:=⟨_,T⟩;rw[a6]at a1;have HN:=M a6;obtain⟨dd,a5⟩:∃dd,bX (nn:V)=dd:=⟨_,T⟩;rw[a5]at a1;have a9:=M a5;clear h b2 hh hz a6 a5;have d1:decide ((l:V)<0)=false:=dT (by omega);have d2:decide ((l:V)>2)=false:=dT (by omega);have b3:=M b0;clear b0;by_cases B:l=0
 ·rw[af B];have d3:((l:V)==0)=true:=by simp;omega
  have d4:decide (dd<=4)=true:=fN (by omega);have a4:=M B;clear B a1;go_enter func278,ntmps278;go_wp2_with fail;refine bf 2 (λCq E=>?_);have HC:=M E;clear E;go_wp2_with fail;go_step3;refine cO ((ay (λd=>findLabel d 0) HC).trans T) ?_;go_wp2_with fail;refine(Tr.eY t.head 3 K.mb K.mg m.am (bH (l:V)) w HS.tr HS.bU.bm.mem HH.1 (by omega) HH.2).mono ?_;rintro e w1⟨rfl,W,Q⟩;obtain⟨e1,s1⟩:=HS.lF W Q;have p:=M s1;have F:=M e1;clear W Q e1 s1 x p9;go_wp2_with fail;refine(eW (l:V) w1 (by omega)).mono ?_;rintro e wq⟨rfl,rfl⟩;have i:=p.tr.xJ;have ff:=p.tr.fz;go_upto_region 22 with fail;have h2:=(p.tr.put 19 (J l) {t with mode:=l} (λn=>⟨n,rfl⟩) ⟨rfl,rfl,rfl,rfl⟩);obtain⟨e2,s2⟩:=p.my (Tr.dQ (bo w1) 19 (J l)) h2 (λk P=>P);have r:=M s2;have a2:=M (F.trans e2);clear h2 e2 s2;generalize(w1.setCell _ _)=w2 at *;clear i ff p F;have z:=r.tr.rh;simp only[HN.out]at z;have i:=r.tr.xJ;go_wp2_with fail;refine bB (λj=>ae w2 j) ((bo w2).drewN 1) (by kernel_rfl) (by kernel_rfl) ?_;intro S f _ u R;have a7:=λs=>(u s).aj z;have a8:=λs=>(u s).aj i;have HF:=M u;have H:=M R;clear u R z i
  repeat(go_big_quiet_step ((go_at_call 264;exact aN H (HF _) (λj hD k=>hD.MD k) (fS (a9▸gH (nn:V) _)))))
  refine wpQuiet_nil ?_;rintro w3⟨q,rfl⟩;have y:=HF q;clear a7 a8 HF H;generalize f q=w3 at *;have o:=M (r.pure y).2;have G:=M (a2.trans (r.pure y).1);clear y;have x:=o.tr.kv;have i:=o.tr.xJ;have ff:=o.tr.fz;go_upto_region 25 with fail;have h4:=(o.tr.put 11 (J 7) {t with mode:=l,pc:=7} (λn=>⟨n,rfl⟩) ⟨rfl,rfl,rfl,rfl⟩);obtain⟨e4,s4⟩:=o.my (Tr.dQ (bo w3) 11 (J 7)) h4 (λk P=>P);have A:=M s4;have a3:=M (G.trans e4);clear h4 e4 s4;generalize(w3.setCell _ _)=w4 at *;clear x i ff o G;have i:=A.tr.xJ;go_wp2_with fail;go_step3;refine cO ((ay (λd=>findLabel d 3) HC).trans T) ?_;clear HC;go_wp2_with fail;refine(Tr.lX w4 A.tr (by have:=b3.out;exact this)).mono ?_;rw[show Tr.jV {t with mode:=l,pc:=7}={t with mode:=l,pc:=8}by rw[Tr.jV,aa (by show l≠2;rw[a4.out];omega)]];rintro e w5⟨rfl,b1,h5⟩;obtain⟨e5,s5⟩:=A.my b1 h5 (λk P=>P);have X:=M s5;have b4:=M (a3.trans e5);clear b1 h5 e5 s5 i;have x:=X.tr.kv;have ff:=X.tr.fz;go_upto_region 38 with fail;have h6:=(X.tr.put 11 (J 8) {t with mode:=l,pc:=8} (λn=>⟨n,rfl⟩) ⟨rfl,rfl,rfl,rfl⟩);obtain⟨e6,s6⟩:=X.my (Tr.dQ (bo w5) 11 (J 8)) h6 (λk P=>P);have b6:=M s6;have b5:=M (b4.trans e6);clear h6 e6 s6;generalize(w5.setCell _ _)=w6 at *;go_wp2_with fail
  try simp only[cF]
  go_ret;exact⟨T,_,_,_,b5,b6,T,by rw[a4.out]⟩
 ·rw[aa B];have d3:((l:V)==0)=false:=by simp;omega
  have d4:decide (dd<=4)=false:=dT (by omega);have a4:=M B;clear B a1;go_enter func278,ntmps278;go_wp2_with fail;refine bf 1 (λCq E=>?_);have HC:=M E;clear E;go_wp2_with fail;go_step3;refine cO ((ay (λd=>findLabel d 0) HC).trans T) ?_;go_wp2_with fail;refine(Tr.eY t.head 3 K.mb K.mg m.am (bH (l:V)) w HS.tr HS.bU.bm.mem HH.1 (by omega) HH.2).mono ?_;rintro e w1⟨rfl,W,Q⟩;obtain⟨e1,s1⟩:=HS.lF W Q;have p:=M s1;have F:=M e1;clear W Q e1 s1 x p9;go_wp2_with fail;refine(eW (l:V) w1 (by omega)).mono ?_;rintro e wq⟨rfl,rfl⟩;have i:=p.tr.xJ;have ff:=p.tr.fz;go_upto_region 22 with fail;have h2:=(p.tr.put 19 (J l) {t with mode:=l} (λn=>⟨n,rfl⟩) ⟨rfl,rfl,rfl,rfl⟩);obtain⟨e2,s2⟩:=p.my (Tr.dQ (bo w1) 19 (J l)) h2 (λk P=>P);have r:=M s2;have a2:=M (F.trans e2);clear h2 e2 s2;generalize(w1.setCell _ _)=w2 at *;clear i ff p F;have z:=r.tr.rh;simp only[HN.out]at z;have i:=r.tr.xJ;go_wp2_with fail;refine bB (λj=>ae w2 j) ((bo w2).drewN 1) (by kernel_rfl) (by kernel_rfl) ?_;intro S f _ u R;have a7:=λs=>(u s).aj z;have a8:=λs=>(u s).aj i;have HF:=M u;have H:=M R;clear u R z i
  repeat(go_big_quiet_step ((go_at_call 264;exact aN H (HF _) (λj hD k=>hD.MD k) (fS (a9▸gH (nn:V) _)))))
  refine wpQuiet_nil ?_;rintro w3⟨q,rfl⟩;have y:=HF q;clear a7 a8 HF H;generalize f q=w3 at *;have o:=M (r.pure y).2;have G:=M (a2.trans (r.pure y).1);clear y;have x:=o.tr.kv;have i:=o.tr.xJ;have ff:=o.tr.fz;go_upto_region 25 with fail;have h4:=(o.tr.put 11 (J 7) {t with mode:=l,pc:=7} (λn=>⟨n,rfl⟩) ⟨rfl,rfl,rfl,rfl⟩);obtain⟨e4,s4⟩:=o.my (Tr.dQ (bo w3) 11 (J 7)) h4 (λk P=>P);have A:=M s4;have a3:=M (G.trans e4);clear h4 e4 s4;generalize(w3.setCell _ _)=w4 at *;clear x i ff o G;have i:=A.tr.xJ;go_wp2_with fail
  try simp only[cF]
  go_ret;exact⟨T,_,_,_,a3,A,T,T⟩
theorem oL(o:N)(w:Y)(h:iZ w c K κ m b s a v sh t)(a6:t.pc=7)(hm:t.mode=1)(hh:(t.head:V)<c.ag)(hz:m.am[8*t.head+4]?=some (bH (o:V)))(a1:(o:V)<8*c.ag+2*c.al+c.ap)(hj:t.j<=1000):C 278 #[I a 0,I K.mb 0] w (jI w c K κ b s a v sh true (λg t'=>g=m/\t'=Tr.jV {t with aC:=o})):=by
 obtain⟨A,cc,hv⟩:∃A cc,v=Z A sh.length cc:=by
  obtain⟨⟨A,cc,e,_⟩,_⟩:=h.tr.cH;exact⟨A,cc,e⟩
 subst hv;have b8:=db h.bU.bm.ok;have b5:0<=bX (t.n:V):=by unfold bX;split<;>omega
 have HS:=M h;have HH:=M (aq hh hz);have F:=h.tr.kv;rw[a6]at F;have p9:=h.tr.p9;obtain⟨dd,r⟩:∃dd,bX (t.n:V)=dd:=⟨_,T⟩
 try rw[r]at a1
 rw[r]at b5;have i1:o<=100000:=by omega
 obtain⟨nn,B⟩:∃nn,t.n=nn:=⟨_,T⟩;have HN:=M B;rw[B]at r;have b7:=M r;have HM:=M hm;have a8:Hid (o+t.j<=1000000):=M (by omega);have i2:dd<=64:=by rw[<-r];unfold bX;split<;>omega
 clear h a6 hh hz hj r B hm;go_enter func278,ntmps278;go_wp2_with fail;refine bf 1 (λCq P=>?_);have HC:=M P;clear P;go_wp2_with fail;go_step3;refine cO ((ay (λd=>findLabel d 1) HC).trans T) ?_;go_wp2_with fail;refine(Tr.eY t.head 4 K.mb K.mg m.am (bH (o:V)) w HS.tr HS.bU.bm.mem HH.1 (by omega) HH.2).mono ?_;rintro e w1⟨rfl,a4,a2⟩;obtain⟨e1,s1⟩:=HS.lF a4 a2;have p:=M s1;have Q:=M e1;clear a4 a2 e1 s1 F p9;have a7:=p.tr.xJ;rw[HM.out]at a7;go_wp2_with fail;refine(eW (o:V) w1 (by omega)).mono ?_;rintro e wq⟨rfl,rfl⟩;have x:=p.tr.Fc;have ff:=p.tr.fz;go_upto_region 32 with fail;have H:=(p.tr.put 20 (J o) {t with aC:=o} (λn=>⟨n,rfl⟩) ⟨rfl,rfl,rfl,rfl⟩);obtain⟨e2,s2⟩:=p.my (Tr.dQ (bo w1) 20 (J o)) H (λk y=>y);have i:=M s2;have a9:=M (Q.trans e2);clear H e2 s2;generalize(w1.setCell _ _)=w2 at *;clear a7 x ff p Q;have x:=i.tr.Fc;have p0:=i.tr.p0;have p1:=i.tr.p1;have p2:=i.tr.p2;have p3:=i.tr.p3;have p4:=i.tr.p4;have p5:=i.tr.p5;have p6:=i.tr.p6;have p7:=i.tr.p7;have p8:=i.tr.p8;have b4:Hid (z0 c sh+z1 c sh+z1 c sh+z3 c sh=8*c.ag+2*c.al+c.ap):=M (by have:=nQ i.bU.bm.ok;have H:=nQ i.tr.ok;rw[H.1,H.2.1,H.2.2];omega);have d1:decide ((o:V)<0)=false:=dT (by omega);have d2:decide ((o:V)>=8*c.ag+2*c.al+c.ap)=false:=dT (by omega);clear a1;go_wp2_with fail;refine bB (λj=>ae w2 j) ((bo w2).drewN 1) (by kernel_rfl) (by kernel_rfl) ?_;intro S f _ l a3;have b6:=λs=>(l s).aj x;have q0:=λs=>(l s).aj p0;have q1:=λs=>(l s).aj p1;have q2:=λs=>(l s).aj p2;have q3:=λs=>(l s).aj p3;have q4:=λs=>(l s).aj p4;have q5:=λs=>(l s).aj p5;have q6:=λs=>(l s).aj p6;have q7:=λs=>(l s).aj p7;have q8:=λs=>(l s).aj p8;have HF:=M l;have W:=M a3;clear l a3 x p0 p1 p2 p3 p4 p5 p6 p7 p8
 repeat(go_big_quiet_step ((go_at_call 45;exact aN W (HF _) (λj hD k=>hD.MD k) (b4▸kB c _ sh _ (i.tr.pure (HF _)).cH))))
 refine wpQuiet_nil ?_;rintro w3⟨q,rfl⟩;have E:=HF q;clear b6 q0 q1 q2 q3 q4 q5 q6 q7 q8 HF W;generalize f q=w3 at *;have X:=M (i.pure E).2;have b0:=M (a9.trans (i.pure E).1);clear E;go_wp2_with fail
 try go_step3
 go_wp2_with fail;refine(Tr.lX w3 X.tr a8).mono ?_;obtain⟨G,z⟩:∃G,Tr.jV {t with aC:=o}=G:=⟨_,rfl⟩;rw[z];have R:=M z;clear z;rintro e w8⟨rfl,a5,h8⟩;obtain⟨e8,s8⟩:=X.my a5 h8 (λk y=>by rw[<-R.out]at y;unfold Tr.jV at y;split at y<;>exact y);have u:=M s8;have b1:=M (b0.trans e8);clear a5 h8 e8 s8;have F:=u.tr.kv;have ff:=u.tr.fz;go_upto_region 38 with fail;have h9:=(u.tr.put 11 (J G.pc) G (λn=>⟨n,T⟩) ⟨T,T,T,T⟩);obtain⟨e9,s9⟩:=u.my (Tr.dQ (bo w8) 11 (J G.pc)) h9 (λk y=>y);have b3:=M s9;have b2:=M (b1.trans e9);clear h9 e9 s9;generalize(w8.setCell _ _)=w9 at *;go_wp2_with fail
 try simp only[cF]
 go_ret;exact⟨T,_,_,_,b2,b3,T,R.symm⟩
theorem oK(i:N)(w:Y)(h:iZ w c K κ m b s a v sh t)(a7:t.pc=7)(hm:t.mode=2)(hh:(t.head:V)<c.ag)(hz:m.am[8*t.head+4]?=some (bi i))(a2:(i:V)+bX (t.n:V)<=c.ag)(hj:t.j<=1000):C 278 #[I a 0,I K.mb 0] w (jI w c K κ b s a v sh true (λg t'=>g=m/\t'=Tr.jV {t with aC:=i})):=by
 obtain⟨A,cc,hv⟩:∃A cc,v=Z A sh.length cc:=by
  obtain⟨⟨A,cc,e,_⟩,_⟩:=h.tr.cH;exact⟨A,cc,e⟩
 subst hv;have b9:=db h.bU.bm.ok;have b6:0<=bX (t.n:V):=by unfold bX;split<;>omega
 have HS:=M h;have HH:=M (aq hh hz);have F:=h.tr.kv;rw[a7]at F;have p9:=h.tr.p9;obtain⟨H,o⟩:∃H,bX (t.n:V)=H:=⟨_,T⟩
 try rw[o]at a2
 rw[o]at b6;have i1:i<=100000:=by omega
 obtain⟨nn,B⟩:∃nn,t.n=nn:=⟨_,T⟩;have HN:=M B;rw[B]at o;have b0:=M o;have HM:=M hm;have a9:Hid (i+t.j<=1000000):=M (by omega);have i2:H<=64:=by rw[<-o];unfold bX;split<;>omega
 clear h a7 hh hz hj o B hm;go_enter func278,ntmps278;go_wp2_with fail;refine bf 1 (λCq Q=>?_);have HC:=M Q;clear Q;go_wp2_with fail;go_step3;refine cO ((ay (λd=>findLabel d 1) HC).trans T) ?_;go_wp2_with fail;refine(Tr.eY t.head 4 K.mb K.mg m.am (bi i) w HS.tr HS.bU.bm.mem HH.1 (by omega) HH.2).mono ?_;rintro e w1⟨rfl,a5,a3⟩;obtain⟨e1,s1⟩:=HS.lF a5 a3;have l:=M s1;have R:=M e1;clear a5 a3 e1 s1 F p9;have a8:=l.tr.xJ;rw[HM.out]at a8;go_wp2_with fail;refine(ij i w1 (by omega)).mono ?_;rintro e wq⟨rfl,rfl⟩;have x:=l.tr.Fc;have ff:=l.tr.fz;go_upto_region 35 with fail;have h2:=(l.tr.put 20 (J i) {t with aC:=i} (λn=>⟨n,rfl⟩) ⟨rfl,rfl,rfl,rfl⟩);obtain⟨e2,s2⟩:=l.my (Tr.dQ (bo w1) 20 (J i)) h2 (λk y=>y);have p:=M s2;have b1:=M (R.trans e2);clear h2 e2 s2;generalize(w1.setCell _ _)=w2 at *;clear a8 x ff l R;have p0:=p.tr.p0;have G:=p.tr.rh;have x:=p.tr.Fc;rw[show(({t with aC:=i}:Tr.St).n:V)=(nn:V)by rw[<-HN.out]]at G;have d2:decide ((i:V)+H>c.ag)=false:=dT (by omega);have c2:IntKind.i64.wrap ((i:V)+H)=(i:V)+H:=by rw[aP];omega
 clear a2;go_wp2_with fail;refine bB (λj=>ae w2 j) ((bo w2).drewN 1) (by kernel_rfl) (by kernel_rfl) ?_;intro S f _ r a4;have q0:=λs=>(r s).aj p0;have b7:=λs=>(r s).aj G;have b8:=λs=>(r s).aj x;have HF:=M r;have X:=M a4;clear r a4 p0 G x
 repeat(go_big_quiet_step ((go_at_call 264;exact aN X (HF _) (λj hD k=>hD.MD k) (fS (b0▸gH (nn:V) _)))))
 refine wpQuiet_nil ?_;rintro w3⟨q,rfl⟩;have E:=HF q;clear q0 b7 b8 HF X;generalize f q=w3 at *;have a1:=M (p.pure E).2;have b2:=M (b1.trans (p.pure E).1);clear E;go_wp2_with fail
 try go_step3
 go_wp2_with fail;refine(Tr.lX w3 a1.tr a9).mono ?_;obtain⟨P,z⟩:∃P,Tr.jV {t with aC:=i}=P:=⟨_,rfl⟩;rw[z];have W:=M z;clear z;rintro e w8⟨rfl,a6,h8⟩;obtain⟨e8,s8⟩:=a1.my a6 h8 (λk y=>by rw[<-W.out]at y;unfold Tr.jV at y;split at y<;>exact y);have u:=M s8;have b3:=M (b2.trans e8);clear a6 h8 e8 s8;have F:=u.tr.kv;have ff:=u.tr.fz;go_upto_region 38 with fail;have h9:=(u.tr.put 11 (J P.pc) P (λn=>⟨n,T⟩) ⟨T,T,T,T⟩);obtain⟨e9,s9⟩:=u.my (Tr.dQ (bo w8) 11 (J P.pc)) h9 (λk y=>y);have b5:=M s9;have b4:=M (b3.trans e9);clear h9 e9 s9;generalize(w8.setCell _ _)=w9 at *;go_wp2_with fail
 try simp only[cF]
 go_ret;exact⟨T,_,_,_,b4,b5,T,W.symm⟩
theorem oM(i:N)(w:Y)(h:iZ w c K κ m b s a v sh t)(y:t.pc=8)(hm:t.mode=0)(hh:(t.head:V)<c.ag)(hj:t.j<4)(hz:m.am[8*t.head+(4+t.j)]?=some (bi i))(hi:(i:V)<c.ag):C 278 #[I a 0,I K.mb 0] w (jI w c K κ b s a v sh true (λg t'=>g=m/\t'={t with fP:=i,pc:=4})):=by
 have R:i<=1000000:=by have:=db h.bU.bm.ok;omega
 have F:=M h;have l:=h.tr.kv;rw[y]at l;have E:=h.tr.xJ;rw[hm]at E;have B:=h.tr.qC;obtain⟨z,x⟩:∃z,t.j=z:=⟨_,T⟩;rw[x]at B hj hz;have p9:=h.tr.p9;have HH:=M (aq hh hz);clear h y hm hh hz x;go_enter func278,ntmps278;go_wp2_with fail;refine bf 1 (λCq r=>?_);have HC:=M r;clear r;go_wp2_with fail;go_step3;refine cO ((ay (λd=>findLabel d 2) HC).trans T) ?_;clear l;have a1:IntKind.i64.wrap (4+(z:V))=4+(z:V):=by rw[aP];omega
 go_upto_region 40 with fail;go_cut [5,7] (λs5 s7 wx=>s5=U (bi i).1 (bi i).2/\s7=L true/\ac (λk=>k=K.mb) w wx/\Mm.At wx K.mb K.mg m.am)
 case first =>
  go_region_with (go_at_call 276;refine(Tr.eY t.head (4+z) K.mb K.mg m.am (bi i) _ F.drew.tr F.drew.bU.bm.mem HH.1 (by omega) HH.2).mono ?_;rintro e G⟨rfl,W,S⟩)
  all_goals
   go_wp2_with fail;go_meet;exact⟨T,T,((ac.refl (λk=>k=K.mb) w).drewN 1).trans W (λ_ _ h=>h),S⟩
 case rest =>
  obtain⟨rfl,rfl,q,p⟩:=hcut;have f:=M (F.lF q p).2;have u:=M (F.lF q p).1;clear q p E B p9;generalize wc=X at *;go_wp2_with fail;refine(ij i X R).mono ?_;rintro e wq⟨rfl,rfl⟩;have A:=f.tr.rf;have l:=f.tr.kv;have ff:=f.tr.fz;go_upto_region 47 with fail;have h2:=((f.tr.put 14 (J i) {t with fP:=i} (λn=>⟨n,rfl⟩) ⟨rfl,rfl,rfl,rfl⟩).put 11 (J 4) {t with fP:=i,pc:=4} (λn=>⟨n,rfl⟩) ⟨rfl,rfl,rfl,rfl⟩);obtain⟨e2,s2⟩:=f.my (Tr.dQ (Tr.dQ (bo X) 14 (J i)) 11 (J 4)) h2 (λk hk=>hk);have o:=M s2;have H:=M (u.trans e2);clear h2 e2 s2;generalize((X.setCell _ _).setCell _ _)=G at *;clear A l ff f u;have p0:=o.tr.p0;have A:=o.tr.rf;have d1:decide ((i:V)<c.ag)=true:=fN hi;go_wp2_with fail;go_quiet (fail);have Q:=M (o.pure ((ck G).drewN nq)).2;have P:Hid (aG CX w κ (G.drewN nq) κ):=M (H.trans (aG.pure ((ck G).drewN nq)));go_wp2_with fail
  try simp only[cF]
  go_ret;exact⟨T,_,_,_,P,Q,T,T⟩
theorem oO(i:N)(w:Y)(h:iZ w c K κ m b s a v sh t)(H:t.pc=8)(hm:t.mode=1)(hj:t.j<=1000)(hb:t.aC<=100000)(hz:m.am[t.aC+2+t.j]?=some (bi i))(hi:(i:V)<c.ag):C 278 #[I a 0,I K.mb 0] w (jI w c K κ b s a v sh true (λg t'=>g=m/\t'={t with fP:=i,pc:=4})):=by
 have a4:i<=1000000:=by have:=db h.bU.bm.ok;omega
 have HS:=M h;have o:=h.tr.kv;rw[H]at o;have R:=h.tr.xJ;rw[hm]at R;have Q:=h.tr.qC;obtain⟨q,E⟩:∃q,t.j=q:=⟨_,T⟩;rw[E]at Q hj hz;have S:=h.tr.Fc;obtain⟨l,z⟩:∃l,t.aC=l:=⟨_,T⟩;rw[z]at S hb hz;have HH:=M hz;clear h H hm hz E z;go_enter func278,ntmps278;go_wp2_with fail;refine bf 1 (λCq r=>?_);have HC:=M r;clear r;go_wp2_with fail;go_step3;refine cO ((ay (λd=>findLabel d 2) HC).trans T) ?_;clear o;obtain⟨W,y⟩:∃W,l+2+q=W:=⟨_,T⟩;have HA:Hid ((l:V)+2+(q:V)=(W:V)):=M (by omega);rw[y]at HH;clear y;have a5:IntKind.i64.wrap ((l:V)+2)=(l:V)+2:=by rw[aP];omega
 have a6:IntKind.i64.wrap ((l:V)+2+(q:V))=(l:V)+2+(q:V):=by rw[aP];omega
 go_upto_region 41 with fail;go_cut [5,6] (λs5 s6 wx=>s5=U (bi i).1 (bi i).2/\s6=J 0/\aG CX w κ wx κ/\iZ wx c K κ m b s a v sh t)
 case first =>
  go_region_with (go_at_call 97;refine(HA▸aW.read W (bi i) _ HS.drew.bU.bm HH:Calls _ _ #[_,J ((l:V)+2+(q:V))] _ _).mono ?_;rintro e X⟨rfl,B,A⟩;have x:=M (HS.drew.cJ B A);clear B A)
  all_goals
   go_wp2_with fail;go_meet;exact⟨T,T,(aG.pure ((ck w).drewN 1)).trans x.1,x.2⟩
 case rest =>
  obtain⟨rfl,rfl,G,F⟩:=hcut;have f:=M F;have u:=M G;clear G F R Q S;generalize wc=w1 at *;go_wp2_with fail;refine(ij i w1 a4).mono ?_;rintro e wq⟨rfl,rfl⟩;have P:=f.tr.rf;have o:=f.tr.kv;have ff:=f.tr.fz;go_upto_region 47 with fail;have h2:=((f.tr.put 14 (J i) {t with fP:=i} (λn=>⟨n,rfl⟩) ⟨rfl,rfl,rfl,rfl⟩).put 11 (J 4) {t with fP:=i,pc:=4} (λn=>⟨n,rfl⟩) ⟨rfl,rfl,rfl,rfl⟩);obtain⟨e2,s2⟩:=f.my (Tr.dQ (Tr.dQ (bo w1) 14 (J i)) 11 (J 4)) h2 (λk hk=>hk);have p:=M s2;have a1:=M (u.trans e2);clear h2 e2 s2;generalize((w1.setCell _ _).setCell _ _)=X at *;clear P o ff f u;have p0:=p.tr.p0;have P:=p.tr.rf;have d1:decide ((i:V)<c.ag)=true:=fN hi;go_wp2_with fail;go_quiet (fail);have a3:=M (p.pure ((ck X).drewN nq)).2;have a2:Hid (aG CX w κ (X.drewN nq) κ):=M (a1.trans (aG.pure ((ck X).drewN nq)));go_wp2_with fail
  try simp only[cF]
  go_ret;exact⟨T,_,_,_,a2,a3,T,T⟩
