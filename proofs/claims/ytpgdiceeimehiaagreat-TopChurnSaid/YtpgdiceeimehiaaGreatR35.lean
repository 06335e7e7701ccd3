/- Part 35 of the proof of spotop.TopChurn. -/
import Derived.Test.YtpgdiceeimehiaaGreatR25
import Derived.Test.YtpgdiceeimehiaaGreatR29
set_option maxRecDepth 100000
set_option maxHeartbeats 16000000
set_option linter.all false
open Go.Proofs.Tryz
namespace Go.Proofs.YtpgdiceeimehiaaGreat
open RowKit
section
section
variable{w:Y}{c:Cn}{K:aW.Q}{κ:N->N}{m:aW.St}{b:Ac.B}{s:Ac.St}{a:N}{y:dw.St}
theorem yI(i g j:N)(w:Y)(h:fM w c K κ m b s a y)(G:y.aM=0)(hi:y.i=i)(hg:c.ap=(g:V))(b0:i<g)(F:8*c.ag+2*c.al+(i:V)=(j:V))(hz:m.am[j]?=some bD):C 59 #[I a 0,I K.kb 0] w (dU w c K κ b s a (.tuple #[]) (λ_ _ m' y'=>m'=m/\y'={y with head:=0,aM:=0,i:=i+1})):=by
 have o:=M h;have a2:Hid (aG CY w κ w κ):=M (aG.refl _ _ _);have HI:=M hi;have R:=M (aq hg F);have HZ:=M hz;have p1:=h.bL.p1;rw[G]at p1;have r:=h.bL.p2;rw[hi]at r;clear h hg F hz;go_enter func59,ntmps59;clear G hi;have a6:decide ((g:V)<=(i:V))=false:=by simp;omega
 have a7:decide (g<=i)=false:=by simp;omega
 have S:=(o.bU.bm.qc).2.2.1;rw[R.out.1]at S;go_wp2_with fail;refine bf 0 (λCq u=>?_);have HC:=M u;clear u;go_wp2_with fail;go_quiet (fail);have d:=M (o.pure ((ck w).drewN nq));have a3:Hid (aG CY w κ (w.drewN nq) κ):=M (aG.pure ((ck w).drewN nq));clear p1 r S o a2;generalize w.drewN nq=Q at *;obtain⟨Av,cv,p⟩:∃A cc,K.cv=Z A K.ba.length cc:=by
  obtain⟨⟨A,cc,h,_⟩,_⟩:=d.bU.bm.cH;exact⟨A,cc,h⟩
 have a1:=M p;obtain⟨k0,k1,S,k3,k4,k5,k6,k7,k8⟩:=d.bU.bm.qc;rw[p]at k8;have r:=d.bL.p2;rw[HI.out]at r;have W:=d.bL.p3;have ff:=d.bL.fz;clear p;go_upto_region 6 with fail;go_cut [5] (λs5 X=>s5=J 0/\∃z,ae Q z/\X=z.setCell (I a 3) (J j))
 case first =>
  go_region_with (first|(go_at_call 50;refine(a1▸pT c _ K.ba i _ d.drew.bU.bm.cH d.bU.bm.ok (by omega) (by rw[R.out.1];omega)).mono ?_;rw[show 8*c.ag+2*c.al+(i:V)=(j:V)from by have:=R.out.2;omega];rintro e w7⟨rfl,H⟩;have t:=d.pure (ae.MD (b:=Q.drew) ((ck Q).drewN 1) H);have d3:=t.bL.p3;have dz:=t.bL.fz;clear t))
  all_goals
   go_wp2_with fail;go_meet;exact⟨T,_,ae.MD (b:=Q.drew) ((ck Q).drewN 1) H,T⟩
 case rest =>
  obtain⟨rfl,z,q,rfl⟩:=hcut;have t:=d.pure q;have h8:=t.bL.put 3 (J j) {y with head:=(j:V)} (λ_ _ _=>⟨_,_,_,rfl⟩);obtain⟨e8,s8⟩:=t.dN (dw.cj (bo z) 3 (J j)) h8;have k:=M s8;have a4:=M (a3.trans ((aG.pure (Cq:=CY) (κ:=κ) q).trans e8));clear t h8 e8 s8 q k0 k1 S k3 k4 k5 k6 k7 k8 r W ff;generalize z.setCell _ _=w8 at *;have q9:=k.bU.bm.q9;have W:w8.cell? (I a 3)=some (J j):=k.bL.p3;go_upto_region 8 with fail;go_cut [4,5] (λs4 s5 X=>s4=U bD.1 bD.2/\s5=J 0/\aG aW.C5 w8 κ X κ/\aW.At X c K κ m)
  case first =>
   go_region_with (first|(go_at_call 97;refine(aW.read j (bD) _ k.drew.bU.bm HZ).mono ?_;rintro e w9⟨rfl,n,l⟩))
   all_goals
    go_wp2_with fail;go_meet;exact⟨T,T,(aG.pure ((ck w8).drewN 1)).trans n,l⟩
  case rest =>
   obtain⟨rfl,rfl,n,l⟩:=hcut;obtain⟨e9,s9⟩:=k.cJ n l;have f:=M s9;have a5:=M (a4.trans e9);clear n l e9 s9 q9 W;go_wp2_with fail;refine(index_none _).mono ?_;rintro e b1⟨rfl,rfl⟩;have W:=f.bL.p3;have p1:=f.bL.p1;have r:=f.bL.p2;rw[HI.out]at r;have a8:(0:V)<=(i:V):=by omega
   have a9:(i:V)<=1000:=by have:=db f.bU.bm.ok;have:=R.1;omega
   have ff:=f.bL.fz;have E:=((f.bL.put 3 (J 0) {y with head:=0} (λ_ _ _=>⟨_,_,_,rfl⟩)).put 1 (J 0) {y with head:=0,aM:=0} (λ_ _ _=>⟨_,_,_,rfl⟩)).put 2 (J ((i:V)+1)) {y with head:=0,aM:=0,i:=i+1} (λ_ _ _=>⟨_,_,_,rfl⟩);obtain⟨B,P⟩:=f.dN (dw.cj (dw.cj (dw.cj (bo wc) 3 (J 0)) 1 (J 0)) 2 (J ((i:V)+1))) E;have x:=M P;have v:=M (a5.trans B);clear E B P;go_wp2_with fail;go_step3;go_wp2_with fail
   try(first|simp only[gz]|simp only[cF])
   go_end0;exact⟨T,_,_,_,v,x,T,T⟩
theorem qN(w:Y)(h:fM w c K κ m b s a y)(j:y.aM=0)(H n g:N)(z:V)(G:y.i=g)(ht:c.ao=(n:V))(hz:m.bA[0]?=some z)(W:H=if(z==-1||z==m.st)=true then 0+1 else 0)(hn:0<n/\n<=16)(X:decide (H=n)=true)(hg:c.ap=(g:V)):C 59 #[I a 0,I K.kb 0] w (dU w c K κ b s a (.tuple #[]) (λ_ _ m' y'=>m'=m/\y'={y with dp:=5,aM:=0,i:=0})):=by
 have f:=M h;have t:Hid (aG CY w κ w κ):=M (aG.refl _ _ _);have HI:=M G;have q:=M j;have HG:=M hg;have l:=M (aq ht (aq hz (aq W (aq hn X))));have o:=h.bL.p1;rw[j]at o;have p:=h.bL.p2;rw[G]at p;clear h hg ht hz W hn X;go_enter func59,ntmps59;clear j G;have k2:=(f.bU.bm.qc).2.2.1;rw[HG.out]at k2;go_wp2_with fail;refine bf 1 (λCq k=>?_);have P:=M k;clear k;go_wp2_with fail;go_quiet (fail);have e:=M (f.pure ((ck w).drewN nq));have u:Hid (aG CY w κ (w.drewN nq) κ):=M (aG.pure ((ck w).drewN nq));clear o p k2 f t;generalize w.drewN nq=w1 at *;go_wp2_with fail;go_step3;refine cO ((ay (λd=>findLabel d 1) P).trans T) ?_;clear P;have o:=e.bL.p1;rw[q.out]at o;have p:=e.bL.p2;have ff:=e.bL.fz;go_upto_region 18 with fail;obtain⟨Q,s2⟩:=e.dN (dw.cj (dw.cj (bo w1) 1 (J 1)) 2 (J 0)) ((e.bL.put 1 (J 1) {y with aM:=1} (λ_ _ _=>⟨_,_,_,rfl⟩)).put 2 (J 0) {y with aM:=1,i:=0} (λ_ _ _=>⟨_,_,_,rfl⟩));have B:=M s2;have v:=M (u.trans Q);clear Q s2;clear o p ff;generalize((w1.setCell _ _).setCell _ _)=w2 at *;go_wp2_with fail;refine(gN w2 B 0 H n z T l.1 l.2.1 l.2.2.1 l.2.2.2.1 true l.2.2.2.2).mono ?_;rintro r w5⟨rfl,a1,m5,y5,R,s5,rfl,rfl⟩;have E:=M s5;have x:=M (v.trans R);clear R s5;go_wp2_with fail;refine(ii (5) w5 E).mono ?_;rintro r w6⟨rfl,a2,m6,y6,S,s6,rfl,rfl,rfl⟩;have F:=M s6;have A:=M (x.trans S);clear S s6;go_wp2_with fail
 first|simp only[gz]|simp only[cF]
 go_end0;exact⟨T,_,_,_,A,F,T,T⟩
theorem qO(w:Y)(h:fM w c K κ m b s a y)(j:y.aM=1)(i P n g:N)(z:V)(H:y.i=i)(ht:c.ao=(n:V))(hz:m.bA[i]?=some z)(W:P=if(z==-1||z==m.st)=true then i+1 else i)(hn:i<n/\n<=16)(X:decide (P=n)=true)(hg:c.ap=(g:V)):C 59 #[I a 0,I K.kb 0] w (dU w c K κ b s a (.tuple #[]) (λ_ _ m' y'=>m'=m/\y'={y with dp:=5,aM:=0,i:=0})):=by
 have f:=M h;have u:Hid (aG CY w κ w κ):=M (aG.refl _ _ _);have HI:=M H;have t:=M j;have HG:=M hg;have l:=M (aq ht (aq hz (aq W (aq hn X))));have p:=h.bL.p1;rw[j]at p;have q:=h.bL.p2;rw[H]at q;clear h hg ht hz W hn X;go_enter func59,ntmps59;clear j H;have k2:=(f.bU.bm.qc).2.2.1;rw[HG.out]at k2;rcases Nat.lt_or_ge i g with o|o
 case' inl =>
  have F:decide ((g:V)<=(i:V))=false:=by simp;omega
  have G:decide (g<=i)=false:=by simp;omega
 case' inr =>
  have F:decide ((g:V)<=(i:V))=true:=by simp;omega
  have G:decide (g<=i)=true:=by simp;omega
 all_goals
  clear o;go_wp2_with fail;refine bf 1 (λCq k=>?_);have Q:=M k;clear k;go_wp2_with fail;go_quiet (fail);have e:=M (f.pure ((ck w).drewN nq));have v:Hid (aG CY w κ (w.drewN nq) κ):=M (aG.pure ((ck w).drewN nq));clear p q k2 f u;generalize w.drewN nq=w1 at *;go_wp2_with fail;go_step3;refine cO ((ay (λd=>findLabel d 1) Q).trans T) ?_;clear Q;have p:=e.bL.p1;rw[t.out]at p;have q:=e.bL.p2;have ff:=e.bL.fz;clear q ff;go_wp2_with fail;refine(gN w1 e i P n z HI l.1 l.2.1 l.2.2.1 l.2.2.2.1 true l.2.2.2.2).mono ?_;rintro r w5⟨rfl,a1,m5,y5,R,s5,rfl,rfl⟩;have B:=M s5;have x:=M (v.trans R);clear R s5;go_wp2_with fail;refine(ii (5) w5 B).mono ?_;rintro r w6⟨rfl,a2,m6,y6,S,s6,rfl,rfl,rfl⟩;have E:=M s6;have A:=M (x.trans S);clear S s6;go_wp2_with fail
  first|simp only[gz]|simp only[cF]
  go_end0;exact⟨T,_,_,_,A,E,T,T⟩
theorem ng(w:Y)(h:fM w c K κ m b s a y)(j:y.aM=0)(p n g:N)(z:V)(F:y.i=g)(X:c.ao=(n:V))(hz:m.bA[0]?=some z)(Q:p=if(z==-1||z==m.st)=true then 0+1 else 0)(W:0<n/\n<=16)(R:decide (p=n)=false)(S:c.ap=(g:V)):C 59 #[I a 0,I K.kb 0] w (dU w c K κ b s a (.tuple #[]) (λ_ _ m' y'=>m'=m/\y'={y with aM:=1,i:=p})):=by
 have f:=M h;have u:Hid (aG CY w κ w κ):=M (aG.refl _ _ _);have HI:=M F;have t:=M j;have HG:=M S;have l:=M (aq X (aq hz (aq Q (aq W R))));have o:=h.bL.p1;rw[j]at o;have q:=h.bL.p2;rw[F]at q;clear h S X hz Q W R;go_enter func59,ntmps59;clear j F;have k2:=(f.bU.bm.qc).2.2.1;rw[HG.out]at k2;go_wp2_with fail;refine bf 1 (λCq k=>?_);have G:=M k;clear k;go_wp2_with fail;go_quiet (fail);have e:=M (f.pure ((ck w).drewN nq));have v:Hid (aG CY w κ (w.drewN nq) κ):=M (aG.pure ((ck w).drewN nq));clear o q k2 f u;generalize w.drewN nq=w1 at *;go_wp2_with fail;go_step3;refine cO ((ay (λd=>findLabel d 1) G).trans T) ?_;clear G;have o:=e.bL.p1;rw[t.out]at o;have q:=e.bL.p2;have ff:=e.bL.fz;go_upto_region 18 with fail;obtain⟨H,s2⟩:=e.dN (dw.cj (dw.cj (bo w1) 1 (J 1)) 2 (J 0)) ((e.bL.put 1 (J 1) {y with aM:=1} (λ_ _ _=>⟨_,_,_,rfl⟩)).put 2 (J 0) {y with aM:=1,i:=0} (λ_ _ _=>⟨_,_,_,rfl⟩));have B:=M s2;have x:=M (v.trans H);clear H s2;clear o q ff;generalize((w1.setCell _ _).setCell _ _)=w2 at *;go_wp2_with fail;refine(gN w2 B 0 p n z T l.1 l.2.1 l.2.2.1 l.2.2.2.1 false l.2.2.2.2).mono ?_;rintro r w5⟨rfl,a1,m5,y5,P,s5,rfl,rfl⟩;have E:=M s5;have A:=M (x.trans P);clear P s5;go_wp2_with fail
 first|simp only[gz]|simp only[cF]
 go_end0;exact⟨T,_,_,_,A,E,T,T⟩
theorem nh(w:Y)(h:fM w c K κ m b s a y)(j:y.aM=1)(i p n g:N)(z:V)(G:y.i=i)(X:c.ao=(n:V))(hz:m.bA[i]?=some z)(Q:p=if(z==-1||z==m.st)=true then i+1 else i)(W:i<n/\n<=16)(R:decide (p=n)=false)(S:c.ap=(g:V)):C 59 #[I a 0,I K.kb 0] w (dU w c K κ b s a (.tuple #[]) (λ_ _ m' y'=>m'=m/\y'={y with i:=p})):=by
 have f:=M h;have v:Hid (aG CY w κ w κ):=M (aG.refl _ _ _);have HI:=M G;have u:=M j;have HG:=M S;have l:=M (aq X (aq hz (aq Q (aq W R))));have q:=h.bL.p1;rw[j]at q;have t:=h.bL.p2;rw[G]at t;clear h S X hz Q W R;go_enter func59,ntmps59;clear j G;have k2:=(f.bU.bm.qc).2.2.1;rw[HG.out]at k2;rcases Nat.lt_or_ge i g with o|o
 case' inl =>
  have E:decide ((g:V)<=(i:V))=false:=by simp;omega
  have F:decide (g<=i)=false:=by simp;omega
 case' inr =>
  have E:decide ((g:V)<=(i:V))=true:=by simp;omega
  have F:decide (g<=i)=true:=by simp;omega
 all_goals
  clear o;go_wp2_with fail;refine bf 1 (λCq k=>?_);have H:=M k;clear k;go_wp2_with fail;go_quiet (fail);have e:=M (f.pure ((ck w).drewN nq));have x:Hid (aG CY w κ (w.drewN nq) κ):=M (aG.pure ((ck w).drewN nq));clear q t k2 f v;generalize w.drewN nq=w1 at *;go_wp2_with fail;go_step3;refine cO ((ay (λd=>findLabel d 1) H).trans T) ?_;clear H;have q:=e.bL.p1;rw[u.out]at q;have t:=e.bL.p2;have ff:=e.bL.fz;clear t ff;go_wp2_with fail;refine(gN w1 e i p n z HI l.1 l.2.1 l.2.2.1 l.2.2.2.1 false l.2.2.2.2).mono ?_;rintro r w5⟨rfl,a1,m5,y5,P,s5,rfl,rfl⟩;have B:=M s5;have A:=M (x.trans P);clear P s5;go_wp2_with fail
  first|simp only[gz]|simp only[cF]
  go_end0;exact⟨T,_,_,_,A,B,T,T⟩
