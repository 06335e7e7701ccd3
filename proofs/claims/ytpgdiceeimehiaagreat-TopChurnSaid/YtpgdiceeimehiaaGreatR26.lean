/- Part 26 of the proof of spotop.TopChurn. -/
import Derived.Test.YtpgdiceeimehiaaGreatR25
set_option maxRecDepth 100000
set_option maxHeartbeats 16000000
set_option linter.all false
open Go.Proofs.Tryz
namespace Go.Proofs.YtpgdiceeimehiaaGreat
open RowKit
section
section
variable{w:Y}{c:Cn}{K:aW.Q}{κ:N->N}{m:aW.St}{b:Ac.B}{s:Ac.St}{yb:N}{y:dw.St}
theorem yt(w:Y)(h:fM w c K κ m b s yb y)(f:y.aM=0)(v:m.xs=[]):C 60 #[I yb 0,I K.kb 0] w (dU w c K κ b s yb (.tuple #[]) (λ_ _ B y'=>B=m/\y'={y with head:=0,aM:=5})):=by
 have d:=M h;have j:Hid (aG CY w κ w κ):=M (aG.refl _ _ _);have A:=M v;have o:=h.bL.p1;rw[f]at o;clear h v;go_enter func60,ntmps60;clear f;have p:=d.bU.bm.wV;go_wp2_with fail;refine bf 0 (λG e=>?_);have H:=M e;clear e;go_wp2_with fail;refine(aW.uQ w d.bU.bm A).mono ?_;rintro r E⟨rfl,F,i,g⟩;obtain⟨q,x⟩:=d.cJ i g;have a:=M x;have k:=M (j.trans q);clear i g q x;clear o p;have Q:=a.bL.p3;have o:=a.bL.p1;have R:=a.bL.p4;have P:=a.bL.fz;have u:=((a.bL.put 3 (J 0) {y with head:=0} (λ_ _ _=>⟨_,_,_,rfl⟩)).put 1 (J 5) {y with head:=0,aM:=5} (λ_ _ _=>⟨_,_,_,rfl⟩)).put 4 (L false) {y with head:=0,aM:=5} (λ_ _ _=>⟨_,_,_,rfl⟩);obtain⟨t,z⟩:=a.dN (dw.cj (dw.cj (dw.cj (bo E) 3 (J 0)) 1 (J 5)) 4 (L false)) u;have n:=M z;have l:=M (k.trans t);clear u t z;go_wp2_with fail
 try(first|simp only[gz]|simp only[cF])
 go_end0;exact⟨T,_,_,_,l,n,T,T⟩
structure Mv(w:Y)(c:Cn)(K:aW.Q)(κ:N->N)(m:aW.St)(b:Ac.B)(s:Ac.St)(yb:N)(y:dw.St)(xb:N)(v:Value)(sh:List Sh)(t:Tr.St):Prop where
 kG:fM w c K κ m b s yb y
 MA:iZ w c K κ m b s xb v sh t
 ptr:y.tr=I xb 0
 mf:alike K.ba sh
theorem yr(xs:List Int)(j:N)(w:Y)(h:fM w c K κ m b s yb y)(a1:y.aM=0)(hx:m.xs=xs++[(j:V)])(hl:∀s∈K.ba,s.bs.length<=1000000):C 60 #[I yb 0,I K.kb 0] w (dU w c K κ b s yb (.tuple #[]) (λw' κ' m' y'=>(∃pv',m'={m with pv:=pv',xs:=xs})/\∃d v sh,y'={y with head:=(j:V),aM:=4,tr:=I d 0}/\iZ w' c K κ' m' b s d v sh (Tr.ml j y.ah)/\alike K.ba sh)):=by
 have F:=M h;have a8:Hid (aG CY w κ w κ):=M (aG.refl _ _ _);have HX:=M hx;have HL:=M hl;have p1:=h.bL.p1;rw[a1]at p1;clear h hx hl;go_enter func60,ntmps60;clear a1;have b3:=F.bU.bm.wV;go_wp2_with fail;refine bf 0 (λCq W=>?_);have HC:=M W;clear W;go_wp2_with fail;refine(aW.uP xs (j:V) w F.bU.bm HX).mono ?_;rintro r w1⟨rfl,P,g,a3,a2⟩;obtain⟨e1,s1⟩:=F.cJ a3 a2;have p:=M s1;have a9:=M (a8.trans e1);clear a3 a2 e1 s1;clear p1 b3;have p3:=p.bL.p3;have p1:=p.bL.p1;have p4:=p.bL.p4;have ff:=p.bL.fz;have h2:=((p.bL.put 3 (J j) {y with head:=(j:V)} (λ_ _ _=>⟨_,_,_,rfl⟩)).put 1 (J 5) {y with head:=(j:V),aM:=5} (λ_ _ _=>⟨_,_,_,rfl⟩)).put 4 (L false) {y with head:=(j:V),aM:=5} (λ_ _ _=>⟨_,_,_,rfl⟩);obtain⟨e2,s2⟩:=p.dN (dw.cj (dw.cj (dw.cj (bo w1) 3 (J j)) 1 (J 5)) 4 (L false)) h2;have a:=M s2;have b0:=M (a9.trans e2);clear h2 e2 s2;go_upto_region 8 with fail;clear p1 p3 p4 ff;generalize((w1.setCell _ _).setCell _ _).setCell _ _=l at *;obtain⟨Av,cv,G⟩:∃A cc,K.cv=Z A K.ba.length cc:=by
  obtain⟨⟨A,cc,h,_⟩,_⟩:=a.bU.bm.cH;exact⟨A,cc,h⟩
 have a7:=M G;obtain⟨k0,k1,k2,k3,k4,k5,k6,k7,k8⟩:=a.bU.bm.qc;rw[G]at k8;have p3:l.cell? (I yb 3)=some (J j):=a.bL.p3;have p7:=a.bL.p7;have HT:=M (Tr.gS (c:=c) (v:=Z Av K.ba.length cv) (sh:=K.ba) j y.ah l.drew (a7▸a.drew.bU.bm.cH) a.bU.bm.ok HL);clear G;go_cut [4] (λ_ wx=>∃(z:Y) (d:N) (v':Value) (n:List Sh),wx=(z.setCell (I yb 5) (I d 0)).setCell (I yb 1) (J 4)/\ae l z/\l.heap.size<=d/\(∀k,mK v' n k->l.heap.size<=k)/\alike K.ba n/\Tr.At z d c v' n (Tr.ml j y.ah))
 case first =>
  go_region_with (first|(go_at_call 100;refine HT.mono ?_;rintro e w7⟨d,v7,n7,rfl,o,H,x,u,q⟩;have B:ae l w7:=ae.MD (b:=l.drew) ((ck l).drewN 1) o;have s7:=a.pure B;have d5:=s7.bL.p5;have d1:=s7.bL.p1;have dz:=s7.bL.fz;clear s7))
  all_goals
   go_wp2_with fail;go_meet;exact⟨_,_,_,_,T,B,H,x,u,q⟩
 case rest =>
  obtain⟨z,d,v7,n7,rfl,o,H,x,u,q⟩:=hcut;have e7:aG CY l g z (λk=>if k=d then 11 else aL l.heap.size g 8 k):=⟨o.mono (λ_ _ f=>f.elim),λk t=>by show(if k=d then 11 else aL l.heap.size g 8 k)=g k;rw[aa (by omega),dE t]⟩;have i:∀k,k<l.heap.size->(λk=>if k=d then 11 else aL l.heap.size g 8 k) k=g k:=e7.same;have a4:=q.lt;have S:fM z c K (λk=>if k=d then 11 else aL l.heap.size g 8 k) {m with pv:=P,xs:=xs} b s yb {y with head:=(j:V),aM:=5}:=⟨⟨(a.bU.bm.nc i).pure o,a.bU.bj.aj o (λ_ _ f=>f) i⟩,a.bL.MC o (λf=>f),(i _ a.bL.lt).trans a.mL⟩;have R:iZ z c K (λk=>if k=d then 11 else aL l.heap.size g 8 k) {m with pv:=P,xs:=xs} b s d v7 n7 (Tr.ml j y.ah):=⟨S.bU,q,af rfl,λk t=>by
   have b2:=q.ro k t;show(if k=d then 11 else aL l.heap.size g 8 k)=8;rw[aa b2.1];rcases t with t|t|t
   ·exact aU (x k t)
   ·simp[Tr.ml,Value.ownBlock]at t
   ·simp[Tr.ml,Value.ownBlock]at t⟩
  have a5:yb≠d:=by have:=a.bL.lt;omega
  obtain⟨Q,E⟩:∃Q,(λk=>if k=d then 11 else aL l.heap.size g 8 k)=Q:=⟨_,T⟩;rw[E]at e7 S R;have h8:=(S.bL.put 5 (I d 0) {y with head:=(j:V),aM:=5,tr:=I d 0} (λ_ _ _=>⟨_,_,_,rfl⟩)).put 1 (J 4) {y with head:=(j:V),aM:=4,tr:=I d 0} (λ_ _ _=>⟨_,_,_,rfl⟩);have o8:=dw.cj (dw.cj (ac.refl (λk=>k=yb) z) 5 (I d 0)) 1 (J 4);obtain⟨e8,s8⟩:=S.dN o8 h8;have t8:iZ _ c K Q {m with pv:=P,xs:=xs} b s d v7 n7 (Tr.ml j y.ah):=⟨s8.bU,R.tr.MC o8 (λe=>a5 e.symm) (λk t e=>by have:=R.k8 k t;rw[e,S.mL]at this;omega),R.nA,R.k8⟩;have X:=M (aq s8 t8);have b1:=M ((b0.trans e7).trans e8);have a6:=M u;clear e7 i a4 S R a5 E h8 o8 e8 s8 t8 o H x u q;go_wp2_with fail;go_end0;exact⟨T,_,_,_,b1,X.1,⟨_,T⟩,_,_,_,T,X.2,a6⟩
