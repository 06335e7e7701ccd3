/- Part 33 of the proof of spotop.TopChurn. -/
import Derived.Test.YtpgdiceeimehiaaGreatR29
import Derived.Test.YtpgdiceeimehiaaGreatR31
set_option maxRecDepth 100000
set_option maxHeartbeats 16000000
set_option linter.all false
open Go.Proofs.Tryz
namespace Go.Proofs.YtpgdiceeimehiaaGreat
open RowKit
section
open Ac (jm dx jb gC av Vl Wr iJ gm aA bc aJ nT aO cC ed dZ dY CT)
section
variable{w f:Y}{c:Cn}{K:aW.Q}{κ:N->N}{m:aW.St}{b:Ac.B}{s:Ac.St}
open Ac (av)
open Pl (aI gB)
theorem mQ{w:Y}{X B i:N}(h:B≠X)(a b d:Value):(((w.setCell (I X 0) a).setCell (I X 1) b).setCell (I X 2) d).cell? (I B i)=w.cell? (I B i):=lB h a b d
theorem vA(e:Ln.En)(w:Y)(h:dt w c K κ m b s)(a2:s.pc=5)(S:b.t=0)(a1:m.s.en=[e])(a6:e.bx=0)(a5:e.bE=0):C 69 #[I b.ab 0,I K.kb 0] w (oC w κ 0 0 0 aA false (λf κ'=>dt f c K κ' m b {s with pc:=0})):=by
 obtain⟨hp,-,a3⟩:=aO w #[J 0,J 0,J 0,L false,U 0 0] 46;have H1:=M (h.bS hp);have HR:=M a3;have b6:Hid (aL w.heap.size κ 9 (w.heap.size)=9):=M (aU (by omega));have n:Hid (w.heap.size<=w.heap.size):=M (by omega);have b3:=M a2;have F:=M S;have j:=M (aq a1 (aq a6 a5));clear hp a3 h a2 S a1 a6 a5;go_enter func69,ntmps69;go_upto_region 1 with fail;generalize w.alloc gm=W at *;generalize aL w.heap.size κ 9=c4 at *;obtain⟨E1,S1⟩:=H1.out;have a9:=M E1;have a:=M S1;clear E1 S1 H1;have c7:=a.bj.p7;rw[b3.out]at c7;go_upto_region 5 with fail;have y:Hid (ae W W.drew):=M ((ck W).drewN 1);have G:Hid (ae W (W.drew.alloc (D #[J 0,Z none 0 0,J 0] 191))):=M (y.alloc _);have b2:Hid ((W.drew.alloc (D #[J 0,Z none 0 0,J 0] 191)).heap[W.heap.size]?=some (D #[J 0,Z none 0 0,J 0] 191 (0,0))):=M (ai W.drew _);have b8:=a.bj.lb;have b9:=a.bm.qL;have B:=bq a.bj.lb;have E:=bq a.bm.qL;have c3:=a.bm.lH;have c0:=a.bj.p0;rw[F.out]at c0;go_cut [6] (λs6 wx=>∃Yq κ',s6=I Yq 0/\aG CT W c4 wx κ'/\κ' Yq=9/\wx.heap[Yq]?=some (D #[J 0,Z none 0 0,J (-1)] 191 (0,0))/\dt wx c K κ' m b s)
 case first =>
  go_region_held3 (λf=>f.cell? (I K.kb 11)=some (.pointer (some (I K.q.sp 0)))/\f.cell? (I b.ab 0)=some (J 0)) (first|go_keep|exact⟨(mQ E _ _ _).trans t0,(mQ B _ _ _).trans t1⟩|exact⟨(mQ t6 _ _ _).trans ((lQ (cN _ _ _ t4)).trans t0),(mQ t5 _ _ _).trans ((lQ (cN _ _ _ t3)).trans t1)⟩) (first|(go_at_call 129;first|(refine(aW.nC e W.drew (a.bS y).2.bm j.1 j.2.1 j.2.2).mono ?_;rintro r w3⟨rfl,c5,g,q⟩;obtain⟨z,d⟩:=(a.bS y).2.cJ g q;have t0:=d.bm.lH;have t1:=d.bj.p0;rw[F.out]at t1;have t3:=d.bj.lb;have t4:=d.bm.qL;have t5:=bq d.bj.lb;have t6:=bq d.bm.qL;have Q:=M (aq ((a.bS y).1.trans z) d);clear z d;clear g q)|(refine(aW.nC e (W.drew.alloc (D #[J 0,Z none 0 0,J 0] 191)) (a.bS G).2.bm j.1 j.2.1 j.2.2).mono ?_;rintro r w3⟨rfl,c5,g,q⟩;have A:=g.bF b2 (by rw[aU (ci _)];unfold aW.C5;omega);have a7:=(g.ft (X:=W.heap.size) (by simp)).trans (aU (ci _));have l:=M (aq A a7);obtain⟨c8,c9,e0⟩:=gM A;have gf:=λk=>ey k A;obtain⟨z,d⟩:=(a.bS G).2.cJ g q;have t0:=d.bm.lH;have t1:=d.bj.p0;rw[F.out]at t1;have t3:=d.bj.lb;have t4:=d.bm.qL;have t5:=bq d.bj.lb;have t6:=bq d.bm.qL;have Q:=M (aq ((a.bS G).1.trans z) d);clear z d;clear g q A a7)))
  ·go_wp2_with fail;go_meet;obtain⟨c2,-,P⟩:=aO w3 #[J 0,Z none 0 0,J (-1)] 191;have a4:=Q.2.bS c2;exact⟨_,_,T,Q.1.trans a4.1,aU (ci _),P,a4.2⟩
  all_goals
   go_wp2_with fail;go_meet;have P:(((w3.setCell (I W.heap.size 0) (J 0)).setCell (I W.heap.size 1) (Z none 0 0)).setCell (I W.heap.size 2) (J (-1))).heap[W.heap.size]?=some (D #[J 0,Z none 0 0,J (-1)] 191 (0,0)):=by
    have:=az (i:=2) (u:=(J (-1))) (az (i:=1) (u:=(Z none 0 0)) (az (i:=0) (u:=(J 0)) (l.1)));simpa using this
   exact⟨_,_,T,(((Q.1.new (ci _) 0 (J 0)).new (ci _) 1 (Z none 0 0)).new (ci _) 2 (J (-1))),l.2,P,(((Q.2.aZ l.2 0 (J 0)).aZ l.2 1 (Z none 0 0)).aZ l.2 2 (J (-1)))⟩
 case rest =>
  obtain⟨Yq,e1,rfl,e2,a8,H,S2⟩:=hcut;have o:=M S2;have b0:=M (a9.trans e2);obtain⟨t,x⟩:=aJ e2 b6 nT HR;have b4:=M t;have b7:=M x;have c6:=M (aq a8 H);obtain⟨g0,g1,g2⟩:=gM H;clear e2 S2 t x a8 H c3 c0 b8 b9 B E c7;have c7:=o.bj.p7;have fz:=o.bj.fb;go_upto_region 18 with fail;have h3:=o.bj.put 7 (J 0) {s with pc:=0} rfl rfl ⟨rfl,rfl,rfl,rfl,rfl,rfl⟩;have o3:ac (λk=>k=b.ab) wc (wc.setCell (I b.ab 7) (J 0)):=Ac.ac.me (bo _) _ _;obtain⟨z,d⟩:=o.fk (Ac.ec o.bj.k6 o3) h3;have b5:=M d;have b1:=M (b0.trans z);obtain⟨t,x⟩:=aJ z b7 nT b4;have R:=M t;have p:=M x;clear h3 o3 z d t x c7 fz g0 g1 g2;generalize wc.setCell _ _=w3 at *;obtain⟨z0,z1,z2,z3,z4⟩:=bc R;have f1:=λk=>ey k R;go_wp2_with fail;refine au (v:=.tuple #[.agg #[J 0,J 0,J 0,L false,U 0 0],L false]) (by simp[results,results69,go_sem,z0,z1,z2,z3,z4]) T ⟨T,_,(((((b1.new n _ _).new n _ _).new n _ _).new n _ _).new n _ _),(((((b5.aZ p _ _).aZ p _ _).aZ p _ _).aZ p _ _).aZ p _ _)⟩
theorem vz(w:Y)(h:dt w c K κ m b s)(n:s.pc=0)(p:m.st=s.aY):C 69 #[I b.ab 0,I K.kb 0] w (oC w κ 0 0 0 aA false (λf κ'=>dt f c K κ' m b {s with pc:=5})):=by
 obtain⟨hp,-,o⟩:=aO w #[J 0,J 0,J 0,L false,U 0 0] 46;have R:=M (h.bS hp);have HR:=M o;have E:Hid (aL w.heap.size κ 9 (w.heap.size)=9):=M (aU (by omega));have a:Hid (w.heap.size<=w.heap.size):=M (by omega);have y:=M n;have B:=M p;clear hp o h n p;go_enter func69,ntmps69;go_upto_region 1 with fail;generalize w.alloc gm=W at *;generalize aL w.heap.size κ 9=a1 at *;obtain⟨Q,S⟩:=R.out;have t:=M Q;have l:=M S;clear Q S R;have q:=l.bj.p7;rw[y.out]at q;go_wp2_with fail;refine(ol W l B).mono ?_;rintro r P⟨rfl,a2,G,X⟩;have d:=M X;have u:=M (t.trans G);obtain⟨g,i⟩:=aJ G E nT HR;have z:=M g;have F:=M i;clear G X g i q;have q:=d.bj.p7;have fz:=d.bj.fb;go_upto_region 18 with fail;have h3:=d.bj.put 7 (J 5) {s with pc:=5} rfl rfl ⟨rfl,rfl,rfl,rfl,rfl,rfl⟩;have o3:ac (λk=>k=b.ab) P (P.setCell (I b.ab 7) (J 5)):=Ac.ac.me (bo _) _ _;obtain⟨H,S3⟩:=d.fk (Ac.ec d.bj.k6 o3) h3;have A:=M S3;have x:=M (u.trans H);obtain⟨g,i⟩:=aJ H F nT z;have j:=M g;have e:=M i;clear h3 o3 H S3 g i q fz;generalize P.setCell _ _=w3 at *;obtain⟨z0,z1,z2,z3,z4⟩:=bc j;have f1:=λk=>ey k j;go_wp2_with fail;refine au (v:=.tuple #[.agg #[J 0,J 0,J 0,L false,U 0 0],L false]) (by simp[results,results69,go_sem,z0,z1,z2,z3,z4]) T ⟨T,_,(((((x.new a _ _).new a _ _).new a _ _).new a _ _).new a _ _),(((((A.aZ e _ _).aZ e _ _).aZ e _ _).aZ e _ _).aZ e _ _)⟩
theorem gP(P:Y->(N->N)->Prop)(w:Y)(h:dt w c K κ m b s)(l:s.pc=0)(G:kX P)(H:∀w1 g,dt w1 c K g m b s->C 117 #[I b.ab 0,I K.kb 0] w1 λr f=>r=O (L false)/\∃κ',aG CT w1 g f κ'/\P f κ'):C 69 #[I b.ab 0,I K.kb 0] w (oC w κ 0 0 0 aA false P):=by
 obtain⟨Q,-,o⟩:=aO w #[J 0,J 0,J 0,L false,U 0 0] 46;have B:=M (h.bS Q);have X:=M o;have y:Hid (aL w.heap.size κ 9 (w.heap.size)=9):=M (aU (by omega));have a:Hid (w.heap.size<=w.heap.size):=M (by omega);have u:=M l;have d:=M G;have S:=M H;clear Q o h l G H;go_enter func69,ntmps69;go_upto_region 1 with fail;generalize w.alloc gm=W at *;generalize aL w.heap.size κ 9=g at *;obtain⟨A,E⟩:=B.out;have q:=M A;have j:=M E;clear A E B;have F:=j.bj.p7;rw[u.out]at F;go_wp2_with fail;refine(S W g j).mono ?_;rintro r w2⟨rfl,a1,z,R⟩;have x:=M R;have t:=M (q.trans z);obtain⟨n,p⟩:=aJ z y nT X;have i:=M n;have e:=M p;clear z R n p F;obtain⟨z0,z1,z2,z3,z4⟩:=bc i;have f1:=λk=>ey k i;go_wp2_with fail;refine au (v:=.tuple #[.agg #[J 0,J 0,J 0,L false,U 0 0],L false]) (by simp[results,results69,go_sem,z0,z1,z2,z3,z4]) T ⟨T,_,(((((t.new a _ _).new a _ _).new a _ _).new a _ _).new a _ _),(d _ _ _ _ _ e (d _ _ _ _ _ e (d _ _ _ _ _ e (d _ _ _ _ _ e (d _ _ _ _ _ e x)))))⟩
theorem sT(z:V)(w:Y)(h:dt w c K κ m b s)(o:s.pc=2)(hz:m.bA[b.t]?=some z)(q:z≠-1)(h0:0<=s.seen)(h4:s.seen<=4):C 69 #[I b.ab 0,I K.kb 0] w (oC w κ 0 0 0 aA false (λf κ'=>dt f c K κ' {m with bA:=m.bA.set b.t s.seen} b {s with aY:=s.seen,pc:=5})):=by
 obtain⟨hp,-,p⟩:=aO w #[J 0,J 0,J 0,L false,U 0 0] 46;have S:=M (h.bS hp);have HR:=M p;have F:Hid (aL w.heap.size κ 9 (w.heap.size)=9):=M (aU (by omega));have a:Hid (w.heap.size<=w.heap.size):=M (by omega);have j:=M o;have t:=M (aq hz (aq q (aq h0 h4)));clear hp p h o hz q h0 h4;go_enter func69,ntmps69;go_upto_region 1 with fail;generalize w.alloc gm=W at *;generalize aL w.heap.size κ 9=a1 at *;obtain⟨R,X⟩:=S.out;have x:=M R;have n:=M X;clear R X S;have u:=n.bj.p7;rw[j.out]at u;go_wp2_with fail;refine(oI z W n j t.1 t.2.1 t.2.2.1 t.2.2.2).mono ?_;rintro r Q⟨rfl,a2,H,S2⟩;have d:=M S2;have y:=M (x.trans H);obtain⟨g,i⟩:=aJ H F nT HR;have B:=M g;have G:=M i;clear H S2 g i u;have u:=d.bj.p7;have fz:=d.bj.fb;go_upto_region 18 with fail;have h3:=d.bj.put 7 (J 5) {s with aY:=s.seen,pc:=5} rfl rfl ⟨rfl,rfl,rfl,rfl,rfl,rfl⟩;have o3:ac (λk=>k=b.ab) Q (Q.setCell (I b.ab 7) (J 5)):=Ac.ac.me (bo _) _ _;obtain⟨P,S3⟩:=d.fk (Ac.ec d.bj.k6 o3) h3;have E:=M S3;have A:=M (y.trans P);obtain⟨g,i⟩:=aJ P G nT B;have l:=M g;have e:=M i;clear h3 o3 P S3 g i u fz;generalize Q.setCell _ _=w3 at *;obtain⟨z0,z1,z2,z3,z4⟩:=bc l;have f1:=λk=>ey k l;go_wp2_with fail;refine au (v:=.tuple #[.agg #[J 0,J 0,J 0,L false,U 0 0],L false]) (by simp[results,results69,go_sem,z0,z1,z2,z3,z4]) T ⟨T,_,(((((A.new a _ _).new a _ _).new a _ _).new a _ _).new a _ _),(((((E.aZ e _ _).aZ e _ _).aZ e _ _).aZ e _ _).aZ e _ _)⟩
end
end
section
open Ac (jm dx jb gC av Vl Wr iJ gm aA bc aJ nT aO cC ed dZ dY CT)
section
variable{w a:Y}{c:Cn}{K:aW.Q}{κ:N->N}{m:aW.St}{b:Ac.B}{s:Ac.St}
open Ac (av)
theorem iW(P:Y->(N->N)->Prop)(w:Y)(h:dt w c K κ m b s)(l:s.bn=1)(G:kX P)(H:∀w1 g,dt w1 c K g m b s->C 67 #[I b.ab 0,I K.kb 0] w1 λr a=>r=O (.tuple #[])/\∃κ',aG CT w1 g a κ'/\P a κ'):C 25 #[I b.ab 0,I K.kb 0] w (oC w κ 0 0 0 aA false P):=by
 obtain⟨Q,-,o⟩:=aO w #[J 0,J 0,J 0,L false,U 0 0] 46;have B:=M (h.bS Q);have X:=M o;have y:Hid (aL w.heap.size κ 9 (w.heap.size)=9):=M (aU (by omega));have d:Hid (w.heap.size<=w.heap.size):=M (by omega);have u:=M l;have e:=M G;have S:=M H;clear Q o h l G H;go_enter func25,ntmps25;go_upto_region 1 with fail;generalize w.alloc gm=W at *;generalize aL w.heap.size κ 9=g at *;obtain⟨A,E⟩:=B.out;have q:=M A;have j:=M E;clear A E B;have F:=j.bj.p3;rw[u.out]at F;go_wp2_with fail;refine(S W g j).mono ?_;rintro r w2⟨rfl,a1,z,R⟩;have x:=M R;have t:=M (q.trans z);obtain⟨n,p⟩:=aJ z y nT X;have i:=M n;have f:=M p;clear z R n p F;obtain⟨z0,z1,z2,z3,z4⟩:=bc i;have f1:=λk=>ey k i;go_wp2_with fail;refine au (v:=.tuple #[.agg #[J 0,J 0,J 0,L false,U 0 0],L false]) (by simp[results,results25,go_sem,z0,z1,z2,z3,z4]) T ⟨T,_,(((((t.new d _ _).new d _ _).new d _ _).new d _ _).new d _ _),(e _ _ _ _ _ f (e _ _ _ _ _ f (e _ _ _ _ _ f (e _ _ _ _ _ f (e _ _ _ _ _ f x)))))⟩
theorem iX(Q R S:V)(v:Vl)(d:Bool)(n:N)(P:Y->(N->N)->Prop)(w:Y)(h:dt w c K κ m b s)(t:s.bn=2)(hn:s.own=(n:V))(a4:n<=1000000000)(hP:kX P)(hc:∀w1 o,dt w1 c K o m b {s with own:=((n+1:N):V)}->C 68 #[I b.ab 0,I K.kb 0] w1 (oC w1 o Q R S v d P)):C 25 #[I b.ab 0,I K.kb 0] w (oC w κ Q R S v d P):=by
 obtain⟨v1,v2,v3⟩:=v;obtain⟨hp,-,u⟩:=aO w #[J 0,J 0,J 0,L false,U 0 0] 46;have H1:=M (h.bS hp);have HR:=M u;have G:Hid (aL w.heap.size κ 9 (w.heap.size)=9):=M (aU (by omega));have f:Hid (w.heap.size<=w.heap.size):=M (by omega);have A:=M t;have g:=M hP;have HC:=M hc;have HN:=M hn;clear hp u h t hP hc hn;go_enter func25,ntmps25;go_upto_region 1 with fail;generalize w.alloc gm=W at *;generalize aL w.heap.size κ 9=o at *;obtain⟨E1,S1⟩:=H1.out;have x:=M E1;have e:=M S1;clear E1 S1 H1;have c3:=e.bj.p3;rw[A.out]at c3;have q:=e.bj.sq;rw[HN.out]at q;have fz:=e.bj.fb;go_upto_region 12 with fail;have h2:=e.bj.put 10 (J ((n:V)+1)) {s with own:=((n:V)+1)} rfl rfl ⟨rfl,rfl,rfl,rfl,rfl,rfl⟩;have o2:ac (λk=>k=b.ab) W (W.setCell (I b.ab 10) (J ((n:V)+1))):=Ac.ac.me (bo _) _ _;obtain⟨X,S2⟩:=e.fk (Ac.ec e.bj.k6 o2) h2;have F:Hid (dt _ c K o m b {s with own:=((n+1:N):V)}):=M S2;have y:=M (x.trans X);obtain⟨j,l⟩:=aJ X G nT HR;have E:=M j;have H:=M l;clear h2 o2 X S2 j l q fz c3;generalize W.setCell _ _=w2 at *;go_wp2_with fail;refine(HC w2 o F).mono ?_;rintro r w3⟨rfl,a5,e3,p3⟩;have B:=M p3;have z:=M (y.trans e3);obtain⟨j,l⟩:=aJ e3 H nT E;have p:=M j;have i:=M l;clear e3 p3 j l;obtain⟨z0,z1,z2,z3,z4⟩:=bc p;have f1:=λk=>ey k p;go_wp2_with fail;refine au (v:=.tuple #[.agg #[J Q,J R,J S,L v1,U v2 v3],L d]) (by simp[results,results25,go_sem,z0,z1,z2,z3,z4]) T ⟨T,_,(((((z.new f _ _).new f _ _).new f _ _).new f _ _).new f _ _),(g _ _ _ _ _ i (g _ _ _ _ _ i (g _ _ _ _ _ i (g _ _ _ _ _ i (g _ _ _ _ _ i B)))))⟩
theorem vm(Q R S:V)(v:Vl)(d:Bool)(n:N)(P:Y->(N->N)->Prop)(w:Y)(h:dt w c K κ m b s)(t:s.bn=3)(hn:s.own=(n:V))(a4:n<=1000000000)(hP:kX P)(hc:∀w1 o,dt w1 c K o m b {s with own:=((n+1:N):V)}->C 69 #[I b.ab 0,I K.kb 0] w1 (oC w1 o Q R S v d P)):C 25 #[I b.ab 0,I K.kb 0] w (oC w κ Q R S v d P):=by
 obtain⟨v1,v2,v3⟩:=v;obtain⟨hp,-,u⟩:=aO w #[J 0,J 0,J 0,L false,U 0 0] 46;have H1:=M (h.bS hp);have HR:=M u;have G:Hid (aL w.heap.size κ 9 (w.heap.size)=9):=M (aU (by omega));have f:Hid (w.heap.size<=w.heap.size):=M (by omega);have A:=M t;have g:=M hP;have HC:=M hc;have HN:=M hn;clear hp u h t hP hc hn;go_enter func25,ntmps25;go_upto_region 1 with fail;generalize w.alloc gm=W at *;generalize aL w.heap.size κ 9=o at *;obtain⟨E1,S1⟩:=H1.out;have x:=M E1;have e:=M S1;clear E1 S1 H1;have c3:=e.bj.p3;rw[A.out]at c3;have q:=e.bj.sq;rw[HN.out]at q;have fz:=e.bj.fb;go_upto_region 15 with fail;have h2:=e.bj.put 10 (J ((n:V)+1)) {s with own:=((n:V)+1)} rfl rfl ⟨rfl,rfl,rfl,rfl,rfl,rfl⟩;have o2:ac (λk=>k=b.ab) W (W.setCell (I b.ab 10) (J ((n:V)+1))):=Ac.ac.me (bo _) _ _;obtain⟨X,S2⟩:=e.fk (Ac.ec e.bj.k6 o2) h2;have F:Hid (dt _ c K o m b {s with own:=((n+1:N):V)}):=M S2;have y:=M (x.trans X);obtain⟨j,l⟩:=aJ X G nT HR;have E:=M j;have H:=M l;clear h2 o2 X S2 j l q fz c3;generalize W.setCell _ _=w2 at *;go_wp2_with fail;refine(HC w2 o F).mono ?_;rintro r w3⟨rfl,a5,e3,p3⟩;have B:=M p3;have z:=M (y.trans e3);obtain⟨j,l⟩:=aJ e3 H nT E;have p:=M j;have i:=M l;clear e3 p3 j l;obtain⟨z0,z1,z2,z3,z4⟩:=bc p;have f1:=λk=>ey k p;go_wp2_with fail;refine au (v:=.tuple #[.agg #[J Q,J R,J S,L v1,U v2 v3],L d]) (by simp[results,results25,go_sem,z0,z1,z2,z3,z4]) T ⟨T,_,(((((z.new f _ _).new f _ _).new f _ _).new f _ _).new f _ _),(g _ _ _ _ _ i (g _ _ _ _ _ i (g _ _ _ _ _ i (g _ _ _ _ _ i (g _ _ _ _ _ i B)))))⟩
theorem xn(w:Y)(h:dt w c K κ m b s)(p:s.bn=0)(hz:m.bA[b.t]?=some (-1)):C 25 #[I b.ab 0,I K.kb 0] w (oC w κ 0 0 0 aA false (λa κ'=>dt a c K κ' {m with bA:=m.bA.set b.t m.st} b {s with aY:=m.st,ah:=m.se,bn:=1,pc:=0})):=by
 obtain⟨hp,-,q⟩:=aO w #[J 0,J 0,J 0,L false,U 0 0] 46;have S:=M (h.bS hp);have HR:=M q;have E:Hid (aL w.heap.size κ 9 (w.heap.size)=9):=M (aU (by omega));have e:Hid (w.heap.size<=w.heap.size):=M (by omega);have z:=M p;have HZ:=M hz;clear hp q h p hz;go_enter func25,ntmps25;go_upto_region 1 with fail;generalize w.alloc gm=W at *;generalize aL w.heap.size κ 9=a1 at *;obtain⟨R,X⟩:=S.out;have u:=M R;have f:=M X;clear R X S;have t:=f.bj.p3;rw[z.out]at t;have P:=f.bm.xK;have c0:=f.bj.p0;go_upto_region 3 with fail;go_region_with (go_at_call 66;refine(aW.join b.t W.drew f.drew.bm HZ).mono ?_;rintro r Q⟨rfl,o,n⟩)
 all_goals
  obtain⟨G,S3⟩:=f.drew.cJ o n;have d:=M S3;have x:=M (u.trans G.qr);obtain⟨i,j⟩:=aJ G.qr E nT HR;have A:=M i;have F:=M j;clear o n G S3 i j P c0 t;have c4:=d.bj.p4;have c5:=d.bj.p5;have t:=d.bj.p3;have c7:=d.bj.p7;have fz:=d.bj.fb;go_upto_region 16 with fail;have h4:=(((d.bj.put 4 (J m.st) {s with aY:=m.st} rfl rfl ⟨rfl,rfl,rfl,rfl,rfl,rfl⟩).put 5 (L m.se) {s with aY:=m.st,ah:=m.se} rfl rfl ⟨rfl,rfl,rfl,rfl,rfl,rfl⟩).put 3 (J 1) {s with aY:=m.st,ah:=m.se,bn:=1} rfl rfl ⟨rfl,rfl,rfl,rfl,rfl,rfl⟩).put 7 (J 0) {s with aY:=m.st,ah:=m.se,bn:=1,pc:=0} rfl rfl ⟨rfl,rfl,rfl,rfl,rfl,rfl⟩;have o4:ac (λk=>k=b.ab) Q ((((Q.setCell (I b.ab 4) (J m.st)).setCell (I b.ab 5) (L m.se)).setCell (I b.ab 3) (J 1)).setCell (I b.ab 7) (J 0)):=Ac.ac.me (Ac.ac.me (Ac.ac.me (Ac.ac.me (bo _) _ _) _ _) _ _) _ _;obtain⟨H,S4⟩:=d.fk (Ac.ec d.bj.k6 o4) h4;have B:=M S4;have y:=M (x.trans H);obtain⟨i,j⟩:=aJ H F nT A;have l:=M i;have g:=M j;clear h4 o4 H S4 i j t c4 c5 c7 fz;generalize(((Q.setCell _ _).setCell _ _).setCell _ _).setCell _ _=w4 at *;obtain⟨z0,z1,z2,z3,z4⟩:=bc l;have f1:=λk=>ey k l;go_wp2_with fail;refine au (v:=.tuple #[.agg #[J 0,J 0,J 0,L false,U 0 0],L false]) (by simp[results,results25,go_sem,z0,z1,z2,z3,z4]) T ⟨T,_,(((((y.new e _ _).new e _ _).new e _ _).new e _ _).new e _ _),(((((B.aZ g _ _).aZ g _ _).aZ g _ _).aZ g _ _).aZ g _ _)⟩
theorem Bt(w:Y)(h:dt w c K κ m b s)(g:s.bn=4):C 25 #[I b.ab 0,I K.kb 0] w (oC w κ 0 0 0 aA false (λa κ'=>dt a c K κ' m b s)):=by
 obtain⟨r,-,i⟩:=aO w #[J 0,J 0,J 0,L false,U 0 0] 46;have o:=M (h.bS r);have p:=M i;have e:Hid (aL w.heap.size κ 9 (w.heap.size)=9):=M (aU (by omega));have d:Hid (w.heap.size<=w.heap.size):=M (by omega);have l:=M g;clear r i h g;go_enter func25,ntmps25;go_upto_region 1 with fail;generalize w.alloc gm=W at *;generalize aL w.heap.size κ 9=y at *;obtain⟨n,q⟩:=o.out;have j:=M n;have f:=M q;clear n q o;have t:=f.bj.p3;rw[l.out]at t;obtain⟨z0,z1,u,z3,x⟩:=bc p;have z:=λk=>ey k p;go_wp2_with fail;refine au (v:=.tuple #[.agg #[J 0,J 0,J 0,L false,U 0 0],L false]) (by simp[results,results25,go_sem,z0,z1,u,z3,x]) T ⟨T,_,(((((j.new d _ _).new d _ _).new d _ _).new d _ _).new d _ _),(((((f.aZ e _ _).aZ e _ _).aZ e _ _).aZ e _ _).aZ e _ _)⟩
end
end
section
structure Hp(w:Y)(hb lg:N)(K:aW.Q)(yb:N)(b:Ac.B):Prop where
 me:∃(n:V) (cc:N),w.heap[hb]?=some (D #[I K.kb 0,I yb 0,Z (some (I lg 0)) 1 cc,J n] 59 (0,0))
 cI:w.cell? (I lg 0)=some (.pointer (some (I b.ab 0)))
 lt:lg<w.heap.size
section
variable{w w':Y}{a c:N}{K:aW.Q}{d:N}{b:Ac.B}
theorem Hp.p0(h:Hp w a c K d b):w.cell? (I a 0)=some (.pointer (some (I K.kb 0))):=by
 obtain⟨n,f,e⟩:=h.me;rw[bK e];rfl
theorem Hp.p1(h:Hp w a c K d b):w.cell? (I a 1)=some (.pointer (some (I d 0))):=by
 obtain⟨n,f,e⟩:=h.me;rw[bK e];rfl
theorem Hp.p2(h:Hp w a c K d b):∃cc,w.cell? (I a 2)=some (Z (some (I c 0)) 1 cc):=by
 obtain⟨n,cc,e⟩:=h.me;exact⟨cc,by rw[bK e];rfl⟩
theorem Hp.p3(h:Hp w a c K d b):∃n:V,w.cell? (I a 3)=some (J n):=by
 obtain⟨n,f,e⟩:=h.me;exact⟨n,by rw[bK e];rfl⟩
theorem Hp.fz(h:Hp w a c K d b)(k:N):w.frozen? (I a k)=false:=by
 obtain⟨n,f,e⟩:=h.me;exact ey k e
theorem Hp.lb(h:Hp w a c K d b):a<w.heap.size:=by
 obtain⟨n,f,e⟩:=h.me;exact(bR.1 e).1
theorem Hp.MC{Tq:N->Prop}(h:Hp w a c K d b)(e:ac Tq w w')(g:¬Tq a)(i:¬Tq c):Hp w' a c K d b:=by
 obtain⟨n,f,j⟩:=h.me;exact⟨⟨n,f,e.bF j g⟩,(e.cell (p:=⟨c,0,none⟩) h.lt i).trans h.cI,eR h.lt e.size⟩
theorem Hp.step(h:Hp w a c K d b)(e:c≠a)(n:V):Hp (w.setCell (I a 3) (J n)) a c K d b:=by
 obtain⟨l,g,j⟩:=h.me;have f:ac (λk=>k=a) w (w.setCell (I a 3) (J n)):=(ac.refl (λk=>k=a) w).setCell (p:=⟨a,3,none⟩) (λ_=>T) _;exact⟨⟨n,g,az (i:=3) (u:=J n) j⟩,(f.cell (p:=⟨c,0,none⟩) h.lt e).trans h.cI,eR h.lt f.size⟩
end
structure jS(w:Y)(c:Cn)(K:aW.Q)(κ:N->N)(m:aW.St)(b:Ac.B)(s:Ac.St)(yb:N)(y:dw.St)(hb lg:N):Prop where
 kG:fM w c K κ m b s yb y
 hp:Hp w hb lg K yb b
 zw:κ hb=12
 k8:κ lg=8
def CM(x:N):Prop:=(1<=x/\x<=7)\/x=10\/x=11\/x=12
section
variable{w a:Y}{c:Cn}{K:aW.Q}{κ κ':N->N}{m m':aW.St}{b:Ac.B}{s s':Ac.St}{d g j:N}{y y':dw.St}
theorem Hb.bU{Cq:N->Prop}(h:dt w c K κ m b s)(i:aG Cq w κ a κ')(f:∀x,Cq x->x=9\/10<=x):dt a c K κ' m b s:=⟨h.bm.ext i (λx e=>by have:=f x e;omega),h.bj.ext i (λx e=>by have:=f x e;omega)⟩
theorem fM.wg{Cq:N->Prop}(h:fM w c K κ m b s d y)(f:aG Cq w κ a κ')(i:∀x,Cq x->x=9\/11<=x):fM a c K κ' m b s d y:=⟨Hb.bU h.bU f (λx e=>by have:=i x e;omega),h.bL.MC f.MC (λe=>by rw[h.mL]at e;have:=i _ e;omega),(f.same _ h.bL.lt).trans h.mL⟩
theorem iZ.wg{Cq:N->Prop}{n:N}{v:Value}{sh:List Sh}{t:Tr.St}(h:iZ w c K κ m b s n v sh t)(f:aG Cq w κ a κ')(l:∀x,Cq x->x=9\/12<=x):iZ a c K κ' m b s n v sh t:=⟨Hb.bU h.bU f (λx e=>by have:=l x e;omega),h.tr.MC f.MC (λe=>by rw[h.nA]at e;have:=l _ e;omega) (λk i e=>by rw[h.k8 k i]at e;have:=l _ e;omega),(f.same _ h.tr.lt).trans h.nA,λk i=>(f.same _ (h.tr.ro k i).2).trans (h.k8 k i)⟩
theorem jS.IW(h:jS w c K κ m b s d y g j)(f:aG CY w κ a κ')(i:fM a c K κ' m' b s d y'):jS a c K κ' m' b s d y' g j:=⟨i,h.hp.MC f.MC (λe=>by rw[h.zw]at e;unfold CY at e;omega) (λe=>by rw[h.k8]at e;unfold CY at e;omega),(f.same _ h.hp.lb).trans h.zw,(f.same _ h.hp.lt).trans h.k8⟩
theorem jS.fk(h:jS w c K κ m b s d y g j)(f:aG Ac.CT w κ a κ')(i:dt a c K κ' m' b s'):jS a c K κ' m' b s' d y g j:=⟨⟨i,h.kG.bL.MC f.MC (λe=>by rw[h.kG.mL]at e;unfold Ac.CT at e;omega),(f.same _ h.kG.bL.lt).trans h.kG.mL⟩,h.hp.MC f.MC (λe=>by rw[h.zw]at e;unfold Ac.CT at e;omega) (λe=>by rw[h.k8]at e;unfold Ac.CT at e;omega),(f.same _ h.hp.lb).trans h.zw,(f.same _ h.hp.lt).trans h.k8⟩
theorem jS.bS(h:jS w c K κ m b s d y g j)(e:ae w a):jS a c K (aL w.heap.size κ 9) m b s d y g j:=⟨h.kG.wg (Cq:=λ_=>False) (aG.aL 9 (e.mono (λ_ _ f=>f.elim))) (λ_ f=>f.elim),h.hp.MC e (λf=>f) (λf=>f),(dE h.hp.lb).trans h.zw,(dE h.hp.lt).trans h.k8⟩
theorem jS.pure(h:jS w c K κ m b s d y g j)(e:ae w a):jS a c K κ m b s d y g j:=⟨h.kG.pure e,h.hp.MC e (λf=>f) (λf=>f),h.zw,h.k8⟩
theorem jS.aZ(h:jS w c K κ m b s d y g j){X:N}(f:κ X=9)(i:N)(v:Value):jS (w.setCell (I X i) v) c K κ m b s d y g j:=by
 have l:ac (λk=>k=X) w (w.setCell (I X i) v):=(ac.refl (λk=>k=X) w).setCell (p:=⟨X,i,none⟩) (λ_=>T) v;have n:aG (λx=>x=9) w κ (w.setCell (I X i) v) κ:=aG.of (l.mono (λk _ o=>by rw[o];exact f));exact⟨h.kG.wg n (λx q=>.inl q),h.hp.MC l (λe=>by have:=h.zw;rw[e,f]at this;omega) (λe=>by have:=h.k8;rw[e,f]at this;omega),h.zw,h.k8⟩
end
end
section
open Ac (Vl fY vu dx dj BK)
theorem xA:(prog.info? 44).map (λi=>(i.zero,i.size,i.bytes))=some (some (.agg #[L false,U 0 0]),2,24):=by kernel_rfl
theorem zH:(prog.info? 32).map (λi=>(i.zero,i.size,i.bytes))=some (some (.agg #[J 0,J 0,J 0,J 0,J 0,U 0 0]),6,56):=by kernel_rfl
theorem ES(l:List Vl):∀u∈fY l,u.oneCell'=true:=by
 intro u a;simp only[fY,List.mem_flatMap,vu]at a;obtain⟨v,_,a⟩:=a;simp only[dr,gd,or_false]at a;rcases a with rfl|rfl<;>rfl
theorem Gy(l:List dx):∀u∈dj l,u.oneCell'=true:=by
 intro u a;simp only[dj,List.mem_flatMap,BK]at a;obtain⟨v,_,a⟩:=a;simp only[dr,gd,or_false]at a;rcases a with rfl|rfl|rfl|rfl|rfl|rfl<;>rfl
theorem IM(l:List Vl)(g n c:N)(w:Y)(t:g<w.heap.size)(p:jd w 2 (some ⟨g,0,none⟩) n (fY l))(y:n<=1000000):C 78 #[Z (some (I g 0)) n c] w λe r=>∃q,e=O q/\ae w r/\r.ownsRow w.heap.size 44 2 q n (fY l):=by
 obtain⟨v,f,i,j,m⟩:=aR xA;have h:jd (w.alloc (D #[] 44)) 2 (some ⟨g,0,none⟩) n (fY l):=p.below ((Below.refl w.heap.size w).alloc (ci _) _) (λb x e=>by injection e with e;subst e;exact t);have s:=λw:Y=>Lib.run_eql_slice_nil (P:=prog) w 61 44 (some ⟨g,0,none⟩) n c 0 0 underlying61;clear p;go_enter func78,ntmps78;go_wp2_with (at_builtin;refine bT _ T (.tmp 5) (.tmp 6) _ T w.heap.size 44 v _ 2 24 underlying61 f i j m T (by omega) _ 0 [] T (fJ w #[] 0 (ci _) (by simp[maxLen]) T) _ _ _ _ T h (ES l) (by simp only[maxLen];omega) (by omega) (by simp) ?_;intro z A a d o);go_ret;refine⟨_,T,((bo _).alloc _).grown d (λk u e=>?_),by simpa using a⟩;injection e with e;exact absurd e (Nat.ne_of_gt u)
theorem IL(l:List dx)(g n c:N)(w:Y)(t:g<w.heap.size)(p:jd w 6 (some ⟨g,0,none⟩) n (dj l))(y:n<=1000000):C 54 #[Z (some (I g 0)) n c] w λe r=>∃q,e=O q/\ae w r/\r.ownsRow w.heap.size 32 6 q n (dj l):=by
 obtain⟨v,f,i,j,m⟩:=aR zH;have h:jd (w.alloc (D #[] 32)) 6 (some ⟨g,0,none⟩) n (dj l):=p.below ((Below.refl w.heap.size w).alloc (ci _) _) (λb x e=>by injection e with e;subst e;exact t);have s:=λw:Y=>Lib.run_eql_slice_nil (P:=prog) w 29 32 (some ⟨g,0,none⟩) n c 0 0 underlying29;clear p;go_enter func54,ntmps54;go_wp2_with (at_builtin;refine bT _ T (.tmp 5) (.tmp 6) _ T w.heap.size 32 v _ 6 56 underlying29 f i j m T (by omega) _ 0 [] T (fJ w #[] 0 (ci _) (by simp[maxLen]) T) _ _ _ _ T h (Gy l) (by simp only[maxLen];omega) (by omega) (by simp) ?_;intro z A a d o);go_ret;refine⟨_,T,((bo _).alloc _).grown d (λk u e=>?_),by simpa using a⟩;injection e with e;exact absurd e (Nat.ne_of_gt u)
section
variable{w:Y}{c:Cn}{K:aW.Q}{κ:N->N}{m:aW.St}{b:Ac.B}{s:Ac.St}{a g i:N}{y:dw.St}
theorem Am(w:Y)(h:dw.At w a y):C 71 #[I a 0] w λe d=>e=O (J 0)/\w=d:=by
 have p:=h.pt;clear h;go_enter func71,ntmps71;go_wp2_with fail;go_ret;exact⟨T,T⟩
theorem DV(w:Y)(h:Ac.At w κ b s):C 36 #[I b.ab 0] w λe d=>e=O (J s.bn)/\w=d:=by
 have p:=h.p3;clear h;go_enter func36,ntmps36;go_wp2_with fail;go_ret;exact⟨T,T⟩
theorem ky(w:Y)(h:Ac.At w κ b s):C 37 #[I b.ab 0] w λe d=>e=O (J s.aY)/\w=d:=by
 have p:=h.p4;clear h;go_enter func37,ntmps37;go_wp2_with fail;go_ret;exact⟨T,T⟩
theorem AP(w:Y)(h:Ac.At w κ b s):C 38 #[I b.ab 0] w λe p=>∃o,e=O o/\ae w p/\p.ownsRow w.heap.size 44 2 o s.ak.length (fY s.ak):=by
 have x:=h.p2;have k:=h.ll;have l:=h.eT;have n:jd w 2 (some ⟨b.lg,0,none⟩) s.ak.length (fY s.ak):=⟨Ac.vv _,λ_=>⟨b.lg,0,T,λj u r=>by rw[br,bK h.loc];simpa using r⟩⟩;have q:=M n;clear h n;go_enter func38,ntmps38;go_wp2_with fail;refine(IM s.ak b.lg s.ak.length s.ak.length w k q (by omega)).mono ?_;rintro e A⟨z,rfl,f,d⟩;obtain⟨t,v,rfl⟩:=aD d;have HP:=M (aq f d);clear f d;go_wp2_with fail;go_ret;exact⟨_,T,HP⟩
theorem AJ(w:Y)(h:dw.At w a y):C 27 #[.agg #[I a 0]] w λe l=>e=O (J 0)/\ae w l:=by
 obtain⟨d,-,j⟩:=Ac.aO w #[I a 0] 56;have HP:=M d;have k:Hid (dw.At (w.alloc (D #[I a 0] 56)) a y):=M (h.MC d (λf=>f));have o:(w.alloc (D #[I a 0] 56)).cell? (I w.heap.size 0)=some (.pointer (some (I a 0))):=by rw[bK j];rfl
 clear d j h;go_enter func27,ntmps27;go_upto_region 1 with fail;generalize w.alloc _=n at *;generalize w.heap.size=X at *;go_wp2_with fail;refine(Am n k).mono ?_;rintro e p⟨rfl,rfl⟩;go_wp2_with fail;go_ret;exact⟨T,HP⟩
theorem CB(w:Y)(h:jS w c K κ m b s a y g i):C 26 #[I g 0] w λe p=>e=O (.tuple #[J (dq.cY m.s.l 0),J (dq.cY m.s.l 1),J (dq.cY m.s.l 2)])/\ae w p:=by
 have o:=h.hp.p0;have l:=h.kG.bU.bm.wV;have t0:=h.kG.bU.bm.fB.cs.1;have n:=M h;clear h;go_enter func26,ntmps26;go_wp2_with fail;refine(aW.nL K.q.tb w).mono ?_;rintro e q⟨rfl,d⟩;have f:=M (n.pure d);have j:=M d;clear d o l t0;go_wp2_with fail;refine(dq.xY K.q.tb K.q.tg m.s.l q f.kG.bU.bm.fB.im).mono ?_;rintro e r⟨rfl,k⟩;go_wp2_with fail;go_ret3;exact⟨T,j.MD k⟩
theorem GN(j:N)(o:dq.dy)(w:Y)(h:jS w c K κ m b s a y g i)(q:m.s.l[j]?=some o):C 32 #[I g 0,J j] w λe r=>e=O (J o.st)/\ae w r:=by
 have p:=h.hp.p0;have l:=h.kG.bU.bm.wV;have t0:=h.kG.bU.bm.fB.cs.1;have n:=M h;clear h;go_enter func32,ntmps32;go_wp2_with fail;refine(aW.nL K.q.tb w).mono ?_;rintro e t⟨rfl,d⟩;have f:=M (n.pure d);have k:=M d;clear d p l t0;go_wp2_with fail;refine(dq.iz K.q.tb K.q.tg m.s.l j o t f.kG.bU.bm.fB.im q).mono ?_;rintro e u⟨rfl,rfl⟩;go_wp2_with fail;go_ret;exact⟨T,k⟩
theorem CR(j:N)(o:dq.dy)(w:Y)(h:jS w c K κ m b s a y g i)(q:m.s.l[j]?=some o):C 133 #[I g 0,J j] w λe r=>e=O (L o.head)/\ae w r:=by
 have p:=h.hp.p0;have l:=h.kG.bU.bm.wV;have t0:=h.kG.bU.bm.fB.cs.1;have n:=M h;clear h;go_enter func133,ntmps133;go_wp2_with fail;refine(aW.nL K.q.tb w).mono ?_;rintro e t⟨rfl,d⟩;have f:=M (n.pure d);have k:=M d;clear d p l t0;go_wp2_with fail;refine(dq.pa K.q.tb K.q.tg m.s.l j o t f.kG.bU.bm.fB.im q).mono ?_;rintro e u⟨rfl,rfl⟩;go_wp2_with fail;go_ret;exact⟨T,k⟩
theorem ss(j:N)(z:Nat × Nat)(w:Y)(h:jS w c K κ m b s a y g i)(hz:m.am[j]?=some z):C 132 #[I g 0,J j] w λe f=>e=O (U z.1 z.2)/\w=f:=by
 have k:=h.hp.p0;have l:=h.kG.bU.bm.q9;have d:=M h;clear h;go_enter func132,ntmps132;go_wp2_with fail;refine(aW.LI j z w d.kG.bU.bm hz).mono ?_;rintro e n⟨rfl,rfl⟩;go_wp2_with fail;go_ret;exact⟨T,T⟩
theorem xq(w:Y)(h:jS w c K κ m b s a y g i):C 13 #[I g 0,J 0] w λe l=>∃k,e=O (.tuple #[J s.bn,J s.aY,k])/\ae w l/\l.ownsRow w.heap.size 44 2 k s.ak.length (fY s.ak):=by
 obtain⟨q,r⟩:=h.hp.p2;have t:=h.hp.cI;have j:=M h;clear h;go_enter func13,ntmps13;go_wp2_with fail;refine(DV w j.kG.bU.bj).mono ?_;rintro e n⟨rfl,rfl⟩;go_wp2_with fail;refine(ky w j.kG.bU.bj).mono ?_;rintro e n⟨rfl,rfl⟩;go_wp2_with fail;refine(AP w j.kG.bU.bj).mono ?_;rintro e n⟨u,rfl,f,d⟩;obtain⟨o,p,rfl⟩:=aD d;have HP:=M (aq f d);clear f d;go_wp2_with fail;go_ret3;exact⟨_,T,HP⟩
theorem ry(w:Y)(h:jS w c K κ m b s a y g i)(hx:∀s∈K.ba,s.bs.length<=1000000):C 28 #[I g 0] w λe Q=>∃A d n,e=O (hI c (Z A K.ba.length d))/\ae w Q/\dm Q Q.heap.size (Z A K.ba.length d) n/\alike K.ba n/\(∀k,mK (Z A K.ba.length d) n k->w.heap.size<=k/\k<Q.heap.size):=by
 obtain⟨Av,cv,z⟩:∃A S,K.cv=Z A K.ba.length S:=by
  obtain⟨⟨A,S,h,_⟩,_⟩:=h.kG.bU.bm.cH;exact⟨A,S,h⟩
 obtain⟨W,-,hr⟩:=Ac.aO w #[J 0,J 0,J 0,J 0,J 0,J 0,J 0,J 0,Z none 0 0] 24;have HP:=M W;have G:=M (h.pure W);have X:=M hr;have r:=M z;have HX:=M hx;have R:Hid ((w.alloc (D #[J 0,J 0,J 0,J 0,J 0,J 0,J 0,J 0,Z none 0 0] 24)).heap.size=w.heap.size+1):=M (by simp);clear W hr h z hx;go_enter func28,ntmps28;go_upto_region 1 with fail;generalize w.alloc _=w1 at *;obtain⟨k0,k1,k2,k3,k4,k5,k6,k7,k8⟩:=G.kG.bU.bm.qc;rw[r.out]at k8;have g0:=G.hp.p0;go_wp2_with fail;refine(lV c _ K.ba w1 (r▸G.kG.bU.bm.cH) G.kG.bU.bm.ok HX).mono ?_;rintro e w2⟨F,H,m2,rfl,o,E,B,x⟩;have t:=M (o.bF X);have f:=M (aq (HP.MD o) (aq E (aq x B)));clear o E B x k0 k1 k2 k3 k4 k5 k6 k7 k8 g0 X;have l:∀j u,(#[J 0,J 0,J 0,J 0,J 0,J 0,J 0,J 0,Z none 0 0]:Array Value)[j]?=some u->w2.cell? (I w.heap.size j)=some u:=λj u hu=>by rw[bK t.out];exact hu
 have z0:=l 0 _ T;have z1:=l 1 _ T;have z2:=l 2 _ T;have z3:=l 3 _ T;have z4:=l 4 _ T;have z5:=l 5 _ T;have z6:=l 6 _ T;have z7:=l 7 _ T;have z8:=l 8 _ T;have f1:=λk=>ey k t;clear l;go_wp2_with fail;have a1:=R.out;refine au (v:=hI c (Z F K.ba.length H)) (by simp[results,results28,go_sem,z0,z1,z2,z3,z4,z5,z6,z7,z8]) T ⟨F,H,m2,T,(Ac.ac.new (Ac.ac.new (Ac.ac.new (Ac.ac.new (Ac.ac.new (Ac.ac.new (Ac.ac.new (Ac.ac.new (Ac.ac.new f.1 w.heap.size 0 (J c.ag) (ci _)) w.heap.size 1 (J c.al) (ci _)) w.heap.size 2 (J c.ap) (ci _)) w.heap.size 3 (J c.ao) (ci _)) w.heap.size 4 (J c.ak) (ci _)) w.heap.size 5 (J c.aB) (ci _)) w.heap.size 6 (J c.be) (ci _)) w.heap.size 7 (J c.di) (ci _)) w.heap.size 8 (Z F K.ba.length H) (ci _)),f.2.1.MC ((((((((((ac.refl (λq=>q=w.heap.size) w2).setCell (p:=⟨w.heap.size,0,none⟩) (λ_=>T) (J c.ag)).setCell (p:=⟨w.heap.size,1,none⟩) (λ_=>T) (J c.al)).setCell (p:=⟨w.heap.size,2,none⟩) (λ_=>T) (J c.ap)).setCell (p:=⟨w.heap.size,3,none⟩) (λ_=>T) (J c.ao)).setCell (p:=⟨w.heap.size,4,none⟩) (λ_=>T) (J c.ak)).setCell (p:=⟨w.heap.size,5,none⟩) (λ_=>T) (J c.aB)).setCell (p:=⟨w.heap.size,6,none⟩) (λ_=>T) (J c.be)).setCell (p:=⟨w.heap.size,7,none⟩) (λ_=>T) (J c.di)).setCell (p:=⟨w.heap.size,8,none⟩) (λ_=>T) (Z F K.ba.length H)) (λk P e=>by have:=(f.2.2.2 k P).1;omega),f.2.2.1,λk P=>⟨by have:=(f.2.2.2 k P).1;omega,by have:=(f.2.2.2 k P).2;simpa[World.setCell]using this⟩⟩
end
end
section
namespace Vw
structure St where
 ar:Bool
 rv:Value
 bs:List Bool
 head:N
 aE:N
 n:N
 fv:Value
 fs:List Int
 ix:V
 nw:N
 tv:Value
 ts:List Int
abbrev cs(hb:N)(c:Cn)(v:Value)(s:St):Array Value:=#[I hb 0,J c.ag,J c.al,J c.ap,J c.ao,J c.ak,J c.aB,J c.be,J c.di,v,L s.ar,s.rv,J s.head,J s.aE,J s.n,s.fv,J s.ix,J s.nw,s.tv]
structure At(w:Y)(B vb hb:N)(c:Cn)(v:Value)(sh:List Sh)(s:St):Prop where
 me:w.heap[vb]?=some (D (cs hb c v s) 143 (0,0))
 cH:dm w w.heap.size v sh
 ok:bk c sh=0
 refs:mE w w.heap.size s.rv (da s.bs)
 ag:w.ownsRow B 3 1 s.fv s.fs.length (bI s.fs)
 BL:w.ownsRow B 3 1 s.tv s.ts.length (bI s.ts)
 new:B<=vb
 ro:∀k,mK v sh k\/s.rv.ownBlock=some k->k≠vb/\s.fv.ownBlock≠some k/\s.tv.ownBlock≠some k/\k<w.heap.size
 EO:∀k,s.fv.ownBlock=some k->s.tv.ownBlock≠some k
section
variable{w w':Y}{B a b:N}{c:Cn}{v:Value}{sh:List Sh}{s:St}
theorem At.p0(h:At w B a b c v sh s):w.cell? (I a 0)=some (.pointer (some (I b 0))):=by rw[bK h.me];rfl
theorem At.p1(h:At w B a b c v sh s):w.cell? (I a 1)=some (J c.ag):=by rw[bK h.me];rfl
theorem At.p2(h:At w B a b c v sh s):w.cell? (I a 2)=some (J c.al):=by rw[bK h.me];rfl
theorem At.p3(h:At w B a b c v sh s):w.cell? (I a 3)=some (J c.ap):=by rw[bK h.me];rfl
theorem At.p4(h:At w B a b c v sh s):w.cell? (I a 4)=some (J c.ao):=by rw[bK h.me];rfl
theorem At.p5(h:At w B a b c v sh s):w.cell? (I a 5)=some (J c.ak):=by rw[bK h.me];rfl
theorem At.p6(h:At w B a b c v sh s):w.cell? (I a 6)=some (J c.aB):=by rw[bK h.me];rfl
theorem At.p7(h:At w B a b c v sh s):w.cell? (I a 7)=some (J c.be):=by rw[bK h.me];rfl
theorem At.p8(h:At w B a b c v sh s):w.cell? (I a 8)=some (J c.di):=by rw[bK h.me];rfl
theorem At.p9(h:At w B a b c v sh s):w.cell? (I a 9)=some (v):=by rw[bK h.me];rfl
theorem At.sq(h:At w B a b c v sh s):w.cell? (I a 10)=some (L s.ar):=by rw[bK h.me];rfl
theorem At.kv(h:At w B a b c v sh s):w.cell? (I a 11)=some (s.rv):=by rw[bK h.me];rfl
theorem At.jc(h:At w B a b c v sh s):w.cell? (I a 12)=some (J s.head):=by rw[bK h.me];rfl
theorem At.pt(h:At w B a b c v sh s):w.cell? (I a 13)=some (J s.aE):=by rw[bK h.me];rfl
theorem At.rf(h:At w B a b c v sh s):w.cell? (I a 14)=some (J s.n):=by rw[bK h.me];rfl
theorem At.qC(h:At w B a b c v sh s):w.cell? (I a 15)=some (s.fv):=by rw[bK h.me];rfl
theorem At.tP(h:At w B a b c v sh s):w.cell? (I a 16)=some (J s.ix):=by rw[bK h.me];rfl
theorem At.vG(h:At w B a b c v sh s):w.cell? (I a 17)=some (J s.nw):=by rw[bK h.me];rfl
theorem At.rh(h:At w B a b c v sh s):w.cell? (I a 18)=some (s.tv):=by rw[bK h.me];rfl
theorem At.fz(h:At w B a b c v sh s)(k:N):w.frozen? (I a k)=false:=ey k h.me
theorem At.lt(h:At w B a b c v sh s):a<w.heap.size:=(bR.1 h.me).1
theorem At.pure(h:At w B a b c v sh s)(d:ae w w'):At w' B a b c v sh s:=⟨d.bF h.me,h.cH.pure d,h.ok,h.refs.pure d,d.own h.ag (λ_ _ f=>f),d.own h.BL (λ_ _ f=>f),h.new,λk e=>⟨(h.ro k e).1,(h.ro k e).2.1,(h.ro k e).2.2.1,eR (h.ro k e).2.2.2 d.size⟩,h.EO⟩
end
section
variable{w:Y}{B a hb lg yb:N}{c:Cn}{v:Value}{sh:List Sh}{t:St}{K:aW.Q}{κ:N->N}{m:aW.St}{b:Ac.B}{s:Ac.St}{y:dw.St}
theorem jC(i j:N)(z:Nat × Nat)(w:Y)(h:At w B a hb c v sh t)(q:jS w c K κ m b s yb y hb lg)(x:(i:V)<c.ag)(hj:j<8)(hz:m.am[8*i+j]?=some z):C 135 #[I a 0,J i,J j] w λe w'=>e=O (U z.1 z.2)/\ae w w':=by
 obtain⟨A,g,E⟩:∃A g,v=Z A sh.length g:=by
  obtain⟨⟨A,g,e,_⟩,_⟩:=h.cH;exact⟨A,g,e⟩
 subst E;have H:=M h;have u:=M q;have o:=M hz;have F:=h.p1;have G:=h.p2;have P:=h.p3;have Q:=h.p4;have R:=h.p5;have S:=h.p6;have W:=h.p7;have X:=h.p8;have p9:=h.p9;clear h q hz;go_enter func135,ntmps135;go_wp2_with fail;refine(lZ c _ sh i j w H.cH H.ok (by omega) x (by omega) (by omega)).mono ?_;rintro e w2⟨rfl,d⟩;have r:=M (H.pure d);have k:=M (u.pure d);have l:=M d;have p:(8*(i:V)+(j:V))=((8*i+j:N):V):=by omega
 rw[p];obtain⟨n,f⟩:∃n:N,8*i+j=n:=⟨_,T⟩;rw[f]at o ⊢;have p0:=r.p0;clear F G P Q R S W X p9 p d f;go_wp2_with fail;refine(ss n z w2 k o).mono ?_;rintro e w3⟨rfl,rfl⟩;go_wp2_with fail;go_ret;exact⟨T,l⟩
theorem yf(i:N)(w:Y)(h:At w B a hb c v sh t)(j:(i:V)<c.ag):C 206 #[I a 0,U (bi i).1 (bi i).2] w λe g=>e=O (.tuple #[J i,L true])/\ae w g:=by
 have f:=db h.ok;have d:i<=1000000:=by omega
 have k:=h.p1;clear h;go_enter func206,ntmps206;go_wp2_with fail;refine(ij i w d).mono ?_;rintro e l⟨rfl,rfl⟩;go_wp2_with fail;go_quiet (fail);go_wp2_with fail;go_ret2;exact⟨T,(ck w).drewN _⟩
theorem qD(w:Y):C 207 #[I a 0,U bD.1 bD.2] w λe d=>e=O (L true)/\w=d:=by
 go_enter func207,ntmps207;go_wp2_with fail;refine(index_none w).mono ?_;rintro e f⟨rfl,rfl⟩;go_wp2_with fail;refine(zt w).mono ?_;rintro e g⟨rfl,rfl⟩;go_wp2_with fail;go_ret;exact⟨T,T⟩
