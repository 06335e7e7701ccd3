/- Part 18 of the proof of spotop.TopChurn. -/
import Derived.Test.YtpgdiceeimehiaaGreatR16
set_option maxRecDepth 100000
set_option maxHeartbeats 16000000
set_option linter.all false
open Go.Proofs.Tryz
namespace Go.Proofs.YtpgdiceeimehiaaGreat
open RowKit
namespace Hl
structure St where
 from_:N
 fX:N
 ah:Bool
 pc:V
 k:N
 dst:N
 head:N
 d:N
 j:N
 w:Nat × Nat
 dF:N
def cs(c:Cn)(v:Value)(s:St)(n:V):Array Value:=#[J c.ag,J c.al,J c.ap,J c.ao,J c.ak,J c.aB,J c.be,J c.di,v,J s.from_,J s.fX,L s.ah,J s.pc,J s.k,J s.dst,J s.head,J s.d,J s.j,U s.w.1 s.w.2,J 0,J s.dF,J n]
structure At(w:Y)(hb:N)(c:Cn)(v:Value)(sh:List Sh)(s:St):Prop where
 me:∃n:V,w.heap[hb]?=some (D (cs c v s n) 227 (0,0))
 cH:dm w w.heap.size v sh
 ok:bk c sh=0
 ro:∀k,mK v sh k->k≠hb/\k<w.heap.size
section
variable{w w':Y}{b:N}{c:Cn}{v:Value}{sh:List Sh}{s:St}
theorem At.p0(h:At w b c v sh s):w.cell? (I b 0)=some (J c.ag):=by
 obtain⟨n,a⟩:=h.me;rw[bK a];rfl
theorem At.p1(h:At w b c v sh s):w.cell? (I b 1)=some (J c.al):=by
 obtain⟨n,a⟩:=h.me;rw[bK a];rfl
theorem At.p2(h:At w b c v sh s):w.cell? (I b 2)=some (J c.ap):=by
 obtain⟨n,a⟩:=h.me;rw[bK a];rfl
theorem At.p3(h:At w b c v sh s):w.cell? (I b 3)=some (J c.ao):=by
 obtain⟨n,a⟩:=h.me;rw[bK a];rfl
theorem At.p4(h:At w b c v sh s):w.cell? (I b 4)=some (J c.ak):=by
 obtain⟨n,a⟩:=h.me;rw[bK a];rfl
theorem At.p5(h:At w b c v sh s):w.cell? (I b 5)=some (J c.aB):=by
 obtain⟨n,a⟩:=h.me;rw[bK a];rfl
theorem At.p6(h:At w b c v sh s):w.cell? (I b 6)=some (J c.be):=by
 obtain⟨n,a⟩:=h.me;rw[bK a];rfl
theorem At.p7(h:At w b c v sh s):w.cell? (I b 7)=some (J c.di):=by
 obtain⟨n,a⟩:=h.me;rw[bK a];rfl
theorem At.p8(h:At w b c v sh s):w.cell? (I b 8)=some (v):=by
 obtain⟨n,a⟩:=h.me;rw[bK a];rfl
theorem At.p9(h:At w b c v sh s):w.cell? (I b 9)=some (J s.from_):=by
 obtain⟨n,a⟩:=h.me;rw[bK a];rfl
theorem At.sq(h:At w b c v sh s):w.cell? (I b 10)=some (J s.fX):=by
 obtain⟨n,a⟩:=h.me;rw[bK a];rfl
theorem At.kv(h:At w b c v sh s):w.cell? (I b 11)=some (L s.ah):=by
 obtain⟨n,a⟩:=h.me;rw[bK a];rfl
theorem At.jc(h:At w b c v sh s):w.cell? (I b 12)=some (J s.pc):=by
 obtain⟨n,a⟩:=h.me;rw[bK a];rfl
theorem At.pt(h:At w b c v sh s):w.cell? (I b 13)=some (J s.k):=by
 obtain⟨n,a⟩:=h.me;rw[bK a];rfl
theorem At.rf(h:At w b c v sh s):w.cell? (I b 14)=some (J s.dst):=by
 obtain⟨n,a⟩:=h.me;rw[bK a];rfl
theorem At.qC(h:At w b c v sh s):w.cell? (I b 15)=some (J s.head):=by
 obtain⟨n,a⟩:=h.me;rw[bK a];rfl
theorem At.tP(h:At w b c v sh s):w.cell? (I b 16)=some (J s.d):=by
 obtain⟨n,a⟩:=h.me;rw[bK a];rfl
theorem At.vG(h:At w b c v sh s):w.cell? (I b 17)=some (J s.j):=by
 obtain⟨n,a⟩:=h.me;rw[bK a];rfl
theorem At.rh(h:At w b c v sh s):w.cell? (I b 18)=some (U s.w.1 s.w.2):=by
 obtain⟨n,a⟩:=h.me;rw[bK a];rfl
theorem At.xJ(h:At w b c v sh s):w.cell? (I b 19)=some (J 0):=by
 obtain⟨n,a⟩:=h.me;rw[bK a];rfl
theorem At.Fc(h:At w b c v sh s):w.cell? (I b 20)=some (J s.dF):=by
 obtain⟨n,a⟩:=h.me;rw[bK a];rfl
theorem At.Lm(h:At w b c v sh s):∃n:V,w.cell? (I b 21)=some (J n):=by
 obtain⟨n,a⟩:=h.me;exact⟨n,by rw[bK a];rfl⟩
theorem At.fz(h:At w b c v sh s)(k:N):w.frozen? (I b k)=false:=by
 obtain⟨n,a⟩:=h.me;exact ey k a
theorem At.lt(h:At w b c v sh s):b<w.heap.size:=by
 obtain⟨n,a⟩:=h.me;exact(bR.1 a).1
theorem At.MC{Tq:N->Prop}(h:At w b c v sh s)(a:ac Tq w w')(e:¬Tq b)(g:∀k,mK v sh k->¬Tq k):At w' b c v sh s:=by
 obtain⟨n,f⟩:=h.me;exact⟨⟨n,a.bF f e⟩,h.cH.MC a g,h.ok,λk d=>⟨(h.ro k d).1,eR (h.ro k d).2 a.size⟩⟩
theorem At.pure(h:At w b c v sh s)(a:ae w w'):At w' b c v sh s:=h.MC a (λf=>f) (λ_ _ f=>f)
theorem At.drew(h:At w b c v sh s):At w.drew b c v sh s:=h.pure ((bo w).drewN 1)
theorem At.put(h:At w b c v sh s)(i:N)(u:Value)(s':St)(e:∀n,∃f,(cs c v s n).setIfInBounds i u=cs c v s' f):At (w.setCell (I b i) u) b c v sh s':=by
 obtain⟨n,l⟩:=h.me;obtain⟨f,d⟩:=e n;have g:=az (i:=i) (u:=u) l;rw[d]at g;have j:ac (λk=>k=b) w (w.setCell (I b i) u):=(ac.refl (λk=>k=b) w).setCell (p:=⟨b,i,none⟩) (λ_=>T) _;exact⟨⟨f,g⟩,h.cH.MC j (λk a e=>(h.ro k a).1 e),h.ok,λk a=>⟨(h.ro k a).1,eR (h.ro k a).2 j.size⟩⟩
theorem fx{a:Y}(h:ac (λk=>k=b) a w)(i:N)(u:Value):ac (λk=>k=b) a (w.setCell (I b i) u):=h.setCell (p:=⟨b,i,none⟩) (λ_=>T) _
end
def iR(s:St):St:={s with k:=s.k+s.d+2,pc:=if s.fX<=s.k+s.d+2 then 11 else 0}
section
variable{w a:Y}{b:N}{c:Cn}{v:Value}{sh:List Sh}{s:St}
theorem zl(c:Cn)(v:Value)(sh:List Sh)(w:Y)(f:dm w w.heap.size v sh)(d:bk c sh=0):C 6 #[hI c v] w λe a=>e=O (J 0)/\ae w a:=by
 have:=gK c v sh w f;rw[d]at this;exact this
theorem eY(k B i F:N)(am:List (Nat × Nat))(z:Nat × Nat)(w:Y)(h:At w b c v sh s)(K:Mm.At w i F am)(hf:s.from_=0\/s.from_=1)(hk:(k:V)<c.al)(m:8*c.ag+(s.from_:V)*c.al+(k:V)=(B:V))(hz:am[B]?=some z):C 280 #[I b 0,I i 0,J k] w λe a=>e=O (.tuple #[U z.1 z.2,L true])/\ac (λq=>q=i) w a/\Mm.At a i F am:=by
 obtain⟨A,u,hv⟩:∃A u,v=Z A sh.length u:=by
  obtain⟨⟨A,u,e,_⟩,_⟩:=h.cH;exact⟨A,u,e⟩
 subst hv;have H:=M h;have HM:=M K;have HZ:=M hz;have j:=M m;have P:=H.p0;have Q:=H.p1;have R:=H.p2;have W:=H.p3;have X:=H.p4;have p5:=H.p5;have p6:=H.p6;have p7:=H.p7;have p8:=H.p8;have G:=H.p9;obtain⟨E,n⟩:∃E,s.from_=E:=⟨_,T⟩;rw[n]at G hf j;clear h K hz m n;go_enter func280,ntmps280;go_wp2_with fail;refine bB (λa=>ae w a) ((bo w).drewN 1) (by kernel_rfl) (by kernel_rfl) ?_;intro S f _ d p;have q0:=λs=>(d s).aj P;have q1:=λs=>(d s).aj Q;have q2:=λs=>(d s).aj R;have q3:=λs=>(d s).aj W;have q4:=λs=>(d s).aj X;have q5:=λs=>(d s).aj p5;have q6:=λs=>(d s).aj p6;have q7:=λs=>(d s).aj p7;have q8:=λs=>(d s).aj p8;have q9:=λs=>(d s).aj G;have t:=M d;have l:=M p;clear d p P Q R W X p5 p6 p7 p8 G
 repeat(go_big_quiet_step ((go_at_call 235;exact aN l (t _) (λa hD k=>hD.MD k) (ni c _ sh (E:V) (k:V) _ (H.pure (t _)).cH H.ok (by omega) (by omega) hk))))
 refine wpQuiet_nil ?_;rintro w2⟨q,rfl⟩;have g:=t q;clear q0 q1 q2 q3 q4 q5 q6 q7 q8 q9 t l;generalize f q=wc at *;have x:=M (HM.MC g (λf=>f) (λf=>f));have O2:Hid (ac (λq=>q=i) w wc):=M (g.mono (λ_ _ f=>f.elim));clear g;rw[j.out];go_wp2_with fail;refine(Mm.eY i F am B z wc x HZ).mono ?_;rintro e w3⟨rfl,r,o⟩;have y:=M o;have O3:=M (O2.trans r (λ_ _ h=>h));clear r o;go_wp2_with fail;go_ret2;exact⟨T,O3,y⟩
theorem lO(k F l B x y:N)(am:List (Nat × Nat))(w:Y)(h:At w b c v sh s)(hm:Mm.At w l B am)(hf:s.from_=0\/s.from_=1)(hk:(s.dst:V)+(k:V)<c.al)(o:8*c.ag+(1-(s.from_:V))*c.al+((s.dst:V)+(k:V))=(F:V))(hz:F<am.length):C 285 #[I b 0,I l 0,J k,U x y] w λe a=>e=O (L true)/\ac (λq=>q=l\/q=B) w a/\Mm.At a l B (am.set F (x,y)):=by
 obtain⟨A,n,hv⟩:∃A n,v=Z A sh.length n:=by
  obtain⟨⟨A,n,e,_⟩,_⟩:=h.cH;exact⟨A,n,e⟩
 subst hv;have H:=M h;have HM:=M hm;have HZ:=M hz;have g:=M o;have a1:c.al<=2048:=by have:=db h.ok;omega
 have p0:=H.p0;have p1:=H.p1;have p2:=H.p2;have p3:=H.p3;have p4:=H.p4;have p5:=H.p5;have p6:=H.p6;have p7:=H.p7;have p8:=H.p8;have W:=H.p9;have j:=H.rf;obtain⟨G,p⟩:∃G,s.from_=G:=⟨_,T⟩;obtain⟨P,z⟩:∃P,s.dst=P:=⟨_,T⟩;rw[p]at W hf g;rw[z]at j hk g;have i1:P<=2048:=by omega
 have i2:k<=2048:=by omega
 clear h hm hz o p z;have K:∀(X:Y),ae w X->At X b c (Z A sh.length n) sh s:=λX hp=>H.pure hp;have HD:=M K;clear K;have i3:G<=1:=by omega
 go_enter func285,ntmps285;go_wp2_with fail;refine bB (λa=>ae w a) ((bo w).drewN 1) (by kernel_rfl) (by kernel_rfl) ?_;intro S f _ d t;have q0:=λs=>(d s).aj p0;have q1:=λs=>(d s).aj p1;have q2:=λs=>(d s).aj p2;have q3:=λs=>(d s).aj p3;have q4:=λs=>(d s).aj p4;have q5:=λs=>(d s).aj p5;have q6:=λs=>(d s).aj p6;have q7:=λs=>(d s).aj p7;have q8:=λs=>(d s).aj p8;have q9:=λs=>(d s).aj W;have qA:=λs=>(d s).aj j;have E:=M d;have m:=M t;clear d t p0 p1 p2 p3 p4 p5 p6 p7 p8 W j
 repeat(go_big_quiet_step ((go_at_call 235;exact aN m (E _) (λa K k=>K.MD k) (ni c _ sh (1-(G:V)) ((P:V)+(k:V)) _ (HD _ (E _)).cH H.ok (by omega) (by omega) hk))))
 refine wpQuiet_nil ?_;rintro w2⟨q,rfl⟩;have i:=E q;clear q0 q1 q2 q3 q4 q5 q6 q7 q8 q9 qA E m;generalize f q=wc at *;have Q:=M (HM.MC i (λf=>f) (λf=>f));have O2:Hid (ac (λq=>q=l\/q=B) w wc):=M (i.mono (λ_ _ f=>f.elim));clear i;rw[g.out];go_wp2_with fail;refine(Mm.lO l B am F x y wc Q HZ).mono ?_;rintro e w3⟨rfl,u,r⟩;have R:=M r;have O3:=M (O2.trans u (λ_ _ h=>h));clear u r;go_wp2_with fail;go_ret;exact⟨T,O3,R⟩
theorem wQ(w:Y)(h:At w b c v sh s)(t:(s.head:V)<c.ag):C 281 #[I b 0] w λe a=>e=O (J (8*s.head+4:N))/\ae w a:=by
 obtain⟨A,n,Q⟩:∃A n,v=Z A sh.length n:=by
  obtain⟨⟨A,n,e,_⟩,_⟩:=h.cH;exact⟨A,n,e⟩
 subst Q;have H:=M h;have u:=H.p0;have x:=H.p1;have y:=H.p2;have z:=H.p3;have B:=H.p4;have E:=H.p5;have F:=H.p6;have G:=H.p7;have K:=H.p8;have i:=H.qC;obtain⟨o,g⟩:∃o,s.head=o:=⟨_,T⟩;rw[g]at i t;have r:Hid (((8*s.head+4:N):V)=8*(o:V)+4):=M (by rw[g];omega);rw[r.out];clear h g r;go_enter func281,ntmps281;go_wp2_with fail;refine bB (λa=>ae w a) ((bo w).drewN 1) (by kernel_rfl) (by kernel_rfl) ?_;intro S f _ d l;have R:=λs=>(d s).aj u;have W:=λs=>(d s).aj x;have X:=λs=>(d s).aj y;have q3:=λs=>(d s).aj z;have q4:=λs=>(d s).aj B;have q5:=λs=>(d s).aj E;have q6:=λs=>(d s).aj F;have q7:=λs=>(d s).aj G;have q8:=λs=>(d s).aj K;have q9:=λs=>(d s).aj i;have m:=M d;have j:=M l;clear d l u x y z B E F G K i
 repeat(go_big_quiet_step ((go_at_call 203;exact aN j (m _) (λa P k=>P.MD k) (lZ c _ sh (o:V) 4 _ (H.pure (m _)).cH H.ok (by omega) t (by omega) (by omega)))))
 refine wpQuiet_nil ?_;rintro w2⟨q,rfl⟩;have p:=M (m q);clear R W X q3 q4 q5 q6 q7 q8 q9 m j;go_wp2_with fail;go_ret;exact⟨T,p⟩
theorem wN(w:Y)(h:At w b c v sh s)(R:s.k+s.d+2<=1000000):C 283 #[I b 0] w λe a=>e=O (.tuple #[])/\ac (λq=>q=b) w a/\At a b c v sh (iR s):=by
 have H:=M h;have j:=h.sq;have p:=h.jc;have l:=h.pt;have x:=h.tP;have K:=h.fz;obtain⟨f,o⟩:∃f,s.k=f:=⟨_,T⟩;obtain⟨d,m⟩:∃d,s.d=d:=⟨_,T⟩;obtain⟨t,g⟩:∃t,s.fX=t:=⟨_,T⟩;rw[o]at l R;rw[m]at x R;rw[g]at j;have A:=M g;obtain⟨B,i⟩:∃B:V,(if t<=f+d+2 then(11:V)else 0)=B:=⟨_,T⟩;have F:Hid (iR s={s with k:=f+d+2,pc:=B}):=M (by rw[iR,o,m,g,i]);rw[F.out];have E:=M p;clear h o m g F;by_cases u:t<=f+d+2
 all_goals
  first
  | rw[af u]at i
  | rw[aa u]at i
  subst i;go_enter func283,ntmps283;go_wp2_with fail;go_region_with fail
  all_goals
   go_upto_region 2 with fail;have P:=((H.put 13 (J ((f:V)+((d:V)+2))) {s with k:=f+d+2} (λn=>⟨n,by simp only[cs];rw[show((f+d+2:N):V)=(f:V)+((d:V)+2)by omega];rfl⟩)).put 12 (J 0) {s with k:=f+d+2,pc:=0} (λn=>⟨n,rfl⟩)).drew;have S:ac (λq=>q=b) w ((w.setCell (I b 13) (J ((f:V)+((d:V)+2)))).setCell (I b 12) (J 0)).drew:=(fx (fx (ac.refl (λq=>q=b) w) 13 (J ((f:V)+((d:V)+2)))) 12 (J 0)).drewN 1;have r:=M P;have G:=M S;clear P S j p l x K;change Code.wp _ _ _ _ ((w.setCell (I b 13) (J ((f:V)+((d:V)+2)))).setCell (I b 12) (J 0)).drew;generalize((w.setCell _ _).setCell _ _).drew=W at *;have j:=r.sq;have p:=r.jc;have l:=r.pt;have K:=r.fz;have X:((f+d+2:N):V)=(f:V)+(d:V)+2:=by omega
   rw[A.out]at j;simp only[X]at l
   first
   | (
    have hd:decide ((f:V)+(d:V)+2>=(t:V))=true:=fN (by omega);go_wp2_with fail;go_region_with fail
    all_goals
     have Q:=r.drew.put 12 (J 11) {s with k:=f+d+2,pc:=11} (λn=>⟨n,rfl⟩);have y:ac (λq=>q=b) w (W.drew.setCell (I b 12) (J 11)):=fx (G.drewN 1) 12 (J 11);have z:=M (aq y Q);clear Q y;go_wp2_with fail;go_end0;exact⟨T,z⟩)
   | (
    have hd:decide ((f:V)+(d:V)+2>=(t:V))=false:=dT (by omega);go_wp2_with fail;go_region_with fail
    all_goals
     have y:ac (λq=>q=b) w W.drew:=G.drewN 1;have z:=M (aq y r.drew);go_wp2_with fail;go_end0;exact⟨T,z⟩)
theorem we(w:Y)(h:At w b c v sh s):C 111 #[I b 0] w λe a=>e=O (J 0)/\w=a:=by
 have p:=h.xJ;clear h;go_enter func111,ntmps111;go_wp2_with fail;go_ret;exact⟨T,T⟩
theorem wL(w:Y)(h:At w b c v sh s):C 112 #[I b 0] w λe a=>e=O (J s.dF)/\w=a:=by
 have p:=h.Fc;clear h;go_enter func112,ntmps112;go_wp2_with fail;go_ret;exact⟨T,T⟩
theorem gS(fr en:N)(se:Bool)(w:Y)(E:dm w w.heap.size v sh)(o:bk c sh=0)(G:∀s∈sh,s.bs.length<=1000000):C 108 #[hI c v,J fr,J en,L se] w λe a=>∃b K m,e=O (I b 0)/\ae w a/\w.heap.size<=b/\(∀k,mK K m k->w.heap.size<=k/\k<a.heap.size)/\At a b c K m ⟨fr,en,se,0,0,0,0,0,0,(0,0),0⟩:=by
 obtain⟨A,f,rfl⟩:∃A f,v=Z A sh.length f:=by
  obtain⟨⟨A,f,e,_⟩,_⟩:=E;exact⟨A,f,e⟩
 have F:=Row.new w c (Z A sh.length f);have x:=M F;have P:=M (λ(a:Y) (h:ae w a)=>E.pure h);have Q:=M G;have i:=M o;clear F E G o;go_enter func108,ntmps108;go_upto_region 1 with fail;have z:Hid ((w.alloc (D #[J c.ag,J c.al,J c.ap,J c.ao,J c.ak,J c.aB,J c.be,J c.di,Z A sh.length f] 24)).heap.size=w.heap.size+1):=M (by simp);generalize w.alloc _=W at *;obtain⟨S,X,k2,k3,k4,k5,k6,k7,k8,kf⟩:=x.cells;go_wp2_with fail;refine(lV c _ sh W (P W x.2.2) i Q).mono ?_;rintro e r⟨t,B,H,rfl,p,q,n,l⟩;have j:=M (x.2.2.MD p);have y:=M q;have d:Hid (∀k,mK (Z t sh.length B) H k->w.heap.size<=k/\k<r.heap.size):=M (λk g=>by have:=n k g;have:=z.out;omega);have u:=M l;clear p q n l S X k2 k3 k4 k5 k6 k7 k8 kf;go_wp2_with fail;go_ret;have R:=ai r (D (cs c (Z t sh.length B) ⟨fr,en,se,0,0,0,0,0,0,(0,0),0⟩ 0) 227);have h:=(ck r).alloc (D (cs c (Z t sh.length B) ⟨fr,en,se,0,0,0,0,0,0,(0,0),0⟩ 0) 227);exact⟨r.heap.size,_,H,T,j.MD h,j.size,λk g=>⟨(d k g).1,eR (d k g).2 h.size⟩,⟨⟨0,R⟩,y.pure h,by rw[<-u.out.check];exact i,λk g=>⟨λe=>by have:=(d k g).2;omega,eR (d k g).2 h.size⟩⟩⟩
end
end Hl
section
namespace aW
theorem nL(tb:N)(w:Y):C 48 #[.agg #[I tb 0]] w λe a=>e=O (I tb 0)/\ae w a:=by
 go_enter func48,ntmps48;go_wp2_with fail;go_ret;exact⟨T,(bo _).alloc _⟩
def none:Nat × Nat:=(0,4607182418800017408)
def iu(n g j:N):List (Nat × Nat):=List.replicate n (0,0)++(List.replicate j none++List.replicate (g-j) (0,0))
theorem oa{n g j:N}(h:j<=g):(iu n g j).length=n+g:=by simp[iu];omega
theorem xD(n g:N):iu n g 0=List.replicate (n+g) (0,0):=by simp[iu,List.replicate_append_replicate]
theorem zb{n g j:N}(h:j<g):(iu n g j).set (n+j) none=iu n g (j+1):=by
 unfold iu;rw[cX _ _ (by simp),lm,Nat.add_sub_cancel_left,cX _ _ (by simp),lm,fj];obtain⟨d,a⟩:∃d,g-j=d+1:=⟨g-j-1,by omega⟩;rw[a,show g-(j+1)=d from by omega,fy,dv,List.replicate_succ',cS];rfl
open Classical in
noncomputable def mT (B mb mg tb tg sb pb hb hg:N) (F:N->Prop) (k:N):N:=if k<B then 9 else if k=mb\/k=mg then 1 else if k=tb\/k=tg then 2 else if k=sb\/k=pb then 3 else if k=hb\/k=hg then 5 else if F k then 4 else 0
section
variable{B a b tb tg d c e f:N}{F:N->Prop}{k:N}
theorem Cu(g:B<=k)(h:k=a\/k=b):mT B a b tb tg d c e f F k=1:=by
 unfold mT;rw[aa (by omega),af h]
theorem Cv(g:B<=k)(i:k≠a/\k≠b)(h:k=tb\/k=tg):mT B a b tb tg d c e f F k=2:=by
 unfold mT;rw[aa (by omega),aa (by omega),af h]
theorem IT(g:B<=k)(i:k≠a/\k≠b)(j:k≠tb/\k≠tg)(h:k=d\/k=c):mT B a b tb tg d c e f F k=3:=by
 unfold mT;rw[aa (by omega),aa (by omega),aa (by omega),af h]
theorem Cw(g:B<=k)(i:k≠a/\k≠b)(j:k≠tb/\k≠tg)(l:k≠d/\k≠c)(h:k=e\/k=f):mT B a b tb tg d c e f F k=5:=by
 unfold mT;rw[aa (by omega),aa (by omega),aa (by omega),aa (by omega),af h]
theorem IU(g:B<=k)(i:k≠a/\k≠b)(j:k≠tb/\k≠tg)(l:k≠d/\k≠c)(m:k≠e/\k≠f)(h:F k):mT B a b tb tg d c e f F k=4:=by
 unfold mT;rw[aa (by omega),aa (by omega),aa (by omega),aa (by omega),aa (by omega),af h]
theorem IR(g:B<=k)(i:k≠a/\k≠b)(j:k≠tb/\k≠tg)(l:k≠d/\k≠c)(m:k≠e/\k≠f)(h:¬F k):mT B a b tb tg d c e f F k=0:=by
 unfold mT;rw[aa (by omega),aa (by omega),aa (by omega),aa (by omega),aa (by omega),aa h]
theorem Cx(g:k<B):mT B a b tb tg d c e f F k=9:=by
 unfold mT;rw[af g]
end
abbrev s0(c:Cn)(f:N):Sp.St:=⟨List.replicate f ⟨0,false,false⟩,List.replicate f true,c.al,0,λ_=>0,0,Z Option.none 0 0,[],Z Option.none 0 0,[],false⟩
theorem CD{c:Cn}{w S v wr i:Y}{q:Sp.Q}{g u:List Sh}{b a f R n j l nt:N}{s:Option Addr}{t:N}(hB:w.heap.size+1<=b)(h5:b+6<=S.heap.size)(p:q.tb=b+3)(r:q.tg=b+2)
  (hF:∀k,Sp.F q (s0 c f) k->k=b+3\/k=b+2\/S.heap.size<=k) (hR:∀k,Sp.R q g k->S.heap.size<=k) (o:∀k,Sp.F q (s0 c f) k->k<a) (B:∀k,Sp.R q g k->k<a)
  (hh:b+6<=a) (h7:v.heap.size=a+2) (Q:Sd.At v (b+2+3) (b+2+1) (b+2) (b+2+2) (Z Option.none 0 0) (List.replicate f ⟨0,false,false⟩) R false [])
  (z:Sp.At v c g q (s0 c f)) (G:Ha.At v (a+1) a 0 false (List.replicate nt (-1))) (A:ac (λk=>k=b+1\/k=b) v wr) (K:Mm.At wr (b+1) b (iu n j j)) (hp:ae wr i)
  (hs:dm i i.heap.size (Z s l t) u) (hf:∀k,mK (Z s l t) u k->a+2<=k/\k<i.heap.size) (hz:a+2<=i.heap.size) (P:bk c u=0) (E:alike u g) :
  At (i.alloc (D #[J c.ag,J c.al,J c.ap,J c.ao,J c.ak,J c.aB,J c.be,J c.di,Z s l t,.pointer (some ⟨b+1,0,Option.none⟩),.pointer (some ⟨b+2+3,0,Option.none⟩),.pointer (some ⟨q.sp,0,Option.none⟩),.pointer (some ⟨a+1,0,Option.none⟩)] 123)) c
   ⟨i.heap.size,b+1,b,b+2+3,b+2+2,a+1,a,R,Z s l t,u,g,q⟩ (mT w.heap.size (b+1) b (b+3) (b+2) (b+2+3) (b+2+2) (a+1) a (Sp.F q (s0 c f)))
   ⟨iu n j j,Z Option.none 0 0,false,[],s0 c f,0,false,List.replicate nt (-1)⟩:=by
 have x:ae i (i.alloc (D #[J c.ag,J c.al,J c.ap,J c.ao,J c.ak,J c.aB,J c.be,J c.di,Z s l t,.pointer (some ⟨b+1,0,Option.none⟩),.pointer (some ⟨b+2+3,0,Option.none⟩),.pointer (some ⟨q.sp,0,Option.none⟩),.pointer (some ⟨a+1,0,Option.none⟩)] 123)):=(ck i).alloc _;have m:=hp.MD x;have a9:v.heap.size<=wr.heap.size:=A.size;have a6:wr.heap.size<=i.heap.size:=hp.size;have nF:∀k,Sp.F q (s0 c f) k->¬(k=b+1\/k=b):=λk d=>by have:=hF k d;omega
 have nR:∀k,Sp.R q g k->¬(k=b+1\/k=b):=λk d=>by have:=hR k d;omega
 have y:=(Q.MC A (λk d=>by
  rcases d with d|d|d|d|d
  ·omega
  ·omega
  ·omega
  ·omega
  ·simp[Value.ownBlock]at d)).pure m
 have h0:∀k,k=i.heap.size\/mK (Z s l t) u k\/Sp.R q g k->b+6<=k/\¬Sp.F q (s0 c f) k/\k≠a+1/\k≠a/\k<i.heap.size+1:=λk d=>by
  rcases d with d|d|d
  ·exact⟨by omega,λh=>by have:=o _ h;omega,by omega,by omega,by omega⟩
  ·have:=hf k d;exact⟨by omega,λh=>by have:=o _ h;omega,by omega,by omega,by omega⟩
  ·have:=hR k d;have X:=B k d;exact⟨by omega,(z.ro k d).1,by omega,by omega,by omega⟩
 refine⟨ai i _,K.MC m (λf=>f) (λf=>f),?_,(z.MC A nF nR (λe F=>by simp at F)).pure m,(G.MC A (by omega) (by omega)).MC m (λf=>f) (λf=>f),hs.pure x,P,E,λk d=>?_,?_,?_,λk d=>?_,λk d=>?_,?_⟩
 ·show Sd.At _ (b+2+3) q.tb q.tg (b+2+2) (Z Option.none 0 0) (List.replicate f ⟨0,false,false⟩) R false [];rw[p,r];exact y
 ·obtain⟨a1,W,a3,a4,a5⟩:=h0 k d;exact⟨IR (by omega) (by omega) (by omega) (by omega) (by omega) W,by simpa using a5⟩
 ·exact⟨Cu (by show w.heap.size<=b+1;omega) (.inl T),Cu (by show w.heap.size<=b;omega) (.inr T)⟩
 ·show mT _ _ _ _ _ _ _ _ _ _ q.tb=2/\mT _ _ _ _ _ _ _ _ _ _ q.tg=2;rw[p,r];exact⟨Cv (by omega) (by omega) (.inl T),Cv (by omega) (by omega) (.inr T)⟩
 ·have H:k=b+2+3\/k=b+2+2:=by
   rcases d with d|d|d
   ·exact .inl d
   ·exact .inr d
   ·simp[Value.ownBlock]at d
  exact IT (by omega) (by omega) (by omega) H
 ·rcases d with⟨d,h1,X⟩|⟨e,F,_⟩
  ·have a1:=hF k d;have W:=o k d;have a7:k≠b+3:=λe=>h1 (e.trans p.symm);have a8:k≠b+2:=λe=>X (e.trans r.symm);exact IU (by omega) (by omega) (by omega) (by omega) (by omega) d
  ·simp at F
 ·exact⟨Cw (by show w.heap.size<=a+1;omega) (by show a+1≠_/\a+1≠_;omega) (by show a+1≠_/\a+1≠_;omega) (by show a+1≠_/\a+1≠_;omega) (.inl T),Cw (by show w.heap.size<=a;omega) (by show a≠_/\a≠_;omega) (by show a≠_/\a≠_;omega) (by show a≠_/\a≠_;omega) (.inr T)⟩
theorem pn(c:Cn)(v:Value)(sh:List Sh)(w:Y)(hc:dm w w.heap.size v sh)(a7:bk c sh=0)(hx:∀s∈sh,s.bs.length<=1000000):C 21 #[hI c v] w λe w'=>∃K κ,e=O (.tuple #[.pointer (some ⟨K.kb,0,Option.none⟩),J 0])/\ae w w' /\
   At w' c K κ ⟨iu (8*c.ag+2*c.al).toNat c.ap.toNat c.ap.toNat,Z Option.none 0 0,false,[],⟨List.replicate c.ag.toNat ⟨0,false,false⟩,List.replicate c.ag.toNat true,c.al,0,λ_=>0,0,Z Option.none 0 0,[],Z Option.none 0 0,[],false⟩,0,false,List.replicate c.ao.toNat (-1)⟩ /\
   K.bp=c.be.toNat/\(K.q.ns:V)=c.ao/\alike sh K.ba/\∀k,κ k<=5->w.heap.size<=k:=by
 obtain⟨A,cc,rfl⟩:∃A cc,v=Z A sh.length cc:=by
  obtain⟨⟨A,cc,rfl,_⟩,_⟩:=hc;exact⟨A,cc,T⟩
 have hb:=db a7;have hm:=kD a7;obtain⟨f,hf⟩:∃f:N,c.ag=f:=dg (by omega);obtain⟨sk,h5⟩:∃f:N,c.be=f:=dg (by omega);obtain⟨g,hg⟩:∃f:N,c.ap=f:=dg (by omega);obtain⟨n,hn⟩:∃n:N,8*c.ag+2*c.al=n:=dg (by omega);obtain⟨nt,g4⟩:=dg (show 0<=c.ao by omega);rw[show c.ao.toNat=nt from by omega,show c.ag.toNat=f from by omega,show c.be.toNat=sk from by omega,show c.ap.toNat=g from by omega,show(8*c.ag+2*c.al).toNat=n from by omega];have hr:=Row.new w c (Z A sh.length cc);have HL:=M (λ(w':Y) (hp:ae w w')=>hc.pure hp);have HX:=M hx;have d:=M a7;have HF:=M hf;have l9:=M h5;have HG:=M hg;have HN:=M hn;have o0:1<=nt/\nt<=16:=by omega
 have HT:=M g4;have HR:=M hr;have HB:=M hb;have HM:=M hm;have n3:f<=1024:=by omega
 have n5:1<=sk:=by omega
 have n6:sk<=256:=by omega
 have o1:g<=8:=by omega
 have o2:n<=20000:=by omega
 clear hc hx hr a7 g4 hf h5 hg hn hb hm;go_enter func21,ntmps21;go_upto_region 1 with fail;have m4:Hid ((w.alloc (D #[J c.ag,J c.al,J c.ap,J c.ao,J c.ak,J c.aB,J c.be,J c.di,Z A sh.length cc] 24)).heap.size=w.heap.size+1):=M (by simp);generalize w.alloc _=W at *;obtain⟨t,B,u,y,E,F,z,G,H,P⟩:=HR.cells;go_wp2_with fail;refine(gK c _ sh W (HL W HR.2.2)).mono ?_;rw[d.out];rintro e w1⟨rfl,b6⟩;have e1:=HR.aj b6;have R1:=M e1;have m5:Hid (w.heap.size+1<=w1.heap.size):=M (by have:=b6.size;have:=m4.out;omega);clear t B u y E F z G H P b6 e1;obtain⟨t,B,u,y,E,F,z,G,H,P⟩:=R1.cells;go_wp2_with fail;refine(kB c _ sh w1 (HL w1 R1.2.2)).mono ?_;rw[(nQ d.out).1,(nQ d.out).2.1,(nQ d.out).2.2,show c.ag*8+c.al+c.al+c.ap=((n+g:N):V)from by have:=HN.out;have:=HG.out;omega];rintro e w2⟨rfl,b7⟩;have e3:=R1.aj b7;have R2:=M e3;have c9:Hid (w.heap.size+1<=w2.heap.size):=M (by have:=b7.size;have:=m5.out;omega);clear t B u y E F z G H P b7 e3;go_wp2_with fail;refine(Mm.gS (n+g) w2 (by omega)).mono ?_;obtain⟨b,g2⟩:∃x,w2.heap.size=x:=⟨_,T⟩;rw[g2];rintro e w3⟨rfl,g5,n7,h3⟩;have e4:=R2.aj g5;have R3:=M e4;have a8:=M h3;have b4:Hid (w.heap.size+1<=b):=M (by have:=c9.out;omega);have m6:Hid (w3.heap.size=b+2):=M (by omega);clear g5 e4 h3 n7 g2 R2 c9;obtain⟨t,B,u,y,E,F,z,G,H,P⟩:=R3.cells;rw[HF.out]at t;rw[l9.out]at z;go_wp2_with fail;refine(Sd.gS f sk w3 n3 n5 n6).mono ?_;rw[m6.out];rintro e w4⟨rfl,b8,n8,h4⟩;have e5:=R3.aj b8;have R4:=M e5;have a9:=M (a8.MC b8 (λf=>f) (λf=>f));have p:=M h4;have e0:Hid (w4.heap.size=b+6):=M (by omega);clear t B u y E F z G H P b8 e5 h4 n8 R3 a8;obtain⟨t,B,u,y,E,F,z,G,H,P⟩:=R4.cells;obtain⟨s0,-,-⟩:=p.cs;have a:((List.replicate f (⟨0,false,false⟩:dq.dy)).length:V)=c.ag:=by rw[lm,HF.out]
 have l6:=M a;clear a;go_wp2_with fail;go_region_with (first|(go_at_call 48;refine(nL (b+3) _).mono ?_;rintro e w5⟨rfl,g6⟩;have S:ae w4 w5:=ae.MD ((ck w4).drewN 1) g6;have l:=M S;have e6:=R4.aj S;obtain⟨j0,j1,j2,j3,j4,j5,j6,j7,j8,jf⟩:=e6.cells;clear g6 S e6)|(go_at_call 47;refine(Sp.pn c _ sh (b+3) (b+2) _ _ (HL _ (R4.aj l).2.2) d HX (p.im.MC l (λf=>f) (λf=>f)) l6).mono ?_;rintro e w6⟨q,l3,rfl,g7,h6⟩;have H6:=M h6;have Q:=M (ae.MD l g7);clear g7 h6))
 all_goals
  obtain⟨h6,a3,a4,kt,a2,R,a5⟩:=H6.out;have e7:=R4.aj Q;have R6:=M e7;have b0:=M (a9.MC Q (λf=>f) (λf=>f));have b1:=M (p.pure Q);have r:=M h6;have l7:=M (aq a3 (aq a4 (aq kt (aq a2 (aq R a5)))));have m7:Hid (b+6<=w5.heap.size):=M (by have:=l.size;have:=e0.out;omega);have m9:Hid (b+6<=w6.heap.size):=M (by have:=Q.size;have:=e0.out;omega);clear h6 a3 a4 kt a2 R a5 e7 H6 t B u y E F z G H P s0 R4 a9 p Q l;obtain⟨t,B,u,y,E,F,z,G,H,P⟩:=R6.cells;rw[HT.out]at y
  try clear j0 j1 j2 j3 j4 j5 j6 j7 j8 jf
  go_wp2_with fail;refine(Ha.gS nt w6 (by omega) (by omega)).mono ?_;obtain⟨m,a6⟩:∃x,w6.heap.size=x:=⟨_,T⟩;rw[a6];rintro e w7⟨rfl,X,n9,h7⟩;have e8:=R6.aj X;have R7:=M e8;have c4:=M (xD n g▸b0.MC X (λf=>f) (λf=>f));have c6:=M (b1.pure X);have c7:=M (r.pure X);have b9:=M h7;have l5:Hid (b+6<=m/\w6.heap.size=m):=M (by have:=m9.out;omega);have b5:Hid (w7.heap.size=m+2):=M (by omega);have c8:=M (aq (λk hk=>a6▸r.lt k hk) (λk hk=>a6▸(r.ro k hk).2));clear t B u y E F z G H P X e8 h7 n9 a6 R6 b0 b1 r;obtain⟨t,B,u,y,E,F,z,G,H,P⟩:=R7.cells;rw[HG.out]at u;go_wp2_with fail;go_loopw [62] (λi wr=>∃j:N,j<=g/\i=J j/\ac (λk=>k=b+1\/k=b) w7 wr/\Mm.At wr (b+1) b (iu n g j)) (λi _=>g-(intOf i).toNat)
  case atStart=>exact⟨0,aw _,T,bo _,c4⟩
  case round =>
   obtain⟨j,hj,rfl,ho,g3⟩:=hrel;have e9:Row w w.heap.size c (Z A sh.length cc) wr:=⟨R7.1,ho.bF R7.2.1 (λe=>by have:=b4.out;omega),R7.2.2.trans ho (λi hi e=>by have:=b4.out;omega)⟩;have RR:=M e9;have HO:=M ho;have c3:=M g3;clear e9 ho g3 t B u y E F z G H P;obtain⟨t,B,u,y,E,F,z,G,H,P⟩:=RR.cells;by_cases a:j<g
   ·have b2:(j:V)<c.ap:=by rw[HG.out];omega
    have c2:=M b2;clear b2;go_wp2_with fail;refine(pT c _ sh j wr (HL wr RR.2.2) d (by omega) c2).mono ?_;rw[show 8*c.ag+2*c.al+(j:V)=((n+j:N):V)from by have:=HN.out;omega];rintro e w8⟨rfl,o⟩;have a1:=M o;have c5:=M (c3.MC o (λf=>f) (λf=>f));clear o;go_wp2_with fail;refine(jO w8).mono ?_;rintro e w9⟨rfl,rfl⟩;go_wp2_with fail;refine(Mm.Jd (b+1) b (iu n g j) (n+j) 0 4607182418800017408 w8 c5 (by rw[oa hj];omega)).mono ?_;rw[show(0,4607182418800017408)=none from rfl,zb a];rintro e w9⟨rfl,o9,h9⟩;have k9:ac (λk=>k=b+1\/k=b) w7 w9:=(HO.trans (a1.mono (λ_ _ f=>f.elim)) (λ_ _ h=>h)).trans o9 (λ_ _ h=>h);have O9:=M k9;have H9:=M h9;clear o9 k9 h9;go_wp2_with fail;go_roundw
    case rel=>exact⟨j+1,a,by go_num,O9,H9⟩
    case measure=>simp[intOf];omega
   ·obtain rfl:j=g:=by omega
    clear a;go_wp2_with fail;refine(lV c _ sh wr (HL wr RR.2.2) d HX).mono ?_;rintro e w8⟨A8,d8,m8,rfl,o,h2,g1,g0⟩;have a1:=M o;have l8:=M h2;have l4:Hid (∀k,mK (Z A8 sh.length d8) m8 k->m+2<=k/\k<w8.heap.size):=M (λk hk=>by have:=g1 k hk;have:=HO.size;have:=b5.out;omega);have b3:=M g0;have n0:Hid (m+2<=w8.heap.size):=M (by have:=o.size;have:=HO.size;have:=b5.out;omega);clear o h2 g1 g0 t B u y E F z G H P;go_wp2_with fail;go_ret2;have n4:=RR.2.2.MD a1;obtain⟨a3,a4,kt,a2,R,a5⟩:=l7.out;have g9:(List.replicate f (⟨0,false,false⟩:dq.dy)).length=f:=lm;have j9:=c7.out;have a:=c8.out;rw[g9]at j9 R a;have n2:alike m8 l3:=b3.symm.trans a2;refine⟨⟨w8.heap.size,b+1,b,b+2+3,b+2+2,m+1,m,sk,Z A8 sh.length d8,m8,l3,q⟩,_,T,n4.MD ((ck w8).alloc _),CD b4 m7 a3 a4 R a5 a.1 a.2 l5.1 b5 c6 j9 b9 HO c3 a1 l8 l4 n0 (b3.check c▸d) n2,T,kt,b3,λk hk=>?_⟩;refine Nat.le_of_not_lt λa=>?_;rw[Cx a]at hk;omega
