/- Part 25 of the proof of spotop.TopChurn. -/
import Derived.Test.YtpgdiceeimehiaaGreatR20
import Derived.Test.YtpgdiceeimehiaaGreatR23
set_option maxRecDepth 100000
set_option maxHeartbeats 16000000
set_option linter.all false
open Go.Proofs.Tryz
namespace Go.Proofs.YtpgdiceeimehiaaGreat
open RowKit
section
structure iZ(w:Y)(c:Cn)(K:aW.Q)(κ:N->N)(m:aW.St)(b:Ac.B)(s:Ac.St)(xb:N)(v:Value)(sh:List Sh)(t:Tr.St):Prop where
 bU:dt w c K κ m b s
 tr:Tr.At w xb c v sh t
 nA:κ xb=11
 k8:∀k,Tr.Ro v sh t k->κ k=8
section
variable{w a:Y}{c:Cn}{K:aW.Q}{κ κ':N->N}{m f:aW.St}{b:Ac.B}{s:Ac.St}{e:N}{v:Value}{sh:List Sh}{t t':Tr.St}
theorem iZ.cJ(h:iZ w c K κ m b s e v sh t)(g:aG aW.C5 w κ a κ')(j:aW.At a c K κ' f):aG CX w κ a κ'/\iZ a c K κ' f b s e v sh t:=⟨g.mono (λx d=>.inl d),(h.bU.cJ g j).2,h.tr.MC g.MC (λd=>by rw[h.nA]at d;unfold aW.C5 at d;omega) (λk i d=>by rw[h.k8 k i]at d;unfold aW.C5 at d;omega),(g.same _ h.tr.lt).trans h.nA,λk i=>(g.same _ (h.tr.ro k i).2).trans (h.k8 k i)⟩
theorem iZ.dN(h:iZ w c K κ m b s e v sh t)(l:ac (λk=>k=e) w a)(o:Tr.At a e c v sh t')(n:∀k,Tr.Ro v sh t' k->Tr.Ro v sh t k\/w.heap.size<=k):aG CX w κ a (aL w.heap.size κ 8)/\iZ a c K (aL w.heap.size κ 8) m b s e v sh t':=by
 have j:aG (λx=>x=11) w κ a (aL w.heap.size κ 8):=aG.aL 8 (l.mono (λk _ g=>by rw[g,h.nA]));refine⟨j.mono (λx i=>.inr i),h.bU.uG (j.mono (λ_ i=>.inr i)),o,(dE h.tr.lt).trans h.nA,λk g=>?_⟩;rcases n k g with d|d
 ·exact(dE (h.tr.ro k d).2).trans (h.k8 k d)
 ·exact aU d
theorem iZ.my(h:iZ w c K κ m b s e v sh t)(j:ac (λk=>k=e) w a)(n:Tr.At a e c v sh t')(l:∀k,Tr.Ro v sh t' k->Tr.Ro v sh t k):aG CX w κ a κ/\iZ a c K κ m b s e v sh t':=by
 have i:aG (λx=>x=11) w κ a κ:=aG.of (j.mono (λk _ d=>by rw[d,h.nA]));exact⟨i.mono (λx g=>.inr g),h.bU.uG (i.mono (λ_ g=>.inr g)),n,h.nA,λk d=>h.k8 k (l k d)⟩
theorem iZ.lF(h:iZ w c K κ m b s e v sh t)(g:ac (λk=>k=K.mb) w a)(i:Mm.At a K.mb K.mg m.am):aG CX w κ a κ/\iZ a c K κ m b s e v sh t:=h.cJ (aW.CG h.bU.bm (g.mono (λ_ _ d=>.inl d))) (h.bU.bm.sa (g.mono (λ_ _ d=>.inl d)) i)
theorem iZ.pure(h:iZ w c K κ m b s e v sh t)(d:ae w a):aG CX w κ a κ/\iZ a c K κ m b s e v sh t:=⟨aG.pure d,h.bU.pure d,h.tr.pure d,h.nA,h.k8⟩
theorem iZ.drew(h:iZ w c K κ m b s e v sh t):iZ w.drew c K κ m b s e v sh t:=(h.pure ((bo w).drewN 1)).2
theorem Tr.Ei{v:Value}{sh:List Sh}{t:Tr.St}(k:N)(h:Tr.Ro v sh (Tr.oD t) k):Tr.Ro v sh t k:=by
 unfold Tr.oD Tr.jV at h
 repeat' split at h
 all_goals exact h
def jI(w:Y)(c:Cn)(K:aW.Q)(κ:N->N)(b:Ac.B)(s:Ac.St)(e:N)(v:Value)(sh:List Sh)(d:Bool)(Q:aW.St->Tr.St->Prop)(r:Ending)(a:Y):Prop:=r=O (L d)/\∃κ' f t',aG CX w κ a κ'/\iZ a c K κ' f b s e v sh t'/\Q f t'
structure Fe(t:Tr.St):Prop where
 bs:t.bs.length<=1000000
 j:t.j<=1000
 aC:t.aC<=10000
end
section
variable{w w':Y}{c:Cn}{K:aW.Q}{κ κ':N->N}{m m':aW.St}{b:Ac.B}{s:Ac.St}{a:N}{v:Value}{sh:List Sh}{t t':Tr.St}
theorem sU(x:N)(l:List Int)(w:Y)(h:iZ w c K κ m b s a v sh t)(a6:t.pc=1)(hw:t.am=(x:V)::l)(hx:x<8)(hh:(t.fP:V)<c.ag)(hz:m.am[8*t.fP+x]?=some bD)(hg:Fe t):C 279 #[I a 0,I K.mb 0,I K.sb 0] w (jI w c K κ b s a v sh true (λm' t'=>m'=m/\∃wv',t'=Tr.oD {t with wv:=wv',am:=l})):=by
 have B:=M h;have HG:=M hg;have X:=M (aq hw (aq hh hz));have z:=h.tr.kv;rw[a6]at z;clear h a6 hw hh hz hg;go_enter func279,ntmps279;go_wp2_with fail;refine bf 1 (λCq S=>?_);have HC:=M S;clear S;go_upto_region 7 with fail;obtain⟨A,u,y,b3,a4,-,-,a2⟩:=B.tr.wr;have j:t.am.length=l.length+1:=by rw[X.out.1];rfl
 rw[j]at y b3;obtain⟨g,off,hA,hg,-⟩:=a2 (by omega);subst hA;have g0:w.cell? (I g off)=some (J x):=by
  have:=hg 0 (by rw[j];omega);rw[X.out.1]at this;exact this
 have b6:=B.tr.rf;have o:=B.tr.tP;rw[y]at o;have E:=M y;have b8:=M a4;have j1:(0:V)<(l.length:V)+1:=by omega
 clear y hg a2 j z a4;go_cut [7,9] (λs7 s9 wx=>s7=U bD.1 bD.2/\s9=L true/\ac (λk=>k=K.mb) w wx/\Mm.At wx K.mb K.mg m.am)
 case first =>
  go_region_with (go_at_call 276;refine(Tr.eY t.fP x K.mb K.mg m.am bD w.drew B.drew.tr B.drew.bU.bm.mem X.2.1 hx X.2.2).mono ?_;rintro e w2⟨rfl,b5,b4⟩)
  all_goals
   go_wp2_with fail;go_meet;exact⟨T,T,((ac.refl (λk=>k=K.mb) w).drewN 1).trans b5 (λ_ _ h=>h),b4⟩
 case rest =>
  obtain⟨rfl,rfl,Q,P⟩:=hcut;have e2:=(B.lF Q P).1;have s2:=(B.lF Q P).2;have i:=M s2;have a7:=M e2;clear Q P e2 s2 g0 b6 o;go_wp2_with fail;refine(zt _).mono ?_;rintro e w3⟨rfl,rfl⟩;have o:=i.tr.tP;rw[E.out]at o;have ff:=i.tr.fz;obtain⟨p,F⟩:∃p,(if u=1 then some (⟨g,off,none⟩:Addr)else some ⟨g,off+1,none⟩)=p:=⟨_,T⟩;go_upto_region 11 with fail;have hT:=i.tr.wr;rw[E.out,X.out.1]at hT;have G:=hT.tail g off T;rw[F,Nat.add_sub_cancel]at G;have a3:∀k,(Z p l.length (u-1)).ownBlock=some k->k=g:=λk f=>by
   rw[<-F]at f;split at f<;>(injection f with f;exact f.symm)
  have R:∀k,Tr.Ro v sh {t with wv:=Z p l.length (u-1),am:=l} k->Tr.Ro v sh t k:=λk f=>by
   rcases f with f|f|f
   ·exact .inl f
   ·exact .inr (.inl f)
   ·rw[a3 k f];exact js (by rw[E.out];rfl)
  have h3:=i.tr.Bk 16 (Z p l.length (u-1)) {t with wv:=Z p l.length (u-1),am:=l} (λn=>⟨n,rfl⟩) i.tr.refs G (λk f=>i.tr.ro k (R k f));obtain⟨e3,s3⟩:=i.my (Tr.dQ (bo wc) 16 (Z p l.length (u-1))) h3 R;have q:=M s3;have a8:=M (a7.trans e3);clear hT G a3 R h3 e3 s3 F o ff;generalize wc.setCell _ _=w3 at *;go_wp2_with fail;refine(index_none _).mono ?_;rintro e w4⟨rfl,rfl⟩;have b7:=q.tr.vG;have ff:=q.tr.fz;go_upto_region 12 with fail;have h4:=q.tr.put 17 (J 0) {t with wv:=Z p l.length (u-1),am:=l} (λn=>⟨n,rfl⟩) ⟨rfl,rfl,rfl,rfl⟩;obtain⟨e4,s4⟩:=q.my (Tr.dQ (bo w3) 17 (J 0)) h4 (λk f=>f);have a1:=M s4;have a9:=M (a8.trans e4);clear h4 e4 s4 b7 ff;generalize w3.setCell _ _=w4 at *;go_wp2_with fail;go_step3;refine cO ((ay (λd=>findLabel d 3) HC).trans T) ?_;clear HC;go_wp2_with fail;refine(Tr.rJ w4 a1.tr HG.bs HG.j HG.aC).mono ?_;obtain⟨gs,H⟩:∃gs,Tr.oD {t with wv:=Z p l.length (u-1),am:=l}=gs:=⟨_,rfl⟩;rw[H];have W:=M H;clear H;rintro e w8⟨rfl,a5,h8⟩;obtain⟨e8,s8⟩:=a1.my a5 h8 (λk f=>Tr.Ei k (by rw[W.out];exact f));have r:=M s8;have b0:=M (a9.trans e8);clear a5 h8 e8 s8;have z:=r.tr.kv;have ff:=r.tr.fz;go_upto_region 28 with fail;have h9:=r.tr.put 11 (J gs.pc) gs (λn=>⟨n,T⟩) ⟨T,T,T,T⟩;obtain⟨e9,s9⟩:=r.my (Tr.dQ (bo w8) 11 (J gs.pc)) h9 (λk f=>f);have b2:=M s9;have b1:=M (b0.trans e9);clear h9 e9 s9 z ff;go_wp2_with fail;simp only[cF];go_ret;exact⟨T,_,_,_,b1,b2,T,_,W.symm⟩
end
end
section
namespace dw
structure St where
 dp:V
 aM:V
 i:N
 head:V
 tr:Value
 h:Value
 ah:Bool
 ek:N
 finished:N
def cs(y:St)(f v n:V):Array Value:=#[J y.dp,J y.aM,J y.i,J y.head,L false,y.tr,y.h,L y.ah,J y.ek,J y.finished,J f,J v,J n,J 0]
def At(w:Y)(yb:N)(y:St):Prop:=∃f v n:V,w.heap[yb]?=some (D (cs y f v n) 127 (0,0))
section
variable{w w':Y}{b:N}{y y':St}
theorem At.p0(h:At w b y):w.cell? (I b 0)=some (J y.dp):=by
 obtain⟨f,v,n,a⟩:=h;rw[bK a];rfl
theorem At.p1(h:At w b y):w.cell? (I b 1)=some (J y.aM):=by
 obtain⟨f,v,n,a⟩:=h;rw[bK a];rfl
theorem At.p2(h:At w b y):w.cell? (I b 2)=some (J y.i):=by
 obtain⟨f,v,n,a⟩:=h;rw[bK a];rfl
theorem At.p3(h:At w b y):w.cell? (I b 3)=some (J y.head):=by
 obtain⟨f,v,n,a⟩:=h;rw[bK a];rfl
theorem At.p4(h:At w b y):w.cell? (I b 4)=some (L false):=by
 obtain⟨f,v,n,a⟩:=h;rw[bK a];rfl
theorem At.p5(h:At w b y):w.cell? (I b 5)=some (y.tr):=by
 obtain⟨f,v,n,a⟩:=h;rw[bK a];rfl
theorem At.p6(h:At w b y):w.cell? (I b 6)=some (y.h):=by
 obtain⟨f,v,n,a⟩:=h;rw[bK a];rfl
theorem At.p7(h:At w b y):w.cell? (I b 7)=some (L y.ah):=by
 obtain⟨f,v,n,a⟩:=h;rw[bK a];rfl
theorem At.p8(h:At w b y):w.cell? (I b 8)=some (J y.ek):=by
 obtain⟨f,v,n,a⟩:=h;rw[bK a];rfl
theorem At.p9(h:At w b y):w.cell? (I b 9)=some (J y.finished):=by
 obtain⟨f,v,n,a⟩:=h;rw[bK a];rfl
theorem At.sq(h:At w b y):∃n:V,w.cell? (I b 10)=some (J n):=by
 obtain⟨f,v,n,a⟩:=h;exact⟨_,by rw[bK a];rfl⟩
theorem At.kv(h:At w b y):∃n:V,w.cell? (I b 11)=some (J n):=by
 obtain⟨f,v,n,a⟩:=h;exact⟨_,by rw[bK a];rfl⟩
theorem At.jc(h:At w b y):∃n:V,w.cell? (I b 12)=some (J n):=by
 obtain⟨f,v,n,a⟩:=h;exact⟨_,by rw[bK a];rfl⟩
theorem At.pt(h:At w b y):w.cell? (I b 13)=some (J 0):=by
 obtain⟨f,v,n,a⟩:=h;rw[bK a];rfl
theorem At.fz(h:At w b y)(k:N):w.frozen? (I b k)=false:=by
 obtain⟨f,v,n,a⟩:=h;exact ey k a
theorem At.lt(h:At w b y):b<w.heap.size:=by
 obtain⟨f,v,n,a⟩:=h;exact(bR.1 a).1
theorem At.MC{Tq:N->Prop}(h:At w b y)(d:ac Tq w w')(a:¬Tq b):At w' b y:=by
 obtain⟨f,v,n,c⟩:=h;exact⟨f,v,n,d.bF c a⟩
theorem At.put(h:At w b y)(i:N)(u:Value)(y':St)(e:∀f v n,∃a g d,(cs y f v n).setIfInBounds i u=cs y' a g d):At (w.setCell (I b i) u) b y':=by
 obtain⟨f,v,n,k⟩:=h;obtain⟨a,g,d,c⟩:=e f v n;have j:=az (i:=i) (u:=u) k;rw[c]at j;exact⟨a,g,d,j⟩
theorem cj{a:Y}(h:ac (λk=>k=b) a w)(i:N)(u:Value):ac (λk=>k=b) a (w.setCell (I b i) u):=h.setCell (p:=⟨b,i,none⟩) (λ_=>T) _
end
end dw
structure fM(w:Y)(c:Cn)(K:aW.Q)(κ:N->N)(m:aW.St)(b:Ac.B)(s:Ac.St)(yb:N)(y:dw.St):Prop where
 bU:dt w c K κ m b s
 bL:dw.At w yb y
 mL:κ yb=10
section
variable{w a:Y}{c:Cn}{K:aW.Q}{κ κ':N->N}{m e:aW.St}{b:Ac.B}{s:Ac.St}{d:N}{y y':dw.St}
theorem fM.cJ(h:fM w c K κ m b s d y)(f:aG aW.C5 w κ a κ')(i:aW.At a c K κ' e):aG CY w κ a κ'/\fM a c K κ' e b s d y:=⟨f.mono (λx g=>.inl g),(h.bU.cJ f i).2,h.bL.MC f.MC (λg=>by rw[h.mL]at g;unfold aW.C5 at g;omega),(f.same _ h.bL.lt).trans h.mL⟩
theorem fM.lx(h:fM w c K κ m b s d y)(g:aG CX w κ a κ')(i:dt a c K κ' e b s):aG CY w κ a κ'/\fM a c K κ' e b s d y:=⟨g.mono (λx f=>by unfold CX at f;unfold CY;omega),i,h.bL.MC g.MC (λf=>by rw[h.mL]at f;unfold CX at f;omega),(g.same _ h.bL.lt).trans h.mL⟩
theorem fM.dN(h:fM w c K κ m b s d y)(i:ac (λk=>k=d) w a)(l:dw.At a d y'):aG CY w κ a κ/\fM a c K κ m b s d y':=by
 have f:aG (λx=>x=10\/x=11) w κ a κ:=aG.of (i.mono (λk _ g=>by rw[g,h.mL];exact .inl T));exact⟨f.mono (λx j=>.inr j),h.bU.uG f,l,h.mL⟩
theorem fM.pure(h:fM w c K κ m b s d y)(g:ae w a):fM a c K κ m b s d y:=⟨h.bU.pure g,h.bL.MC g (λf=>f),h.mL⟩
theorem fM.drew(h:fM w c K κ m b s d y):fM w.drew c K κ m b s d y:=h.pure ((bo w).drewN 1)
def dU(w:Y)(c:Cn)(K:aW.Q)(κ:N->N)(b:Ac.B)(s:Ac.St)(d:N)(u:Value)(Q:Y->(N->N)->aW.St->dw.St->Prop)(r:Ending)(a:Y):Prop:=r=O u/\∃κ' e y',aG CY w κ a κ'/\fM a c K κ' e b s d y'/\Q a κ' e y'
end
section
variable{w w':Y}{c:Cn}{K:aW.Q}{κ:N->N}{m:aW.St}{b:Ac.B}{s:Ac.St}{a:N}{y:dw.St}
theorem ii(g:V)(w:Y)(h:fM w c K κ m b s a y):C 56 #[I a 0,J g] w (dU w c K κ b s a (.tuple #[]) (λ_ κ' o y'=>κ'=κ/\o=m/\y'={y with dp:=g,aM:=0,i:=0})):=by
 have d:=M h;have e:Hid (aG CY w κ w κ):=M (aG.refl _ _ _);have p:=h.bL.p0;have q:=h.bL.p1;have r:=h.bL.p2;have n:=h.bL.fz;clear h;go_enter func56,ntmps56;go_wp2_with fail;clear p q r n;obtain⟨k,l⟩:=d.dN (dw.cj (dw.cj (dw.cj (bo w) 0 (J g)) 1 (J 0)) 2 (J 0)) (((d.bL.put 0 (J g) {y with dp:=g} (λ_ _ _=>⟨_,_,_,rfl⟩)).put 1 (J 0) {y with dp:=g,aM:=0} (λ_ _ _=>⟨_,_,_,rfl⟩)).put 2 (J 0) {y with dp:=g,aM:=0,i:=0} (λ_ _ _=>⟨_,_,_,rfl⟩));have j:=M l;have f:=M (e.trans k);clear k l;generalize(((w.setCell _ _).setCell _ _).setCell _ _)=t at *;go_end0;exact⟨T,_,_,_,f,j,T,T,T⟩
theorem DX(w:Y)(h:fM w c K κ m b s a y)(i i2 n:N)(z:V)(H:Bool)(F:y.i=i)(X:c.ao=(n:V))(hz:m.bA[i]?=some z)(S:(z==-1||z==m.st)=true)(R:i2=i+1)(W:i<n/\n<=16)(hb:(((i:V)+1)==(n:V))=H):C 95 #[I a 0,I K.kb 0] w (dU w c K κ b s a (L H) (λ_ _ m' y'=>m'=m/\y'={y with i:=i2})):=by
 have e:=M h;have t:Hid (aG CY w κ w κ):=M (aG.refl _ _ _);have p:=M (aq hz (aq S (aq X F)));have HN:=M W;have B:=M R;have j:=h.bL.p2;rw[F]at j;clear h hz S X F W R;go_enter func95,ntmps95;have G:=e.bU.bm.xK;go_wp2_with fail;go_still_tail 8,(by kernel_rfl);change wpList _ _ _ _ _ w.drew;have k:=M e.drew;have u:Hid (aG CY w κ w.drew κ):=M (aG.pure ((ck w).drewN 1));clear j G e t;generalize w.drew=w1 at *;go_wp2_with fail;have g:=aW.eN i z w1 k.bU.bm p.1;rw[p.out.2.1]at g;refine g.mono ?_;clear g;rintro r w2⟨rfl,o,l⟩;obtain⟨P,s2⟩:=k.cJ o l;have d:=M s2;have v:=M (u.trans P);clear o l P s2;have j:=d.bL.p2;rw[p.out.2.2.2]at j;have a1:(0:V)<=(i:V):=by omega
 have a2:(i:V)<=1000:=by have:=HN.out;omega
 have ff:=d.bL.fz;go_upto_region 3 with fail;obtain⟨Q,s3⟩:=d.dN (dw.cj (bo w2) 2 (J ((i:V)+1))) (d.bL.put 2 (J ((i:V)+1)) {y with i:=i+1} (λ_ _ _=>⟨_,_,_,rfl⟩));have f:=M s3;have x:=M (v.trans Q);clear Q s3;clear j ff;generalize(w2.setCell _ _)=q at *;have j:q.cell? (I a 2)=some (J ((i:V)+1)):=f.bL.p2;have k3:=(f.bU.bm.qc).2.2.2.1;rw[p.out.2.2.1]at k3;go_wp2_with fail;go_quiet (fail);have E:=M (f.pure ((ck q).drewN nq));have A:=M (x.trans (aG.pure ((ck q).drewN nq)));clear j k3;generalize q.drewN nq=w4 at *;go_wp2_with fail;go_ret;exact⟨T,_,_,_,A,E,T,by rw[B.out]⟩
theorem yH(w:Y)(h:fM w c K κ m b s a y)(i S n:N)(z:V)(F:Bool)(A:y.i=i)(R:c.ao=(n:V))(hz:m.bA[i]?=some z)(P:(z==-1||z==m.st)=false)(H:S=i)(Q:i<n/\n<=16)(hb:((i:V)==(n:V))=F):C 95 #[I a 0,I K.kb 0] w (dU w c K κ b s a (L F) (λ_ _ m' y'=>m'=m/\y'={y with i:=S})):=by
 have e:=M h;have t:Hid (aG CY w κ w κ):=M (aG.refl _ _ _);have g:=M (aq hz (aq P (aq R A)));have HN:=M Q;have x:=M H;have q:=h.bL.p2;rw[A]at q;clear h hz P R A Q H;go_enter func95,ntmps95;have B:=e.bU.bm.xK;go_wp2_with fail;go_still_tail 8,(by kernel_rfl);change wpList _ _ _ _ _ w.drew;have k:=M e.drew;have u:Hid (aG CY w κ w.drew κ):=M (aG.pure ((ck w).drewN 1));clear q B e t;generalize w.drew=w1 at *;go_wp2_with fail;have f:=aW.eN i z w1 k.bU.bm g.1;rw[g.out.2.1]at f;refine f.mono ?_;clear f;rintro r E⟨rfl,p,o⟩;obtain⟨G,X⟩:=k.cJ p o;have d:=M X;have v:=M (u.trans G);clear p o G X;have q:=d.bL.p2;rw[g.out.2.2.2]at q;have a1:(0:V)<=(i:V):=by omega
 have a2:(i:V)<=1000:=by have:=HN.out;omega
 have ff:=d.bL.fz;clear ff;have W:=(d.bU.bm.qc).2.2.2.1;rw[g.out.2.2.1]at W;go_wp2_with fail;go_quiet (fail);have l:=M (d.pure ((ck E).drewN nq));have j:=M (v.trans (aG.pure ((ck E).drewN nq)));clear q W;generalize E.drewN nq=w4 at *;go_wp2_with fail;go_ret;exact⟨T,_,_,_,j,l,T,by have h3:=g.2.2.2;have h4:=x.out;clear l j g;subst h4;rw[<-h3]⟩
theorem gN(w:Y)(h:fM w c K κ m b s a y)(i e n:N)(z:V)(k:y.i=i)(o:c.ao=(n:V))(hz:m.bA[i]?=some z)(d:e=if(z==-1||z==m.st)=true then i+1 else i)(l:i<n/\n<=16)(f:Bool)(j:decide (e=n)=f):C 95 #[I a 0,I K.kb 0] w (dU w c K κ b s a (L f) (λ_ _ p y'=>p=m/\y'={y with i:=e})):=by
 rcases g:(z==-1||z==m.st)with _|_
 ·rw[g]at d;refine yH w h i e n z f k o hz g d l ?_;rw[<-j,d,aa (by decide),Bool.eq_iff_iff];simp;omega
 ·rw[g]at d;refine DX w h i e n z f k o hz g d l ?_;rw[<-j,d,af rfl,Bool.eq_iff_iff];simp;omega
end
end
section
section
variable{w w':Y}{c:Cn}{K:aW.Q}{κ κ':N->N}{m f:aW.St}{b:Ac.B}{s:Ac.St}{a:N}{v:Value}{sh:List Sh}{t t':Tr.St}
theorem rC(kd:N)(s0:Sh)(w:Y)(h:iZ w c K κ m b s a v sh t)(p:t.pc=0)(R:(t.head:V)<c.ag)(hz:m.am[8*t.head+1]?=some (cQ kd 0))(l:sh[kd]?=some s0)(H:s0.a=true)(A:kd<=1000)(hb:s0.bs.length<=40):C 223 #[I a 0,I K.mb 0,I K.sb 0] w (jI w c K κ b s a v sh true (λf t'=>f=m/\∃B,t'={t with jY:=true,rv:=B,bs:=s0.bs,pc:=5})):=by
 have r:=M h;have y:=M (aq hz (aq l H));have q:=h.tr.kv;rw[p]at q;have S:=h.tr.p9;clear h hz l H p;go_enter func223,ntmps223;go_wp2_with fail;refine(Tr.eY t.head 1 K.mb K.mg m.am (cQ kd 0) w r.tr r.bU.bm.mem R (by omega) y.1).mono ?_;rintro e X⟨rfl,i,g⟩;have E:=(r.lF i g).1;have P:=(r.lF i g).2;have j:=M P;have u:=M E;clear i g E P q S;go_wp2_with fail;refine(Tr.AD kd s0 X j.tr y.2.1 y.2.2 A (by omega)).mono ?_;rintro e w3⟨rfl,o,W,G,n⟩;obtain⟨F,Q⟩:=j.dN o G (λk d=>by
  rcases d with d|d|d
  ·exact .inl (.inl d)
  ·exact .inr (n k d)
  ·exact .inl (js d))
 have z:=M Q;have x:=M (u.trans F);clear o G n F Q;go_wp2_with fail;go_ret;exact⟨T,_,_,_,x,z,T,_,T⟩
theorem rD(kd x:N)(s0:Sh)(w:Y)(h:iZ w c K κ m b s a v sh t)(q:t.pc=0)(hh:(t.head:V)<c.ag)(hz:m.am[8*t.head+1]?=some (cQ kd x))(o:sh[kd]?=some s0)(R:s0.a=false)(F:x<=1)(E:kd<=1000)(X:s0.bs.length<=40)(hj:t.j<=1000)(g:t.aC<=10000):C 223 #[I a 0,I K.mb 0,I K.sb 0] w (jI w c K κ b s a v sh true (λf t'=>f=m/\∃G wv',t'=Tr.oD {t with jY:=false,rv:=G,bs:=s0.bs,wv:=wv',am:=Tr.gu s0.bs t.j s0.bs.length})):=by
 have u:=M h;have A:=M (aq hz (aq o R));have r:=h.tr.kv;rw[q]at r;have p9:=h.tr.p9;clear h hz o R q;go_enter func223,ntmps223;go_wp2_with fail;refine(Tr.eY t.head 1 K.mb K.mg m.am (cQ kd x) w u.tr u.bU.bm.mem hh (by omega) A.1).mono ?_;rintro e w2⟨rfl,l,i⟩;have H:=(u.lF l i).1;have S:=(u.lF l i).2;have n:=M S;have y:=M H;clear l i H S r p9;go_wp2_with fail;refine(Tr.AE kd x s0 w2 n.tr A.2.1 A.2.2 F E X hj g).mono ?_;rintro e w3⟨rfl,p,a1,a2,Q,j⟩;obtain⟨P,W⟩:=n.dN p Q (λk d=>by
  have d:=Tr.Ei k d;rcases d with d|d|d
  ·exact .inl (.inl d)
  ·exact .inr (j k (.inl d))
  ·exact .inr (j k (.inr d)))
 have B:=M W;have z:=M (y.trans P);clear p Q j P W;go_wp2_with fail;go_ret;exact⟨T,_,_,_,z,B,T,_,_,T⟩
theorem kH(d:Bool)(Q:aW.St->Tr.St->Prop)(w:Y)(h:iZ w c K κ m b s a v sh t)(i:t.pc=1\/t.pc=3\/t.pc=4)
  (o:C 279 #[I a 0,I K.mb 0,I K.sb 0] w (jI w c K κ b s a v sh d Q)) :
  C 223 #[I a 0,I K.mb 0,I K.sb 0] w (jI w c K κ b s a v sh d Q):=by
 have r:=M o;have k:=h.tr.kv;obtain⟨j,g⟩:∃j,t.pc=j:=⟨_,T⟩;rw[g]at k i;have y:(j==0)=false:=by simp;omega
 have z:decide (j>=5)=false:=by simp;omega
 clear h o g i;go_enter func223,ntmps223;go_wp2_with fail;refine r.mono ?_;rintro e A⟨rfl,l,x,t2,n,q,p⟩;have u:=M (aq n (aq q p));clear n q p;go_wp2_with fail;go_ret;exact⟨T,l,x,t2,u⟩
theorem jv(d:Bool)(Q:aW.St->Tr.St->Prop)(w:Y)(h:iZ w c K κ m b s a v sh t)(i:t.pc=5\/t.pc=6\/t.pc=7\/t.pc=8)
  (o:C 278 #[I a 0,I K.mb 0] w (jI w c K κ b s a v sh d Q)) :
  C 223 #[I a 0,I K.mb 0,I K.sb 0] w (jI w c K κ b s a v sh d Q):=by
 have r:=M o;have k:=h.tr.kv;obtain⟨j,g⟩:∃j,t.pc=j:=⟨_,T⟩;rw[g]at k i;have y:(j==0)=false:=by simp;omega
 have z:decide (j>=5)=true:=by simp;omega
 clear h o g i;go_enter func223,ntmps223;go_wp2_with fail;refine r.mono ?_;rintro e A⟨rfl,l,x,t2,n,q,p⟩;have u:=M (aq n (aq q p));clear n q p;go_wp2_with fail;go_ret;exact⟨T,l,x,t2,u⟩
theorem Hy(d:Bool)(Q:aW.St->Tr.St->Prop)(w:Y)(h:iZ w c K κ m b s a v sh t)(j:t.pc≠9)
  (F:∀w1,iZ w1 c K κ m b s a v sh t->C 223 #[I a 0,I K.mb 0,I K.sb 0] w1 (jI w1 c K κ b s a v sh true Q)) (G:∀f t',Q f t'->(t'.pc==9)=d) :
  C 155 #[I a 0,I K.mb 0,I K.sb 0] w (jI w c K κ b s a v sh d Q):=by
 have p:=M h;have S:=M F;have o:=M G;have i:=h.tr.kv;obtain⟨n,u⟩:=h.tr.LZ;have X:=h.tr.fz;have r:(t.pc==9)=false:=by simpa using j
 obtain⟨P,g⟩:∃P,t.pc=P:=⟨_,T⟩;rw[g]at i r;clear h F G j g;go_enter func155,ntmps155;go_upto_region 4 with fail;have E:=p.tr.put 22 (J (wrap64 (n+1))) t (λ_=>⟨wrap64 (n+1),T⟩) ⟨T,T,T,T⟩;obtain⟨A,R⟩:=p.my (Tr.dQ (bo w) 22 (J (wrap64 (n+1)))) E (λk hk=>hk);have q:=M R;have l:=M A;clear E A R i u X p;generalize w.setCell _ _=w1 at *;go_wp2_with fail;refine(S w1 q).mono ?_;rintro e w2⟨rfl,z,H,t2,B,y,x⟩;have i:=y.tr.kv;have hd:=o H t2 x;have W:=M (aq (l.trans B) (aq y x));clear B y x;go_wp2_with fail;go_ret;exact⟨T,z,H,t2,W⟩
end
end
section
section
variable{w w':Y}{c:Cn}{K:aW.Q}{κ κ':N->N}{m m':aW.St}{b:Ac.B}{s:Ac.St}{a:N}{v:Value}{sh:List Sh}{t t':Tr.St}
theorem za(i:N)(w:Y)(h:iZ w c K κ m b s a v sh t)(u:t.pc=3)(S:(t.fP:V)<c.ag)(hz:m.am[8*t.fP+0]?=some (bi i))(hi:(i:V)<c.ag)(hj:t.j<=1000):C 279 #[I a 0,I K.mb 0,I K.sb 0] w (jI w c K κ b s a v sh true (λm' t'=>m'=m/\t'={t with fP:=i,j:=t.j+1,pc:=4})):=by
 have B:=M h;have G:=M (aq S hz);have g:=h.tr.kv;rw[u]at g;have o:=h.tr.rf;have F:i<=1000000:=by have:=db h.bU.bm.ok;omega
 have a1:decide ((i:V)>=c.ag)=false:=dT (by omega);obtain⟨y,l⟩:∃y,t.j=y:=⟨_,T⟩;have H:=M l;rw[l]at hj;clear h u S hz l;go_enter func279,ntmps279;go_wp2_with fail;refine bf 1 (λCq p=>?_);have HC:=M p;clear p;go_wp2_with fail;go_step3;refine cO ((ay (λd=>findLabel d 1) HC).trans T) ?_;go_wp2_with fail;refine(Tr.eY t.fP 0 K.mb K.mg m.am (bi i) w B.tr B.bU.bm.mem G.1 (by omega) G.2).mono ?_;rintro e w1⟨rfl,r,q⟩;obtain⟨P,W⟩:=B.lF r q;have f:=M W;have z:=M P;clear r q P W g o;go_wp2_with fail;refine(ij i w1 F).mono ?_;rintro e wq⟨rfl,rfl⟩;have p0:=f.tr.p0;have o:=f.tr.rf;have x:=f.tr.qC;rw[H.out]at x;have g:=f.tr.kv;have ff:=f.tr.fz;go_upto_region 24 with fail;have R:=((f.tr.put 14 (J i) {t with fP:=i} (λn=>⟨n,rfl⟩) ⟨rfl,rfl,rfl,rfl⟩).put 11 (J 4) {t with fP:=i,pc:=4} (λn=>⟨n,rfl⟩) ⟨rfl,rfl,rfl,rfl⟩).put 15 (J ((y:V)+1)) {t with fP:=i,pc:=4,j:=t.j+1} (λn=>⟨n,by rw[<-H.out];rfl⟩) ⟨T,T,T,T⟩;obtain⟨Q,X⟩:=f.my (Tr.dQ (Tr.dQ (Tr.dQ (bo w1) 14 (J i)) 11 (J 4)) 15 (J ((y:V)+1))) R (λk hk=>hk);have E:=M X;have A:=M (z.trans Q);clear R Q X p0 o x g ff;go_wp2_with fail;simp only[cF];go_ret;exact⟨T,_,_,_,A,E,T,T⟩
theorem sV(o:dq.dy)(w:Y)(h:iZ w c K κ m b s a v sh t)(a3:t.pc=4)(ho:m.s.l[t.fP]?=some o)(h2:o.st=2)(hr:Tr.Hd t)(hg:Fe t):C 279 #[I a 0,I K.mb 0,I K.sb 0] w (jI w c K κ b s a v sh true (λm' t'=>m'={m with s:={m.s with l:=m.s.l.set t.fP {o with ah:=t.ah}}}/\∃b1,t'=Tr.oD {t with wv:=b1,am:=Tr.jW t})):=by
 have HS:=M h;have HG:=M hg;have HH:=M (aq ho (aq h2 hr));have q:=h.tr.kv;rw[a3]at q;clear h a3 ho h2 hr hg;go_enter func279,ntmps279;go_wp2_with fail;refine bf 1 (λCq E=>?_);have HC:=M E;clear E;go_wp2_with fail;go_step3;refine cO ((ay (λd=>findLabel d 2) HC).trans T) ?_;clear q HC;have a9:=HS.tr.rf;have a8:=HS.tr.sq;go_wp2_with fail;go_still_tail 9,(by kernel_rfl);change wpList _ _ _ _ _ w.drew;have x:=M HS.drew;have F:Hid (aG CX w κ w.drew κ):=M (aG.pure ((ck w).drewN 1));clear a9 a8 HS;generalize w.drew=w1 at *;go_wp2_with fail;refine(aW.part t.fP o t.ah w1 x.bU.bm HH.1 HH.2.1).mono ?_;rintro e w2⟨rfl,b2,a1,X⟩;obtain⟨e2,s2⟩:=x.cJ a1 X;have i:=M s2;have G:=M (F.trans e2);clear a1 X e2 s2 x F;go_wp2_with fail;refine(Tr.Ee w2 i.tr HH.2.2).mono ?_;rintro e w3⟨u,rfl,A,z⟩;obtain⟨B,S,rfl⟩:=aD z;have hT:=ez.fQ (aC:=w2.heap.size) (xs:=Tr.jW t) z (Tr.Ec _);have p:=M hT;have Q:=M A;have r:=M (i.tr.pure A);have P:Hid (a<w2.heap.size):=M i.tr.lt;have b0:=r.tP;have ff:=r.fz;clear A z hT;go_upto_region 27 with fail;have h4:=r.Bk 16 (Z B (Tr.jW t).length S) {t with wv:=Z B (Tr.jW t).length S,am:=Tr.jW t} (λn=>⟨n,rfl⟩) r.refs (p.mono (aw _)) (λk g=>by
  rcases g with g|g|g
  ·exact r.ro k (.inl g)
  ·exact r.ro k (.inr (.inl g))
  ·have:=p.lt k g;exact⟨λe=>by have:=P.out;omega,this.2⟩)
 obtain⟨e4,s4⟩:=i.dN (Tr.dQ (Q.mono (Tq:=λk=>k=a) (λ_ _ f=>f.elim)) 16 (Z B (Tr.jW t).length S)) h4 (λk g=>by
  rcases g with g|g|g
  ·exact .inl (.inl g)
  ·exact .inl (.inr (.inl g))
  ·exact .inr (p.lt k g).1)
 have R:=M s4;have a4:=M (G.trans e4);clear h4 e4 s4 b0 ff i G r Q p P;generalize aL w2.heap.size b2 8=b3 at *;generalize w3.setCell _ _=w4 at *;go_wp2_with fail;go_step3;go_wp2_with fail;refine(Tr.rJ w4 R.tr HG.bs HG.j HG.aC).mono ?_;obtain⟨W,y⟩:∃W,Tr.oD {t with wv:=Z B (Tr.jW t).length S,am:=Tr.jW t}=W:=⟨_,rfl⟩;rw[y];have H:=M y;clear y;rintro e w8⟨rfl,a2,h8⟩;obtain⟨e8,s8⟩:=R.my a2 h8 (λk g=>Tr.Ei k (by rw[H.out];exact g));have j:=M s8;have a5:=M (a4.trans e8);clear a2 h8 e8 s8;have q:=j.tr.kv;have ff:=j.tr.fz;go_upto_region 28 with fail;have h9:=j.tr.put 11 (J W.pc) W (λn=>⟨n,T⟩) ⟨T,T,T,T⟩;obtain⟨e9,s9⟩:=j.my (Tr.dQ (bo w8) 11 (J W.pc)) h9 (λk g=>g);have a7:=M s9;have a6:=M (a5.trans e9);clear h9 e9 s9 q ff;go_wp2_with fail;simp only[cF];go_ret;exact⟨T,_,_,_,a6,a7,T,_,H.symm⟩
end
end
section
section
variable{w i:Y}{c:Cn}{K:aW.Q}{κ κ':N->N}{m m':aW.St}{b:Ac.B}{s:Ac.St}{g:N}{v:Value}{sh:List Sh}{a h0':Hl.St}
theorem lq(Q:aW.St->Hl.St->Prop)(w:Y)(h:iM w c K κ m b s g v sh a)(B:0<=a.pc/\a.pc<=3)(y:a.from_=0\/a.from_=1)(x:(a.fX:V)<=c.al)
  (hc:∀w1,iM w1 c K κ m b s g v sh a->C 224 #[I g 0,I K.mb 0,I K.sb 0] w1 (jU w1 c K κ b s g v sh true Q)):C 162 #[I g 0,I K.mb 0,I K.sb 0,I K.q.co 0] w (jU w c K κ b s g v sh true Q):=by
 obtain⟨A,u,hv⟩:∃A u,v=Z A sh.length u:=by
  obtain⟨⟨A,u,e,_⟩,_⟩:=h.hl.cH;exact⟨A,u,e⟩
 subst hv;have j:=M h;have R:=M hc;obtain⟨G,l⟩:∃G,a.fX=G:=⟨_,T⟩;obtain⟨pc,n⟩:∃pc,a.pc=pc:=⟨_,T⟩;rw[l]at x;rw[n]at B;have r:=M (aq l n);have d1:decide ((G:V)<0)=false:=dT (by omega);have d2:decide ((G:V)>c.al)=false:=dT (by omega);have d3:decide (pc<4)=true:=by simp;omega
 clear h hc l n x B;have p:Hid (∀(w1:Y),ae w w1->aG CX w κ w1 κ/\iM w1 c K κ m b s g (Z A sh.length u) sh a):=M (λw1 hp=>j.pure hp);rcases y with y|y
 all_goals
  have p0:=j.hl.p0;have p1:=j.hl.p1;have p2:=j.hl.p2;have p3:=j.hl.p3;have p4:=j.hl.p4;have p5:=j.hl.p5;have p6:=j.hl.p6;have p7:=j.hl.p7;have p8:=j.hl.p8;have X:=j.hl.p9;have o:=j.hl.sq;rw[y]at X;rw[r.out.1]at o;clear y;go_enter func162,ntmps162;go_wp2_with fail;refine bB (λi=>ae w i) ((bo w).drewN 1) (by kernel_rfl) (by kernel_rfl) ?_;intro S f _ d z;have q0:=λs=>(d s).aj p0;have q1:=λs=>(d s).aj p1;have q2:=λs=>(d s).aj p2;have H:=λs=>(d s).aj p3;have q4:=λs=>(d s).aj p4;have q5:=λs=>(d s).aj p5;have q6:=λs=>(d s).aj p6;have q7:=λs=>(d s).aj p7;have q8:=λs=>(d s).aj p8;have q9:=λs=>(d s).aj X;have a1:=λs=>(d s).aj o;have F:=M d;have t:=M z;clear d z p0 p1 p2 p3 p4 p5 p6 p7 p8 X o
  repeat(go_big_quiet_step ((go_at_call 6;exact aN t (F _) (λi hD k=>hD.MD k) (Hl.zl c _ sh _ (j.hl.pure (F _)).cH j.hl.ok))))
  refine wpQuiet_nil ?_;rintro w2⟨q,rfl⟩;have E:=F q;clear q0 q1 q2 H q4 q5 q6 q7 q8 q9 a1 F t;generalize f q=wc at *;have P:=M (p wc E);have W:=P.2.hl.jc;rw[r.out.2]at W;clear E;go_wp2_with fail;refine(R wc P.2).mono ?_;rintro e w3⟨rfl,a2,m3,h3,e3,s3,H⟩;have HQ:=M (aq (P.1.trans e3) (aq s3 H));clear e3 s3 H;go_wp2_with fail;go_ret;exact⟨T,a2,m3,h3,HQ⟩
theorem rR(Q:aW.St->Hl.St->Prop)(w:Y)(h:iM w c K κ m b s g v sh a)(B:4<=a.pc/\a.pc<=10)(y:a.from_=0\/a.from_=1)(x:(a.fX:V)<=c.al)
  (hc:∀w1,iM w1 c K κ m b s g v sh a->C 225 #[I g 0,I K.mb 0,I K.q.co 0] w1 (jU w1 c K κ b s g v sh true Q)):C 162 #[I g 0,I K.mb 0,I K.sb 0,I K.q.co 0] w (jU w c K κ b s g v sh true Q):=by
 obtain⟨A,u,hv⟩:∃A u,v=Z A sh.length u:=by
  obtain⟨⟨A,u,e,_⟩,_⟩:=h.hl.cH;exact⟨A,u,e⟩
 subst hv;have j:=M h;have R:=M hc;obtain⟨G,l⟩:∃G,a.fX=G:=⟨_,T⟩;obtain⟨pc,n⟩:∃pc,a.pc=pc:=⟨_,T⟩;rw[l]at x;rw[n]at B;have r:=M (aq l n);have d1:decide ((G:V)<0)=false:=dT (by omega);have d2:decide ((G:V)>c.al)=false:=dT (by omega);have d3:decide (pc<4)=false:=by simp;omega
 clear h hc l n x B;have p:Hid (∀(w1:Y),ae w w1->aG CX w κ w1 κ/\iM w1 c K κ m b s g (Z A sh.length u) sh a):=M (λw1 hp=>j.pure hp);rcases y with y|y
 all_goals
  have p0:=j.hl.p0;have p1:=j.hl.p1;have p2:=j.hl.p2;have p3:=j.hl.p3;have p4:=j.hl.p4;have p5:=j.hl.p5;have p6:=j.hl.p6;have p7:=j.hl.p7;have p8:=j.hl.p8;have X:=j.hl.p9;have o:=j.hl.sq;rw[y]at X;rw[r.out.1]at o;clear y;go_enter func162,ntmps162;go_wp2_with fail;refine bB (λi=>ae w i) ((bo w).drewN 1) (by kernel_rfl) (by kernel_rfl) ?_;intro S f _ d z;have q0:=λs=>(d s).aj p0;have q1:=λs=>(d s).aj p1;have q2:=λs=>(d s).aj p2;have H:=λs=>(d s).aj p3;have q4:=λs=>(d s).aj p4;have q5:=λs=>(d s).aj p5;have q6:=λs=>(d s).aj p6;have q7:=λs=>(d s).aj p7;have q8:=λs=>(d s).aj p8;have q9:=λs=>(d s).aj X;have a1:=λs=>(d s).aj o;have F:=M d;have t:=M z;clear d z p0 p1 p2 p3 p4 p5 p6 p7 p8 X o
  repeat(go_big_quiet_step ((go_at_call 6;exact aN t (F _) (λi hD k=>hD.MD k) (Hl.zl c _ sh _ (j.hl.pure (F _)).cH j.hl.ok))))
  refine wpQuiet_nil ?_;rintro w2⟨q,rfl⟩;have E:=F q;clear q0 q1 q2 H q4 q5 q6 q7 q8 q9 a1 F t;generalize f q=wc at *;have P:=M (p wc E);have W:=P.2.hl.jc;rw[r.out.2]at W;clear E;go_wp2_with fail;refine(R wc P.2).mono ?_;rintro e w3⟨rfl,a2,m3,h3,e3,s3,H⟩;have HQ:=M (aq (P.1.trans e3) (aq s3 H));clear e3 s3 H;go_wp2_with fail;go_ret;exact⟨T,a2,m3,h3,HQ⟩
theorem qW(d:Bool)(Q:aW.St->Hl.St->Prop)(w:Y)(h:iM w c K κ m b s g v sh a)(j:a.pc≠11)
  (G:∀w1,iM w1 c K κ m b s g v sh a->C 162 #[I g 0,I K.mb 0,I K.sb 0,I K.q.co 0] w1 (jU w1 c K κ b s g v sh true Q)) (H:∀m' B,Q m' B->(B.pc==11)=d) :
  C 110 #[I g 0,I K.mb 0,I K.sb 0,I K.q.co 0] w (jU w c K κ b s g v sh d Q):=by
 have p:=M h;have S:=M G;have o:=M H;have k:=h.hl.jc;obtain⟨n,r⟩:=h.hl.Lm;have X:=h.hl.fz;obtain⟨t,f⟩:∃t,a.pc=t:=⟨_,T⟩;rw[f]at k j;have a1:(t==11)=false:=by simpa using j
 clear h G H j f;go_enter func110,ntmps110;go_upto_region 4 with fail;have E:=p.hl.put 21 (J (wrap64 (n+1))) a (λ_=>⟨wrap64 (n+1),T⟩);obtain⟨z,R⟩:=p.dN (Hl.fx (bo w) 21 (J (wrap64 (n+1)))) E;have q:=M R;have l:=M z;clear E z R k r X p;generalize w.setCell _ _=w1 at *;go_wp2_with fail;refine(S w1 q).mono ?_;rintro e w2⟨rfl,y,P,F,A,x,u⟩;have k:=x.hl.jc;have hd:=o P F u;have W:=M (aq (l.trans A) (aq x u));clear A x u;go_wp2_with fail;go_ret;exact⟨T,y,P,F,W⟩
