/- Part 19 of the proof of spotop.TopChurn. -/
import Derived.Test.YtpgdiceeimehiaaGreatR17
set_option maxRecDepth 100000
set_option maxHeartbeats 16000000
set_option linter.all false
open Go.Proofs.Tryz
namespace Go.Proofs.YtpgdiceeimehiaaGreat
open RowKit
namespace Pl
def fieldStep(f:N)(bs:List Bool)(ws:List (Nat × Nat))(k:N):List (Nat × Nat):=if fe k=f then ws.set (eh k).toNat (fW (bs.getD k false))else ws
def ej(f:N)(bs:List Bool)(j:N)(ws:List (Nat × Nat)):List (Nat × Nat):=(List.range j).foldl (fieldStep f bs) ws
theorem jg(f:N)(bs:List Bool)(j:N)(ws:List (Nat × Nat)):ej f bs (j+1) ws=fieldStep f bs (ej f bs j ws) j:=by simp[ej,dK]
theorem fA(f:N)(bs:List Bool)(j:N)(ws:List (Nat × Nat)):(ej f bs j ws).length=ws.length:=by
 induction j with
 | zero=>rfl
 | succ j a =>
  rw[jg,fieldStep];split
  ·rw[iC,a]
  ·exact a
theorem jB(k:N):∃p:N,eh (k:V)=(p:V)/\p<8:=by
 have h:0<=eh (k:V)/\eh (k:V)<8:=by
  unfold eh;split<;>omega
 exact⟨(eh (k:V)).toNat,by omega,by omega⟩
theorem su(k:N):∃p:N,fe (k:V)=(p:V):=by
 have h:0<=fe (k:V):=by
  unfold fe;split<;>omega
 exact⟨(fe (k:V)).toNat,by omega⟩
theorem hU(A:Option Addr)(bs:List Bool)(cc f P:N)(ws:List (Nat × Nat))(w:Y)(hb:bs.length<=40)(hs:mE w w.heap.size (Z A bs.length cc) (da bs))(q:w.heap[P]?=some (D (Mm.cI ws).toArray 299 (0,0)))(hw:ws.length=8)(hn:A.map (·.block)≠some P):C 261 #[nP false A bs.length cc,J f,I P 0] w λe w'=>e=O (.tuple #[])/\ac (λk=>k=P) w w'/\w'.heap[P]?=some (D (Mm.cI (ej f bs bs.length ws)).toArray 299 (0,0)):=by
 obtain⟨A0,c0,hv,a8,y,hc⟩:=hs;injection hv with e1 e2 l;subst e1 l;clear e2;rw[bV]at a8 hc;obtain⟨hp,hz,a⟩:=Ac.aO w #[L false,Z A bs.length cc] 35;have HC:=M hc;have HB:=M (aq hb y);have a3:Hid (P<w.heap.size):=M (bR.1 q).1;have HP:=M hp;have v:=M a;have a2:=M (hp.bF q);have HN:=M hn;have HW:=M hw;clear hc hb y hp hz a q hn hw;go_enter func261,ntmps261;go_upto_region 1 with fail;generalize w.alloc _=W at *;obtain⟨y0,y1⟩:=dG v;go_wp2_with fail;go_loopw [14] (λi wr=>∃j:N,j<=bs.length/\i=J j/\ac (λk=>k=P) W wr/\wr.heap[P]?=some (D (Mm.cI (ej f bs j ws)).toArray 299 (0,0))) (λi _=>bs.length-(intOf i).toNat)
 case atStart=>exact⟨0,aw _,T,bo _,by simpa[ej]using a2.out⟩
 case round =>
  obtain⟨j,hj,rfl,ho,q⟩:=hrel;have S:=M ho;have a:=ho.bF v (by have:=a3.out;omega);have a9:=M a;have t:=M q;clear y0 y1 ho q;by_cases d:j<bs.length
  ·obtain⟨g,off,hA,hg,hx⟩:=HC (by omega);have a7:g≠P:=λe=>HN (by rw[hA,e];rfl);have x:(da bs)[j]?=some (L (bs.getD j false)):=by simp[da,List.getD,d]
   have d0:wr.cell? (I g (off+j))=some (L (bs.getD j false)):=by
    have z:g<W.heap.size:=eR hg HP.size;rw[S.out.cell (p:=⟨g,off+j,none⟩) z a7,HP.out.cell (p:=⟨g,off+j,none⟩) hg (λf=>f)];exact hx j _ x
   subst hA;obtain⟨y0,y1⟩:=dG a;have B:lj false bs.length (j:V)=true:=by
    have:=HB.1;simp[lj,gZ];omega
   obtain⟨o,F,G⟩:=jB j;obtain⟨K,E⟩:=su j;have b:=M (aq F E);obtain⟨r,hr⟩:∃r,bs.getD j false=r:=⟨_,T⟩;rw[hr]at d0;have a4:=M hr;have a1:=M B;have a6:bs.length<=9223372036854775807:=by have:=HB.1;omega
   clear hx x hr F E B a;go_wp2_with fail;refine(qh false _ bs.length cc (j:V) wr a6 a1).mono ?_;rw[b.out.1,b.out.2];rintro e w2⟨rfl,m⟩;have s:=M (S.trans (m.mono (Tq:=λk=>k=P) (λ_ _ f=>f.elim)) (λ_ _ h=>h));have c:=M (m.bF t);clear m y0 y1 d0;by_cases hf:K=f
   ·subst hf;have i8:(o:V)<8:=by omega
    obtain⟨Q,H⟩:∃Q,(ej K bs j ws)[o]?=some Q:=⟨_,cR (by rw[fA,HW.out];exact G)⟩;have cp:w2.cell? (I P o)=some (U Q.1 Q.2):=by rw[bK c.out];simpa using Mm.kl _ _ _ H
    have fp:=λk=>ey k c;clear H;go_wp2_with fail;go_region_with (go_at_call 267;refine(tD r _).mono ?_;rintro e w3⟨rfl,rfl⟩)
    all_goals
     have n:=az (i:=o) (u:=U (fW r).1 (fW r).2) c;have l:(Mm.cI (ej K bs j ws)).toArray.setIfInBounds o (U (fW r).1 (fW r).2)=(Mm.cI (ej K bs (j+1) ws)).toArray:=by
      rw[pM,<-Mm.ji,jg,fieldStep,af b.out.2,b.out.1,a4.out];rfl
     rw[l]at n;have a5:=M n;have X:Hid (ac (λk=>k=P) W (w2.setCell (I P o) (U (fW r).1 (fW r).2)).drew):=M ((s.setCell (p:=⟨P,o,none⟩) (λ_=>T) _).drewN 1);clear n l cp fp;go_wp2_with fail;exact⟨⟨j+1,d,by go_num,X,a5⟩,by simp[intOf];omega⟩
   ·have b0:((K:V)==(f:V))=false:=by simp;omega
    have l:ej f bs (j+1) ws=ej f bs j ws:=by
     rw[jg,fieldStep,aa (by rw[b.out.2];omega)]
    have R:=M l;clear hf l;go_wp2_with fail;exact⟨⟨j+1,d,by go_num,s,by rw[R.out];exact c⟩,by simp[intOf];omega⟩
  ·obtain rfl:j=bs.length:=by omega
   clear d;go_wp2_with fail;go_end0;exact⟨T,(HP.mono (λ_ _ f=>f.elim)).trans S (λ_ _ h=>h),t⟩
end Pl
namespace Ac
section
variable{w a:Y}{κ:N->N}{b:B}{s:St}
theorem aJ{Cq:N->Prop}{W w2:Y}{c d:N->N}{X:N}{u1 u2 u3 u4 u5:Value}(f:aG Cq W c w2 d)(e:c X=9)(h:¬Cq 9)(g:W.heap[X]?=some (D #[u1,u2,u3,u4,u5] 46 (0,0))):w2.heap[X]?=some (D #[u1,u2,u3,u4,u5] 46 (0,0))/\d X=9:=⟨f.bF g (by rw[e];exact h),(f.ft (bR.1 g).1).trans e⟩
theorem LX:¬BO 9:=by unfold BO;omega
theorem nT:¬CT 9:=by unfold CT;omega
theorem dY(e:V)(w:Y)(h:At w κ b s)(g:s.bn≠4)(n:(e==0)=false)(j:s.next<=100000):C 131 #[I b.ab 0,J e] w λr a =>
  r=O (.tuple #[iJ s.next s.own e aA,L true])/\∃κ',aG BO w κ a κ'/\At a κ' b {s with next:=s.next+1,bn:=1,pc:=0}:=by
 obtain⟨l,hz,o⟩:=aO w #[J 0,J 0,J 0,L false,U 0 0] 46;have i:=M (h.bS l);have p:Hid (aG BO w κ _ (aL w.heap.size κ 9)):=M (FI l);have x:=M o;have u:=M n;have HP:=M g;have f:Hid (aL w.heap.size κ 9 w.heap.size=9):=M (aU (ci _));clear l hz o h n g;go_enter func131,ntmps131;go_wp2_with fail;generalize w.alloc _=W at *;refine(dZ aA e W i HP (.inr u) aA (by split<;>rfl) j).mono ?_;rintro r E⟨rfl,c,m⟩;have q:=M (p.trans (ec i.k6 c));obtain⟨d,-⟩:=aJ (ec i.k6 c) f LX x;obtain⟨z0,z1,y,z3,z⟩:=bc d;have A:=λk=>ey k d;have t:=M m;clear c m d;go_wp2_with fail;refine au (v:=.tuple #[.agg #[J s.next,J s.own,J e,L false,U 0 0],L true]) (by simp[results,results131,go_sem,z0,z1,y,z3,z]) T ⟨T,_,((((q.new (ci _) _ _).new (ci _) _ _).new (ci _) _ _).new (ci _) _ _).new (ci _) _ _,((((t.aZ f _ _).aZ f _ _).aZ f _ _).aZ f _ _).aZ f _ _⟩
theorem ed(j:N)(v:Vl)(w:Y)(h:At w κ b s)(q:s.bn≠4)(R:j<s.ak.length)(A:s.next<=100000):C 180 #[I b.ab 0,J j,GW v] w λr a =>
  r=O (.tuple #[iJ s.next s.own 0 v,L true])/\∃κ',aG BO w κ a κ'/\At a κ' b {s with next:=s.next+1,bn:=1,pc:=0,ak:=s.ak.set j v}:=by
 obtain⟨d,e,f⟩:=v;obtain⟨E,hz,X,S⟩:=cC w #[L d,U e f] #[J 0,J 0,J 0,L false,U 0 0] 44 46;have m:=M (h.bS E);have G:Hid (aG BO w κ _ (aL w.heap.size κ 9)):=M (FI E);have K:=M S;have HV:=M X;have HP:=M q;have H:=M h.ll;have n:Hid (aL w.heap.size κ 9 (w.heap.size+1)=9):=M (aU (by omega));have hY:Hid (aL w.heap.size κ 9 w.heap.size=9):=M (aU (by omega));clear E hz S h q X;go_enter func180,ntmps180;go_wp2_with fail;generalize(w.alloc _).alloc _=W at *;have c2:=m.p2;obtain⟨x,hx⟩:∃x,s.ak[j]?=some x:=⟨_,cR R⟩;obtain⟨l0,l1⟩:=m.oj hx;have fl:=m.fl;have i0:(0:V)<=(j:V):=by omega
 have i1:(j:V)<(s.ak.length:V):=by omega
 have F:W.cell? (I w.heap.size 0)=some (L d):=by rw[bK HV.out];rfl
 have l:W.cell? (I w.heap.size 1)=some (U e f):=by rw[bK HV.out];rfl
 clear hx;go_region;have n1:b.lg≠w.heap.size+1:=by have:=H.out;omega
 have n2:b.lg≠w.heap.size:=by have:=H.out;omega
 have P:=(m.LV j (d,e,f) R).drew;have t:ac (λk=>k=b.lg) W ((W.setCell (I b.lg (j*2)) (L d)).setCell (I b.lg (j*2+1)) (U e f)).drew:=(((ac.refl (λk=>k=b.lg) W).setCell (p:=⟨b.lg,j*2,none⟩) (λ_=>T) _).setCell (p:=⟨b.lg,j*2+1,none⟩) (λ_=>T) _).drewN 1;have E2:=M (G.trans (CH m.k7 t));have y:=M (t.bF K (bC n1));have o:=M (t.bF HV (bC n2));have u:=M P;clear P t c2 l0 l1 fl F l i0 i1 K HV G m;generalize((W.setCell _ _).setCell _ _).drew=z at *;have F:z.cell? (I w.heap.size 0)=some (L d):=by rw[bK o.out];rfl
 have l:z.cell? (I w.heap.size 1)=some (U e f):=by rw[bK o.out];rfl
 go_wp2_with fail;refine(dZ (d,e,f) 0 z u HP (.inl T) (d,e,f) T A).mono ?_;rintro r w3⟨rfl,g,Q⟩;have E3:=M (E2.trans (ec u.k6 g));obtain⟨i,-⟩:=aJ (ec u.k6 g) n LX y;obtain⟨z0,z1,z2,z3,z4⟩:=bc i;have f1:=λk=>ey k i;have H3:=M Q;clear g Q i F l;go_wp2_with fail;have c:w.heap.size<=w.heap.size+1:=by omega
 refine au (v:=.tuple #[.agg #[J s.next,J s.own,J 0,L d,U e f],L true]) (by simp[results,results180,go_sem,z0,z1,z2,z3,z4]) T ⟨T,_,((((E3.new c _ _).new c _ _).new c _ _).new c _ _).new c _ _,((((H3.aZ n _ _).aZ n _ _).aZ n _ _).aZ n _ _).aZ n _ _⟩
theorem CS(j i:N)(w:Y)(h:At w κ b s)(c:s.ak[j]?=some (true,bi i))(d:i<=1000000):C 183 #[I b.ab 0,J j] w λr a=>r=O (J i)/\w=a:=by
 have f:=h.p2;obtain⟨k,l⟩:=h.oj c;have e:=(dH.1 c).1;have g:(j:V)<(s.ak.length:V):=by omega
 clear c h;go_enter func183,ntmps183;go_wp2_with fail;refine(ij i w d).mono ?_;rintro r m⟨rfl,rfl⟩;go_wp2_with fail;go_ret;exact⟨T,T⟩
theorem oQ(w:Y)(h:At w κ b s)(x:Bool)(e:x=(s.aY==1||s.aY==2)):C 249 #[I b.ab 0] w λr a=>r=O (L x)/\w=a:=by
 have f:=h.p4;have d:=M e;clear e h;by_cases c:s.aY=1
 ·rw[c]at f;go_enter func249,ntmps249;go_wp2_with fail;go_ret;exact⟨by rw[d.out,c];rfl,T⟩
 ·have g:(s.aY==1)=false:=by simpa using c
  go_enter func249,ntmps249;go_wp2_with fail;go_ret;exact⟨by rw[d.out,g];rfl,T⟩
end
end Ac
namespace Ac
section
variable{w w':Y}{κ:N->N}{b:B}{s:St}
theorem av{w:Y}{X:N}{o:dx}(h:w.heap[X]?=some (D #[J o.aE,J o.a,J o.b,J o.c,J o.n,U o.x o.y] 32 (0,0))):w.cell? (I X 0)=some (J o.aE)/\w.cell? (I X 1)=some (J o.a)/\w.cell? (I X 2)=some (J o.b)/\w.cell? (I X 3)=some (J o.c)/\w.cell? (I X 4)=some (J o.n)/\w.cell? (I X 5)=some (U o.x o.y):=by
 refine⟨?_,?_,?_,?_,?_,?_⟩<;>(rw[bK h];rfl)
abbrev gC(o:dx):Obj:=D #[J o.aE,J o.a,J o.b,J o.c,J o.n,U o.x o.y] 32
end
end Ac
section
open Ac (dx jb gC av Vl Wr iJ gm aA bc aJ nT aO cC ed dZ CT)
section
variable{w w':Y}{c:Cn}{K:aW.Q}{κ:N->N}{m:aW.St}{b:Ac.B}{s:Ac.St}
end
end
section
open Ac (jm dx jb gC av Vl Wr iJ gm aA bc aJ nT aO cC ed dZ dY CT)
section
variable{w w':Y}{c:Cn}{K:aW.Q}{κ:N->N}{m:aW.St}{b:Ac.B}{s:Ac.St}
theorem tK(j:N)(v:Nat × Nat)(l:List Wr)(w:Y)(h:dt w c K κ m b s)(hw:s.bz=((j:V),v)::l)(hj:j<m.am.length)(a6:s.aM=7)(x:V)(hx:x=if l=[]then 8 else 7):C 124 #[I b.ab 0,I K.kb 0] w λr w' =>
  r=O (.tuple #[iJ 0 0 0 aA,L false])/\∃κ',aG CT w κ w' κ'/\∃wv',dt w' c K κ' {m with am:=m.am.set j v} b {s with wv:=wv',bz:=l,aM:=x}:=by
 obtain⟨hp,-,b2⟩:=aO w #[J 0,J 0,J 0,L false,U 0 0] 46;have H1:=M (h.bS hp);have HR:=M b2;have b7:Hid (aL w.heap.size κ 9 (w.heap.size)=9):=M (aU (by omega));have a:Hid (w.heap.size<=w.heap.size):=M (by omega);have B:=M (aq hw (aq a6 hx));clear hp b2 h hw a6 hx;go_enter func124,ntmps124;go_wp2_with fail;generalize w.alloc gm=W at *;generalize aL w.heap.size κ 9=b3 at *;obtain⟨E1,S1⟩:=H1.out;have R:=M E1;have p:=M S1;clear E1 S1 H1;obtain⟨A,cw,z,b0,b1,a8⟩:=p.bj.rd.wr;obtain⟨g,off,rfl,hg⟩:=a8 (by rw[B.out.1];simp);have w0:W.cell? (I g off)=some (J j):=hg 0 _ (by rw[B.out.1];rfl);have w1:W.cell? (I g (off+1))=some (U v.1 v.2):=hg 1 _ (by rw[B.out.1];rfl);have HG:=M hg;have c2:=M b1;have t:s.bz.length=l.length+1:=by rw[B.out.1];rfl
 rw[t]at z b0;have H:=M z;have d:=p.bj.rh;rw[z]at d;have q9:=p.bm.q9;clear a8 hg b1 z t;go_still_tail 20,(by kernel_rfl);change wpList _ _ _ _ _ W.drew;have E:=M p.drew;have b5:=M (show W.drew.heap[w.heap.size]?=_ from HR);have b9:=M (show ∀j u,(jm s.bz)[j]?=some u->W.drew.cell? (I g (off+j))=some u from HG);have S:Hid (aG CT w κ W.drew b3):=M (R.trans (aG.pure ((ck W).drewN 1)));clear HG HR p R w0 w1 q9 d;generalize W.drew=W1 at *;go_wp2_with fail;refine(aW.write j v.1 v.2 _ E.bm hj).mono ?_;rintro r w2⟨rfl,a9,a7⟩;obtain⟨e2,S2⟩:=E.cJ a9 a7;have n:=M S2;have X:=M (S.trans e2);obtain⟨e,f⟩:=aJ e2 b7 nT b5;have a2:=M e;have a4:=M f;have d:=S2.bj.rh;have P:=S2.bj.kv;rw[H.out]at d;have fb:=S2.bj.fb;clear a9 a7 S2 e2 e f;simp only[];obtain⟨F,a5⟩:∃F,(if cw=1 then some (⟨g,off,none⟩:Addr)else some ⟨g,off+2,none⟩)=F:=⟨_,T⟩;go_upto_region 4 with fail;have hT:=n.bj.rd.wr;rw[H.out,B.out.1]at hT;have Q:=hT.tail F a5;have h8:∀k,(Z F l.length (cw-1)).ownBlock=some k->b3 k=8:=λk hk=>by
  rw[Q.2 k hk];exact n.bj.rd.k8 g (pN (by rw[H.out];rfl))
 have h3:=n.bj.K3 _ l Q.1 h8;have o3:ac (λk=>k=b.ab) w2 (w2.setCell (I b.ab 18) (Z F l.length (cw-1))):=Ac.ac.me (bo w2) _ _;obtain⟨e3,S3⟩:=n.fk (Ac.ec n.bj.k6 o3) h3;have i:=M S3;have a1:=M (X.trans e3);obtain⟨e,f⟩:=aJ e3 a4 nT a2;have G:=M e;have o:=M f;clear a5 hT Q h8 h3 o3 d P fb e3 S3 e f n X a2 a4;generalize w2.setCell _ _=w3 at *;have d:=i.bj.rh;have P:=i.bj.kv;have fb:=i.bj.fb;obtain⟨z0,z1,z2,z3,z4⟩:=bc G;have f1:=λk=>ey k G;cases l with
 | nil =>
  have h4:=i.bj.put 11 (J 8) {s with wv:=Z F 0 (cw-1),bz:=[],aM:=8} rfl rfl ⟨rfl,rfl,rfl,rfl,rfl,rfl⟩;have o4:ac (λk=>k=b.ab) w3 (w3.setCell (I b.ab 11) (J 8)):=Ac.ac.me (bo w3) _ _;obtain⟨e4,S4⟩:=i.fk (Ac.ec i.bj.k6 o4) h4;have b6:=M S4;have b4:=M (a1.trans e4);obtain⟨e,f⟩:=aJ e4 o nT G;have a3:=M e;have q:=M f;clear h4 o4 e4 S4 e f;go_upto_region 6 with fail;generalize w3.setCell _ _=w4 at *;clear z0 z1 z2 z3 z4 f1 d P fb;obtain⟨z0,z1,z2,z3,z4⟩:=bc a3;have f1:=λk=>ey k a3;go_wp2_with fail;refine au (v:=.tuple #[.agg #[J 0,J 0,J 0,L false,U 0 0],L false]) (by simp[results,results124,go_sem,z0,z1,z2,z3,z4]) T ⟨T,_,(((((b4.new a _ _).new a _ _).new a _ _).new a _ _).new a _ _),_,by rw[show x=8 from B.out.2.2];exact(((((b6.aZ q _ _).aZ q _ _).aZ q _ _).aZ q _ _).aZ q _ _)⟩
 | cons y l =>
  have b8:((((y::l).length:N):V)==0)=false:=by simp;omega
  simp only[bu]at b8 d;go_wp2_with fail;refine au (v:=.tuple #[.agg #[J 0,J 0,J 0,L false,U 0 0],L false]) (by simp[results,results124,go_sem,z0,z1,z2,z3,z4]) T ⟨T,_,(((((a1.new a _ _).new a _ _).new a _ _).new a _ _).new a _ _),_,by rw[show x=s.aM from B.out.2.2.trans B.out.2.1.symm];exact(((((i.aZ o _ _).aZ o _ _).aZ o _ _).aZ o _ _).aZ o _ _)⟩
end
end
section
open Ac (jm dx jb gC av Vl Wr iJ gm aA bc aJ nT aO cC ed dZ dY CT)
section
variable{w w':Y}{c:Cn}{K:aW.Q}{κ:N->N}{m:aW.St}{b:Ac.B}{s:Ac.St}
theorem bears_any(j a:N)(l:List Int)(q:dq.dy)(o:dx)(w:Y)(h:dt w c K κ m b s)(hg:s.cG=(j:V)::l)(hj:m.s.l[j]?=some q)(h2:q.st=2)(a6:q.head=false)(e8:j<=100000)(ha:o.a=(a:V))(c5:a<s.ak.length)(a8:s.bn≠4)(c6:s.next<=100000):C 125 #[I b.ab 0,I K.kb 0,jb o] w λr w' =>
  r=O (.tuple #[iJ s.next s.own 0 (true,bi j),L true])/\∃κ',aG CT w κ w' κ'/\dt w' c K κ' {m with s:={m.s with l:=m.s.l.set j {q with head:=true}}} b {s with next:=s.next+1,bn:=1,pc:=0,ak:=s.ak.set a (true,bi j)}:=by
 obtain⟨hp,-,hv,b0⟩:=cC w #[J o.aE,J o.a,J o.b,J o.c,J o.n,U o.x o.y] #[J 0,J 0,J 0,L false,U 0 0] 32 46;have H1:=M (h.bS hp);have HR:=M b0;have HV:=M hv;have R:Hid (aL w.heap.size κ 9 w.heap.size=9):=M (aU (by omega));have c3:Hid (aL w.heap.size κ 9 (w.heap.size+1)=9):=M (aU (by omega));have f:Hid (w.heap.size<=w.heap.size+1):=M (by omega);have p:=M (aq hg (aq hj (aq h2 (aq a6 (aq ha a8)))));clear hp b0 h hv hg hj h2 a6 ha a8;go_enter func125,ntmps125;go_wp2_with fail;generalize(w.alloc _).alloc _=W at *;generalize aL w.heap.size κ 9=c8 at *;generalize w.heap.size+1=X at *;obtain⟨E1,S1⟩:=H1.out;have F:=M E1;have e:=M S1;clear E1 S1 H1;obtain⟨Ag,cg,n,a7,-,-,u⟩:=e.bj.rd.cG.1;have d:s.cG.length=l.length+1:=by rw[p.out.1];rfl
 obtain⟨g,off,rfl,a5,x⟩:=u (by rw[d];omega);have g0:W.cell? (I g off)=some (J j):=by have:=x 0 (by rw[d];omega);rw[p.out.1]at this;exact this
 rw[d]at n a7;have P:=M n;have t:=e.bj.vG;rw[n]at t;have c7:=e.bm.lH;have a4:=e.bj.rd.k8 g (js (.inl (by rw[n];rfl)));have e0:=M a4;have e6:=M a5;clear u a5 x n d a4;go_still_tail 11,(by kernel_rfl);change wpList _ _ _ _ _ W.drew;have y:=M e.drew;have b8:=M (show W.drew.heap[X]?=_ from HR);have Q:=M (show W.drew.heap[w.heap.size]?=_ from HV);have G:Hid (aG CT w κ W.drew c8):=M (F.trans (aG.pure ((ck W).drewN 1)));clear HR HV e F g0 t c7;generalize W.drew=W1 at *;go_wp2_with fail;refine(aW.born j q _ y.bm p.2.1 p.2.2.1 p.2.2.2.1).mono ?_;rintro r w2⟨rfl,e9,a2,a1⟩;obtain⟨B,S2⟩:=y.cJ a2 a1;have H:=M S2;have b6:=M (G.trans B);obtain⟨a9,b3⟩:=aJ B c3 nT b8;have z:=M a9;have c4:=M b3;have b2:=(B).bF Q (by rw[R.out];exact nT);have b5:=((B).ft (bR.1 Q).1).trans R;have c2:=M b2;have e7:=M b5;have t:=S2.bj.vG;rw[P.out]at t;have g0:w2.cell? (I g off)=some (J j):=by
  obtain⟨A',c',b1,-,-,-,u⟩:=S2.bj.rd.cG.1;rw[P.out]at b1;injection b1 with e1 B e3;obtain⟨g',c9,E,-,x⟩:=u (by rw[p.out.1];simp);rw[<-e1]at E;injection E with E;injection E with E e5;subst E e5;have:=x 0 (by rw[p.out.1];simp);rw[p.out.1]at this;exact this
 obtain⟨-,o1,-,-,-,-⟩:=av c2;rw[p.out.2.2.2.2.1]at o1;clear a2 a1 S2 B a9 b3 b2 b5;obtain⟨z0,z1,z2,z3,z4⟩:=bc z;have f1:=λk=>ey k z;simp only[];go_wp2_with fail;go_region_with (first|(go_at_call 153;refine(mC j _ (by omega)).mono ?_;rintro r w3⟨rfl,rfl⟩)|(go_at_call 180;refine(ed a (true,bi j) _ H.drew.bj p.2.2.2.2.2 c5 c6).mono ?_;rintro r w3⟨rfl,g1,a3,S⟩;obtain⟨e3,S3⟩:=H.drew.fk a3 S;have b7:=M (b6.trans e3.qr);have b9:=M S3;obtain⟨A,b4⟩:=aJ e3.qr c4 nT z;obtain⟨z0,z1,z2,z3,z4⟩:=bc A;have f1:=λk=>ey k A;have i:=M b4;clear a3 S e3 S3 A b4))
 all_goals
  go_wp2_with fail;refine au (v:=.tuple #[.agg #[J s.next,J s.own,J 0,L true,U (bi j).1 (bi j).2],L true]) (by simp[results,results125,go_sem,z0,z1,z2,z3,z4]) T ⟨T,_,(((((b7.new f _ _).new f _ _).new f _ _).new f _ _).new f _ _),(((((b9.aZ i _ _).aZ i _ _).aZ i _ _).aZ i _ _).aZ i _ _)⟩
end
end
section
open Ac (jm dx jb gC av Vl Wr iJ gm aA bc aJ nT aO cC ed dZ dY CT)
section
variable{w a:Y}{c:Cn}{K:aW.Q}{κ:N->N}{m:aW.St}{b:Ac.B}{s:Ac.St}
def qo(z:Nat × Nat):Prop:=∀w:Y,C 98 #[U z.1 z.2] w λe a=>e=O (.tuple #[J 0,L false])/\w=a
theorem yw:qo bD:=index_none
theorem kM:qo (0,0):=yl
theorem dt.yD(n:N)(h:dt w c K κ m b s)(d:ae w a):aG CT w κ a (aL w.heap.size κ n)/\dt a c K (aL w.heap.size κ n) m b s:=⟨aG.aL n (d.mono (λ_ _ f=>f.elim)),h.bm.ext (Cq:=λ_=>False) (aG.aL n (d.mono (λ_ _ f=>f.elim))) (λ_ f=>f.elim),h.bj.aj d (λ_ _ f=>f) (λ_ e=>dE e)⟩
theorem ol(w:Y)(h:dt w c K κ m b s)(g:m.st=s.aY):C 117 #[I b.ab 0,I K.kb 0] w λr a =>
  r=O (L true)/\∃κ',aG CT w κ a κ'/\dt a c K κ' m b s:=by
 have d:=M h;have k:=M g;have n:=h.bm.xK;clear h g;go_enter func117,ntmps117;go_wp2_with fail;refine(aW.look w d.bm).mono ?_;rintro r q⟨rfl,f,e⟩;obtain⟨o,l⟩:=d.cJ f e;have j:=M l;have i:=M o;have p:=l.bj.p4;rw[k.out];clear f e l o n;go_wp2_with fail;go_ret;exact⟨T,_,i,j⟩
theorem qy(w:Y)(h:dt w c K κ m b s)(o:m.st=0)(g:s.aY≠0):C 117 #[I b.ab 0,I K.kb 0] w λr a =>
  r=O (L false)/\∃κ',aG CT w κ a κ'/\dt a c K κ' m b {s with seen:=0,gv:=Z none 0 0,bZ:=[],pc:=2}:=by
 have i:=M h;have v:=M o;have t:Hid ((0==s.aY)=false):=M (by simpa using λe=>g e.symm);have x:=h.bm.xK;clear h o g;go_enter func117,ntmps117;go_wp2_with fail;refine(aW.look w i.bm).mono ?_;rintro r y⟨rfl,l,j⟩;obtain⟨A,d⟩:=i.cJ l j;have f:=M d;have p:=M A;have Q:=d.bj.p4;have W:=d.bj.p8;have G:=d.bj.p9;have S:=d.bj.p7;have R:=d.bj.p5;have fb:=d.bj.fb;obtain⟨P,X,n,-⟩:=d.bj.rd.bZ.form;rw[n]at G;rw[v.out];have g:=t.out;clear l j d A x n;have E:=((f.bj.put 8 (J 0) {s with seen:=0} rfl rfl ⟨rfl,rfl,rfl,rfl,rfl,rfl⟩).wU (Z none 0 0) [] (ez.nil _ _) (λk H=>by simp[Value.ownBlock]at H)).put 7 (J 2) {s with seen:=0,gv:=Z none 0 0,bZ:=[],pc:=2} rfl rfl ⟨rfl,rfl,rfl,rfl,rfl,rfl⟩;have F:ac (λk=>k=b.ab) y (((y.setCell (I b.ab 8) (J 0)).setCell (I b.ab 9) (Z none 0 0)).setCell (I b.ab 7) (J 2)):=Ac.ac.me (Ac.ac.me (Ac.ac.me (bo y) _ _) _ _) _ _;obtain⟨B,z⟩:=f.fk (Ac.ec f.bj.k6 F) E;have u:=M z;have q:=M (p.trans B);clear E F B z;go_wp2_with fail;go_ret;exact⟨T,_,q,u⟩
theorem rV(w:Y)(h:dt w c K κ m b s)(o:m.st=2)(g:s.aY≠2):C 117 #[I b.ab 0,I K.kb 0] w λr a =>
  r=O (L false)/\∃κ',aG CT w κ a κ'/\dt a c K κ' m b {s with seen:=2,gv:=Z none 0 0,bZ:=[],pc:=2}:=by
 have i:=M h;have v:=M o;have t:Hid ((2==s.aY)=false):=M (by simpa using λe=>g e.symm);have x:=h.bm.xK;clear h o g;go_enter func117,ntmps117;go_wp2_with fail;refine(aW.look w i.bm).mono ?_;rintro r y⟨rfl,l,j⟩;obtain⟨A,d⟩:=i.cJ l j;have f:=M d;have p:=M A;have Q:=d.bj.p4;have W:=d.bj.p8;have G:=d.bj.p9;have S:=d.bj.p7;have R:=d.bj.p5;have fb:=d.bj.fb;obtain⟨P,X,n,-⟩:=d.bj.rd.bZ.form;rw[n]at G;rw[v.out];have g:=t.out;clear l j d A x n;have E:=((f.bj.put 8 (J 2) {s with seen:=2} rfl rfl ⟨rfl,rfl,rfl,rfl,rfl,rfl⟩).wU (Z none 0 0) [] (ez.nil _ _) (λk H=>by simp[Value.ownBlock]at H)).put 7 (J 2) {s with seen:=2,gv:=Z none 0 0,bZ:=[],pc:=2} rfl rfl ⟨rfl,rfl,rfl,rfl,rfl,rfl⟩;have F:ac (λk=>k=b.ab) y (((y.setCell (I b.ab 8) (J 2)).setCell (I b.ab 9) (Z none 0 0)).setCell (I b.ab 7) (J 2)):=Ac.ac.me (Ac.ac.me (Ac.ac.me (bo y) _ _) _ _) _ _;obtain⟨B,z⟩:=f.fk (Ac.ec f.bj.k6 F) E;have u:=M z;have q:=M (p.trans B);clear E F B z;go_wp2_with fail;go_ret;exact⟨T,_,q,u⟩
theorem rW(w:Y)(h:dt w c K κ m b s)(o:m.st=4)(g:s.aY≠4):C 117 #[I b.ab 0,I K.kb 0] w λr a =>
  r=O (L false)/\∃κ',aG CT w κ a κ'/\dt a c K κ' m b {s with seen:=4,gv:=Z none 0 0,bZ:=[],pc:=2}:=by
 have i:=M h;have v:=M o;have t:Hid ((4==s.aY)=false):=M (by simpa using λe=>g e.symm);have x:=h.bm.xK;clear h o g;go_enter func117,ntmps117;go_wp2_with fail;refine(aW.look w i.bm).mono ?_;rintro r y⟨rfl,l,j⟩;obtain⟨A,d⟩:=i.cJ l j;have f:=M d;have p:=M A;have Q:=d.bj.p4;have W:=d.bj.p8;have G:=d.bj.p9;have S:=d.bj.p7;have R:=d.bj.p5;have fb:=d.bj.fb;obtain⟨P,X,n,-⟩:=d.bj.rd.bZ.form;rw[n]at G;rw[v.out];have g:=t.out;clear l j d A x n;have E:=((f.bj.put 8 (J 4) {s with seen:=4} rfl rfl ⟨rfl,rfl,rfl,rfl,rfl,rfl⟩).wU (Z none 0 0) [] (ez.nil _ _) (λk H=>by simp[Value.ownBlock]at H)).put 7 (J 2) {s with seen:=4,gv:=Z none 0 0,bZ:=[],pc:=2} rfl rfl ⟨rfl,rfl,rfl,rfl,rfl,rfl⟩;have F:ac (λk=>k=b.ab) y (((y.setCell (I b.ab 8) (J 4)).setCell (I b.ab 9) (Z none 0 0)).setCell (I b.ab 7) (J 2)):=Ac.ac.me (Ac.ac.me (Ac.ac.me (bo y) _ _) _ _) _ _;obtain⟨B,z⟩:=f.fk (Ac.ec f.bj.k6 F) E;have u:=M z;have q:=M (p.trans B);clear E F B z;go_wp2_with fail;go_ret;exact⟨T,_,q,u⟩
theorem qx(w:Y)(h:dt w c K κ m b s)(p:m.st=1)(i:s.aY≠1):C 117 #[I b.ab 0,I K.kb 0] w λr a =>
  r=O (L false)/\∃κ',aG CT w κ a κ'/\dt a c K κ' m b {s with seen:=1,gv:=Z none 0 0,bZ:=[],pc:=2,ah:=m.se}:=by
 have j:=M h;have z:=M p;have x:Hid ((1==s.aY)=false):=M (by simpa using λe=>i e.symm);have A:=h.bm.xK;clear h p i;go_enter func117,ntmps117;go_wp2_with fail;refine(aW.look w j.bm).mono ?_;rintro r q⟨rfl,n,l⟩;obtain⟨F,d⟩:=j.cJ n l;have f:=M d;have t:=M F;have c4:=d.bj.p4;have c8:=d.bj.p8;have W:=d.bj.p9;have c7:=d.bj.p7;have c5:=d.bj.p5;have fb:=d.bj.fb;obtain⟨Ag,cg,o,-⟩:=d.bj.rd.bZ.form;rw[o]at W;rw[z.out];have i:=x.out;clear n l d F A o;have P:=((f.bj.put 8 (J 1) {s with seen:=1} rfl rfl ⟨rfl,rfl,rfl,rfl,rfl,rfl⟩).wU (Z none 0 0) [] (ez.nil _ _) (λk X=>by simp[Value.ownBlock]at X)).put 7 (J 2) {s with seen:=1,gv:=Z none 0 0,bZ:=[],pc:=2} rfl rfl ⟨rfl,rfl,rfl,rfl,rfl,rfl⟩;have R:ac (λk=>k=b.ab) q (((q.setCell (I b.ab 8) (J 1)).setCell (I b.ab 9) (Z none 0 0)).setCell (I b.ab 7) (J 2)):=Ac.ac.me (Ac.ac.me (Ac.ac.me (bo q) _ _) _ _) _ _;obtain⟨G,B⟩:=f.fk (Ac.ec f.bj.k6 R) P;have g:=M B;have u:=M (t.trans G);clear P R G B;have Q:=g.bj.put 5 (L m.se) {s with seen:=1,gv:=Z none 0 0,bZ:=[],pc:=2,ah:=m.se} rfl rfl ⟨rfl,rfl,rfl,rfl,rfl,rfl⟩;have S:=Ac.ac.me (ac.refl (λk=>k=b.ab) (((q.setCell (I b.ab 8) (J 1)).setCell (I b.ab 9) (Z none 0 0)).setCell (I b.ab 7) (J 2))) 5 (L m.se);obtain⟨H,E⟩:=g.fk (Ac.ec g.bj.k6 S) Q;have y:=M E;have v:=M (u.trans H);clear Q S H E;go_wp2_with fail;go_ret;exact⟨T,_,v,y⟩
theorem ph(w:Y)(h:dt w c K κ m b s)(A:m.st=3)(o:s.aY≠3)(z:∀v∈s.ak,qo v.2):C 117 #[I b.ab 0,I K.kb 0] w λr a =>
  r=O (L false)/\∃κ',aG CT w κ a κ'/\dt a c K κ' m b {s with seen:=3,gv:=Z none 0 0,bZ:=[],pc:=2}:=by
 have p:=M h;have Q:=M A;have H:Hid ((3==s.aY)=false):=M (by simpa using λe=>o e.symm);have W:=h.bm.xK;clear h A o;go_enter func117,ntmps117;go_wp2_with fail;refine(aW.look w p.bm).mono ?_;rintro r E⟨rfl,x,u⟩;obtain⟨e2,f⟩:=p.cJ x u;have d:=M f;have F:=M e2;have c4:=f.bj.p4;have c8:=f.bj.p8;have c9:=f.bj.p9;have c7:=f.bj.p7;have c5:=f.bj.p5;have fb:=f.bj.fb;obtain⟨Ag,cg,y,-⟩:=f.bj.rd.bZ.form;rw[y]at c9;rw[Q.out];have o:=H.out;clear x u f e2 W y;have h3:=((d.bj.put 8 (J 3) {s with seen:=3} rfl rfl ⟨rfl,rfl,rfl,rfl,rfl,rfl⟩).wU (Z none 0 0) [] (ez.nil _ _) (λk hk=>by simp[Value.ownBlock]at hk)).put 7 (J 2) {s with seen:=3,gv:=Z none 0 0,bZ:=[],pc:=2} rfl rfl ⟨rfl,rfl,rfl,rfl,rfl,rfl⟩;have o3:ac (λk=>k=b.ab) E (((E.setCell (I b.ab 8) (J 3)).setCell (I b.ab 9) (Z none 0 0)).setCell (I b.ab 7) (J 2)):=Ac.ac.me (Ac.ac.me (Ac.ac.me (bo E) _ _) _ _) _ _;obtain⟨e3,X⟩:=d.fk (Ac.ec d.bj.k6 o3) h3;have q:=M X;have G:=M (F.trans e3);have P:=M z;clear z h3 o3 e3 X;have c2:=d.bj.p2;have a1:=d.bj.eT;go_wp2_with fail;clear c4 c8 c9 c7 c5 fb;generalize((E.setCell _ _).setCell _ _).setCell _ _=w3 at *;go_loopw [49] (λi wr=>∃j:N,j<=s.ak.length/\i=J j/\ae w3 wr) (λi _=>s.ak.length-(intOf i).toNat)
 case atStart=>exact⟨0,aw _,T,bo _⟩
 case round =>
  obtain⟨j,hj,rfl,R⟩:=hrel;have l:=(q.bS R).2;have t:=M l;have HP:=M R;clear R l c2;by_cases n:j<s.ak.length
  ·obtain⟨v,S⟩:∃v,s.ak[j]?=some v:=⟨_,cR n⟩;obtain⟨l0,l1⟩:=t.bj.oj S;have g:v∈s.ak:=cZ S;have HN:=M (P v g);clear S g;go_wp2_with fail;refine(HN _).mono ?_;rintro r w4⟨rfl,B⟩;rw[<-B];clear B;go_wp2_with fail
   all_goals exact⟨⟨j+1,n,by go_num,HP.alloc _⟩,by simp[intOf];omega⟩
  ·obtain rfl:j=s.ak.length:=by omega
   clear n;go_wp2_with fail;go_ret;exact⟨T,_,G.trans (q.bS HP).1,t⟩
theorem pi(w:Y)(h:dt w c K κ m b s)(b2:m.st=3)(F:s.aY≠3)(i:N)(hi:i<=1000000)(vs:List Vl)(hl:s.ak=(true,bi i)::vs)(b0:∀v∈vs,qo v.2):C 117 #[I b.ab 0,I K.kb 0] w λr a =>
  r=O (L false)/\∃κ',aG CT w κ a κ'/\∃gv',dt a c K κ' m b {s with seen:=3,gv:=gv',bZ:=[(i:V)],pc:=1}:=by
 have a3:=M h;have c3:=M b2;have b6:Hid ((3==s.aY)=false):=M (by simpa using λe=>F e.symm);have g1:=h.bm.xK;clear h b2 F;go_enter func117,ntmps117;go_wp2_with fail;refine(aW.look w a3.bm).mono ?_;rintro r w2⟨rfl,a7,a6⟩;obtain⟨e2,t⟩:=a3.cJ a7 a6;have l:=M t;have b3:=M e2;have c4:=t.bj.p4;have c8:=t.bj.p8;have Q:=t.bj.p9;have c7:=t.bj.p7;have c5:=t.bj.p5;have fb:=t.bj.fb;obtain⟨Ag,cg,a9,-⟩:=t.bj.rd.bZ.form;rw[a9]at Q;rw[c3.out];have F:=b6.out;clear a7 a6 t e2 g1 a9;have h3:=((l.bj.put 8 (J 3) {s with seen:=3} rfl rfl ⟨rfl,rfl,rfl,rfl,rfl,rfl⟩).wU (Z none 0 0) [] (ez.nil _ _) (λk hk=>by simp[Value.ownBlock]at hk)).put 7 (J 2) {s with seen:=3,gv:=Z none 0 0,bZ:=[],pc:=2} rfl rfl ⟨rfl,rfl,rfl,rfl,rfl,rfl⟩;have o3:ac (λk=>k=b.ab) w2 (((w2.setCell (I b.ab 8) (J 3)).setCell (I b.ab 9) (Z none 0 0)).setCell (I b.ab 7) (J 2)):=Ac.ac.me (Ac.ac.me (Ac.ac.me (bo w2) _ _) _ _) _ _;obtain⟨e3,S3⟩:=l.fk (Ac.ec l.bj.k6 o3) h3;have g:=M S3;have X:=M (b3.trans e3);have o:=M (aq hl b0);have g3:=l.bj.eT;obtain⟨i0,e5,e7,e8,e9⟩:=aR Po.eu;clear b0 hl h3 o3 e3 S3;have c2:=l.bj.p2;go_wp2_with fail;clear c4 c8 Q c7 c5 fb;generalize((w2.setCell _ _).setCell _ _).setCell _ _=w3 at *;go_loopw [49] (λi' wr=>∃j:N,j<=s.ak.length/\i'=J j/\((j=0/\wr=w3)\/(1<=j/\∃H gv,aG CT w κ wr H/\dt wr c K H m b {s with seen:=3,gv:=gv,bZ:=[(i:V)],pc:=1}))) (λi' _=>s.ak.length-(intOf i').toNat)
 case atStart=>exact⟨0,aw _,T,.inl ⟨T,T⟩⟩
 case round =>
  obtain⟨j,hj,rfl,e4⟩:=hrel;rcases e4 with⟨rfl,rfl⟩|⟨g4,H,gv,he,hs⟩
  ·have z:0<s.ak.length:=by rw[o.out.1];simp
   have G:s.ak[0]?=some (true,bi i):=by rw[o.out.1];rfl
   obtain⟨l0,l1⟩:=g.bj.oj G;have i2:(0:V)<(s.ak.length:V):=by omega
   have Q:=g.bj.p9;have c7:=g.bj.p7;have fb:=g.bj.fb;clear G c2;go_wp2_with fail;refine(ij i _ hi).mono ?_;rintro r w4⟨rfl,n⟩;rw[<-n];clear n;have b1:ae wr (wr.alloc (D #[L true,U (bi i).1 (bi i).2] 44)):=(bo wr).alloc _;have a5:=ai wr (D #[L true,U (bi i).1 (bi i).2] 44);have v0:(wr.alloc (D #[L true,U (bi i).1 (bi i).2] 44)).cell? (I wr.heap.size 0)=some (L true):=(fq 0 a5).trans T;obtain⟨E5,S5⟩:=g.bS b1;obtain⟨P,u⟩:∃P:Option Addr,none=P:=⟨_,T⟩;obtain⟨R,E⟩:∃R:N,0=R:=⟨_,T⟩;obtain⟨d,y⟩:∃l0:N,0=l0:=⟨_,T⟩;have b5:Hid (∀(W:Y) (B:N),W.ownsRow B 3 1 (Z P d R) d []):=M (λW B=>by rw[<-u,<-E,<-y];exact jD _ _ _ _);have a2:Hid ((Z P d R).ownBlock=none/\d=0):=M ⟨by rw[<-u];rfl,y.symm⟩;have g2:d<=10:=by omega
   have Q:=S5.bj.p9;simp only[]at Q;rw[show(Z none 0 0)=Z P d R by rw[<-u,<-E,<-y]]at Q;have c7:=S5.bj.p7;have fb:=S5.bj.fb;have b9:=M S5;clear u E y;have b4:=M (X.trans E5);clear b1 a5 E5 S5 l0 l1 g X;generalize wr.alloc _=w5 at *;generalize wr.heap.size=X5 at *;go_wp2_with (at_builtin;refine bT _ T (.tmp 68) (.tmp 70) _ T w5.heap.size 3 i0 _ 1 8 underlying25 e5 e7 e8 e9 T (by omega) (Z P d R) d [] T (b5 _ _) _ 1 1 [J i] T (jd.cI _ _ #[J i] 1 1 _ T T) (by simp[Value.oneCell']) (by simp only[maxLen];omega) (by omega) (by simp) ?_;intro v9 w9 f a8 a4;obtain⟨S,n9,rfl⟩:=aD f;have b7:=M f;have b8:Hid (ae w5 w9):=M (((bo w5).alloc _).grown a8 (λk _ e=>by rw[a2.out.1]at e;cases e));have S9:=b9.yD 8 b8;have p:=M S9;have d9:=S9.2.bj.p9;have d7:=S9.2.bj.p7;have fz:=S9.2.bj.fb;clear S9 f a8 a4);have hT:=ez.fQ (w:=w9) (e:=3) (aC:=w5.heap.size) (v:=Z S (d+1) n9) (xs:=[(i:V)]) (by have:=b7.out;rw[a2.out.2]at this ⊢;exact this) (λx hx=>by simp at hx;omega);have e6:∀k,(Z S (d+1) n9).ownBlock=some k->aL w5.heap.size (aL X5 κ 9) 8 k=8:=λk hk=>aU (hT.lt k hk).1;have e1:=(p.2.bj.wU (Z S (d+1) n9) [(i:V)] (hT.mono (aw _)) e6).put 7 (J 1) {s with seen:=3,gv:=Z S (d+1) n9,bZ:=[(i:V)],pc:=1} rfl rfl ⟨rfl,rfl,rfl,rfl,rfl,rfl⟩;have g0:=Ac.ac.me (Ac.ac.me (ac.refl (λk=>k=b.ab) w9) 9 (Z S (d+1) n9)) 7 (J 1);obtain⟨e0,c6⟩:=p.2.fk (Ac.ec p.2.bj.k6 g0) e1;exact⟨⟨1,by omega,T,.inr ⟨ci _,_,_,(b4.trans p.1).trans e0,c6⟩⟩,by simp[intOf];omega⟩
  ·have q:=M hs;have a1:=M he;clear hs he c2;by_cases z:j<s.ak.length
   ·obtain⟨v,G⟩:∃v,s.ak[j]?=some v:=⟨_,cR z⟩;obtain⟨l0,l1⟩:=q.bj.oj G;have A:v∈vs:=by
     rw[o.out.1]at G;obtain⟨j',rfl⟩:∃j',j=j'+1:=⟨j-1,by omega⟩;exact cZ (by simpa using G)
    have HN:=M (o.2 v A);have i2:(j:V)<(s.ak.length:V):=by omega
    clear G A;go_wp2_with fail;refine(HN _).mono ?_;rintro r w4⟨rfl,n⟩;rw[<-n];clear n;go_wp2_with fail
    all_goals exact⟨⟨j+1,z,by go_num,.inr ⟨by omega,_,_,a1.trans (q.bS ((bo _).alloc _)).1,(q.bS ((bo _).alloc _)).2⟩⟩,by simp[intOf];omega⟩
   ·obtain rfl:j=s.ak.length:=by omega
    clear z;go_wp2_with fail;go_ret;exact⟨T,_,a1,_,q⟩
