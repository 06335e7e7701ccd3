/- Part 39 of the proof of spotop.TopChurn. -/
import Derived.Test.YtpgdiceeimehiaaGreatR34
import Derived.Test.YtpgdiceeimehiaaGreatR36
set_option maxRecDepth 100000
set_option maxHeartbeats 16000000
set_option linter.all false
open Go.Proofs.Tryz
namespace Go.Proofs.YtpgdiceeimehiaaGreat
open RowKit
section
open Pl (aI)
namespace Vw
theorem El{w:Y}{e i:TypeId}{aC n size a r c:N}{u j:Value}{xs h:List Value}(q:w.ownsRow aC e size u n xs)(f:w.ownsRow a i c j r h)(d:i≠e){k:N}(p:u.ownBlock=some k):j.ownBlock≠some k:=by
 intro b;rcases f.2 with⟨rfl,_⟩|⟨g,l,m,rfl,_,o,_⟩
 ·simp[Value.ownBlock]at b
 ·simp only[Value.ownBlock,Option.some.injEq]at b;subst b;exact ca q o (λe=>d e.symm) p
section
variable{w a:Y}{B vb hb lg yb:N}{c:Cn}{v:Value}{sh:List Sh}{t t':St}{K:aW.Q}{κ:N->N}{m:aW.St}{b:Ac.B}{s:Ac.St}{y:dw.St}
theorem At.KX{l:Y}(x:V)(h:At w B vb hb c v sh t)(o:ae l w)(r:l.heap.size=B):ae l ((w.alloc (D #[J x] 3)).setCell (I vb 15) (Z (some (I w.heap.size 0)) 1 1))/\At ((w.alloc (D #[J x] 3)).setCell (I vb 15) (Z (some (I w.heap.size 0)) 1 1)) B vb hb c v sh {t with fv:=Z (some (I w.heap.size 0)) 1 1,fs:=[x]}:=by
 have k:ae w (w.alloc (D #[J x] 3)):=(bo w).alloc _;have f:=h.pure k;have n:B<=w.heap.size:=by rw[<-r];exact o.size
 have j:=World.ownsRow_lit (base:=B) (size:=1) (e:=3) w #[J x] 1 n (by simp[maxLen]) T;have g:ac (λq=>q=vb) (w.alloc (D #[J x] 3)) ((w.alloc (D #[J x] 3)).setCell (I vb 15) (Z (some (I w.heap.size 0)) 1 1)):=(ac.refl (λq=>q=vb) _).setCell (p:=⟨vb,15,none⟩) (λ_=>T) _;have z:=az (i:=15) (u:=Z (some (I w.heap.size 0)) 1 1) f.me;refine⟨(o.MD k).trans g (λq d e=>by have:=h.new;omega),z,f.cH.MC g (λq d e=>(f.ro q (.inl d)).1 e),f.ok,f.refs.MC g (λq d e=>(f.ro q (.inr d)).1 e),?_,?_,h.new,λq d=>?_,λq d e=>?_⟩
 ·exact g.own j (λq d e=>by have:=h.lt;simp[Value.ownBlock]at d;omega)
 ·exact g.own f.BL (λq d e=>ca f.BL f.me (by decide) (e▸d))
 ·refine⟨(f.ro q d).1,λe=>?_,(f.ro q d).2.2.1,eR (f.ro q d).2.2.2 g.size⟩;have:=(h.ro q d).2.2.2;simp[Value.ownBlock]at e;omega
 ·simp[Value.ownBlock]at d;have:=(h.BL.lt q e).2;omega
def BI(md d bb:N)(t:St):St:={t with ix:=if md=1 then(bb:V)else t.ix,nw:=if md=1 then d+2 else t.nw}
theorem Au(q:Bool)(d p r:N)(xs:List Nat)(i w:Y)(h:At w B vb hb c v sh t)(x:jS i c K κ m b s yb y hb lg)(z:ae i w)(u:i.heap.size=B)(f:tZ m.am c q t.n d p r xs t.head)(j:0<d):C 205 #[I vb 0] w λe a=>∃A g,e=O (.tuple #[Z A d g,L true])/\ae i a/\At a B vb hb c v sh (BI p d r t)/\a.ownsRow w.heap.size 30 1 (Z A d g) d (gR xs d):=by
 have k:=f.m3;rcases(by omega:p=0\/p=1\/p=2)with rfl|rfl|rfl
 ·exact(vV q d xs i w h x z u ⟨f.EZ,f.dd,f.len,f.lt,f.nl,f.length,f.mode,f.m3,f.inl,f.m0,λe=>by simp at e,λe=>by simp at e,f.refs⟩ j).mono (λe a ⟨A,g,l,n,k,o⟩=>⟨A,g,l,n,by rw[BI,aa (by decide),aa (by decide)];exact k,o⟩)
 ·exact(vW q d r xs i w h x z u f j).mono (λe a ⟨A,g,l,n,k,o⟩=>⟨A,g,l,n,by rw[BI,af rfl,af rfl];exact k,o⟩)
 ·exact(vU q d r xs i w h x z u f j).mono (λe a ⟨A,g,l,n,k,o⟩=>⟨A,g,l,n,by rw[BI,aa (by decide),aa (by decide)];exact k,o⟩)
structure Lr(W0:Y)(B vb hb:N)(c:Cn)(v:Value)(sh:List Sh)(t0:St)(xs:List Nat)(Lq:N)(lv:Value)(d j:N)(wr:Y):Prop where
 pu:ae W0 wr
 aM:∃fv,At wr B vb hb c v sh {t0 with fv:=fv,fs:=aI (xs.take (j+1))}
 own:wr.ownsRow Lq 30 1 lv d (gR xs d)
theorem Fs(b0:Bool)(n d md bb:N)(xs:List Nat)(W0 w:Y)(h:At w B vb hb c v sh t)(hm:jS W0 c K κ m b s yb y hb lg)(hp:ae W0 w)(hB:W0.heap.size=B)(ht:t.bs=[b0])(ha:tZ m.am c b0 n d md bb xs t.head):C 137 #[I vb 0] w λe a=>e=O (L true)/\ae W0 a/\∃fv,At a B vb hb c v sh {BI md d bb {t with n:=n}with fv:=fv,fs:=aI xs}:=by
 have H:=M h;have HM:=M hm;have P:=M ha;have HP:=M hp;have HB:=M hB;have HT:=M ht;have hi:(t.head:V)<c.ag:=ha.lt _ (cZ ha.EZ);have n5:d<=64:=by have z:=ha.dd;unfold bX at z;split at z<;>omega
 have m8:=h.jc;have G:=h.qC;have c7:=h.pure ((bo w).alloc (D #[J t.head] 3));have j4:=c7.qC;have l3:=c7.fz;clear h hm ha hp hB ht c7 G;go_enter func137,ntmps137;go_upto_region 2 with fail;obtain⟨z,h2⟩:=H.KX (t.head:V) HP HB;have H1:=M h2;have e9:=M z;clear z h2 m8 j4 l3 H HP;generalize((w.alloc _).setCell _ _)=w1 at *;generalize w.heap.size=X0 at *;go_wp2_with fail;refine(Dk n W0 w1 H1 HM e9 HB hi P.length P.nl).mono ?_;rintro e w2⟨rfl,h5,g2⟩;have H2:=M g2;have c6:=M h5;clear h5 g2 H1 e9;have a8:=H2.rf;dsimp only at a8;rcases kc n with b3|b3
 ·have n3:=M b3;have b6:d=0:=by have z:=P.dd;rw[b3]at z;unfold bX at z;simp at z;omega
  have e5:=M b6;have c0:((n:V)==0)=true:=by rw[b3];rfl
  clear b3 b6;go_wp2_with fail;go_ret;refine⟨T,c6,Z (some (I X0 0)) 1 1,?_⟩;have S:aI xs=[(t.head:V)]:=by
   have z:=P.len;rw[e5.out]at z;have h2:=P.EZ
   match xs,z,h2 with
   | [x],_,h2=>simp at h2;simp[aI,h2]
  have h3:md≠1:=by rintro rfl;have:=P.inl.2 (by have:=e5.out;omega);omega
  rw[S,BI,aa h3,aa h3];exact H2
 ·have b6:0<d:=by have z:=P.dd;have h2:=P.nl;unfold bX at z;split at z<;>omega
  have c0:((n:V)==0)=false:=by simp;omega
  go_wp2_with fail;refine(Au b0 d md bb xs W0 w2 H2 HM c6 HB P b6).mono ?_;rintro e w3⟨A,n0,rfl,h6,g3,b4⟩;have e7:Hid (Lr W0 B vb hb c v sh (BI md d bb {t with n:=n}) xs w2.heap.size (Z A d n0) d 0 w3):=M ⟨h6,⟨Z (some (I X0 0)) 1 1,by
   have S:aI (xs.take 1)=[(t.head:V)]:=by
    have h2:=P.EZ;cases xs with
    | nil=>simp at h2
    | cons x l=>simp at h2;simp[aI,h2]
   rw[br,S];exact g3⟩,b4⟩
  clear h6 g3 b4 a8 c0;generalize w2.heap.size=Lq at *;clear H2 c6;go_wp2_with fail;go_loopw [38] (λi wr=>∃j:N,j<=d/\i=J j/\Lr W0 B vb hb c v sh (BI md d bb {t with n:=n}) xs Lq (Z A d n0) d j wr) (λi _=>d-(intOf i).toNat)
  case atStart=>exact⟨0,aw _,T,e7⟩
  case round =>
   clear e7;obtain⟨j,hj,rfl,hl⟩:=hrel;have HL:=M hl;clear hl;by_cases R:j<d
   ·obtain⟨x,S⟩:∃x,xs[j+1]?=some x:=⟨_,cR (by have:=P.len;omega)⟩;have HX:=M S;obtain⟨fv,a7⟩:=HL.aM;have a5:=M a7;have u:=HL.own;obtain⟨g,n4,e,-⟩:=u.form (by omega);injection e with e1 e2 e3;subst e1;have m4:wr.cell? (I g j)=some (U (bi x).1 (bi x).2):=by
     rw[u.cellAt _ (by omega)];unfold gR;have z:(xs.drop 1)[j]?=some x:=by rw[List.getElem?_drop,Nat.add_comm];exact S
     simp[Mm.cI,du,R,S,Nat.add_comm]
    have n6:(j:V)<(d:V):=by omega
    have c9:(x:V)<c.ag:=P.lt x (cZ S);have b1:=M R;clear u S a7 e2 e3 R;go_wp2_with fail;refine(yf x wr a5 c9).mono ?_;rintro e w4⟨rfl,b8⟩;have o:=M (a5.pure b8);have c2:=M (HL.pu.MD b8);have a9:=M (b8.own HL.own (λ_ _ f=>f));clear b8 m4 HL a5;obtain⟨i0,l7,m5,m6,m7⟩:=aR Po.eu;obtain⟨Af,cf,F⟩:=aD o.ag;have Q:(aI (xs.take (j+1))).length=j+1:=by rw[Pl.bQ,jq];have:=P.len;omega
    have G:=o.qC;dsimp only at G F;rw[Q]at F;rw[F]at G;have a6:=M (aq F Q);have a2:Hid (w4.ownsRow B 3 1 (Z Af (j+1) cf) (j+1) (bI (aI (xs.take (j+1))))):=M (by
     have z:=o.ag;dsimp only at z;rw[F,Q]at z;exact z)
    have h9:Hid (B<=w4.heap.size):=M (by rw[<-HB.out];exact c2.size);have ff:=o.fz;clear F Q;go_upto_region 16 with(at_builtin;refine bT _ T (.tmp 55) (.tmp 57) _ T B 3 i0 _ 1 8 underlying25 l7 m5 m6 m7 T (by omega) (Z Af (j+1) cf) (j+1) _ T (aH a2 _) _ 1 1 [J x] T (jd.cI _ _ #[J x] 1 1 _ T T) (by simp[Value.oneCell']) (by simp only[maxLen];omega) (by omega) (by have:=h9.out;simp;omega) ?_;intro v9 w9 W g6 c3;obtain⟨A9,n9,rfl⟩:=aD W;have j7:=M W;have b7:ac (λq=>(Z Af (j+1) cf).ownBlock=some q) w4 w9:=((bo w4).alloc _).grown g6 (λq _ hq=>hq);have k9:∀k,w9.frozen? (I vb k)=false:=λk=>ey k (b7.bF o.me (λe=>ca a2 o.me (by decide) e));have m9:w9.cell? (I vb 15)=some (Z Af (j+1) cf):=(b7.cell (p:=⟨vb,15,none⟩) o.lt (λe=>ca a2 o.me (by decide) e)).trans G;have e8:=M b7;have e0:=M c3;clear W g6 c3 b7;go_frame);have b2:=o.Hf (A:=Af) (A9:=A9) (cc:=cf) (n9:=n9) (x:=(x:V)) c2 HB (by dsimp only;rw[a6.out.2];exact a6.1) (by dsimp only;rw[a6.out.2];exact e8) (by dsimp only;rw[a6.out.2];exact j7) (by
     dsimp only;rw[a6.out.2];rcases e0.out with z|z
     ·exact .inl z
     ·exact .inr ⟨_,by simp,z⟩)
    dsimp only at b2;have j0:aI (xs.take (j+1))++[(x:V)]=aI (xs.take (j+1+1)):=by rw[cD (i:=j+1),HX.out];simp[aI]
    rw[a6.out.2,j0]at b2;have c5:ac (λq=>q=vb) w9 (w9.setCell (I vb 15) (Z A9 (j+1+1) n9)):=(ac.refl (λq=>q=vb) w9).setCell (p:=⟨vb,15,none⟩) (λ_=>T) _;have c4:=e8.own a9 (λq hq e=>El a9 a2 (by decide) hq e);have g9:=c5.own c4 (λq hq e=>ca a9 o.me (by decide) (e▸hq));have j5:Hid (Lr W0 B vb hb c v sh (BI md d bb {t with n:=n}) xs Lq (Z (some (I g 0)) d n0) d (j+1) (w9.setCell (I vb 15) (Z A9 (j+1+1) n9))):=M ⟨b2.1,⟨_,b2.2⟩,g9⟩;clear b2 j0 m9 k9 ff G c5 c4 g9;generalize w9.setCell _ _=o3 at *;go_wp2_with fail;go_roundw
    case rel=>exact⟨j+1,by have:=b1.out;omega,by first|rfl|simp,j5⟩
    case measure=>have:=b1.out;simp[intOf];omega
   ·obtain rfl:j=d:=by omega
    clear R hj;obtain⟨fv,a7⟩:=HL.aM;have j2:xs.take (j+1)=xs:=List.take_of_length_le (by have:=P.len;omega);rw[j2]at a7;have a5:=M a7;have g1:=M HL.pu;have g4:(BI md j bb {t with n:=n}).bs=[b0]:=HT;have h4:(BI md j bb {t with n:=n}).n=n:=rfl;have e4:=M (aq g4 h4);have n8:=P.nl;clear a7 j2 HL g4 h4
    rename World=>wa
    go_wp2_with fail;go_loopw [9] (λk wr=>∃kn:N,kn<=n/\k=J kn/\ae wa wr) (λk _=>n-(intOf k).toNat)
    case atStart=>exact⟨0,aw _,T,bo _⟩
    case round =>
     obtain⟨kn,n7,rfl,c8⟩:=hrel;have b5:=M c8;have E:=M (a5.pure c8);clear c8;obtain⟨A5,d5,a3,X,l8,a4⟩:=E.refs;dsimp only at a3 a4 X;rw[e4.out.1,bV]at a3 a4 X;obtain⟨g5,j3,l4,l6,j1⟩:=a4 (by simp);have d0:wr.cell? (I g5 j3)=some (L b0):=by
      have z:=j1 0 (L b0) T;simpa using z
     subst l4;have b9:=E.kv;dsimp only at b9;rw[a3]at b9;have a8:=E.rf;dsimp only at a8;rw[e4.out.2]at a8;have g7:([b0]:List Bool).length=1:=rfl;rw[g7]at b9;clear a3 a4 j1 l6 X l8 g7;have e6:Hid (∀wx,ae wa wx->ae W0 wx/\∃fv,At wx B vb hb c v sh {BI md j bb {t with n:=n}with fv:=fv,fs:=aI xs}):=M (λwx S=>⟨g1.MD S,_,a5.pure S⟩);cases b0 with
     | false =>
      go_wp2_with fail;go_ret;exact⟨T,e6 _ b5⟩
     | true =>
      by_cases R:kn<n
      ·obtain⟨q,hq⟩:∃q,kn/8=q:=⟨_,T⟩;obtain⟨r,hr⟩:∃r,kn%8=r:=⟨_,T⟩;obtain⟨q1,X⟩:∃q1,1+q=q1:=⟨_,T⟩;have l9:r<8:=by omega
       have o0:q<j:=by
        have z:=P.dd;unfold bX at z;split at z<;>omega
       have e1:(kn:V).tdiv 8=(q:V):=by rw[dl (by omega)];omega
       have e2:(kn:V).tmod 8=(r:V):=by rw[Int.tmod_eq_emod_of_nonneg (by omega)];omega
       have e3:(1:V)+(q:V)=(q1:V):=by omega
       obtain⟨x,S⟩:∃x,xs[q1]?=some x:=⟨_,cR (by have:=P.len;omega)⟩;have a1:=P.refs T kn x R (by rw[hq,X];exact S);rw[hr]at a1;have j9:=M a1;have c9:(x:V)<c.ag:=P.lt x (cZ S);obtain⟨Af,cf,F⟩:=aD E.ag;dsimp only at F;have Q:(aI xs).length=j+1:=by rw[Pl.bQ];exact P.len
       rw[Q]at F;have G:=E.qC;dsimp only at G;have u:=E.ag;dsimp only at u;rw[F]at G u;rw[Q]at u;obtain⟨gf,n2,ef,-⟩:=u.form (by omega);injection ef with f1 f2 f3;subst f1;have l5:wr.cell? (I gf q1)=some (J x):=by rw[u.cellAt _ (by omega)];simp[bI,aI,S]
       have o1:(q1:V)<((j+1:N):V):=by omega
       have o2:q1<j+1:=by omega
       have HQ:=M (aq hq (aq hr X));have b1:=M R;have g0:=HM.pure (g1.MD b5);have j6:=M g0;clear hq hr X a1 S u f2 f3 F Q R g0;go_wp2_with fail;refine(jC x r bD wr E j6 c9 l9 j9).mono ?_;rintro e w6⟨rfl,h7⟩;have j8:=M (b5.MD h7);clear h7 b9 a8 G d0 l5 e1 e2 e3;go_wp2_with fail;refine(qD w6).mono ?_;rintro e w7⟨rfl,rfl⟩;go_wp2_with fail;go_roundw
       case rel=>exact⟨kn+1,by have:=b1.out;omega,by first|rfl|simp,j8⟩
       case measure=>have:=b1.out;simp[intOf];omega
      ·obtain rfl:kn=n:=by omega
       go_wp2_with fail;go_ret;exact⟨T,e6 _ b5⟩
end
end Vw
end
section
open Pl (aI)
namespace Vw
theorem At.shaped{l:Y}{t:St}{w:Y}{B b r X:N}{c:Cn}{v:Value}{sh:List Sh}{a:Bool}{rv:Value}{bs:List Bool}{kd:N}(h:At w B b r c v sh t)(x:ae l w)(z:l.heap.size=B)(y:mE w w.heap.size rv (da bs))(g:∀k,rv.ownBlock=some k->k≠b/\k<w.heap.size)(j:∀k,t.fv.ownBlock≠some k)(o:∀k,t.tv.ownBlock≠some k)(A:b<X)(m:X<w.heap.size):ae l (((w.setCell (I b 10) (L a)).setCell (I b 11) rv).setCell (I b 13) (J kd))/\At (((w.setCell (I b 10) (L a)).setCell (I b 11) rv).setCell (I b 13) (J kd)) B b r c v sh {t with ar:=a,rv:=rv,bs:=bs,aE:=kd}/\∀i,(((w.setCell (I b 10) (L a)).setCell (I b 11) rv).setCell (I b 13) (J kd)).cell? (I X i)=w.cell? (I X i):=by
 have f:ac (λq=>q=b) w (((w.setCell (I b 10) (L a)).setCell (I b 11) rv).setCell (I b 13) (J kd)):=(((ac.refl (λq=>q=b) w).setCell (p:=⟨b,10,none⟩) (λ_=>T) _).setCell (p:=⟨b,11,none⟩) (λ_=>T) _).setCell (p:=⟨b,13,none⟩) (λ_=>T) _;have s:=az (i:=13) (u:=J kd) (az (i:=11) (u:=rv) (az (i:=10) (u:=L a) h.me));refine⟨x.trans f (λq d n=>?_),⟨s,h.cH.MC f (λq d e=>(h.ro q (.inl d)).1 e),h.ok,y.MC f (λq d e=>(g q d).1 e),f.own h.ag (λq d _=>j q d),f.own h.BL (λq d _=>o q d),h.new,λq d=>?_,λq d _=>j q d⟩,λi=>f.cell (p:=⟨X,i,none⟩) m (λe=>by simp at e;omega)⟩
 ·subst n;have:=h.new;omega
 ·rcases d with d|d
  ·exact⟨(h.ro q (.inl d)).1,j q,o q,eR (h.ro q (.inl d)).2.2.2 f.size⟩
  ·exact⟨(g q d).1,j q,o q,eR (g q d).2 f.size⟩
theorem kq{l n:List Sh}(h:alike l n){k:N}{s0:Sh}(c:l[k]?=some s0):∃t,n[k]?=some t/\t.a=s0.a/\t.bs=s0.bs:=by
 have a:(n.map (λs=>(s.a,s.bs)))[k]?=some (s0.a,s0.bs):=by
  rw[<-show l.map (λs=>(s.a,s.bs))=n.map (λs=>(s.a,s.bs))from h];simp[c]
 rw[fV]at a;cases b:n[k]? with
 | none=>rw[b]at a;cases a
 | some t =>
  rw[b]at a;simp only[dL,Option.some.injEq,Prod.mk.injEq]at a;exact⟨t,T,a.1,a.2⟩
section
variable{B f g lg yb:N}{c:Cn}{K:aW.Q}{κ:N->N}{m:aW.St}{b:Ac.B}{s:Ac.St}{y:dw.St}
theorem Ge(i kd md:N)(s0:Sh)(q:dq.dy)(xs:List Nat)(w:Y)(h:jS w c K κ m b s yb y g lg)(hx:∀s∈K.ba,s.bs.length<=1000000)(hq:m.s.l[i]?=some q)(c2:q.head=true)(hz:m.am[8*i+1]?=some (cQ kd md))(b7:K.ba[kd]?=some s0)(ha:s0.a=false)(e6:md<=1)(e5:kd<=1000)(ho:vK m.am c.ag s0.bs xs)(c8:xs[0]?=some i):C 73 #[I g 0,J i] w λe w'=>∃f v' n rv,e=O (.tuple #[I f 0,L true])/\ae w w'/\∃fv,At w' w.heap.size f g c v' n ⟨false,rv,s0.bs,i,kd,0,fv,aI xs,-1,0,Z none 0 0,[]⟩:=by
 have W:=M h;have HQ:=M (aq hq c2);have HZ:=M (aq hz (aq b7 ha));have HO:=M (aq ho c8);have HX:=M hx;clear h hq c2 hz b7 ha ho c8 hx;have e4:(i:V)<c.ag:=HO.1.lt i (cZ HO.2);go_enter func73,ntmps73;go_wp2_with fail;refine(ry w W HX).mono ?_;rintro e S⟨A2,d2,n2,rfl,G,c3,l,b5⟩;have b8:=ai S (D (cs g c (Z A2 K.ba.length d2) ⟨false,Z none 0 0,[],i,0,0,Z none 0 0,[],-1,0,Z none 0 0,[]⟩) 143);have H:ae S (S.alloc (D (cs g c (Z A2 K.ba.length d2) ⟨false,Z none 0 0,[],i,0,0,Z none 0 0,[],-1,0,Z none 0 0,[]⟩) 143)):=(bo _).alloc _;have A:=M (G.MD H);have e0:=M l;have a2:Hid (At (S.alloc (D (cs g c (Z A2 K.ba.length d2) ⟨false,Z none 0 0,[],i,0,0,Z none 0 0,[],-1,0,Z none 0 0,[]⟩) 143)) w.heap.size S.heap.size g c (Z A2 K.ba.length d2) n2 ⟨false,Z none 0 0,[],i,0,0,Z none 0 0,[],-1,0,Z none 0 0,[]⟩):=M
  ⟨b8,c3.pure H,by rw[<-l.check];exact W.kG.bU.bm.ok,mE.nil _ _,jD _ _ _ _,jD _ _ _ _,G.size,λk p=>by
   rcases p with p|p
   ·have:=b5 k p;exact⟨by omega,by simp[Value.ownBlock],by simp[Value.ownBlock],by simp;omega⟩
   ·simp[Value.ownBlock]at p,λk p=>by simp[Value.ownBlock]at p⟩
 clear G c3 l b5 b8 H;go_upto_region 2 with fail;generalize S.alloc _=w3 at *;generalize S.heap.size=f at *;have hh:=CR i q w3 (W.pure A) HQ.1;rw[HQ.out.2]at hh;have HH:=M hh;clear hh;go_wp2_with fail;refine HH.mono ?_;rintro e w4⟨rfl,P⟩;have E:=M (A.MD P);have x:=M (a2.pure P);clear P HH a2 A;go_wp2_with fail;refine(jC i 1 (cQ kd md) w4 x (W.pure E) e4 (by omega) HZ.1).mono ?_;rintro e w5⟨rfl,Q⟩;have a4:=M (E.MD Q);have d:=M (x.pure Q);clear Q x E;go_wp2_with fail;refine(sQ kd md w5 (by omega) (by omega)).mono ?_;rintro e w6⟨rfl,rfl⟩;obtain⟨t0,c5,c6,c7⟩:=kq e0 HZ.2.1;have r:=M (aq c5 (aq c6 c7));have p1:=d.p1;have p2:=d.p2;have p3:=d.p3;have p4:=d.p4;have p5:=d.p5;have p6:=d.p6;have p7:=d.p7;have p8:=d.p8;have p9:=d.p9;clear c5 c6 c7;have b3:s0.bs.length<=1000000:=by have:=HO.1.Kz;omega
 go_wp2_with fail;refine(iy c _ n2 kd t0 w5 d.cH r.1 (by rw[r.out.2.2];exact b3)).mono ?_;rw[r.out.2.1,r.out.2.2,HZ.out.2.2];rintro e t⟨u,v,rfl,R,c4,b6⟩;have a5:=M (a4.MD R);have z:=M (d.pure R);have a8:=M c4;have a3:Hid (∀k,(Z u s0.bs.length v).ownBlock=some k->w5.heap.size<=k/\k<t.heap.size):=M b6;have e3:=M d.lt;clear R c4 b6 p1 p2 p3 p4 p5 p6 p7 p8 p9 d a4;go_upto_region 6 with fail;obtain⟨o,-,F⟩:=Ac.aO t #[L false,Z u s0.bs.length v] 35;have a6:=M (a5.MD o);have j:=M (z.pure o);have a9:=M (a8.pure o);have e1:=M F;have b0:Hid (t.heap.size<=(t.alloc (D #[L false,Z u s0.bs.length v] 35)).heap.size):=M o.size;have b1:Hid (f<t.heap.size/\t.heap.size<(t.alloc (D #[L false,Z u s0.bs.length v] 35)).heap.size):=M ⟨z.lt,(bR.1 F).1⟩;clear o F z a5 a8;generalize t.alloc _=w8 at *;generalize t.heap.size=X8 at *;obtain⟨y0,y1⟩:=Fd.iU e1;have e7:=j.sq;have e8:=j.kv;have e9:=j.pt;have ff:=j.fz;rcases(by omega:md=0\/md=1)with rfl|rfl
 all_goals
  go_upto_region 9 with fail;obtain⟨b9,b2,b4⟩:=At.shaped (a:=false) (X:=X8) (rv:=Z u s0.bs.length v) (bs:=s0.bs) (kd:=kd) j a6 T a9 (λk p=>⟨by have:=a3 k p;have:=e3.out;omega,by have:=a3 k p;have:=b0.out;omega⟩) (λk=>by simp[Value.ownBlock]) (λk=>by simp[Value.ownBlock]) b1.1 b1.2;have a7:=M b9;have a1:=M b2;have y9:=(b4 0).trans y0;clear b9 b2 b4 j a6 a9 y0;generalize((w8.setCell _ _).setCell _ _).setCell _ _=w9 at *;go_wp2_with fail;refine(DK xs w w9 a1 W a7 T ⟨T,T,T⟩ HO.1 HO.2).mono ?_;rintro e c9⟨rfl,hl⟩;have HL:Hid (ae w c9/\∃fv,At c9 w.heap.size f g c _ n2 ⟨false,Z u s0.bs.length v,s0.bs,i,kd,0,fv,aI xs,-1,0,Z none 0 0,[]⟩):=M (by
   obtain⟨fv,h1⟩:=hl.aM;rw[eF]at h1;exact⟨hl.pu,fv,h1⟩)
  clear hl a1 a7 W;go_wp2_with fail;go_ret2;exact⟨f,_,n2,_,T,HL⟩
theorem AQ(b0:Bool)(n0 d md bb:N)(ax:V)(nx:N)(i kd:N)(s0:Sh)(q:dq.dy)(xs:List Nat)(w:Y)(h:jS w c K κ m b s yb y g lg)(hx:∀s∈K.ba,s.bs.length<=1000000)(hq:m.s.l[i]?=some q)(c6:q.head=true)(hz:m.am[8*i+1]?=some (cQ kd 0))(c2:K.ba[kd]?=some s0)(ha:s0.a=true/\s0.bs=[b0])(e8:kd<=1000)(ho:tZ m.am c b0 n0 d md bb xs i)(b5:ax=if md=1 then(bb:V)else -1)(c4:nx=if md=1 then d+2 else 0):C 73 #[I g 0,J i] w λe w'=>∃f v' n rv,e=O (.tuple #[I f 0,L true])/\ae w w'/\∃fv,At w' w.heap.size f g c v' n ⟨true,rv,s0.bs,i,kd,n0,fv,aI xs,ax,nx,Z none 0 0,[]⟩:=by
 have HM:=M h;have HQ:=M (aq hq c6);have HZ:=M (aq hz (aq c2 ha));have HO:=M ho;have HX:=M hx;have a3:=M (aq b5 c4);clear h hq c6 hz c2 ha ho hx b5 c4;have e7:(i:V)<c.ag:=HO.lt i (cZ HO.EZ);go_enter func73,ntmps73;go_wp2_with fail;refine(ry w HM HX).mono ?_;rintro e W⟨A2,d2,n2,rfl,H,c7,o,b8⟩;have c3:=ai W (D (cs g c (Z A2 K.ba.length d2) ⟨false,Z none 0 0,[],i,0,0,Z none 0 0,[],-1,0,Z none 0 0,[]⟩) 143);have P:ae W (W.alloc (D (cs g c (Z A2 K.ba.length d2) ⟨false,Z none 0 0,[],i,0,0,Z none 0 0,[],-1,0,Z none 0 0,[]⟩) 143)):=(bo _).alloc _;have E:=M (H.MD P);have e4:=M o;have a2:Hid (At (W.alloc (D (cs g c (Z A2 K.ba.length d2) ⟨false,Z none 0 0,[],i,0,0,Z none 0 0,[],-1,0,Z none 0 0,[]⟩) 143)) w.heap.size W.heap.size g c (Z A2 K.ba.length d2) n2 ⟨false,Z none 0 0,[],i,0,0,Z none 0 0,[],-1,0,Z none 0 0,[]⟩):=M
  ⟨c3,c7.pure P,by rw[<-o.check];exact HM.kG.bU.bm.ok,mE.nil _ _,jD _ _ _ _,jD _ _ _ _,H.size,λk r=>by
   rcases r with r|r
   ·have:=b8 k r;exact⟨by omega,by simp[Value.ownBlock],by simp[Value.ownBlock],by simp;omega⟩
   ·simp[Value.ownBlock]at r,λk r=>by simp[Value.ownBlock]at r⟩
 clear H c7 o b8 c3 P;go_upto_region 2 with fail;generalize W.alloc _=w3 at *;generalize W.heap.size=f at *;have hh:=CR i q w3 (HM.pure E) HQ.1;rw[HQ.out.2]at hh;have HH:=M hh;clear hh;go_wp2_with fail;refine HH.mono ?_;rintro e w4⟨rfl,Q⟩;have F:=M (E.MD Q);have z:=M (a2.pure Q);clear Q HH a2 E;go_wp2_with fail;refine(jC i 1 (cQ kd 0) w4 z (HM.pure F) e7 (by omega) HZ.1).mono ?_;rintro e w5⟨rfl,R⟩;have a5:=M (F.MD R);have j:=M (z.pure R);clear R z F;go_wp2_with fail;refine(sQ kd 0 w5 (by omega) (by omega)).mono ?_;rintro e w6⟨rfl,rfl⟩;obtain⟨t0,c9,e0,e1⟩:=kq e4 HZ.2.1;have t:=M (aq c9 (aq e0 e1));have p1:=j.p1;have p2:=j.p2;have p3:=j.p3;have p4:=j.p4;have p5:=j.p5;have p6:=j.p6;have p7:=j.p7;have p8:=j.p8;have p9:=j.p9;clear c9 e0 e1;have b6:s0.bs.length<=1000000:=by rw[HZ.out.2.2.2];simp
 go_wp2_with fail;refine(iy c _ n2 kd t0 w5 j.cH t.1 (by rw[t.out.2.2];exact b6)).mono ?_;rw[t.out.2.1,t.out.2.2,HZ.out.2.2.1];rintro e u⟨v,x,rfl,S,c8,b9⟩;have a6:=M (a5.MD S);have A:=M (j.pure S);have a9:=M c8;have a4:Hid (∀k,(Z v s0.bs.length x).ownBlock=some k->w5.heap.size<=k/\k<u.heap.size):=M b9;have e6:=M j.lt;clear S c8 b9 p1 p2 p3 p4 p5 p6 p7 p8 p9 j a5;go_upto_region 6 with fail;obtain⟨p,-,G⟩:=Ac.aO u #[L true,Z v s0.bs.length x] 35;have a7:=M (a6.MD p);have l:=M (A.pure p);have b1:=M (a9.pure p);have e5:=M G;have b2:Hid (u.heap.size<=(u.alloc (D #[L true,Z v s0.bs.length x] 35)).heap.size):=M p.size;have b3:Hid (f<u.heap.size/\u.heap.size<(u.alloc (D #[L true,Z v s0.bs.length x] 35)).heap.size):=M ⟨A.lt,(bR.1 G).1⟩;clear p G A a6 a9;generalize u.alloc _=w8 at *;generalize u.heap.size=X8 at *;obtain⟨y0,y1⟩:=Fd.iU e5;have e9:=l.sq;have g0:=l.kv;have g1:=l.pt;have ff:=l.fz;go_upto_region 9 with fail;obtain⟨c5,b4,b7⟩:=At.shaped (a:=true) (X:=X8) (rv:=Z v s0.bs.length x) (bs:=s0.bs) (kd:=kd) l a7 T b1 (λk r=>⟨by have:=a4 k r;have:=e6.out;omega,by have:=a4 k r;have:=b2.out;omega⟩) (λk=>by simp[Value.ownBlock]) (λk=>by simp[Value.ownBlock]) b3.1 b3.2;have a8:=M c5;have a1:=M b4;have y9:=(b7 0).trans y0;clear c5 b4 b7 l a7 b1 y0;generalize((w8.setCell _ _).setCell _ _).setCell _ _=w9 at *;go_wp2_with fail;refine(Fs b0 n0 d md bb xs w w9 a1 HM a8 T HZ.2.2.2 HO).mono ?_;rintro e e3⟨rfl,hl⟩;have HL:Hid (ae w e3/\∃fv,At e3 w.heap.size f g c _ n2 ⟨true,Z v s0.bs.length x,s0.bs,i,kd,n0,fv,aI xs,ax,nx,Z none 0 0,[]⟩):=M (by
  rw[a3.out.1,a3.out.2];exact hl)
 clear hl a1 a8 HM;go_wp2_with fail;go_ret2;exact⟨f,_,n2,_,T,HL⟩
end
end Vw
end
section
namespace Vw
open Pl (aI)
def Mc(m:aW.St)(c:Cn)(ba:List Sh)(i:N)(xs:List Nat)(n:N)(ax:V)(nx:N):Prop :=
 ∃q kd s0,m.s.l[i]?=some q/\q.head=true/\ba[kd]?=some s0/\kd<=1000 /\
  ((∃md,md<=1/\m.am[8*i+1]?=some (cQ kd md)/\s0.a=false/\vK m.am c.ag s0.bs xs/\xs[0]?=some i/\n=0/\ax=-1/\nx=0) \/
  (m.am[8*i+1]?=some (cQ kd 0)/\s0.a=true/\∃b0 d md bb,s0.bs=[b0]/\tZ m.am c b0 n d md bb xs i/\(ax=if md=1 then(bb:V)else -1)/\nx=if md=1 then d+2 else 0))
structure Ae(m:aW.St)(c:Cn)(ba:List Sh)(Oq:N->Prop)(fr:N->List Nat)(n:N->N)(ax:N->V)(nx:N->N):Prop where
 ob:∀i,Oq i->Mc m c ba i (fr i) (n i) (ax i) (nx i)
 nd:∀i,Oq i->(fr i).Nodup
 used:∀i,Oq i->∀x∈fr i,∃q,m.s.l[x]?=some q/\q.st=2
 one:∀i j,Oq i->Oq j->i=j
section
variable{B a f lg yb:N}{c:Cn}{K:aW.Q}{κ:N->N}{m:aW.St}{b:Ac.B}{s:Ac.St}{y:dw.St}{Oq:N->Prop}{fr:N->List Nat}{sn:N->N}{ax:N->V}{nx:N->N}
theorem zB(i:N)(w:Y)(h:jS w c K κ m b s yb y f lg)(H:∀s∈K.ba,s.bs.length<=1000000)(S:Ae m c K.ba Oq fr sn ax nx)(W:Oq i):C 73 #[I f 0,J i] w λe j=>∃a kd g n ar rv bs fv,e=O (.tuple #[I a 0,L true])/\ae w j/\At j w.heap.size a f c g n ⟨ar,rv,bs,i,kd,sn i,fv,aI (fr i),ax i,nx i,Z none 0 0,[]⟩:=by
 obtain⟨q,kd,s0,A,E,F,G,o⟩:=S.ob i W;rcases o with⟨z,o,p,r,t,u,R,k,l⟩|⟨p,r,P,d,z,Q,t,u,k,l⟩
 ·rw[R,k,l];refine(Ge i kd z s0 q (fr i) w h H A E p F r o G t u).mono ?_;rintro e j⟨a,g,n,rv,rfl,x,fv,v⟩;exact⟨a,kd,g,n,_,rv,s0.bs,fv,T,x,v⟩
 ·refine(AQ P (sn i) d z Q (ax i) (nx i) i kd s0 q (fr i) w h H A E p F ⟨r,t⟩ G u k l).mono ?_;rintro e j⟨a,g,n,rv,rfl,x,fv,v⟩;exact⟨a,kd,g,n,_,rv,s0.bs,fv,T,x,v⟩
theorem Je(i:N)(w:Y)(h:jS w c K κ m b s yb y f lg)(hx:∀s∈K.ba,s.bs.length<=1000000)(hS:Ae m c K.ba Oq fr sn ax nx)(hi:Oq i):C 30 #[I f 0,J i] w λe w'=>∃(kd:N) (fv:Value),e=O (.tuple #[.agg #[J i,J kd,J (sn i),fv,J (ax i),J (nx i)],L true])/\ae w w'/\w'.ownsRow w.heap.size 3 1 fv (fr i).length (bI (aI (fr i))):=by
 obtain⟨H,F⟩:∃H,sn i=H:=⟨_,T⟩;obtain⟨t,x⟩:∃t,ax i=t:=⟨_,T⟩;obtain⟨G,z⟩:∃G,nx i=G:=⟨_,T⟩;have r:=M (aq F (aq x z));rw[F,x,z];clear F x z;have HM:=M h;have HX:=M hx;have HS:=M hS;have HI:=M hi;clear h hx hS hi;go_enter func30,ntmps30;obtain⟨o,-,a3⟩:=Ac.aO w #[J 0,J 0,J 0,Z none 0 0,J 0,J 0] 86;have b3:=M (HM.pure o);have b4:=M o;have b2:=M a3;have b6:Hid (w.heap.size<=(w.alloc (D #[J 0,J 0,J 0,Z none 0 0,J 0,J 0] 86)).heap.size):=M o.size;clear o a3 HM;go_wp2_with fail;generalize w.alloc _=w1 at *;generalize W:w.heap.size=X at *;have S:=M W;clear W;refine(zB i w1 b3 HX HS HI).mono ?_;rintro e l⟨a,kd,v',n,ar,rv,bs,fv,rfl,E,d⟩;rw[r.out.1,r.out.2.1,r.out.2.2]at d;have b5:=M E;have b7:=M d;have g:=E.bF b2;obtain⟨A,P,a1⟩:=aD d.ag;have a2:fv=Z A (fr i).length P:=a1.trans (by simp[aI]);clear a1;subst a2;have a5:=d.jc;have a6:=d.pt;have a7:=d.rf;have a8:=d.qC;have a9:=d.tP;have b0:=d.vG;dsimp only at a5 a6 a7 a8 a9 b0;have z0:l.cell? (I X 0)=some (J 0):=by rw[bK g];rfl
 have z1:l.cell? (I X 1)=some (J 0):=by rw[bK g];rfl
 have z2:l.cell? (I X 2)=some (J 0):=by rw[bK g];rfl
 have z3:l.cell? (I X 3)=some (Z none 0 0):=by rw[bK g];rfl
 have z4:l.cell? (I X 4)=some (J 0):=by rw[bK g];rfl
 have z5:l.cell? (I X 5)=some (J 0):=by rw[bK g];rfl
 have ff:=λk=>ey k g;have R:=M g;have b1:=M d.ag;clear E d g;go_wp2_with fail;have j:=az (i:=5) (u:=J G) (az (i:=4) (u:=J t) (az (i:=3) (u:=Z A (fr i).length P) (az (i:=2) (u:=J H) (az (i:=1) (u:=J kd) (az (i:=0) (u:=J i) R)))));have a4:ac (λq=>q=X) l ((((((l.setCell (I X 0) (J i)).setCell (I X 1) (J kd)).setCell (I X 2) (J H)).setCell (I X 3) (Z A (fr i).length P)).setCell (I X 4) (J t)).setCell (I X 5) (J G)):=((((((ac.refl (λq=>q=X) l).setCell (p:=⟨X,0,none⟩) (λ_=>T) _).setCell (p:=⟨X,1,none⟩) (λ_=>T) _).setCell (p:=⟨X,2,none⟩) (λ_=>T) _).setCell (p:=⟨X,3,none⟩) (λ_=>T) _).setCell (p:=⟨X,4,none⟩) (λ_=>T) _).setCell (p:=⟨X,5,none⟩) (λ_=>T) _;clear ff z0 z1 z2 z3 z4 z5 a5 a6 a7 a8 a9 b0;generalize(((((l.setCell _ _).setCell _ _).setCell _ _).setCell _ _).setCell _ _).setCell _ _=Q at *;have z0:Q.cell? (I X 0)=some (J i):=by rw[bK j];rfl
 have z1:Q.cell? (I X 1)=some (J kd):=by rw[bK j];rfl
 have z2:Q.cell? (I X 2)=some (J H):=by rw[bK j];rfl
 have z3:Q.cell? (I X 3)=some (Z A (fr i).length P):=by rw[bK j];rfl
 have z4:Q.cell? (I X 4)=some (J t):=by rw[bK j];rfl
 have z5:Q.cell? (I X 5)=some (J G):=by rw[bK j];rfl
 refine au (v:=.tuple #[.agg #[J i,J kd,J H,Z A (fr i).length P,J t,J G],L true]) (by simp[results,results30,go_sem,z0,z1,z2,z3,z4,z5]) T ⟨kd,_,T,?_,?_⟩
 ·exact(b4.MD b5).trans a4 (λq hq b8=>by have:=S.out;omega)
 ·have h1:=b1.out;have hl:(aI (fr i)).length=(fr i).length:=by simp[aI]
  rw[hl]at h1;exact dA (a4.own h1 (λq hq e=>ca h1 R (by decide) (e▸hq))) (by have:=S.out;have:=b6.out;omega)
theorem L4:prog.underlying 83=some (.map 3 4):=underlying83
theorem tW(d k:N)(i:List Nat)(w:Y)(h:ke w d i)(j:k<=1000000)(n:k∉i):C 33 #[.map (some d),J k] w λe o=>e=O (L true)/\ac (λq=>q=d) w o/\ke o d (i++[k]):=by
 have r:=tL L4 h j;obtain⟨t,g,u,l⟩:=wH L4 h j n;rw[dT n]at r;have p:=M l;clear h l;go_enter func33,ntmps33;go_wp2_with fail;go_ret;exact⟨T,sE _ _ _,p⟩
end
end Vw
end
namespace jH
open Ac (Vl dx Wr)
open Pl (gU ir gB fK kg qG sJ iT ep jn oV ej fieldStep fW ik rP lr jh aI)
def fw(xs:List Nat)(Vq:N->List (Nat × Nat))(n:N):List Wr:=(List.range n).flatMap λj=>gU (xs.getD j 0) (Vq j)
theorem uC(xs:List Nat)(a:N->List (Nat × Nat))(n:N):fw xs a (n+1)=fw xs a n++gU (xs.getD n 0) (a n):=by
 simp[fw,dK,List.flatMap_append]
theorem ma(xs:List Nat)(a:N->List (Nat × Nat))(n:N):(fw xs a n).length=8*n:=by
 induction n with
 | zero=>rfl
 | succ n b=>rw[uC,iB,b];simp[gU,ir];omega
theorem I7(xs:List Nat)(a:N->List (Nat × Nat)):∀n,∀j k,j<n->k<8->(fw xs a n)[8*j+k]?=some (((8*xs.getD j 0+k:N):V),(a j).getD k (0,0)):=by
 intro n
 induction n with
 | zero=>intro j k h;omega
 | succ n c =>
  intro j k d b;rw[uC];by_cases e:j<n
  ·rw[pL (by rw[ma];omega)];exact c j k e b
  ·obtain rfl:j=n:=by omega
   rw[oc (by rw[ma];omega),ma,show 8*j+k-8*j=k from by omega];simp[gU,ir,b]
def xS(kd n m:N)(xs:List Nat)(gat:V)(b:Bool)(j:N):List (Nat × Nat):=if j=0 then iT kd n m xs gat else jn b 8
theorem Fr(kd n m:N)(xs:List Nat)(a:V)(b:Bool)(j:N):kg kd n m xs a b j=fw xs (xS kd n m xs a b) (j+1):=by
 induction j with
 | zero=>simp[kg,fw,oV,xS,dK]
 | succ j c=>rw[Pl.tC,c,uC _ _ (j+1)];simp[xS]
theorem Ew(xs:List Nat)(a:V)(j:N):(sJ xs a j)[0]?=some (a,bi (xs.getD 0 0))/\(sJ xs a j)[1]?=some (a+1,bH ((xs.length:V)-1)):=by
 induction j with
 | zero=>exact⟨T,T⟩
 | succ j b =>
  have c:=Pl.nK xs a j;refine⟨?_,?_⟩
  ·show(sJ xs a j++_)[0]?=_;rw[pL (by omega)];exact b.1
  ·show(sJ xs a j++_)[1]?=_;rw[pL (by omega)];exact b.2
theorem zS(xs:List Nat)(a:V)(j i:N)(h:i<j):(sJ xs a j)[2+i]?=some (a+2+(i:V),bi (xs.getD (i+1) 0)):=by
 induction j with
 | zero=>omega
 | succ j c =>
  have b:=Pl.nK xs a j;show(sJ xs a j++_)[2+i]?=_;by_cases e:i<j
  ·rw[pL (by omega)];exact c e
  ·obtain rfl:i=j:=by omega
   rw[oc (by omega),b,show 2+i-(i+2)=0 from by omega];rfl
structure Th where
 o:dx
 fs:List Nat
 aM:V
def tE(ba:List Sh)(o:dx):List Bool:=((ba[o.b.toNat]?).map (λs=>s.bs)).getD []
def fE(ba:List Sh)(o:dx):N:=(bM (o.aE==2) (tE ba o).length (if o.aE=2 then o.n else 0)).toNat
def jT(ba:List Sh)(o:dx):N:=(cE (o.aE==2) (tE ba o).length o.n).toNat
def Th.hd(t:Th):N:=t.fs.getD 0 0
def Th.d(t:Th):N:=t.fs.length-1
def Th.md(t:Th):N:=jh (bX t.o.n) (Sk.eP (aI t.fs))
def Th.gE(t:Th):Bool:=t.o.aE==2&&t.md==1
def Th.Vq(ba:List Sh)(t:Th):N->List (Nat × Nat):=if t.o.aE=1 then fK t.o.b.toNat (Sk.eP (aI t.fs)) t.fs (tE ba t.o)else xS t.o.b.toNat t.o.n.toNat t.md t.fs t.aM ((tE ba t.o).getD 0 false)
def Th.wr(ba:List Sh)(t:Th):List Wr:=fw t.fs (t.Vq ba) t.fs.length++if t.gE=true then sJ t.fs t.aM (t.fs.length-1)else[]
structure gb where
 c:Cn
 ba:List Sh
 Lq:List dx
 bp:N
 F:N
 S:N
 Tq:N
 Cq:N
 g:N
 n:N
structure xO(E:gb)(o:dx):Prop where
 aE:o.aE=1\/o.aE=2
 a:o.a=0
 made:∃kd s0,tx.Made E.c E.ba o kd s0
 DD:1<=fE E.ba o
 CP:2*fE E.ba o+E.Tq*E.Cq<=E.F
 sp:2*jT E.ba o<=E.S
structure gb.Ok(E:gb):Prop where
 ok:bk E.c E.ba=0
 F:E.c.ag=(E.F:V)
 F4:4<=E.F
 BG:E.F<=64
 S:E.c.al=(E.S:V)
 S2:E.S<=2048
 Tq:E.c.ao=(E.Tq:V)
 T1:1<=E.Tq/\E.Tq<=16
 Cq:E.c.aB=(E.Cq:V)
 C8:E.Cq<=8
 g:E.c.ap=(E.g:V)
 g8:E.g<=8
 n:E.c.ak=(E.n:V)
 n1:1<=E.n/\E.n<=8
 di:E.c.di<=(E.F:V)
 bp:1<=E.bp
 Ms:E.ba.length<=8
 eT:∀s∈E.ba,s.bs.length<=40/\(s.a=true->s.bs.length=1)
 Lu:E.Lq.length<=60
 op:∀o∈E.Lq,xO E o
def gb.aC(E:gb)(sp:N):N:=8*E.F+sp*E.S
structure ie(E:gb)(t:Th):Prop where
 op:t.o∈E.Lq
 len:t.fs.length=fE E.ba t.o
 nd:t.fs.Nodup
 lt:∀x∈t.fs,x<E.F
 aM:t.gE=true->∃sp off:N,sp<2/\off+(t.d+2)<=E.S/\t.aM=((E.aC sp+off:N):V)
section
variable{E:gb}{t:Th}{ws ws':List (Nat × Nat)}
structure BX(E:gb)(o:dx)(kd:N)(s0:Sh):Prop where
 b:o.b=(kd:V)
 aM:E.ba[kd]?=some s0
 bs:tE E.ba o=s0.bs
 a:s0.a=(o.aE==2)
 KS:kd<8
 eT:s0.bs.length<=40
 one:o.aE=2->∃b,s0.bs=[b]
 size:bM (o.aE==2) s0.bs.length (if o.aE=2 then o.n else 0)=(fE E.ba o:V)
 al:cE (o.aE==2) s0.bs.length o.n=(jT E.ba o:V)
 made:tx.Made E.c E.ba o kd s0
theorem qk(a:Bool)(n:N)(k:V):0<=cE a n k:=by
 have:=Pl.tF k;unfold cE;split<;>omega
theorem xO.sh{o:dx}(f:E.Ok)(h:xO E o):∃kd s0,BX E o kd s0:=by
 obtain⟨kd,s0,a⟩:=h.made;have j:o.b.toNat=kd:=by rw[a.b];simp
 have c:tE E.ba o=s0.bs:=by unfold tE;rw[j,a.aM];rfl
 have d:s0∈E.ba:=cZ a.aM;have g:=f.eT s0 d;have e:=a.Et;rw[a.jY]at e;refine⟨kd,s0,a.b,a.aM,c,a.jY,?_,g.1,?_,?_,?_,a⟩
 ·have:=(dH.1 a.aM).1;have:=f.Ms;omega
 ·intro k;have i:s0.a=true:=by rw[a.jY,k];rfl
  have:=g.2 i
  match l:s0.bs,this with
  | [b],_=>exact⟨b,T⟩
 ·unfold fE;rw[c];omega
 ·unfold jT;rw[c];have:=qk (o.aE==2) s0.bs.length o.n;omega
theorem pF(h:t.gE=true):t.o.aE=2/\t.md=1:=by
 unfold Th.gE at h;simpa using h
theorem BX.jY{o:dx}{kd:N}{s0:Sh}(h:BX E o kd s0)(b:o.aE=2)(c:1<=fE E.ba o):0<=o.n/\o.n<=512/\(fE E.ba o:V)=1+bX o.n:=by
 have a:=h.size;rw[b]at a;simp only[gh,bP]at a;unfold bM at a;split at a
 ·omega
 ·simp only[bP]at a;omega
theorem BX.obj{o:dx}{kd:N}{s0:Sh}(h:BX E o kd s0)(b:o.aE=1):bM false s0.bs.length 0=(fE E.ba o:V):=by
 have a:=h.size;rw[b]at a;simpa using a
theorem Th.I9(h:1<=t.fs.length):t.fs[0]?=some t.hd:=by
 unfold Th.hd;simp[List.getD,cR (show 0<t.fs.length from h)]
theorem Th.JV(a:t.o.aE=1):t.wr E.ba=gB t.o.b.toNat (Sk.eP (aI t.fs)) t.fs (tE E.ba t.o) t.fs.length:=by
 have:t.gE=false:=by unfold Th.gE;rw[a];rfl
 unfold Th.wr Th.Vq;rw[this,af a];simp only[gx,bG,bJ];rfl
theorem Th.JU(a:t.o.aE=2)(b:1<=t.fs.length):t.wr E.ba=qG t.o.b.toNat t.o.n.toNat t.md t.fs t.aM ((tE E.ba t.o).getD 0 false):=by
 unfold Th.wr Th.Vq qG;rw[aa (by omega),Fr,show t.fs.length-1+1=t.fs.length from by omega];have:t.gE=(t.md==1):=by unfold Th.gE;rw[a];rfl
 rw[this];simp
theorem ie.Jt{K:aW.Q}(f:E.Ok)(h:ie E t)(k:K.ba=E.ba):jt E.c K t.o t.fs t.aM (t.wr E.ba):=by
 have j:=f.op _ h.op;obtain⟨kd,s0,a⟩:=j.sh f;have m:=j.DD;have e:=h.len;have g:t.o.b.toNat=kd:=by rw[a.b];simp
 have i:∀x∈t.fs,(x:V)<E.c.ag:=λx i=>by have:=h.lt x i;have:=f.F;omega
 rcases j.aE with c|c
 ·rw[Th.JV c,a.bs,g];refine jt.of t.o kd s0.bs t.fs _ _ c a.b ⟨⟨s0,by rw[k];exact a.aM,by rw[a.a,c];rfl,T⟩,?_,i,h.nd,T,a.eT,by have:=a.KS;omega,by omega⟩;rw[a.obj c,e]
 ·obtain⟨b,l⟩:=a.one c;obtain⟨u,v,q⟩:=a.jY c m;rw[Th.JU c (by omega),a.bs,g,l];have d:t.o.n=(t.o.n.toNat:V):=by omega
  refine jt.KZ t.o kd t.o.n.toNat t.md b t.fs t.aM c a.b d ⟨⟨s0,by rw[k];exact a.aM,by rw[a.a,c];rfl,l⟩,by rw[<-d,e];exact q,i,h.nd,by omega,?_,by have:=a.KS;omega,?_⟩
  ·rw[<-d];rfl
  ·intro p;obtain⟨r,off,s,n,o⟩:=h.aM (by unfold Th.gE;rw[c,p];rfl);refine⟨(r:V),(off:V),by omega,by omega,?_,?_⟩
   ·rw[<-d,f.S];unfold Th.d at n;omega
   ·rw[o,f.F,f.S];unfold gb.aC
    push_cast
    omega
theorem nr:(t.wr E.ba).length=8*t.fs.length+if t.gE=true then t.fs.length-1+2 else 0:=by
 unfold Th.wr;rw[iB,ma];split
 ·rw[Pl.nK]
 ·rfl
theorem Ab{j k:N}(a:j<t.fs.length)(b:k<8):(t.wr E.ba)[8*j+k]?=some (((8*t.fs.getD j 0+k:N):V),(t.Vq E.ba j).getD k (0,0)):=by
 unfold Th.wr;rw[pL (by rw[ma];omega)];exact I7 _ _ _ _ _ a b
theorem Lg{q:N}(a:t.gE=true)(z:Wr)(h:(sJ t.fs t.aM (t.fs.length-1))[q]?=some z):(t.wr E.ba)[8*t.fs.length+q]?=some z:=by
 unfold Th.wr;rw[oc (by rw[ma];omega),ma,af a,show 8*t.fs.length+q-8*t.fs.length=q from by omega];exact h
theorem JI(xs:List Nat)(a:V)(j q:N)(z:Wr)(h:(sJ xs a j)[q]?=some z):z.1=a+(q:V)/\q<j+2:=by
 have b:=(dH.1 h).1;rw[Pl.nK]at b;refine⟨?_,b⟩;have c:=Ew xs a j
 match q,h,b with
 | 0,h,_=>rw[c.1]at h;injection h with h;rw[<-h];simp
 | 1,h,_=>rw[c.2]at h;injection h with h;rw[<-h];simp
 | q+2,h,b =>
  rw[Nat.add_comm,zS xs a j q (by omega)]at h;injection h with h;rw[<-h]
  push_cast
  omega
theorem EV{p:N}{x:Wr}(h:(t.wr E.ba)[p]?=some x):(∃j k,j<t.fs.length/\k<8/\p=8*j+k/\x.1=((8*t.fs.getD j 0+k:N):V))\/(t.gE=true/\∃q,q<t.fs.length-1+2/\p=8*t.fs.length+q/\x.1=t.aM+(q:V)):=by
 have b:=(dH.1 h).1;rw[nr]at b;by_cases e:p<8*t.fs.length
 ·refine .inl ⟨p/8,p%8,by omega,by omega,by omega,?_⟩;have:=Ab (E:=E) (t:=t) (j:=p/8) (k:=p%8) (by omega) (by omega);rw[show 8*(p/8)+p%8=p from by omega,h]at this;injection this with this;rw[this]
 ·by_cases a:t.gE=true
  ·rw[af a]at b;refine .inr ⟨a,p-8*t.fs.length,by omega,by omega,?_⟩;unfold Th.wr at h;rw[oc (by rw[ma];omega),ma,af a]at h;exact(JI _ _ _ _ _ h).1
  ·rw[aa a]at b;omega
theorem jM{l:List Nat}{j:N}(h:j<l.length):l.getD j 0∈l:=by
 simp[List.getD,cR h]
theorem getD_inj{l:List Nat}(c:l.Nodup){i j:N}(a:i<l.length)(b:j<l.length)(h:l.getD i 0=l.getD j 0):i=j:=by
 simp only[List.getD,cR a,cR b,Option.getD_some]at h;exact(List.getElem_inj c).1 h
def Ff(E:gb)(t:Th)(a:N):Prop:=(∃f∈t.fs,a/8=f)\/(t.gE=true/\∃q,q<t.d+2/\(a:V)=t.aM+(q:V))
theorem vB{p:N}{x:Wr}(n:E.Ok)(g:ie E t)(h:(t.wr E.ba)[p]?=some x):∃a:N,x.1=(a:V)/\Ff E t a/\a<8*E.F+2*E.S:=by
 rcases EV h with⟨j,k,d,o,-,e⟩|⟨f,q,m,-,e⟩
 ·refine⟨_,e,.inl ⟨_,jM d,by omega⟩,?_⟩;have:=g.lt _ (jM d);omega
 ·obtain⟨b,off,i,l,c⟩:=g.aM f;refine⟨E.aC b+off+q,by rw[e,c];push_cast;omega,.inr ⟨f,q,m,by rw[c];push_cast;omega⟩,?_⟩;unfold gb.aC;unfold Th.d at l;have:b*E.S<=E.S:=by
   match b,i with
   | 0,_=>omega
   | 1,_=>omega
  omega
theorem GZ(B:E.Ok)(b:ie E t){p q:N}{x y:Wr}(u:(t.wr E.ba)[p]?=some x)(w:(t.wr E.ba)[q]?=some y)(v:p≠q):x.1≠y.1:=by
 intro e;have h:t.gE=true->((8*E.F:N):V)<=t.aM:=λf=>by
  obtain⟨Q,off,z,A,o⟩:=b.aM f;rw[o];unfold gb.aC;omega
 rcases EV u with⟨j,k,l,G,m,n⟩|⟨f,i,F,m,n⟩<;>rcases EV w with⟨K,P,a,s,c,d⟩|⟨g,H,r,c,d⟩
 ·have:=getD_inj b.nd l a (by omega);subst this;omega
 ·have:=h g;have:=b.lt _ (jM l);omega
 ·have:=h f;have:=b.lt _ (jM a);omega
 ·omega
