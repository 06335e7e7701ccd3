/- Part 36 of the proof of spotop.TopChurn. -/
import Derived.Test.YtpgdiceeimehiaaGreatR33
set_option maxRecDepth 100000
set_option maxHeartbeats 16000000
set_option linter.all false
open Go.Proofs.Tryz
namespace Go.Proofs.YtpgdiceeimehiaaGreat
open RowKit
section
open Pl (aI)
namespace Vw
section
variable{w:Y}{B vb hb lg yb:N}{c:Cn}{v:Value}{sh:List Sh}{t:St}{K:aW.Q}{κ:N->N}{m:aW.St}{b:Ac.B}{s:Ac.St}{y:dw.St}
theorem At.Hf{P l:Y}{A A9:Option Addr}{cc n9:N}{x:V}(h:At w B vb hb c v sh t)(X:ae P w)(hB:P.heap.size=B)(E:t.fv=Z A t.fs.length cc)
  (S:ac (λq=>(Z A t.fs.length cc).ownBlock=some q) w l) (W:l.ownsRow B 3 1 (Z A9 (t.fs.length+1) n9) (t.fs.length+1) (bI t.fs++[J x]))
  (Q:(Z A9 (t.fs.length+1) n9).ownBlock=(Z A t.fs.length cc).ownBlock\/∃q,w.heap.size<=q/\(Z A9 (t.fs.length+1) n9).ownBlock=some q) :
  ae P (l.setCell (I vb 15) (Z A9 (t.fs.length+1) n9))/\At (l.setCell (I vb 15) (Z A9 (t.fs.length+1) n9)) B vb hb c v sh {t with fv:=Z A9 (t.fs.length+1) n9,fs:=t.fs++[x]}:=by
 have n:w.ownsRow B 3 1 (Z A t.fs.length cc) t.fs.length (bI t.fs):=by rw[<-E];exact h.ag
 have G:¬(Z A t.fs.length cc).ownBlock=some vb:=λe=>ca n h.me (by decide) e;have R:=S.bF h.me G;have F:=az (i:=15) (u:=Z A9 (t.fs.length+1) n9) R;have o:ac (λq=>q=vb) l (l.setCell (I vb 15) (Z A9 (t.fs.length+1) n9)):=(ac.refl (λq=>q=vb) l).setCell (p:=⟨vb,15,none⟩) (λ_=>T) _;have z:ac (λq=>q=vb\/(Z A t.fs.length cc).ownBlock=some q) w (l.setCell (I vb 15) (Z A9 (t.fs.length+1) n9)):=(S.mono (Tq:=λq=>q=vb\/(Z A t.fs.length cc).ownBlock=some q) (λ_ _ d=>.inr d)).trans (o.mono (Tq:=λq=>q=vb\/(Z A t.fs.length cc).ownBlock=some q) (λ_ _ d=>.inl d)) (λ_ _ h=>h);have k:∀q,(Z A t.fs.length cc).ownBlock=some q->t.fv.ownBlock=some q:=λq d=>by rw[E];exact d
 have H:∀q,mK v sh q\/t.rv.ownBlock=some q->¬(q=vb\/(Z A t.fs.length cc).ownBlock=some q):=λq d a=>by
  rcases a with a|a
  ·exact(h.ro q d).1 a
  ·exact(h.ro q d).2.1 (k q a)
 have f:∀q,(Z A9 (t.fs.length+1) n9).ownBlock=some q->(Z A t.fs.length cc).ownBlock=some q\/w.heap.size<=q:=λq d=>by
  rcases Q with r|⟨q2,g,r⟩
  ·exact .inl (r.symm.trans d)
  ·rw[r]at d;injection d with d;exact .inr (by omega)
 have j:(l.setCell (I vb 15) (Z A9 (t.fs.length+1) n9)).ownsRow B 3 1 (Z A9 (t.fs.length+1) n9) (t.fs.length+1) (bI (t.fs++[x])):=by
  have r:=o.own W (λq d e=>by rcases f q d with g|g;exact G (e▸g);have:=h.lt;omega);simpa[bI]using r
 refine⟨X.trans z (λq d a=>?_),F,h.cH.MC z (λq d=>H q (.inl d)),h.ok,h.refs.MC z (λq d=>H q (.inr d)),by simpa using j,z.own h.BL (λq d a=>?_),h.new,λq d=>⟨(h.ro q d).1,λe=>?_,(h.ro q d).2.2.1,eR (h.ro q d).2.2.2 z.size⟩,λq d e=>?_⟩
 ·rcases a with a|a
  ·have:=h.new;omega
  ·have:=(n.lt q a).1;omega
 ·rcases a with a|a
  ·exact ca h.BL h.me (by decide) (a▸d)
  ·exact h.EO q (k q a) d
 ·rcases f q e with g|g
  ·exact(h.ro q d).2.1 (k q g)
  ·have:=(h.ro q d).2.2.2;omega
 ·rcases f q d with g|g
  ·exact h.EO q (k q g) e
  ·have:=(h.BL.lt q e).2;omega
structure vK(am:List (Nat × Nat))(ag:V)(bs:List Bool)(xs:List Nat):Prop where
 len:1<=xs.length
 size:bM false bs.length 0=(xs.length:V)
 eT:xs.length<=2000
 lt:∀x∈xs,(x:V)<ag
 Gd:∀j x z,xs[j]?=some x->xs[j+1]?=some z->am[8*x]?=some (bi z)
 refs:∀k x:N,bs[k]?=some true->xs[(fe (k:V)).toNat]?=some x->am[8*x+(eh (k:V)).toNat]?=some bD
theorem vK.Kz{am:List (Nat × Nat)}{a:V}{bs:List Bool}{xs:List Nat}(h:vK am a bs xs):bs.length<=20000:=by
 have d:=h.size;have e:=h.eT;have f:=h.len;unfold bM at d;split at d
 ·omega
 ·simp at d;split at d<;>omega
theorem vK.mM{am:List (Nat × Nat)}{a:V}{bs:List Bool}{xs:List Nat}(h:vK am a bs xs):gZ false bs.length=true:=by
 have d:=h.size;have f:=h.len;unfold bM at d;split at d
 ·omega
 ·next e=>simp at e;exact e
structure Lk(W0:Y)(B vb hb:N)(c:Cn)(v:Value)(sh:List Sh)(t0:St)(j:N)(xs:List Nat)(wr:Y):Prop where
 pu:ae W0 wr
 aM:∃fv,At wr B vb hb c v sh {t0 with fv:=fv,fs:=aI (xs.take j)}
theorem DK(xs:List Nat)(W0 w:Y)(h:At w B vb hb c v sh t)(hm:jS W0 c K κ m b s yb y hb lg)(hp:ae W0 w)(hB:W0.heap.size=B)(ht:t.fs=[]/\t.ar=false/\t.n=0)(ho:vK m.am c.ag t.bs xs)(g4:xs[0]?=some t.head):C 138 #[I vb 0] w λe w'=>e=O (L true)/\Lk W0 B vb hb c v sh t xs.length xs w':=by
 obtain⟨A,d,a7,j5,m8,g0⟩:=h.refs;rw[bV]at a7 j5 g0;have HM:=M hm;have HO:=M ho;have j2:=M g4;have HB:=M hB;have b4:=M a7;have n3:=ho.eT;have m7:=ho.Kz;have g1:=HO.size;have j1:=M g1;have b3:Hid (Lk W0 B vb hb c v sh t 0 xs w):=M ⟨hp,t.fv,by rw[List.take_zero,show aI []=t.fs from ht.1.symm];exact h⟩;have l7:=h.jc;have S:=h.sq;rw[ht.2.1]at S;have g6:=M ht.2.1;have u:=h.kv;rw[a7]at u;clear h hm hp hB ht ho g4 a7 g0 g1;go_enter func138,ntmps138;go_wp2_with fail;refine(lL false A t.bs.length d 0 w (by omega)).mono ?_;rw[j1.out];rintro e w1⟨rfl,b8⟩;have g9:Hid (Lk W0 B vb hb c v sh t 0 xs w1):=M ⟨b3.pu.MD b8,by
  obtain⟨fv,n⟩:=b3.aM;exact⟨fv,n.pure b8⟩⟩
 clear b8 l7 S u b3;go_wp2_with fail;go_loopw [3,22] (λi j wr=>∃a x:N,a<=xs.length/\j=J a/\i=J x/\xs[a-1]?=some x/\Lk W0 B vb hb c v sh t a xs wr) (λ_ j _=>xs.length-(intOf j).toNat)
 case atStart=>exact⟨0,t.head,aw _,T,T,j2,g9⟩
 case round =>
  obtain⟨a,x,hj,rfl,rfl,hx,hk⟩:=hrel;have HK:=M hk;have b5:=M hx;clear hk hx;by_cases j9:a<xs.length
  ·obtain⟨z,hz⟩:∃z,xs[a]?=some z:=⟨_,cR j9⟩;have HZ:=M hz;have m9:(a:V)<(xs.length:V):=by omega
   clear hz;go_upto_if 26 with fail;go_cut [3] (λs3 wx=>s3=J z/\Lk W0 B vb hb c v sh t a xs wx)
   case first =>
    cases a with
    | zero =>
     go_wp2_with fail;go_meet;refine⟨?_,HK⟩;have n:=b5.out;rw[show(0-1:N)=0 from rfl,HZ.out]at n;injection n with n;rw[n]
    | succ p =>
     obtain⟨fv,a1⟩:=HK.aM;have f:=M a1;have l3:(x:V)<c.ag:=HO.lt x (cZ b5);have c5:(z:V)<c.ag:=HO.lt z (cZ HZ);have m5:decide ((0:V)<((p+1:N):V))=true:=by simp
     clear a1;go_wp2_with fail;refine(jC x 0 (bi z) wr f (HM.pure HK.pu) l3 (by omega) (HO.Gd p x z (by simpa using b5.out) HZ)).mono ?_;rintro e w2⟨rfl,b9⟩;have a9:=M (f.pure b9);have h7:=M (HK.pu.MD b9);clear b9;go_wp2_with fail;refine(yf z w2 a9 c5).mono ?_;rintro e w3⟨rfl,c2⟩;have c6:=M (a9.pure c2);have h9:=M (h7.MD c2);clear c2;go_wp2_with fail;go_meet;exact⟨T,h9,fv,c6⟩
   case rest =>
    obtain⟨rfl,b7⟩:=hcut;obtain⟨fv,a1⟩:=b7.aM;have f:=M a1;have e0:=M b7.pu;clear b7 a1;obtain⟨i0,j7,l4,l5,l6⟩:=aR Po.eu;obtain⟨Af,cf,R⟩:=aD f.ag;have a4:(aI (xs.take a)).length=a:=by rw[Pl.bQ,jq];omega
    have a8:=f.qC;simp only[]at a8 R;rw[a4]at R;rw[R]at a8;have P:=M (aq R a4);have W:Hid (wc.ownsRow B 3 1 (Z Af a cf) a (bI (aI (xs.take a)))):=M (by
     have n:=f.ag;simp only[]at n;rw[R,a4]at n;exact n)
    have g2:Hid (B<=wc.heap.size):=M (by rw[<-HB.out];exact e0.size);have j8:a<=2000:=by omega
    clear R a4;go_upto_region 11 with(at_builtin;refine bT _ T (.tmp 43) (.tmp 45) _ T B 3 i0 _ 1 8 underlying25 j7 l4 l5 l6 T (by omega) (Z Af a cf) a _ T (aH W _) _ 1 1 [J z] T (jd.cI _ _ #[J z] 1 1 _ T T) (by simp[Value.oneCell']) (by simp only[maxLen];omega) (by omega) (by have:=g2.out;simp;omega) ?_;intro v9 w9 E e5 b1;obtain⟨A9,n9,rfl⟩:=aD E;have h4:=M E;have a5:ac (λq=>(Z Af a cf).ownBlock=some q) wc w9:=((bo wc).alloc _).grown e5 (λq _ hq=>hq);have j3:∀k,w9.frozen? (I vb k)=false:=λk=>ey k (a5.bF f.me (λe=>ca W f.me (by decide) e));have l8:w9.cell? (I vb 15)=some (Z Af a cf):=(a5.cell (p:=⟨vb,15,none⟩) f.lt (λe=>ca W f.me (by decide) e)).trans a8;have h6:=M a5;have c8:=M b1;clear E e5 b1 a5;go_frame);have Q:=f.Hf (A:=Af) (A9:=A9) (cc:=cf) (n9:=n9) (x:=(z:V)) e0 HB (by simp only[];rw[P.out.2];exact P.1) (by simp only[];rw[P.out.2];exact h6) (by simp only[];rw[P.out.2];exact h4) (by
     simp only[];rw[P.out.2];rcases c8.out with n|n
     ·exact .inl n
     ·exact .inr ⟨_,by simp,n⟩)
    simp only[]at Q;have g3:aI (xs.take a)++[(z:V)]=aI (xs.take (a+1)):=by rw[cD,HZ.out];simp[aI]
    rw[P.out.2,g3]at Q;have h2:Hid (Lk W0 B vb hb c v sh t (a+1) xs (w9.setCell (I vb 15) (Z A9 (a+1) n9))):=M ⟨Q.1,_,Q.2⟩;have u:(w9.setCell (I vb 15) (Z A9 (a+1) n9)).cell? (I vb 11)=some (Z A t.bs.length d):=by
     have n:=Q.2.kv;simp only[]at n;rw[b4.out]at n;exact n
    clear Q g3 l8 j3 a8 j8;generalize w9.setCell _ _=n4 at *;go_wp2_with fail;clear u;go_loopw [56] (λk wr=>∃kn:N,kn<=t.bs.length/\k=J kn/\Lk W0 B vb hb c v sh t (a+1) xs wr) (λk _=>t.bs.length-(intOf k).toNat)
    case atStart=>exact⟨0,aw _,T,h2⟩
    case round =>
     obtain⟨kn,n0,rfl,hk⟩:=hrel;have c9:=M hk;obtain⟨a3,b0⟩:=hk.aM;have l:=M b0;clear hk b0;by_cases e6:kn<t.bs.length
     ·obtain⟨r,hr⟩:∃r,t.bs[kn]?=some r:=⟨_,cR e6⟩;have j0:=M hr;obtain⟨A5,d5,G,e9,k9,H⟩:=l.refs;simp only[]at G H;rw[bV]at G e9 H;obtain⟨g,off,e4,j6,g5⟩:=H (by omega);have d0:wr.cell? (I g (off+kn))=some (L r):=g5 kn _ (by simp[da,hr]);rw[b4.out]at G;injection G with e1 e2 e3;subst e1;have m6:=M e4;subst e4;have S:=l.sq;dsimp only at S;rw[g6.out]at S;have u:=l.kv;simp only[]at u;rw[b4.out]at u;have k1:(kn:V)<(t.bs.length:V):=by omega
      have j4:t.bs.length<=9223372036854775807:=by omega
      have e7:lj false t.bs.length (kn:V)=true:=by simp[lj,HO.out.mM];omega
      have h5:=M e7;obtain⟨pf,a6⟩:∃pf:N,fe (kn:V)=(pf:V):=⟨(fe (kn:V)).toNat,by unfold fe;split<;>omega⟩;obtain⟨pw,e8,b2⟩:∃pw:N,eh (kn:V)=(pw:V)/\pw<8:=⟨(eh (kn:V)).toNat,by unfold eh;split<;>omega,by unfold eh;split<;>omega⟩;have m4:pf<=30000:=by unfold fe at a6;split at a6<;>omega
      have o:=M (aq a6 (aq e8 b2));clear hr H g5 j6 e7 a6 e8 b2 e2 e3 e9 k9;go_wp2_with fail;refine(qh false _ t.bs.length d (kn:V) wr j4 h5).mono ?_;rw[o.out.1,o.out.2.1];rintro e w5⟨rfl,c3⟩;have a2:Hid (ae W0 w5):=M (c9.pu.MD c3);have F:=M (l.pure c3);clear c3 d0 S u l;cases r with
      | false =>
       go_wp2_with fail;go_roundw
       case rel=>exact⟨kn+1,by omega,by first|rfl|simp,⟨a2,a3,F⟩⟩
       case measure=>simp[intOf];omega
      | true =>
       by_cases b6:pf=a
       ·have g7:=M b6;have l9:((pf:V)==(a:V))=true:=by rw[b6];simp
        clear b6;have c5:(z:V)<c.ag:=HO.lt z (cZ HZ);have X:=HO.refs kn z j0 (by rw[o.out.1,iY,g7.out];exact HZ);rw[o.out.2.1,iY]at X;have HW:=M X;clear X;go_wp2_with fail;refine(jC z pw bD w5 F (HM.pure a2) c5 o.2.2 HW).mono ?_;rintro e w6⟨rfl,c4⟩;have c7:=M (F.pure c4);have h3:=M (a2.MD c4);clear c4;go_wp2_with fail;refine(qD w6).mono ?_;rintro e w7⟨rfl,rfl⟩;go_wp2_with fail;go_roundw
        case rel=>exact⟨kn+1,by omega,by first|rfl|simp,⟨h3,a3,c7⟩⟩
        case measure=>simp[intOf];omega
       ·have n2:((pf:V)==(a:V))=false:=by simp;omega
        go_wp2_with fail;go_roundw
        case rel=>exact⟨kn+1,by omega,by first|rfl|simp,⟨a2,a3,F⟩⟩
        case measure=>simp[intOf];omega
     ·obtain rfl:kn=t.bs.length:=by omega
      go_wp2_with fail;go_roundw
      case rel =>
       refine⟨a+1,z,by omega,by first|rfl|simp,T,by simpa using HZ.out,c9.pu,a3,l⟩
      case measure=>simp[intOf];omega
  ·obtain rfl:a=xs.length:=by omega
   go_wp2_with fail;go_ret;exact⟨T,HK⟩
end
end Vw
end
section
open Pl (aI)
namespace Vw
structure tZ(am:List (Nat × Nat))(c:Cn)(b0:Bool)(n d md bb:N)(xs:List Nat)(hd:N):Prop where
 EZ:xs[0]?=some hd
 dd:bX (n:V)=(d:V)
 len:xs.length=d+1
 lt:∀x∈xs,(x:V)<c.ag
 nl:n<=512
 length:am[8*hd+2]?=some (bH (n:V))
 mode:am[8*hd+3]?=some (bH (md:V))
 m3:md<=2
 inl:md=0↔d<=4
 m0:md=0->∀j x,j<d->xs[j+1]?=some x->am[8*hd+(4+j)]?=some (bi x)
 m2:md=2->am[8*hd+4]?=some (bi bb)/\(bb:V)+d<=c.ag/\∀j,j<d->xs[j+1]?=some (bb+j)
 m1:md=1->am[8*hd+4]?=some (bH (bb:V))/\(bb:V)+(d+2)<=8*c.ag+2*c.al+c.ap/\am[bb]?=some (bi hd)/\am[bb+1]?=some (bH (d:V))/\∀j x,j<d->xs[j+1]?=some x->am[bb+2+j]?=some (bi x)
 refs:b0=true->∀k x,k<n->xs[1+k/8]?=some x->am[8*x+k%8]?=some bD
def gR(xs:List Nat)(j:N):List Value:=Mm.cI (((xs.drop 1).take j).map bi)
theorem mU{xs:List Nat}{j x:N}(h:xs[j+1]?=some x):gR xs (j+1)=gR xs j++[U (bi x).1 (bi x).2]:=by
 unfold gR;have a:(xs.drop 1)[j]?=some x:=by rw[List.getElem?_drop,Nat.add_comm];exact h
 rw[cD,a];simp[Mm.cI]
section
variable{w k:Y}{B a g lg yb:N}{c:Cn}{v:Value}{sh:List Sh}{t t':St}{K:aW.Q}{κ:N->N}{m:aW.St}{b:Ac.B}{s:Ac.St}{y:dw.St}
theorem At.put{j:Y}(i:N)(u:Value)(h:At w B a g c v sh t)(G:ae j w)(P:j.heap.size=B)(F:∀n:Array Value,n=cs g c v t->n.setIfInBounds i u=cs g c v t')(H:t'.rv=t.rv/\t'.bs=t.bs/\t'.fv=t.fv/\t'.fs=t.fs/\t'.tv=t.tv/\t'.ts=t.ts):ae j (w.setCell (I a i) u)/\At (w.setCell (I a i) u) B a g c v sh t':=by
 obtain⟨r,z,l,A,o,E⟩:=H;have f:ac (λq=>q=a) w (w.setCell (I a i) u):=(ac.refl (λq=>q=a) w).setCell (p:=⟨a,i,none⟩) (λ_=>T) _;have x:=az (i:=i) (u:=u) h.me;rw[F _ rfl]at x;refine⟨G.trans f (λq d e=>by have:=h.new;omega),x,h.cH.MC f (λq d e=>(h.ro q (.inl d)).1 e),h.ok,by rw[r,z];exact h.refs.MC f (λq d e=>(h.ro q (.inr d)).1 e),?_,?_,h.new,λq d=>?_,λq d=>?_⟩
 ·rw[l,A];exact f.own h.ag (λq d e=>ca h.ag h.me (by decide) (e▸d))
 ·rw[o,E];exact f.own h.BL (λq d e=>ca h.BL h.me (by decide) (e▸d))
 ·rw[r]at d;rw[l,o];exact⟨(h.ro q d).1,(h.ro q d).2.1,(h.ro q d).2.2.1,eR (h.ro q d).2.2.2 f.size⟩
 ·rw[l]at d;rw[o];exact h.EO q d
theorem Dk(n:N)(j w:Y)(h:At w B a g c v sh t)(z:jS j c K κ m b s yb y g lg)(A:ae j w)(x:j.heap.size=B)(S:(t.head:V)<c.ag)(hz:m.am[8*t.head+2]?=some (bH (n:V)))(X:n<=512):C 204 #[I a 0] w λe k=>e=O (L true)/\ae j k/\At k B a g c v sh {t with n:=n}:=by
 have H:=M h;have P:=M z;have Q:=M hz;have HP:=M A;have G:=M x;have o:=h.jc;have W:decide ((n:V)<=512)=true:=fN (by omega);clear h z hz A x;go_enter func204,ntmps204;go_wp2_with fail;refine(jC t.head 2 (bH (n:V)) w H (P.pure HP) S (by omega) Q).mono ?_;rintro e E⟨rfl,d⟩;have i:=M (H.pure d);have f:=M (HP.MD d);clear d o H HP;go_wp2_with fail;refine(eW (n:V) E (by omega)).mono ?_;rintro e wq⟨rfl,rfl⟩;have p:=i.rf;have R:=i.fz;go_upto_region 3 with fail;obtain⟨r,u⟩:=i.put (t':={t with n:=n}) 14 (J n) f G (λq e=>by rw[e];rfl) ⟨T,T,T,T,T,T⟩;have F:=M u;have l:=M r;clear r u p R i f;generalize E.setCell _ _=w2 at *;go_wp2_with fail;go_ret;exact⟨T,l,F⟩
theorem vV(b0:Bool)(d:N)(xs:List Nat)(W0 w:Y)(h:At w B a g c v sh t)(hm:jS W0 c K κ m b s yb y g lg)(hp:ae W0 w)(hB:W0.heap.size=B)(R:tZ m.am c b0 t.n d 0 0 xs t.head)(b6:0<d):C 205 #[I a 0] w λe k=>∃A F,e=O (.tuple #[Z A d F,L true])/\ae W0 k/\At k B a g c v sh t/\k.ownsRow w.heap.size 30 1 (Z A d F) d (gR xs d):=by
 obtain⟨i0,b7,b8,b9,c2⟩:=aR Mm.oT;have c6:=db h.ok;have H:=M h;have HM:=M hm;have HA:=M R;have HP:=M hp;have HB:=M hB;have c4:Hid (w.heap.size=w.heap.size):=M T;have hi:(t.head:V)<c.ag:=R.lt _ (cZ R.EZ);have c8:d<=64:=by have h1:=R.dd;unfold bX at h1;split at h1<;>omega
 have c3:=h.rf;have b2:Hid (bX (t.n:V)=(d:V)):=M R.dd;have a8:=R.inl;have c7:d<=4:=a8.1 T;have c5:decide ((d:V)<=4)=true:=fN (by omega);clear h hm R hp hB a8;go_enter func205,ntmps205;go_wp2_with fail;refine(gH (t.n:V) w).mono ?_;rw[b2.out];rintro e wq⟨rfl,rfl⟩;have r:=H.jc;clear c3;go_wp2_with fail;refine(jC t.head 3 (bH ((0:N):V)) w H (HM.pure HP) hi (by omega) HA.mode).mono ?_;rintro e w1⟨rfl,u⟩;have H1:=M (H.pure u);have P:=M (HP.MD u);have a1:=M u;clear u r HP;go_wp2_with fail;refine(eW ((0:N):V) w1 (by omega)).mono ?_;rintro e wq⟨rfl,rfl⟩;have r:=H1.jc;go_wp2_with fail;obtain⟨z4,b1⟩:∃z,m.am[8*t.head+4]?=some z:=by
  obtain⟨x,hx⟩:∃x,xs[0+1]?=some x:=⟨_,cR (by have:=HA.len;omega)⟩;exact⟨_,HA.m0 T 0 x b6 hx⟩
 have b5:=M b1;clear b1;refine(jC t.head 4 z4 w1 H1 (HM.pure P) hi (by omega) b5).mono ?_;rintro e w2⟨rfl,E⟩;have H2:=M (H1.pure E);have a3:=M (P.MD E);have b3:=M (a1.MD E);clear E r H1 P a1;go_wp2_with fail;go_loopw [7,61] (λl i wr=>∃(j:N) (A:Option Addr) (F:N),j<=d/\i=J j/\l=Z A j F/\ae w2 wr/\wr.ownsRow w2.heap.size 30 1 (Z A j F) j (gR xs j)) (λ_ i _=>d-(intOf i).toNat)
 case atStart=>exact⟨0,none,0,aw _,T,T,bo _,jD _ _ _ _⟩
 case round =>
  obtain⟨j,A,F,hj,rfl,rfl,X,G⟩:=hrel;have n:=M X;have p:=M G;have a4:=M X.size;clear X G;by_cases a9:j<d
  ·obtain⟨x,hx⟩:∃x,xs[j+1]?=some x:=⟨_,cR (by have:=HA.len;omega)⟩;have HX:=M hx;clear hx;have Q:=M (H2.pure n);have r:=Q.jc;have e4:(4:V)+(j:V)=((4+j:N):V):=by omega
   obtain⟨k4,S⟩:∃k4,4+j=k4:=⟨_,T⟩;rw[S]at e4;have a2:=M S;clear S;go_wp2_with fail;refine(jC t.head k4 (bi x) wr Q (HM.pure (a3.MD n)) hi (by have:=a2.out;omega) (by rw[<-a2.out];exact HA.m0 T j x a9 HX)).mono ?_;rintro e w3⟨rfl,W⟩;replace n:=M (n.MD W);replace p:=M (W.own p (λ_ _ f=>f));replace a4:=M n.size;clear W r Q;go_upto_region 13 with(at_builtin;refine bT _ T (.tmp 64) (.tmp 74) _ T w2.heap.size 30 i0 _ 1 16 underlying147 b7 b8 b9 c2 T (by omega) (Z A j F) j (gR xs j) T (aH p _) _ 1 1 [U (bi x).1 (bi x).2] T (jd.cI _ _ #[U (bi x).1 (bi x).2] 1 1 _ T T) (by simp[Value.oneCell']) (by simp only[maxLen];omega) (by omega) (by have:=a4.out;simp;omega) ?_;intro v9 w9 o a7 a6;obtain⟨A9,n9,rfl⟩:=aD o;have a5:=M o;have G9:=M (((ac.refl (λq=>(Z A j F).ownBlock=some q) w3).alloc _).grown a7 (λ_ _ hk=>hk));clear o a7 a6;go_frame);have HR:=M (n.trans (G9) (λq hq e=>by have:=(p.lt q e).1;omega));have b4:Hid (w9.ownsRow w2.heap.size 30 1 (Z A9 (j+1) n9) (j+1) (gR xs (j+1))):=M (by rw[mU HX.out];exact a5);go_wp2_with fail;go_roundw
   case rel=>exact⟨j+1,A9,n9,by omega,by first|rfl|simp,by first|rfl|simp,HR,b4⟩
   case measure=>simp[intOf];omega
  ·obtain rfl:j=d:=by omega
   clear a9 hj;go_wp2_with fail;go_ret2;exact⟨A,F,T,a3.MD n,H2.pure n,dA p b3.size⟩
end
end Vw
end
section
open Pl (aI)
namespace Vw
theorem yL(z:Nat × Nat):jk z.1 z.2 z.1 z.2=true:=by simp[jk]
theorem tR(z:Nat × Nat)(w:Y):C 152 #[U z.1 z.2,U z.1 z.2] w λe a=>e=O (L true)/\w=a:=(kO z.1 z.2 z.1 z.2 w).mono λe a ⟨b,c⟩=>⟨by rw[b,yL z],c⟩
section
variable{w a:Y}{B g n lg yb:N}{c:Cn}{v:Value}{sh:List Sh}{t t':St}{K:aW.Q}{κ:N->N}{m:aW.St}{b:Ac.B}{s:Ac.St}{y:dw.St}
theorem vU(b0:Bool)(d o:N)(xs:List Nat)(W0 w:Y)(h:At w B g n c v sh t)(hm:jS W0 c K κ m b s yb y n lg)(hp:ae W0 w)(hB:W0.heap.size=B)(X:tZ m.am c b0 t.n d 2 o xs t.head)(e1:0<d):C 205 #[I g 0] w λe a=>∃A r,e=O (.tuple #[Z A d r,L true])/\ae W0 a/\At a B g n c v sh t/\a.ownsRow w.heap.size 30 1 (Z A d r) d (gR xs d):=by
 obtain⟨i0,b6,b8,b9,c2⟩:=aR Mm.oT;have e0:=db h.ok;have H:=M h;have HM:=M hm;have HA:=M X;have HP:=M hp;have HB:=M hB;have c5:Hid (w.heap.size=w.heap.size):=M T;have hi:(t.head:V)<c.ag:=X.lt _ (cZ X.EZ);have e5:d<=64:=by have E:=X.dd;unfold bX at E;split at E<;>omega
 have c3:=h.rf;have b3:Hid (bX (t.n:V)=(d:V)):=M X.dd;have a9:=X.inl;have e3:¬d<=4:=λe=>by have:=a9.2 e;omega
 have c6:decide ((d:V)<=4)=false:=dT (by omega);clear h hm X hp hB a9;go_enter func205,ntmps205;go_wp2_with fail;refine(gH (t.n:V) w).mono ?_;rw[b3.out];rintro e wq⟨rfl,rfl⟩;have a3:=H.jc;clear c3;go_wp2_with fail;refine(jC t.head 3 (bH ((2:N):V)) w H (HM.pure HP) hi (by omega) HA.mode).mono ?_;rintro e w1⟨rfl,p⟩;have H1:=M (H.pure p);have R:=M (HP.MD p);have a4:=M p;clear p a3 HP;go_wp2_with fail;refine(eW ((2:N):V) w1 (by omega)).mono ?_;rintro e wq⟨rfl,rfl⟩;have a3:=H1.jc;go_wp2_with fail;obtain⟨z4,b2⟩:∃z,m.am[8*t.head+4]?=some z:=⟨_,(HA.m2 T).1⟩;have a5:=M b2;clear b2;refine(jC t.head 4 z4 w1 H1 (HM.pure R) hi (by omega) a5).mono ?_;rintro e w2⟨rfl,f⟩;have H2:=M (H1.pure f);have S:=M (R.MD f);have P:=M (a4.MD f);clear f a3 H1 R a4;obtain rfl:z4=bi o:=by have E:=a5.out;rw[(HA.out.m2 rfl).1]at E;exact(et E).symm
 have c9:=(HA.m2 T).2.1;go_wp2_with fail;refine(yf o w2 H2 (by omega)).mono ?_;rintro e u⟨rfl,f⟩;replace H2:=M (H2.pure f);replace S:=M (S.MD f);replace P:=M (P.MD f);clear f;have p1:=H2.p1;have c7:decide ((o:V)+(d:V)>c.ag)=false:=dT (by omega);have c8:IntKind.i64.wrap ((o:V)+(d:V))=(o:V)+(d:V):=by rw[aP];omega
 go_wp2_with fail;clear p1;go_loopw [7,99] (λl i wr=>∃(j:N) (A:Option Addr) (r:N),j<=d/\i=J j/\l=Z A j r/\ae u wr/\wr.ownsRow u.heap.size 30 1 (Z A j r) j (gR xs j)) (λ_ i _=>d-(intOf i).toNat)
 case atStart=>exact⟨0,none,0,aw _,T,T,bo _,jD _ _ _ _⟩
 case round =>
  obtain⟨j,A,r,hj,rfl,rfl,a2,F⟩:=hrel;have W:=M a2;have Q:=M F;have b5:=M a2.size;clear a2 F;by_cases b1:j<d
  ·obtain⟨x,hx⟩:∃x,xs[j+1]?=some x:=⟨_,cR (by have:=HA.len;omega)⟩;have HX:=M hx;clear hx;obtain rfl:x=o+j:=by have E:=HX.out;rw[(HA.out.m2 rfl).2.2 j b1]at E;exact(et E).symm
   have e4:(o:V)+(j:V)=((o+j:N):V):=by omega
   obtain⟨G,a1⟩:∃G,o+j=G:=⟨_,T⟩;rw[a1]at e4 HX;have c4:=M a1;have b7:G<=1000000:=by omega
   clear a1;go_wp2_with fail;refine(mC G wr b7).mono ?_;rintro e wq⟨rfl,rfl⟩;go_upto_region 13 with(at_builtin;refine bT _ T (.tmp 102) (.tmp 107) _ T u.heap.size 30 i0 _ 1 16 underlying147 b6 b8 b9 c2 T (by omega) (Z A j r) j (gR xs j) T (aH Q _) _ 1 1 [U (bi G).1 (bi G).2] T (jd.cI _ _ #[U (bi G).1 (bi G).2] 1 1 _ T T) (by simp[Value.oneCell']) (by simp only[maxLen];omega) (by omega) (by have:=b5.out;simp;omega) ?_;intro v9 w9 k a8 a7;obtain⟨A9,n9,rfl⟩:=aD k;have a6:=M k;have G9:=M (((ac.refl (λq=>(Z A j r).ownBlock=some q) wr).alloc _).grown a8 (λ_ _ hk=>hk));clear k a8 a7;go_frame);have HR:=M (W.trans (G9) (λq hq e=>by have:=(Q.lt q e).1;omega));have b4:Hid (w9.ownsRow u.heap.size 30 1 (Z A9 (j+1) n9) (j+1) (gR xs (j+1))):=M (by rw[mU HX.out];exact a6);go_wp2_with fail;go_roundw
   case rel=>exact⟨j+1,A9,n9,by omega,by first|rfl|simp,by first|rfl|simp,HR,b4⟩
   case measure=>simp[intOf];omega
  ·obtain rfl:j=d:=by omega
   clear b1 hj;go_wp2_with fail;go_ret2;exact⟨A,r,T,S.MD W,H2.pure W,dA Q P.size⟩
theorem vW(b0:Bool)(d r:N)(xs:List Nat)(W0 w:Y)(h:At w B g n c v sh t)(hm:jS W0 c K κ m b s yb y n lg)(hp:ae W0 w)(hB:W0.heap.size=B)(ha:tZ m.am c b0 t.n d 1 r xs t.head)(k9:0<d):C 205 #[I g 0] w λe a=>∃A n0,e=O (.tuple #[Z A d n0,L true])/\ae W0 a/\At a B g n c v sh {t with ix:=(r:V),nw:=d+2}/\a.ownsRow w.heap.size 30 1 (Z A d n0) d (gR xs d):=by
 obtain⟨i0,g7,g9,h3,h9⟩:=aR Mm.oT;have j9:=db h.ok;have H:=M h;have HM:=M hm;have HA:=M ha;have HP:=M hp;have HB:=M hB;have j5:Hid (w.heap.size=w.heap.size):=M T;have hi:(t.head:V)<c.ag:=ha.lt _ (cZ ha.EZ);have l4:d<=64:=by have h1:=ha.dd;unfold bX at h1;split at h1<;>omega
 have j0:=h.rf;have e8:Hid (bX (t.n:V)=(d:V)):=M ha.dd;have c9:=ha.inl;have l3:¬d<=4:=λe=>by have:=c9.2 e;omega
 have j7:decide ((d:V)<=4)=false:=dT (by omega);clear h hm ha hp hB c9;go_enter func205,ntmps205;go_wp2_with fail;refine(gH (t.n:V) w).mono ?_;rw[e8.out];rintro e wq⟨rfl,rfl⟩;have Q:=H.jc;clear j0;go_wp2_with fail;refine(jC t.head 3 (bH ((1:N):V)) w H (HM.pure HP) hi (by omega) HA.mode).mono ?_;rintro e w1⟨rfl,a1⟩;have H1:=M (H.pure a1);have a5:=M (HP.MD a1);have b4:=M a1;clear a1 Q HP;go_wp2_with fail;refine(eW ((1:N):V) w1 (by omega)).mono ?_;rintro e wq⟨rfl,rfl⟩;have Q:=H1.jc;go_wp2_with fail;obtain⟨z4,e6⟩:∃z,m.am[8*t.head+4]?=some z:=⟨_,(HA.m1 T).1⟩;have c5:=M e6;clear e6;refine(jC t.head 4 z4 w1 H1 (HM.pure a5) hi (by omega) c5).mono ?_;rintro e w2⟨rfl,E⟩;have F:=M (H1.pure E);have X:=M (a5.MD E);have b5:=M (b4.MD E);clear E Q H1 a5 b4;obtain rfl:z4=bH (r:V):=by have h1:=c5.out;rw[(HA.out.m1 rfl).1]at h1;exact(et h1).symm
 have j8:=(HA.m1 T).2.1;go_wp2_with fail;refine(eW (r:V) w2 (by omega)).mono ?_;rintro e wq⟨rfl,rfl⟩;have p0:=F.p0;have p1:=F.p1;have p2:=F.p2;have p3:=F.p3;have p4:=F.p4;have p5:=F.p5;have p6:=F.p6;have p7:=F.p7;have p8:=F.p8;have p9:=F.p9;have Q:=F.jc;obtain⟨A0,j6,hv⟩:∃A cc,v=Z A sh.length cc:=by
  obtain⟨⟨A,cc,e,_⟩,_⟩:=F.cH;exact⟨A,cc,e⟩
 subst hv;have c3:Hid (z0 c sh+z1 c sh+z1 c sh+z3 c sh=8*c.ag+2*c.al+c.ap):=M (by have h2:=nQ F.ok;rw[h2.1,h2.2.1,h2.2.2];omega);have d1:decide ((r:V)<0)=false:=dT (by omega);have l6:IntKind.i64.wrap (8*c.ag+2*c.al+c.ap-(d:V))=8*c.ag+2*c.al+c.ap-(d:V):=by rw[aP];omega
 have l7:IntKind.i64.wrap (8*c.ag+2*c.al+c.ap-(d:V)-2)=8*c.ag+2*c.al+c.ap-(d:V)-2:=by rw[aP];omega
 have d2:decide ((r:V)>8*c.ag+2*c.al+c.ap-(d:V)-2)=false:=dT (by omega);have e1:(r:V)+1=((r+1:N):V):=by omega
 obtain⟨b1,a6⟩:∃b1,r+1=b1:=⟨_,T⟩;rw[a6]at e1;have e7:=M a6;obtain⟨R,a7⟩:∃R,t.head=R:=⟨_,T⟩;rw[a7]at Q;have e9:=M a7;have g6:R<=1000000:=by omega
 clear a6 a7;obtain⟨zr,b3⟩:∃z,bi R=z:=⟨_,T⟩;obtain⟨zd,b2⟩:∃z,bH (d:V)=z:=⟨_,T⟩;have a2:Hid (∀w,C 153 #[J R] w λe a=>e=O (U zr.1 zr.2)/\w=a):=M (λw=>by rw[<-b3];exact mC R w g6);have c4:Hid (∀w,C 195 #[J d] w λe a=>e=O (U zd.1 zd.2)/\w=a):=M (λw=>by rw[<-b2];exact fm (d:V) w (by omega) (by omega));have g5:Hid (m.am[r]?=some zr):=M (by rw[<-b3,<-e9.out];exact(HA.m1 T).2.2.1);have g4:Hid (m.am[b1]?=some zd):=M (by rw[<-b2,<-e7.out];exact(HA.m1 T).2.2.2.1);have g1:Hid (∀wx,ae W0 wx->C 132 #[I n 0,J ((r:V)+1)] wx λe a=>e=O (U zd.1 zd.2)/\wx=a):=M (λwx hx=>by rw[e1];exact ss b1 zd wx (HM.pure hx) g4);clear b3 b2 e1;go_wp2_with fail;refine bB (λa=>ae w2 a) ((bo w2).drewN 1) (by kernel_rfl) (by kernel_rfl) ?_;intro S f _ o e3;have q0:=λs=>(o s).aj p0;have q1:=λs=>(o s).aj p1;have q2:=λs=>(o s).aj p2;have q3:=λs=>(o s).aj p3;have q4:=λs=>(o s).aj p4;have q5:=λs=>(o s).aj p5;have q6:=λs=>(o s).aj p6;have q7:=λs=>(o s).aj p7;have q8:=λs=>(o s).aj p8;have q9:=λs=>(o s).aj p9;have j3:=λs=>(o s).aj Q;have G:=M o;have p:=M e3;clear o e3 Q p0 p1 p2 p3 p4 p5 p6 p7 p8 p9
 iterate 34 (go_big_quiet_step ((first|(go_at_call 45;exact aN p (G _) (λa u k=>u.MD k) (c3▸kB c _ sh _ (F.pure (G _)).cH))|(go_at_call 132;exact aN p (G _) (λa u k=>u.MD k) (fS (ss r zr _ (HM.pure (X.MD (G _))) g5)))|(go_at_call 153;exact aN p (G _) (λa u k=>u.MD k) (fS (a2 _)))|(go_at_call 195;exact aN p (G _) (λa u k=>u.MD k) (fS (c4 _)))|(go_at_call 152;exact aN p (G _) (λa u k=>u.MD k) (fS (tR zr _))))))
 repeat(go_big_quiet_step ((first|(go_at_call 45;exact aN p (G _) (λa u k=>u.MD k) (c3▸kB c _ sh _ (F.pure (G _)).cH))|(go_at_call 132;exact aN p (G _) (λa u k=>u.MD k) (fS (g1 _ (X.MD (G _)))))|(go_at_call 153;exact aN p (G _) (λa u k=>u.MD k) (fS (a2 _)))|(go_at_call 195;exact aN p (G _) (λa u k=>u.MD k) (fS (c4 _)))|(go_at_call 152;exact aN p (G _) (λa u k=>u.MD k) (fS (tR zd _))))))
 refine wpQuiet_nil ?_;rintro l5⟨q,rfl⟩;have E:=G q;clear q0 q1 q2 q3 q4 q5 q6 q7 q8 q9 j3 G p;generalize f q=w3 at *;have H3:=M (F.pure E);have b7:=M (X.MD E);have b6:=M (b5.MD E);clear E F X b5;have j1:=H3.tP;have j2:=H3.vG;have ff:=H3.fz;have j4:IntKind.i64.wrap ((d:V)+2)=(d:V)+2:=by rw[aP];omega
 go_upto_region 28 with fail;have e5:(d:V)+2=((d+2:N):V):=by omega
 obtain⟨h4,h5⟩:=H3.put (t':={t with ix:=(r:V)}) 16 (J r) b7 HB (λq e=>by rw[e];rfl) ⟨T,T,T,T,T,T⟩;obtain⟨h6,h7⟩:=h5.put (t':={t with ix:=(r:V),nw:=d+2}) 17 (J ((d:V)+2)) h4 HB (λq e=>by rw[e,e5];rfl) ⟨T,T,T,T,T,T⟩;have H4:=M h7;have b8:=M h6;have c2:Hid (w.heap.size<=((w3.setCell (I g 16) (J r)).setCell (I g 17) (J ((d:V)+2))).heap.size):=M (by have:=b6.size;simpa[World.setCell]using this);clear h4 h5 h6 h7 j1 j2 ff e5 H3 b7 b6 j4;generalize(w3.setCell _ _).setCell _ _=w4 at *;go_wp2_with fail;go_loopw [7,176] (λl i wr=>∃(j:N) (A:Option Addr) (n0:N),j<=d/\i=J j/\l=Z A j n0/\ae w4 wr/\wr.ownsRow w4.heap.size 30 1 (Z A j n0) j (gR xs j)) (λ_ i _=>d-(intOf i).toNat)
 case atStart=>exact⟨0,none,0,aw _,T,T,bo _,jD _ _ _ _⟩
 case round =>
  obtain⟨j,A,n0,hj,rfl,rfl,a9,a3⟩:=hrel;have W:=M a9;have a4:=M a3;have g3:=M a9.size;clear a9 a3;by_cases e0:j<d
  ·obtain⟨x,hx⟩:∃x,xs[j+1]?=some x:=⟨_,cR (by have:=HA.len;omega)⟩;have HX:=M hx;clear hx;have b9:=M (H4.pure W);have p0:=b9.p0;have e4:(r:V)+2+(j:V)=((r+2+j:N):V):=by omega
   obtain⟨k4,a8⟩:∃k4,r+2+j=k4:=⟨_,T⟩;rw[a8]at e4;have g0:=M a8;clear a8;go_wp2_with fail;refine(ss k4 (bi x) wr (HM.pure (b8.MD W)) (by rw[<-g0.out];exact(HA.m1 T).2.2.2.2 j x e0 HX)).mono ?_;rintro e wq⟨rfl,rfl⟩;clear p0 b9;go_upto_region 13 with(at_builtin;refine bT _ T (.tmp 179) (.tmp 189) _ T w4.heap.size 30 i0 _ 1 16 underlying147 g7 g9 h3 h9 T (by omega) (Z A j n0) j (gR xs j) T (aH a4 _) _ 1 1 [U (bi x).1 (bi x).2] T (jd.cI _ _ #[U (bi x).1 (bi x).2] 1 1 _ T T) (by simp[Value.oneCell']) (by simp only[maxLen];omega) (by omega) (by have:=g3.out;simp;omega) ?_;intro v9 w9 P c8 c7;obtain⟨A9,n9,rfl⟩:=aD P;have c6:=M P;have G9:=M (((ac.refl (λq=>(Z A j n0).ownBlock=some q) wr).alloc _).grown c8 (λ_ _ hk=>hk));clear P c8 c7;go_frame);have HR:=M (W.trans (G9) (λq hq e=>by have:=(a4.lt q e).1;omega));have g2:Hid (w9.ownsRow w4.heap.size 30 1 (Z A9 (j+1) n9) (j+1) (gR xs (j+1))):=M (by rw[mU HX.out];exact c6);go_wp2_with fail;go_roundw
   case rel=>exact⟨j+1,A9,n9,by omega,by first|rfl|simp,by first|rfl|simp,HR,g2⟩
   case measure=>simp[intOf];omega
  ·obtain rfl:j=d:=by omega
   clear e0 hj;go_wp2_with fail;go_ret2;exact⟨A,n0,T,b8.MD W,H4.pure W,dA a4 c2⟩
end
end Vw
end
section
open Ac (jm dx jb gC av Vl Wr iJ gm aA bc aJ nT aO cC ed dZ dY CT)
section
variable{w a:Y}{c:Cn}{K:aW.Q}{κ:N->N}{m:aW.St}{b:Ac.B}{s:Ac.St}
open Ac (av)
open Pl (aI gB)
theorem Hs{w:Y}{B:N}{v:Value}{xs:List Int}(h:eO w B v xs)(e:0<xs.length)(q:N)(d:v.ownBlock=some q):q<B:=by
 obtain⟨A,c,rfl,_,_,_,g⟩:=h;obtain⟨b,off,rfl,f,_⟩:=g e;injection d with d;rw[<-d];exact f
theorem qT(e:Ln.En)(o:dx)(xs:List Nat)(WS:List Wr)(w:Y)(h:dt w c K κ m b s)(e6:s.pc=5)(c3:b.t=0)(c5:m.s.en=[e])(g4:e.bx=0)(g3:e.bE=1)(a4:e.cG=aI xs)(e1:b.ops[s.next]?=some o)(ho:jt c K o xs e.aM WS)(g5:0<xs.length):C 69 #[I b.ab 0,I K.kb 0] w (oC w κ 0 0 0 aA false (λa κ'=>∃lv' wv' tv',dt a c K κ' {m with s:={m.s with lv:=lv',en:=[]}} b {s with bn:=2,aM:=7,wv:=wv',bz:=WS,tv:=tv',cG:=aI xs})):=by
 obtain⟨hp,-,e7⟩:=aO w #[J 0,J 0,J 0,L false,U 0 0] 46;have H1:=M (h.bS hp);have HR:=M e7;have j1:Hid (aL w.heap.size κ 9 (w.heap.size)=9):=M (aU (by omega));have G:Hid (w.heap.size<=w.heap.size):=M (by omega);have h6:=M e6;have a7:=M c3;have E:=M (aq c5 (aq g4 g3));have a9:=M a4;have HO:=M e1;have h5:=M ho;clear hp e7 h e6 c3 c5 g4 g3 a4 e1 ho;go_enter func69,ntmps69;go_upto_region 1 with fail;generalize w.alloc gm=W at *;generalize aL w.heap.size κ 9=j8 at *;obtain⟨E1,S1⟩:=H1.out;have g9:=M E1;have d:=M S1;clear E1 S1 H1;have c7:=d.bj.p7;rw[h6.out]at c7;obtain⟨Q,c4⟩:∃Q,e.aM=Q:=⟨_,T⟩;have a8:=M c4;clear c4;have c9:e.cG.length=xs.length:=by rw[a9.out,Pl.bQ]
 have b6:=M c9;clear c9;go_upto_region 5 with fail;have a2:Hid (ae W W.drew):=M ((ck W).drewN 1);have b0:Hid (ae W (W.drew.alloc (D #[J 0,Z none 0 0,J 0] 191))):=M (a2.alloc _);have h4:Hid ((W.drew.alloc (D #[J 0,Z none 0 0,J 0] 191)).heap[W.heap.size]?=some (D #[J 0,Z none 0 0,J 0] 191 (0,0))):=M (ai W.drew _);have j3:=d.bj.lb;have j4:=d.bm.qL;have a5:=bq d.bj.lb;have a6:=bq d.bm.qL;have j7:=d.bm.lH;have c0:=d.bj.p0;rw[a7.out]at c0;go_cut [6] (λs6 wx=>∃Yq κ' l n lv',s6=I Yq 0/\aG CT W j8 wx κ'/\κ' Yq=9/\wx.heap[Yq]?=some (D #[J 1,Z l xs.length n,J Q] 191 (0,0))/\dt wx c K κ' {m with s:={m.s with lv:=lv',en:=[]}} b s/\eO wx wx.heap.size (Z l xs.length n) (aI xs)/\∀k,(Z l xs.length n).ownBlock=some k->κ' k=8/\k<wx.heap.size)
 case first =>
  go_region_held3 (λa=>a.cell? (I K.kb 11)=some (.pointer (some (I K.q.sp 0)))/\a.cell? (I b.ab 0)=some (J 0)) (first|go_keep|exact⟨(mQ a6 _ _ _).trans t0,(mQ a5 _ _ _).trans t1⟩|exact⟨(mQ t6 _ _ _).trans ((lQ (cN _ _ _ t4)).trans t0),(mQ t5 _ _ _).trans ((lQ (cN _ _ _ t3)).trans t1)⟩) (first|(go_at_call 129;first|(refine(aW.kj e W.drew (d.bS a2).2.bm E.1 E.2.1 E.2.2).mono ?_;rw[a8.out,b6.out,a9.out];rintro r w3⟨l,n,b3,b4,rfl,B,R,j,A⟩;have x:=M j;have t:Hid (∀q,(Z l xs.length n).ownBlock=some q->b4 q=8/\q<w3.heap.size/\W.heap.size<=q):=M (λq z=>⟨(A q z).1,Hs j (by rw[Pl.bQ];exact g5) q z,by have:=(A q z).2;simp at this;omega⟩);clear j A;obtain⟨e3,y⟩:=(d.bS a2).2.cJ B R;have t0:=y.bm.lH;have t1:=y.bj.p0;rw[a7.out]at t1;have t3:=y.bj.lb;have t4:=y.bm.qL;have t5:=bq y.bj.lb;have t6:=bq y.bm.qL;have HA:=M (aq ((d.bS a2).1.trans e3) y);clear e3 y;clear B R)|(refine(aW.kj e (W.drew.alloc (D #[J 0,Z none 0 0,J 0] 191)) (d.bS b0).2.bm E.1 E.2.1 E.2.2).mono ?_;rw[a8.out,b6.out,a9.out];rintro r w3⟨l,n,b3,b4,rfl,B,R,j,A⟩;have x:=M j;have t:Hid (∀q,(Z l xs.length n).ownBlock=some q->b4 q=8/\q<w3.heap.size/\W.heap.size<=q):=M (λq z=>⟨(A q z).1,Hs j (by rw[Pl.bQ];exact g5) q z,by have:=(A q z).2;simp at this;omega⟩);clear j A;have a3:=B.bF h4 (by rw[aU (ci _)];unfold aW.C5;omega);have g6:=(B.ft (X:=W.heap.size) (by simp)).trans (aU (ci _));have F:=M (aq a3 g6);obtain⟨k9,l3,l4⟩:=gM a3;have gf:=λk=>ey k a3;obtain⟨e3,y⟩:=(d.bS b0).2.cJ B R;have t0:=y.bm.lH;have t1:=y.bj.p0;rw[a7.out]at t1;have t3:=y.bj.lb;have t4:=y.bm.qL;have t5:=bq y.bj.lb;have t6:=bq y.bm.qL;have HA:=M (aq ((d.bS b0).1.trans e3) y);clear e3 y;clear B R a3 g6)))
  ·go_wp2_with fail;go_meet;obtain⟨b2,-,b1⟩:=aO w3 #[J 1,Z l xs.length n,J Q] 191;have e8:=HA.2.bS b2;exact⟨_,_,l,n,b3,T,HA.1.trans e8.1,aU (ci _),b1,e8.2,x.MC b2 (λ_ _ f=>f),λq z=>⟨(dE (t q z).2.1).trans (t q z).1,eR (t q z).2.1 b2.size⟩⟩
  all_goals
   go_wp2_with fail;go_meet;have b1:(((w3.setCell (I W.heap.size 0) (J 1)).setCell (I W.heap.size 1) (Z l xs.length n)).setCell (I W.heap.size 2) (J Q)).heap[W.heap.size]?=some (D #[J 1,Z l xs.length n,J Q] 191 (0,0)):=by
    have:=az (i:=2) (u:=(J Q)) (az (i:=1) (u:=(Z l xs.length n)) (az (i:=0) (u:=(J 1)) (F.1)));simpa using this
   exact⟨_,_,l,n,b3,T,(((HA.1.new (ci _) 0 (J 1)).new (ci _) 1 (Z l xs.length n)).new (ci _) 2 (J Q)),F.2,b1,((HA.2.aZ F.2 0 (J 1)).aZ F.2 1 (Z l xs.length n)).aZ F.2 2 (J Q),x.MC ((((ac.refl (λq=>q=W.heap.size) w3).setCell (p:=⟨W.heap.size,0,none⟩) (λ_=>T) (J 1)).setCell (p:=⟨W.heap.size,1,none⟩) (λ_=>T) (Z l xs.length n)).setCell (p:=⟨W.heap.size,2,none⟩) (λ_=>T) (J Q)) (λq z e=>by rw[e]at z;have:=(t _ z).1;rw[F.out.2]at this;omega),λq z=>⟨(t q z).1,by have:=(t q z).2.1;simpa[World.setCell]using this⟩⟩
 case rest =>
  obtain⟨Yq,g7,l,n,l5,rfl,e2,j6,c8,S2,e9,h8⟩:=hcut;have H:=M S2;have b9:=M e9;have H8:=M h8;have b5:=M (g9.trans e2);obtain⟨S,a1⟩:=aJ e2 j1 nT HR;have b7:=M S;have c2:=M a1;obtain⟨g0,g1,g2⟩:=gM c8;obtain⟨g,j9,e5,e0,o0,o1,o2,o3,o4,o5⟩:=H.bj.rd.op HO;have c1:=H.bj.p1;rw[e5]at c1;have c6:=H.bj.p6;have j5:=(dH.1 HO).1;have i0:(0:V)<=(s.next:V):=by omega
  have i1:(s.next:V)<(b.ops.length:V):=by omega
  clear e2 S2 e9 h8 S a1 j6 c8 j7 c0 j3 j4 a5 a6 c7 e5 e0;go_wp2_with fail;go_still_tail 13,(by kernel_rfl);change wpList _ _ _ _ _ wc.drew;have h9:=M H.drew;have h7:=M (show wc.drew.heap[w.heap.size]?=_ from b7);have h2:Hid (aG CT w κ wc.drew g7):=M (b5.trans (aG.pure ((ck wc).drewN 1)));have j2:=c2;have x:Hid (eO wc.drew wc.drew.heap.size (Z l xs.length n) (aI xs)):=M b9;have t:Hid (∀k,(Z l xs.length n).ownBlock=some k->g7 k=8/\k<wc.drew.heap.size):=M H8;clear H b7 b5 c2 b9 H8 c1 c6 j5 i0 i1 o0 o1 o2 o3 o4 o5 g0 g1 g2;generalize wc.drew=w3 at *;go_wp2_with fail;refine(kA o xs WS l n Q w3 h9 (a8▸h5) x t).mono ?_;rintro r w4⟨rfl,l7,e4,l6,S4⟩;have j0:=M S4;have h3:=M (h2.trans e4);obtain⟨S,a1⟩:=aJ e4 j2 nT h7;have b8:=M S;have P:=M a1;clear e4 S4 S a1;obtain⟨z0,z1,z2,z3,z4⟩:=bc b8;have f1:=λk=>ey k b8;go_wp2_with fail;refine au (v:=.tuple #[.agg #[J 0,J 0,J 0,L false,U 0 0],L false]) (by simp[results,results69,go_sem,z0,z1,z2,z3,z4]) T ⟨T,_,(((((h3.new G _ _).new G _ _).new G _ _).new G _ _).new G _ _),_,_,_,(((((j0.aZ P _ _).aZ P _ _).aZ P _ _).aZ P _ _).aZ P _ _)⟩
