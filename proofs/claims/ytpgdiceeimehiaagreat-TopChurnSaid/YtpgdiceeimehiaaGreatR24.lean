/- Part 24 of the proof of spotop.TopChurn. -/
import Derived.Test.YtpgdiceeimehiaaGreatR19
import Derived.Test.YtpgdiceeimehiaaGreatR21
set_option maxRecDepth 100000
set_option maxHeartbeats 16000000
set_option linter.all false
open Go.Proofs.Tryz
namespace Go.Proofs.YtpgdiceeimehiaaGreat
open RowKit
namespace tx
open Ac (dx jb gC av)
open Go.ChangeMaps (setBlock)
def oF(c:Cn)(o:dx)(x:UInt8):Prop:=(x=97->0<=o.a/\o.a<c.ak)/\(x=98->0<=o.b/\o.b<c.ak)/\(x=99->0<=o.c/\o.c<c.ak)/\(x=103->0<=o.n/\o.n<c.ap)
structure Made(c:Cn)(sh:List Sh)(o:dx)(k:N)(s:Sh):Prop where
 b:o.b=(k:V)
 aM:sh[k]?=some s
 jY:s.a=(o.aE==2)
 eT:s.bs.length<=1000000
 Et:0<=bM s.a s.bs.length (if o.aE=2 then o.n else 0)
 Hq:bM s.a s.bs.length (if o.aE=2 then o.n else 0)<=c.ag
 al:cE s.a s.bs.length o.n<=c.al
abbrev Jp(o:dx):Obj:=D #[J o.aE,J o.a,J o.b,J o.c,J o.n,U o.x o.y] 32 (0,0)
structure EW(w:Y)(c:Cn)(A:Option Addr)(n cc:N)(o:dx)(r j:N)(nm:List UInt8)(wr:Y):Prop where
 pu:ae w wr
 cf:Row w w.heap.size c (Z A n cc) wr
 op:wr.heap[w.heap.size+1]?=some (Jp o)
 it:wr.heap[r]?=some (.stringIter (str nm) j)
 L0:w.heap.size+1<r
section
variable{w b w':Y}{c:Cn}{A:Option Addr}{n cc r j:N}{o:dx}{a:List UInt8}
theorem EW.aj(h:EW w c A n cc o r j a b)(k:ae b w'):EW w c A n cc o r j a w':=⟨h.pu.MD k,h.cf.aj k,k.bF h.op,k.bF h.it,h.L0⟩
theorem EW.next(h:EW w c A n cc o r j a b):EW w c A n cc o r (j+1) a (setBlock b r (.stringIter (str a) (j+1))):=by
 have f:=tq b r (.stringIter (str a) (j+1));have d:=(bR.1 h.it).1;have i:=h.L0;have g:ae w (setBlock b r (.stringIter (str a) (j+1))):=h.pu.trans f (λk l e=>by omega);exact⟨g,⟨h.cf.1,f.bF h.cf.2.1 (by omega),g⟩,f.bF h.op (by omega),vh _ _ _ d,i⟩
end
theorem rj(o:dx)(s:Sh)(A:Option Addr)(cc:N)(w:Y)(x:s.bs.length<=1000000)(k:V)(l:k=if o.aE=2 then o.n else 0):C 239 #[nP s.a A s.bs.length cc,jb o] w λe r=>e=O (J (bM s.a s.bs.length k))/\ae w r:=by
 obtain⟨m,-,j,c⟩:=Ac.cC w #[L s.a,Z A s.bs.length cc] #[J o.aE,J o.a,J o.b,J o.c,J o.n,U o.x o.y] 35 32;have HP:=M m;have g:=M j;have h:=M c;have i:=M l;clear m j c l;have f:s.bs.length<=9223372036854775807:=by omega
 by_cases c:o.aE=2
 ·have d:=M c;clear c;go_enter func239,ntmps239;go_upto_region 1 with fail;generalize(w.alloc _).alloc _=W at *;obtain⟨n,-,-,-,q,-⟩:=av h;have u:W.cell? (I w.heap.size 0)=some (L s.a):=by rw[bK g.out];rfl
  have v:W.cell? (I w.heap.size 1)=some (Z A s.bs.length cc):=by rw[bK g.out];rfl
  rw[d.out]at n;go_wp2_with fail;refine(lL s.a A s.bs.length cc o.n W f).mono ?_;rintro e t⟨rfl,a⟩;have b:=M (HP.MD a);clear a;go_wp2_with fail;go_ret;exact⟨by rw[i.out,af d.out];rfl,b⟩
 ·have p:((o.aE:V)==2)=false:=by simp;omega
  go_enter func239,ntmps239;go_upto_region 1 with fail;generalize(w.alloc _).alloc _=W at *;obtain⟨n,-,-,-,q,-⟩:=av h;have u:W.cell? (I w.heap.size 0)=some (L s.a):=by rw[bK g.out];rfl
  have v:W.cell? (I w.heap.size 1)=some (Z A s.bs.length cc):=by rw[bK g.out];rfl
  go_wp2_with fail;refine(lL s.a A s.bs.length cc 0 W f).mono ?_;rintro e t⟨rfl,a⟩;have b:=M (HP.MD a);clear a;go_wp2_with fail;go_ret;exact⟨by rw[i.out,aa c];rfl,b⟩
theorem mR(c:Cn)(v:Value)(sh:List Sh)(o:dx)(w:Y)(hl:dm w w.heap.size v sh)(c8:bk c sh=0)(g0:1<=o.aE)(c7:o.aE<19)(hs:∀x∈kn o.aE,oF c o x)(u:(o.aE=1\/o.aE=2)->∃k s,Made c sh o k s):C 177 #[hI c v,jb o] w λe G=>e=O (J 0)/\ae w G:=by
 obtain⟨A,t,rfl⟩:∃A t,v=Z A sh.length t:=by
  obtain⟨⟨A,t,rfl,_⟩,_⟩:=hl;exact⟨A,t,T⟩
 obtain⟨hp,hz,c6,c9⟩:=Ac.cC w #[J c.ag,J c.al,J c.ap,J c.ao,J c.ak,J c.aB,J c.be,J c.di,Z A sh.length t] #[J o.aE,J o.a,J o.b,J o.c,J o.n,U o.x o.y] 24 32;have HL:=M (λ(G:Y) (hp:ae w G)=>hl.pure hp);have HR:Hid (Row w w.heap.size c (Z A sh.length t) _):=M ⟨ci _,c6,hp⟩;have HO:=M c9;have HZ:=M hz;have HH:=M (aq c8 (aq hs u));have e4:Hid (kw o.aE≠[]):=M (by
  rcases(by omega:o.aE=1\/o.aE=2\/o.aE=3\/o.aE=4\/o.aE=5\/o.aE=6\/o.aE=7\/o.aE=8\/o.aE=9\/o.aE=10\/o.aE=11\/o.aE=12\/o.aE=13\/o.aE=14\/o.aE=15\/o.aE=16\/o.aE=17\/o.aE=18)with h|h|h|h|h|h|h|h|h|h|h|h|h|h|h|h|h|h<;>(rw[h];decide))
 clear hl c8 hs u hp hz c6 c9;go_enter func177,ntmps177;go_upto_region 1 with fail;generalize(w.alloc _).alloc _=W at *;obtain⟨o0,o1,o2,o3,o4,o5⟩:=av HO;go_wp2_with fail;refine(GY o.aE c7 W).mono ?_;rintro e w1⟨rfl,b6⟩;have b5:=M (HR.aj b6);have c3:=M (b6.bF HO);have e6:Hid (w.heap.size+2<=w1.heap.size):=M (by have:=b6.size;have:=HZ.out;omega);have g1:(str (kw o.aE)).toList.isEmpty=false:=by
  have:=e4.out;rw[yT];cases e9:kw o.aE with
  | nil=>exact absurd e9 this
  | cons a l=>rfl
 clear b6 o0 o1 o2 o3 o4 o5 HR HO;obtain⟨k0,k1,k2,k3,k4,k5,k6,k7,k8,kf⟩:=b5.cells;go_wp2_with fail;refine(gK c _ sh w1 (HL w1 b5.2.2)).mono ?_;rw[HH.out.1];rintro e w2⟨rfl,b7⟩;have c4:=M (b5.aj b7);have e5:=M (b7.bF c3);have e7:Hid (w.heap.size+2<=w2.heap.size):=M (by have:=b7.size;have:=e6.out;omega);clear b7 b5 c3 k0 k1 k2 k3 k4 k5 k6 k7 k8 kf;have e0:EW w c A sh.length t o w2.heap.size 0 (kn o.aE) (w2.iter (str (kn o.aE)) 0):=by
  have q2:ae w2 (w2.iter (str (kn o.aE)) 0):=(bo w2).alloc _;exact⟨c4.2.2.MD q2,c4.aj q2,q2.bF e5,World.iter_heap _ _ _,by have:=e7.out;omega⟩
 have c5:=M e0;clear e0;go_wp2_with fail;generalize w2.iter (str (kn o.aE)) 0=w3 at *;generalize w2.heap.size=r at *;go_loopg [] ((kn o.aE).length) (λg wr=>∃j:N,j<=(kn o.aE).length/\g=(kn o.aE).length-j/\EW w c A sh.length t o r j (kn o.aE) wr)
 case atStart=>exact⟨0,aw _,T,c5⟩
 case round =>
  clear c5;obtain⟨j,hj,rfl,a1⟩:=hrel;have p:=M a1;have R:=M a1.next;obtain⟨o0,o1,o2,o3,o4,o5⟩:=av a1.next.op;obtain⟨k0,k1,k2,k3,k4,k5,k6,k7,k8,kf⟩:=a1.next.cf.cells;by_cases E:j<(kn o.aE).length
  ·clear a1;obtain⟨x,hb⟩:∃x,(kn o.aE)[j]?=some x:=⟨_,cR E⟩;have b:(str (kn o.aE))[j]'(by rw[jl];exact E)=x:=JJ (kn o.aE) j x hb _;have F:=HH.2.1 x (cZ hb);rcases Jc o.aE c7 x (cZ hb)with rfl|rfl|rfl|rfl|rfl|rfl|rfl
   ·have n:=λty=>kL (P:=prog) ty p.it (by rw[jl];exact E) (by rw[b];decide);rw[b]at n;obtain⟨b0,b1⟩:=F.1 T;have d0:decide (o.a<0)=false:=by simp;omega
    have d1:decide (o.a>=c.ak)=false:=by simp;omega
    have d2:decide (c.ak<=o.a)=false:=by simp;omega
    clear F hb b;go_wp2_with fail;refine(nz (w.heap.size+1) 97 1 _ (by simp)).mono ?_;rintro e w4⟨rfl,rfl⟩;go_wp2_with fail;go_roundg ((kn o.aE).length-(j+1))
    case measure=>omega
    case rel=>exact⟨j+1,by omega,T,R⟩
   ·have n:=λty=>kL (P:=prog) ty p.it (by rw[jl];exact E) (by rw[b];decide);rw[b]at n;obtain⟨b0,b1⟩:=F.2.1 T;have d0:decide (o.b<0)=false:=by simp;omega
    have d1:decide (o.b>=c.ak)=false:=by simp;omega
    have d2:decide (c.ak<=o.b)=false:=by simp;omega
    clear F hb b;go_wp2_with fail;refine(nz (w.heap.size+1) 98 2 _ (by simp)).mono ?_;rintro e w4⟨rfl,rfl⟩;go_wp2_with fail;go_roundg ((kn o.aE).length-(j+1))
    case measure=>omega
    case rel=>exact⟨j+1,by omega,T,R⟩
   ·have n:=λty=>kL (P:=prog) ty p.it (by rw[jl];exact E) (by rw[b];decide);rw[b]at n;clear F hb b;go_wp2_with fail;go_roundg ((kn o.aE).length-(j+1))
    case measure=>omega
    case rel=>exact⟨j+1,by omega,T,R⟩
   ·have n:=λty=>kL (P:=prog) ty p.it (by rw[jl];exact E) (by rw[b];decide);rw[b]at n;obtain⟨b0,b1⟩:=F.2.2.1 T;have d0:decide (o.c<0)=false:=by simp;omega
    have d1:decide (o.c>=c.ak)=false:=by simp;omega
    have d2:decide (c.ak<=o.c)=false:=by simp;omega
    clear F hb b;go_wp2_with fail;refine(nz (w.heap.size+1) 99 3 _ (by simp)).mono ?_;rintro e w4⟨rfl,rfl⟩;go_wp2_with fail;go_roundg ((kn o.aE).length-(j+1))
    case measure=>omega
    case rel=>exact⟨j+1,by omega,T,R⟩
   ·have n:=λty=>kL (P:=prog) ty p.it (by rw[jl];exact E) (by rw[b];decide);rw[b]at n;clear F hb b;go_wp2_with fail;go_roundg ((kn o.aE).length-(j+1))
    case measure=>omega
    case rel=>exact⟨j+1,by omega,T,R⟩
   ·have n:=λty=>kL (P:=prog) ty p.it (by rw[jl];exact E) (by rw[b];decide);rw[b]at n;obtain⟨b0,b1⟩:=F.2.2.2 T;have d0:decide (o.n<0)=false:=by simp;omega
    have d1:decide (o.n>=c.ap)=false:=by simp;omega
    have d2:decide (c.ap<=o.n)=false:=by simp;omega
    clear F hb b;go_wp2_with fail;refine(nz (w.heap.size+1) 103 4 _ (by simp)).mono ?_;rintro e w4⟨rfl,rfl⟩;go_wp2_with fail;go_roundg ((kn o.aE).length-(j+1))
    case measure=>omega
    case rel=>exact⟨j+1,by omega,T,R⟩
   ·have n:=λty=>kL (P:=prog) ty p.it (by rw[jl];exact E) (by rw[b];decide);rw[b]at n;clear F hb b;go_wp2_with fail;go_roundg ((kn o.aE).length-(j+1))
    case measure=>omega
    case rel=>exact⟨j+1,by omega,T,R⟩
  ·have n:=λty=>uR (P:=prog) ty p.it (by rw[jl];exact E);clear E R o0 o1 o2 o3 o4 o5 k0 k1 k2 k3 k4 k5 k6 k7 k8 kf;obtain⟨o0,o1,o2,o3,o4,o5⟩:=av a1.op;obtain⟨k0,k1,k2,k3,k4,k5,k6,k7,k8,kf⟩:=a1.cf.cells;clear a1;by_cases X:o.aE=1\/o.aE=2
   ·rcases X with i|i
    ·have e3:=M i;obtain⟨k,s,u⟩:=HH.2.2 (.inl i);have d:s.a=false:=by rw[u.jY,i];rfl
     obtain⟨z,hz⟩:∃z,bM false s.bs.length 0=z:=⟨_,T⟩;obtain⟨y,hy⟩:∃y,cE false s.bs.length o.n=y:=⟨_,T⟩;have b2:0<=z:=by have:=u.Et;rw[d,i]at this;rw[<-hz];exact this
     have a4:z<=c.ag:=by have:=u.Hq;rw[d,i]at this;rw[<-hz];exact this
     have a5:y<=c.al:=by have:=u.al;rw[d]at this;rw[<-hy];exact this
     have b3:∀(A:Option Addr) (t:N) (w:Y),C 239 #[nP false A s.bs.length t,jb o] w λe G=>e=O (J z)/\ae w G:=λA t w=>by
      have:=rj o s A t w u.eT 0 (by rw[i];rfl);rw[d,hz]at this;exact this
     have a2:∀(A:Option Addr) (t:N) (w:Y),C 240 #[nP false A s.bs.length t,J o.n] w λe G=>e=O (J y)/\ae w G:=λA t w=>by
      have:=lM false A s.bs.length t o.n w (by have:=u.eT;omega);rw[hy]at this;exact this
     have HM:=M (aq u.aM (aq u.eT (aq d (aq b3 a2))));rw[u.b]at o2;have hb:=M u.b;have e1:((o.aE:V) !=1)=false:=by rw[i];rfl
     have e8:((o.aE:V)==2)=false:=by rw[i];rfl
     have d0:decide (z<0)=false:=by simpa using b2
     have d1:decide (z>c.ag)=false:=by simpa using a4
     have d2:decide (c.ag<z)=false:=by simpa using a4
     have d3:decide (y>c.al)=false:=by simpa using a5
     have d4:decide (c.al<y)=false:=by simpa using a5
     clear u d b2 a4 a5 i hz hy b3 a2;go_wp2_with fail;refine(iy c _ sh k s wr (HL wr p.pu) HM.1 HM.2.1).mono ?_;rw[HM.out.2.2.1];rintro e w4⟨Q,m,rfl,a8,c2,-⟩;have a7:=M (p.aj a8);clear a8 c2 o0 o1 o2 o3 o4 o5 k0 k1 k2 k3 k4 k5 k6 k7 k8 kf;go_upto_region 21 with fail;obtain⟨a9,-,b4⟩:=Ac.aO w4 #[L false,Z Q s.bs.length m] 35;have H:=M (a7.aj a9);have K:=M b4;clear a9 b4 a7;generalize w4.alloc _=w5 at *;generalize w4.heap.size=X5 at *;obtain⟨o0,o1,o2,o3,o4,o5⟩:=av H.op;obtain⟨k0,k1,k2,k3,k4,k5,k6,k7,k8,kf⟩:=H.cf.cells;have y0:w5.cell? (I X5 0)=some (L false):=by rw[bK K.out];rfl
     have y1:w5.cell? (I X5 1)=some (Z Q s.bs.length m):=by rw[bK K.out];rfl
     go_wp2_with fail;refine(HM.2.2.2.1 Q m w5).mono ?_;rintro e w6⟨rfl,a3⟩;have b8:=M (H.aj a3);have b9:=M (a3.bF K);clear a3 H K y0 y1 o0 o1 o2 o3 o4 o5 k0 k1 k2 k3 k4 k5 k6 k7 k8 kf;go_wp2_with fail;refine bB (λG=>EW w c A sh.length t o r j (kn o.aE) G/\G.heap[X5]?=some (D #[L false,Z Q s.bs.length m] 35 (0,0))) ⟨b8.aj ((bo w6).drewN 1),b9⟩ (by kernel_rfl) (by kernel_rfl) ?_;intro S f _ B X;have o0:=λs=>(av (B s).1.op).1;have o1:=λs=>(av (B s).1.op).2.1;have o2:=λs=>(av (B s).1.op).2.2.1;have o3:=λs=>(av (B s).1.op).2.2.2.1;have o4:=λs=>(av (B s).1.op).2.2.2.2.1;have o5:=λs=>(av (B s).1.op).2.2.2.2.2;have k0:=λs=>(B s).1.cf.cells.1;have k1:=λs=>(B s).1.cf.cells.2.1;have y0:∀q,(f q).cell? (I X5 0)=some (L false):=λq=>by rw[bK (B q).2];rfl
     have y1:∀q,(f q).cell? (I X5 1)=some (Z Q s.bs.length m):=λq=>by rw[bK (B q).2];rfl
     have HF:=M B;have a6:=M X;clear B X
     repeat(go_big_quiet_step ((first|(go_at_call 239;exact aN a6 (HF _) (λG hD k=>⟨hD.1.aj k,k.bF hD.2⟩) (HM.2.2.2.1 Q m _))|(go_at_call 240;exact aN a6 (HF _) (λG hD k=>⟨hD.1.aj k,k.bF hD.2⟩) (HM.2.2.2.2 Q m _)))))
     refine wpQuiet_nil ?_;rintro w7⟨q,rfl⟩;have P7:=M (HF q).1.pu;clear o0 o1 o2 o3 o4 o5 k0 k1 y0 y1;go_wp2_with fail;go_ret;exact⟨T,P7⟩
    ·have e3:=M i;obtain⟨k,s,u⟩:=HH.2.2 (.inr i);have d:s.a=true:=by rw[u.jY,i];rfl
     obtain⟨z,hz⟩:∃z,bM true s.bs.length o.n=z:=⟨_,T⟩;obtain⟨y,hy⟩:∃y,cE true s.bs.length o.n=y:=⟨_,T⟩;have b2:0<=z:=by have:=u.Et;rw[d,i]at this;rw[<-hz];exact this
     have a4:z<=c.ag:=by have:=u.Hq;rw[d,i]at this;rw[<-hz];exact this
     have a5:y<=c.al:=by have:=u.al;rw[d]at this;rw[<-hy];exact this
     have b3:∀(A:Option Addr) (t:N) (w:Y),C 239 #[nP true A s.bs.length t,jb o] w λe G=>e=O (J z)/\ae w G:=λA t w=>by
      have:=rj o s A t w u.eT o.n (by rw[i];rfl);rw[d,hz]at this;exact this
     have a2:∀(A:Option Addr) (t:N) (w:Y),C 240 #[nP true A s.bs.length t,J o.n] w λe G=>e=O (J y)/\ae w G:=λA t w=>by
      have:=lM true A s.bs.length t o.n w (by have:=u.eT;omega);rw[hy]at this;exact this
     have HM:=M (aq u.aM (aq u.eT (aq d (aq b3 a2))));rw[u.b]at o2;have hb:=M u.b;have e1:((o.aE:V) !=1)=true:=by rw[i];rfl
     have e2:((o.aE:V) !=2)=false:=by rw[i];rfl
     have e8:((o.aE:V)==2)=true:=by rw[i];rfl
     have d0:decide (z<0)=false:=by simpa using b2
     have d1:decide (z>c.ag)=false:=by simpa using a4
     have d2:decide (c.ag<z)=false:=by simpa using a4
     have d3:decide (y>c.al)=false:=by simpa using a5
     have d4:decide (c.al<y)=false:=by simpa using a5
     clear u d b2 a4 a5 i hz hy b3 a2;go_wp2_with fail;refine(iy c _ sh k s wr (HL wr p.pu) HM.1 HM.2.1).mono ?_;rw[HM.out.2.2.1];rintro e w4⟨Q,m,rfl,a8,c2,-⟩;have a7:=M (p.aj a8);clear a8 c2 o0 o1 o2 o3 o4 o5 k0 k1 k2 k3 k4 k5 k6 k7 k8 kf;go_upto_region 21 with fail;obtain⟨a9,-,b4⟩:=Ac.aO w4 #[L true,Z Q s.bs.length m] 35;have H:=M (a7.aj a9);have K:=M b4;clear a9 b4 a7;generalize w4.alloc _=w5 at *;generalize w4.heap.size=X5 at *;obtain⟨o0,o1,o2,o3,o4,o5⟩:=av H.op;obtain⟨k0,k1,k2,k3,k4,k5,k6,k7,k8,kf⟩:=H.cf.cells;have y0:w5.cell? (I X5 0)=some (L true):=by rw[bK K.out];rfl
     have y1:w5.cell? (I X5 1)=some (Z Q s.bs.length m):=by rw[bK K.out];rfl
     go_wp2_with fail;refine(HM.2.2.2.1 Q m w5).mono ?_;rintro e w6⟨rfl,a3⟩;have b8:=M (H.aj a3);have b9:=M (a3.bF K);clear a3 H K y0 y1 o0 o1 o2 o3 o4 o5 k0 k1 k2 k3 k4 k5 k6 k7 k8 kf;go_wp2_with fail;refine bB (λG=>EW w c A sh.length t o r j (kn o.aE) G/\G.heap[X5]?=some (D #[L true,Z Q s.bs.length m] 35 (0,0))) ⟨b8.aj ((bo w6).drewN 1),b9⟩ (by kernel_rfl) (by kernel_rfl) ?_;intro S f _ B X;have o0:=λs=>(av (B s).1.op).1;have o1:=λs=>(av (B s).1.op).2.1;have o2:=λs=>(av (B s).1.op).2.2.1;have o3:=λs=>(av (B s).1.op).2.2.2.1;have o4:=λs=>(av (B s).1.op).2.2.2.2.1;have o5:=λs=>(av (B s).1.op).2.2.2.2.2;have k0:=λs=>(B s).1.cf.cells.1;have k1:=λs=>(B s).1.cf.cells.2.1;have y0:∀q,(f q).cell? (I X5 0)=some (L true):=λq=>by rw[bK (B q).2];rfl
     have y1:∀q,(f q).cell? (I X5 1)=some (Z Q s.bs.length m):=λq=>by rw[bK (B q).2];rfl
     have HF:=M B;have a6:=M X;clear B X
     repeat(go_big_quiet_step ((first|(go_at_call 239;exact aN a6 (HF _) (λG hD k=>⟨hD.1.aj k,k.bF hD.2⟩) (HM.2.2.2.1 Q m _))|(go_at_call 240;exact aN a6 (HF _) (λG hD k=>⟨hD.1.aj k,k.bF hD.2⟩) (HM.2.2.2.2 Q m _)))))
     refine wpQuiet_nil ?_;rintro w7⟨q,rfl⟩;have P7:=M (HF q).1.pu;clear o0 o1 o2 o3 o4 o5 k0 k1 y0 y1;go_wp2_with fail;go_ret;exact⟨T,P7⟩
   ·have e1:((o.aE:V) !=1)=true:=by simp;omega
    have e2:((o.aE:V) !=2)=true:=by simp;omega
    clear X;go_wp2_with fail;go_ret;exact⟨T,p.pu⟩
end tx
namespace tx
open Ac (dx jb gC av)
theorem pm(c:Cn)(v:Value)(sh:List Sh)(o:dx)(k:N)(s:Sh)(z y:V)(w:Y)(hl:dm w w.heap.size v sh)(R:bk c sh=0)(j:o.aE=1)(hs:∀x∈kn o.aE,oF c o x)(l:Made c sh o k s)(hz:bM false s.bs.length 0=z)(hy:cE false s.bs.length o.n=y):C 247 #[hI c v,jb o] w λe a=>e=O (.tuple #[J z,J y])/\ae w a:=by
 obtain⟨A,b,rfl⟩:∃A b,v=Z A sh.length b:=by
  obtain⟨⟨A,b,rfl,_⟩,_⟩:=hl;exact⟨A,b,T⟩
 obtain⟨hp,a9,P,X⟩:=Ac.cC w #[J c.ag,J c.al,J c.ap,J c.ao,J c.ak,J c.aB,J c.be,J c.di,Z A sh.length b] #[J o.aE,J o.a,J o.b,J o.c,J o.n,U o.x o.y] 24 32;have HL:=M (λ(a:Y) (hp:ae w a)=>hl.pure hp);have HR:Hid (Row w w.heap.size c (Z A sh.length b) _):=M ⟨ci _,P,hp⟩;have HO:=M X;have g:s.a=false:=by rw[l.jY,j];rfl
 have a1:∀(A:Option Addr) (b:N) (w:Y),C 239 #[nP false A s.bs.length b,jb o] w λe a=>e=O (J z)/\ae w a:=λA b w=>by
  have:=rj o s A b w l.eT 0 (by rw[j];rfl);rw[g,hz]at this;exact this
 have m:∀(A:Option Addr) (b:N) (w:Y),C 240 #[nP false A s.bs.length b,J o.n] w λe a=>e=O (J y)/\ae w a:=λA b w=>by
  have:=lM false A s.bs.length b o.n w (by have:=l.eT;omega);rw[hy]at this;exact this
 have a3:Hid (∀a:Y,ae w a->C 177 #[hI c (Z A sh.length b),jb o] a λe b0=>e=O (J 0)/\ae a b0):=M (λa a7=>mR c _ sh o a (hl.pure a7) R (by omega) (by omega) hs (λ_=>⟨k,s,l⟩));have F:=M (aq l.aM (aq l.eT (aq g (aq a1 m))));have hb:=M l.b;have e1:((o.aE:V) !=1)=false:=by rw[j];rfl
 clear hl R hs l hp a9 P X g j hz hy a1 m;go_enter func247,ntmps247;go_upto_region 1 with fail;generalize(w.alloc _).alloc _=W at *;obtain⟨o0,o1,E,o3,o4,o5⟩:=av HO;obtain⟨k0,k1,k2,k3,k4,k5,k6,k7,k8,kf⟩:=HR.cells;go_wp2_with fail;refine(a3 W HR.2.2).mono ?_;rintro e w2⟨rfl,r⟩;have i:=M (HR.aj r);have n:=M (r.bF HO);clear r HR HO o0 o1 E o3 o4 o5 k0 k1 k2 k3 k4 k5 k6 k7 k8 kf;obtain⟨o0,o1,E,o3,o4,o5⟩:=av n;rw[hb.out]at E;obtain⟨k0,k1,k2,k3,k4,k5,k6,k7,k8,kf⟩:=i.cells;go_wp2_with fail;refine(iy c _ sh k s w2 (HL w2 i.2.2) F.1 F.2.1).mono ?_;rw[F.out.2.2.1];rintro e w4⟨B,d,rfl,t,a8,-⟩;have K:=M (i.aj t);have H:=M (t.bF n);clear t a8 i n o0 o1 E o3 o4 o5 k0 k1 k2 k3 k4 k5 k6 k7 k8 kf;go_upto_region 4 with fail;obtain⟨u,-,a2⟩:=Ac.aO w4 #[L false,Z B s.bs.length d] 35;have a5:=M (K.2.2.MD u);have a4:=M (u.bF H);have a6:=M a2;clear u a2 K H;generalize w4.alloc _=w5 at *;generalize w4.heap.size=X5 at *;refine bB (λa=>ae w a/\a.heap[w.heap.size+1]?=some (Jp o)/\a.heap[X5]?=some (D #[L false,Z B s.bs.length d] 35 (0,0))) ⟨a5.drewN 1,a4,a6⟩ (by kernel_rfl) (by kernel_rfl) ?_;intro S f _ h Q;have o0:=λs=>(av (h s).2.1).1;have o1:=λs=>(av (h s).2.1).2.1;have E:=λs=>(av (h s).2.1).2.2.1;have o3:=λs=>(av (h s).2.1).2.2.2.1;have o4:=λs=>(av (h s).2.1).2.2.2.2.1;have o5:=λs=>(av (h s).2.1).2.2.2.2.2;have y0:∀q,(f q).cell? (I X5 0)=some (L false):=λq=>by rw[bK (h q).2.2];rfl
 have y1:∀q,(f q).cell? (I X5 1)=some (Z B s.bs.length d):=λq=>by rw[bK (h q).2.2];rfl
 have HF:=M h;have G:=M Q;clear h Q
 repeat(go_big_quiet_step ((first|(go_at_call 239;exact aN G (HF _) (λa p k=>⟨p.1.MD k,k.bF p.2.1,k.bF p.2.2⟩) (F.2.2.2.1 B d _))|(go_at_call 240;exact aN G (HF _) (λa p k=>⟨p.1.MD k,k.bF p.2.1,k.bF p.2.2⟩) (F.2.2.2.2 B d _)))))
 refine wpQuiet_nil ?_;rintro w7⟨q,rfl⟩;have P7:=M (HF q).1;clear o0 o1 E o3 o4 o5 y0 y1;go_wp2_with fail;go_ret2;exact⟨T,P7⟩
theorem yu(c:Cn)(v:Value)(sh:List Sh)(o:dx)(k:N)(s:Sh)(z y:V)(w:Y)(hl:dm w w.heap.size v sh)(R:bk c sh=0)(h:o.aE=2)(hs:∀x∈kn o.aE,oF c o x)(l:Made c sh o k s)(hz:bM true s.bs.length o.n=z)(hy:cE true s.bs.length o.n=y):C 247 #[hI c v,jb o] w λe a=>e=O (.tuple #[J z,J y])/\ae w a:=by
 obtain⟨A,b,rfl⟩:∃A b,v=Z A sh.length b:=by
  obtain⟨⟨A,b,rfl,_⟩,_⟩:=hl;exact⟨A,b,T⟩
 obtain⟨hp,a9,P,X⟩:=Ac.cC w #[J c.ag,J c.al,J c.ap,J c.ao,J c.ak,J c.aB,J c.be,J c.di,Z A sh.length b] #[J o.aE,J o.a,J o.b,J o.c,J o.n,U o.x o.y] 24 32;have HL:=M (λ(a:Y) (hp:ae w a)=>hl.pure hp);have HR:Hid (Row w w.heap.size c (Z A sh.length b) _):=M ⟨ci _,P,hp⟩;have HO:=M X;have g:s.a=true:=by rw[l.jY,h];rfl
 have a1:∀(A:Option Addr) (b:N) (w:Y),C 239 #[nP true A s.bs.length b,jb o] w λe a=>e=O (J z)/\ae w a:=λA b w=>by
  have:=rj o s A b w l.eT o.n (by rw[h];rfl);rw[g,hz]at this;exact this
 have m:∀(A:Option Addr) (b:N) (w:Y),C 240 #[nP true A s.bs.length b,J o.n] w λe a=>e=O (J y)/\ae w a:=λA b w=>by
  have:=lM true A s.bs.length b o.n w (by have:=l.eT;omega);rw[hy]at this;exact this
 have a3:Hid (∀a:Y,ae w a->C 177 #[hI c (Z A sh.length b),jb o] a λe b0=>e=O (J 0)/\ae a b0):=M (λa a7=>mR c _ sh o a (hl.pure a7) R (by omega) (by omega) hs (λ_=>⟨k,s,l⟩));have F:=M (aq l.aM (aq l.eT (aq g (aq a1 m))));have hb:=M l.b;have e1:((o.aE:V) !=1)=true:=by rw[h];rfl
 have e2:((o.aE:V) !=2)=false:=by rw[h];rfl
 clear hl R hs l hp a9 P X g h hz hy a1 m;go_enter func247,ntmps247;go_upto_region 1 with fail;generalize(w.alloc _).alloc _=W at *;obtain⟨o0,o1,E,o3,o4,o5⟩:=av HO;obtain⟨k0,k1,k2,k3,k4,k5,k6,k7,k8,kf⟩:=HR.cells;go_wp2_with fail;refine(a3 W HR.2.2).mono ?_;rintro e w2⟨rfl,r⟩;have j:=M (HR.aj r);have n:=M (r.bF HO);clear r HR HO o0 o1 E o3 o4 o5 k0 k1 k2 k3 k4 k5 k6 k7 k8 kf;obtain⟨o0,o1,E,o3,o4,o5⟩:=av n;rw[hb.out]at E;obtain⟨k0,k1,k2,k3,k4,k5,k6,k7,k8,kf⟩:=j.cells;go_wp2_with fail;refine(iy c _ sh k s w2 (HL w2 j.2.2) F.1 F.2.1).mono ?_;rw[F.out.2.2.1];rintro e w4⟨B,d,rfl,t,a8,-⟩;have K:=M (j.aj t);have H:=M (t.bF n);clear t a8 j n o0 o1 E o3 o4 o5 k0 k1 k2 k3 k4 k5 k6 k7 k8 kf;go_upto_region 4 with fail;obtain⟨u,-,a2⟩:=Ac.aO w4 #[L true,Z B s.bs.length d] 35;have a5:=M (K.2.2.MD u);have a4:=M (u.bF H);have a6:=M a2;clear u a2 K H;generalize w4.alloc _=w5 at *;generalize w4.heap.size=X5 at *;refine bB (λa=>ae w a/\a.heap[w.heap.size+1]?=some (Jp o)/\a.heap[X5]?=some (D #[L true,Z B s.bs.length d] 35 (0,0))) ⟨a5.drewN 1,a4,a6⟩ (by kernel_rfl) (by kernel_rfl) ?_;intro S f _ i Q;have o0:=λs=>(av (i s).2.1).1;have o1:=λs=>(av (i s).2.1).2.1;have E:=λs=>(av (i s).2.1).2.2.1;have o3:=λs=>(av (i s).2.1).2.2.2.1;have o4:=λs=>(av (i s).2.1).2.2.2.2.1;have o5:=λs=>(av (i s).2.1).2.2.2.2.2;have y0:∀q,(f q).cell? (I X5 0)=some (L true):=λq=>by rw[bK (i q).2.2];rfl
 have y1:∀q,(f q).cell? (I X5 1)=some (Z B s.bs.length d):=λq=>by rw[bK (i q).2.2];rfl
 have HF:=M i;have G:=M Q;clear i Q
 repeat(go_big_quiet_step ((first|(go_at_call 239;exact aN G (HF _) (λa p k=>⟨p.1.MD k,k.bF p.2.1,k.bF p.2.2⟩) (F.2.2.2.1 B d _))|(go_at_call 240;exact aN G (HF _) (λa p k=>⟨p.1.MD k,k.bF p.2.1,k.bF p.2.2⟩) (F.2.2.2.2 B d _)))))
 refine wpQuiet_nil ?_;rintro w7⟨q,rfl⟩;have P7:=M (HF q).1;clear o0 o1 E o3 o4 o5 y0 y1;go_wp2_with fail;go_ret2;exact⟨T,P7⟩
