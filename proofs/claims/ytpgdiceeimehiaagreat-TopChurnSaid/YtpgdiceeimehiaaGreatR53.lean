/- Part 53 of the proof of spotop.TopChurn. -/
import Derived.Lib.RabinKarpLaws
import Derived.Test.YtpgdiceeimehiaaGreatR52
set_option maxRecDepth 100000
set_option maxHeartbeats 16000000
set_option linter.all false
open Go.Proofs.Tryz
namespace Go.Proofs.YtpgdiceeimehiaaGreat
open RowKit
namespace topChurn
open fG
open Ac (Vl dx CT aA jb dj)
open jH
structure Lw(w1:Y)(l:List dx)(Nq:N)(v:Value)(wr:Y):Prop where
 pu:ae w1 wr
 len:l.length=Nq
 own:wr.ownsRow w1.heap.size 32 6 v Nq (dj l)
theorem Lw.pure{w1 w c:Y}{l:List dx}{a:N}{v:Value}(h:Lw w1 l a v w)(b:ae w c):Lw w1 l a v c:=⟨h.pu.MD b,h.len,b.own h.own (λ_ _ f=>f)⟩
theorem Lw.Kj{w1 wr d:Y}{l:List dx}{o:dx}{a c n9:N}{A A9:Option Addr}{i:Obj}{cs:List Value}(h:Lw w1 l a (Z A a c) wr)(b:d.ownsRow w1.heap.size 32 6 (Z A9 (a+1) n9) (a+1) (dj l++cs))(f:cs=Ac.BK o)(g:(wr.alloc i).grownBy d (Z A a c).ownBlock):Lw w1 (l++[o]) (a+1) (Z A9 (a+1) n9) d:=by
 refine⟨(h.pu.alloc _).grown g (λq j e=>by have:=(h.own.lt q e).1;omega),by rw[iB,h.len];rfl,?_⟩;rw[show dj (l++[o])=dj l++Ac.BK o from by simp[dj],<-f];exact b
theorem Lw.src{w1 w:Y}{l:List dx}{b:N}{v:Value}(h:Lw w1 l b v w)(i:0<b):∃g c,v=Z (some (I g 0)) b c/\g<w.heap.size/\jd w 6 (some ⟨g,0,none⟩) b (dj l):=by
 have a:(dj l).length=b*6:=by rw[Ac.Jr,h.len]
 obtain⟨g,d,rfl,f⟩:=h.own.form (by omega);refine⟨g,d,T,(h.own.lt g T).2,a,λ_=>⟨g,0,T,λj u e=>?_⟩⟩;have k:j<b*6:=by rw[<-a];exact(dH.1 e).1
 rw[br,h.own.cellAt j (by omega)];exact e
structure It(wr:Y)(Yq:N)(kd k n:V)(w':Y):Prop where
 pu:ae wr w'
 op:w'.heap[Yq]?=some (D #[J kd,J 0,J k,J 0,J n,U 0 0] 32 (0,0))
 le:wr.heap.size<=Yq
variable{wr w' i:Y}{Yq:N}{kd k n:V}
theorem It.aj(h:It wr Yq kd k n w')(q:ae w' i):It wr Yq kd k n i:=⟨h.pu.MD q,(q.block Yq (bR.1 h.op).1 (λf=>f)).trans h.op,h.le⟩
theorem It.new(wr:Y)(k:V):It wr wr.heap.size 1 k 0 (wr.alloc (D #[J 1,J 0,J k,J 0,J 0,U 0 0] 32)):=⟨(bo _).alloc _,ai _ _,ci _⟩
theorem It.cells(h:It wr Yq kd k n w'):w'.cell? (I Yq 0)=some (J kd)/\w'.cell? (I Yq 1)=some (J 0)/\w'.cell? (I Yq 2)=some (J k)/\w'.cell? (I Yq 3)=some (J 0)/\w'.cell? (I Yq 4)=some (J n)/\w'.cell? (I Yq 5)=some (U 0 0)/\∀q,w'.frozen? (I Yq q)=false:=by
 refine⟨?_,?_,?_,?_,?_,?_,λq=>ey q h.op⟩<;>(rw[bK h.op];rfl)
theorem It.yR(h:It wr Yq kd k n w')(a:V):It wr Yq a k n (w'.setCell (I Yq 0) (J a)):=by
 refine⟨h.pu.setCell (λb=>Nat.not_lt.2 h.le b) _,?_,h.le⟩;simp[World.setCell,gV,h.op]
theorem It.K5(h:It wr Yq kd k n w')(a:V):It wr Yq kd k a (w'.setCell (I Yq 4) (J a)):=by
 refine⟨h.pu.setCell (λb=>Nat.not_lt.2 h.le b) _,?_,h.le⟩;simp[World.setCell,gV,h.op]
theorem It.K6(h:It wr Yq kd k n w'){a:N}(d:wr.heap.size<=a)(b:a≠Yq)(j:N)(u:Value):It wr Yq kd k n (w'.setCell (I a j) u):=by
 refine⟨h.pu.setCell (λc=>Nat.not_lt.2 d c) _,?_,h.le⟩;simp[World.setCell,gV,h.op,b]
theorem Kg{w2 a:Y}{x y:Value}{Tq:TypeId}(b:ae (w2.alloc (D #[x,y] Tq)).drew a):a.cell? (I w2.heap.size 0)=some x/\a.cell? (I w2.heap.size 1)=some y/\a.frozen? (I w2.heap.size 0)=false/\a.frozen? (I w2.heap.size 1)=false:=by
 have h:=b.bF (ai w2 (D #[x,y] Tq));refine⟨?_,?_,ey _ h,ey _ h⟩<;>(rw[bK h];rfl)
theorem Kf{b:Y}{a:N}{x y u:Value}(h:b.cell? (I a 0)=some u):((b.setCell (I a 0) x).setCell (I a 1) y).cell? (I a 0)=some x:=by
 exact(World.cell?_setCell_other _ ⟨a,1,none⟩ ⟨a,0,none⟩ y (by intro e;injection e with _ e;cases e)).trans (World.cell?_setCell_same' _ _ _ (by rw[h];rfl))
theorem It.KT{w2 b:Y}{o:Obj}{x y:Value}(h:It wr Yq kd k n w2)(d:ae (w2.alloc o).drew b):It wr Yq kd k n ((b.setCell (I w2.heap.size 0) x).setCell (I w2.heap.size 1) y):=by
 have c:=(bR.1 h.op).1;have a:=h.pu.size;exact((h.aj (ae.MD (((bo _).alloc o).drewN 1) d)).K6 a (by omega) 0 x).K6 a (by omega) 1 y
theorem Bq(c:Cn)(f:Option Addr)(g:N)(sh:List Sh)(k:V)(w:Y)(h:∀w',ae w w'->dm w' w'.heap.size (Z f sh.length g) sh):∃(a:Bool) (B:Option Addr) (n d:N) (l:Bool),(l&&a)=oJ sh k /\
  ∀w',ae w w'->C 7 #[hI c (Z f sh.length g),J k] w' λe i=>e=O (.tuple #[.agg #[L a,Z B n d],L l])/\ae w' i:=by
 cases b:mI sh k with
 | none=>exact⟨false,none,0,0,false,by simp[oJ,b],λw' _=>Es c f g sh k w' b⟩
 | some s =>
  obtain⟨j,rfl,m⟩:=nJ b;obtain⟨B,d,p,_⟩:=(h w (bo _)).2 s (cZ m);exact⟨s.a,B,_,d,true,by simp[oJ,b],λw' o=>by rw[<-p];exact Er c f g sh _ w' s (h w' o) b⟩
abbrev pr(ks ns:List Int)(t:N):List (Int × Int):=(ks.zip ns).take t
theorem GG{a b:List Int}{t:N}{x y:V}(c:a[t]?=some x)(d:b[t]?=some y):pr a b (t+1)=pr a b t++[(x,y)]:=by
 rw[pr,cD];simp[pr,List.zip,List.getElem?_zipWith,c,d]
theorem Hr{w w':Y}{A:Option Addr}{c:N}{xs:List Int}(h:eO w w.heap.size (Z A xs.length c) xs)(l:ae w w'){t:N}{x:V}(d:xs[t]?=some x):∃b off,A=some ⟨b,off,none⟩/\w'.cell? (I b (off+t))=some (J x)/\b<w.heap.size:=by
 obtain⟨o,p,e,q,r,s,g⟩:=h;injection e with e1 e2 e3;subst e1;have m:=(dH.1 d).1;obtain⟨b,off,rfl,a,j⟩:=g (by omega);refine⟨b,off,T,?_,a⟩;rw[l.cell a (λf=>f),j t m];simp[List.getD,d]
theorem KW(c:Cn)(W:Option Addr)(X:N)(sh:List Sh)(ps:List (Int × Int))(d:N)(f:Option Addr)(j:N)(w1 wr:Y)(h:Lw w1 (Ls c sh ps) d (Z f d j) wr)(hl:dm wr wr.heap.size (Z W sh.length X) sh)(m:bk c sh=0)(r:c.ag<=64)(B:ps.length<=60)
  (u:¬2*Mo c sh ps>c.ag-c.ao*c.aB) :
  C 9 #[hI c (Z W sh.length X),Z (some (I wr.heap.size 0)) 1 1] (wr.alloc (D #[Z f d j] 29)) λe w'=>∃E K b u P R,e=O (.tuple #[I u 0,J 0])/\E.Ok/\qU E K b/\E.Lq.length=d/\∀Q,ae Q wr->Lp Q E K b u P R 0 0 w':=by
 have p:ae wr (wr.alloc (D #[Z f d j] 29)):=(bo _).alloc _;have y:=lU m;have hg:=ai wr (D #[Z f d j] 29);have a:=h.len;have a3:=xM (c:=c) (sh:=sh) (ps:=ps);have z:ly (wr.alloc (D #[Z f d j] 29)) f j (Ls c sh ps):=by
  have q:=h.pure p;by_cases hN:0<d
  ·obtain⟨g,c',e,l,G⟩:=q.src hN;injection e with e1 e2 e3;subst e1;subst a;exact ly.of l G (by omega)
  ·obtain rfl:d=0:=by omega
   rcases q.own.2 with⟨H,-⟩|⟨g,a1,a2,H,-⟩
   ·injection H with e1 e2 e3;subst e1;subst e3;rw[eE.1 a];exact ly.nil _
   ·injection H with e1 e2 e3;subst e1;have l:=(q.own.lt g T).2;rw[eE.1 a];exact ly.of l (xh _) (by simp)
 refine(wu c _ sh (Ls c sh ps) c.ak.toNat wr.heap.size 1 f j _ (hl.pure p) m (by omega) (λs G=>by have:=(y.2.2.2.2.2.2.2.2.2 s G).1;omega) (by simp) (by rw[a,bK hg];rfl) z (by omega)).mono ?_;rintro e w'⟨K,S,v,P,R,b,rfl,F,hm,w,x,hK,a4,t,A⟩;have hE:=IZ (ps:=ps) (bp:=K.bp) t m r B (by omega) hK;refine⟨IY c K.ba (Ls c sh ps) K.bp,K,b,v,P,R,T,hE,⟨T,T,by omega,w,x⟩,a,λQ o=>⟨o.MD (p.MD F),⟨S,_,_,_,.no,⟨hm,trivial⟩,λk hk=>?_,.inl ⟨T,T,T,T,T⟩⟩,aw _⟩⟩;have h1:=A k hk;have h2:=o.size;have h3:=p.size;omega
end topChurn
namespace topChurn
open fG
open Ac (Vl dx CT aA jb dj)
open jH
theorem LC(c:Cn)(A0:Option Addr)(c0:N)(sh:List Sh)(A1:Option Addr)(c1:N)(B:List Int)(A2:Option Addr)(c2:N)(ns:List Int)(w:Y)(hl:dm w w.heap.size (Z A0 sh.length c0) sh)
  (j3:eO w w.heap.size (Z A1 B.length c1) B) (j4:eO w w.heap.size (Z A2 ns.length c2) ns) (h9:B.length<=60) (e5:B.length<=ns.length) (g4:bk c sh=0) (j0:c.ag<=64) :
  C 3 #[hI c (Z A0 sh.length c0),Z A1 B.length c1,Z A2 ns.length c2] w λe w'=>e=O (L true)/\ae w w':=by
 have b1:decide ((60:V)<(B.length:V))=false:=dT (by omega);have b2:decide (ns.length<B.length)=false:=dT (by omega);have b3:decide (c.ag>64)=false:=dT (by omega);have HL:=M (λ(w':Y) (hp:ae w w')=>hl.pure hp);have HS:=M (aq j3 j4);have HB:=M (aq g4 (aq j0 (aq h9 e5)));have H:=M (lU g4);clear hl j3 j4 h9 e5 g4 j0;go_enter func3,ntmps3;go_wp2_with fail;have hr:=Row.new w c (Z A0 sh.length c0);generalize w.alloc _=W at hr ⊢;obtain⟨X,hX⟩:∃X,w.heap.size=X:=⟨_,T⟩;rw[hX]at hr ⊢;have R:=M hr;clear hr;refine(hZ W).mono ?_;rintro e w0⟨rfl,c6⟩;have R0:=M (R.aj c6);clear c6 R;obtain⟨h,j,l,m,p,r,s,u,y,_⟩:=R0.cells;go_wp2_with fail;refine(gK c _ sh _ (HL _ R0.2.2)).mono ?_;rintro e w1⟨rfl,c6⟩;rw[HB.out.1];have R1:=M (R0.aj c6);clear c6 R0 h j l m p r s u y;obtain⟨h,j,l,m,p,r,s,u,y,_⟩:=R1.cells;have n4:=M (bR.1 R1.2.1).1;go_wp2_with fail;clear h j l m p r s u y b1 b2 b3;obtain⟨i0,g3,g6,g7,g9⟩:=aR zH;go_loopw [7,8,9] (λv ms i wr=>∃t Nq:N,t<=B.length/\i=J t/\ms=J (Mo c sh (pr B ns t))/\Lw w1 (Ls c sh (pr B ns t)) Nq v wr) (λ_ _ i _=>B.length-(intOf i).toNat)
 case atStart=>exact⟨0,0,by omega,T,T,bo _,T,jD _ _ _ _⟩
 case round =>
  obtain⟨t,Nq,ht,rfl,rfl,c5⟩:=hrel;obtain⟨A7,c7,rfl⟩:=aD c5.own;have hN:Nq<=60:=by have:=c5.len;have h2:=xM (c:=c) (sh:=sh) (ps:=pr B ns t);have:=HB.2.2.1;rw[jq]at h2;omega
  have LW:=M c5;have RR:=M (R1.aj c5.pu);clear c5;obtain⟨h,j,l,m,p,r,s,u,y,_⟩:=RR.cells;by_cases c4:t<B.length
  ·obtain⟨k,hk⟩:∃k,B[t]?=some k:=⟨_,cR c4⟩;obtain⟨n,hn⟩:∃n,ns[t]?=some n:=⟨_,cR (by have:=HB.2.2.2;omega)⟩;obtain⟨g1,o1,rfl,j9,n0⟩:=Hr HS.1 RR.2.2 hk;obtain⟨g2,o2,rfl,e4,n2⟩:=Hr HS.2 RR.2.2 hn;have o9:t<ns.length:=(dH.1 hn).1;have z:=M (GG hk hn);have n3:t<60:=by have:=HB.2.2.1;omega
   clear hk hn;go_upto_region 11 with fail;have a9:=M (It.new wr k);have k9:=M (aq RR.2.2.size LW.pu.size);generalize wr.alloc _=w2 at *;obtain⟨Yq,hY⟩:∃Yq,wr.heap.size=Yq:=⟨_,T⟩;rw[hY]at a9 ⊢;have R2:=M (RR.aj a9.pu);have x1:=a9.pu.aj j9;have x2:=a9.pu.aj e4;clear j9 h j l m p r s u y;obtain⟨h,j,l,m,p,r,s,u,y,_⟩:=R2.cells;go_cut [11,12] (λm7 m8 wx=>∃(Zq:N) (ok a:Bool),m7=I Zq 0/\m8=L ok/\wx.cell? (I Zq 0)=some (L a)/\(ok&&a)=oJ sh k/\It wr Yq 1 k 0 wx)
   case first =>
    have h3:ae w2 (w2.alloc (D #[L false,Z none 0 0] 35)):=(bo _).alloc _;have y1:=h3.aj x1;obtain⟨n5,n6,n7,n8,o0,o3,o4,o5,o6,_⟩:=(R2.aj h3).cells;clear h3;obtain⟨aS,BS,nS,dS,c8,a5,j6⟩:=Bq c A0 c0 sh k w HL;have c9:=M (aq (λW (q:ae w2 W)=>j6 W (R2.2.2.MD q)) a5);clear a5 j6;go_region_with (go_at_call 7;first|(refine(c9.1 w2.drew ((bo _).drewN 1)).mono ?_;rintro e w4⟨rfl,e3⟩)|(refine(c9.1 _ (((bo _).alloc _).drewN 1)).mono ?_;rintro e w4⟨rfl,e3⟩;obtain⟨z0,z1,q0,q1⟩:=Kg e3))
    all_goals
     go_wp2_with fail;go_meet
     first
      | exact⟨w4.heap.size,c8,aS,T,T,by simp,c9.2,(a9.aj (ae.MD ((bo _).drewN 1) e3)).aj ((bo _).alloc _)⟩
      | exact⟨w2.heap.size,c8,aS,T,T,Kf z0,c9.2,a9.KT e3⟩
   case rest =>
    obtain⟨Zq,c8,aS,rfl,rfl,hz,a5,e1⟩:=hcut;have HI:=M e1;have RX:=M (RR.aj e1.pu);have x3:=e1.pu.aj e4;clear e1 x1 x2 h j l m p r s u y;obtain⟨d0,d1,d2,d3,d4,d5,df⟩:=HI.cells;have h6:=df 0;have h7:=df 4;clear df;cases b0:oJ sh k with
    | false =>
     rw[b0]at a5;have b4:=M b0;clear b0;go_upto_region 12 with fail;go_cut [67] (λm9 wx=>m9=L false/\It wr Yq 1 k 0 wx)
     case first =>
      cases c8<;>cases aS
      case true.true=>cases a5
      all_goals
       go_wp2_with fail;go_meet;exact⟨T,HI⟩
     case rest =>
      obtain⟨rfl,hcut⟩:=hcut;have P:=M (hcut);clear hcut hz e4 x3 d0 d1 d2 d3 d4 d5 h6 h7;have S:=M (RR.aj P.pu);obtain⟨d0,d1,d2,d3,d4,d5,_⟩:=P.cells;obtain⟨h,j,l,m,p,r,s,u,y,_⟩:=S.cells;go_wp2_with fail;refine(DH c A0 c0 sh k n _ (HL _ S.2.2) HB.1 b4).mono ?_;rintro e w5⟨rfl,G⟩;have Q:=M (P.aj G);have e8:=M (S.aj G);clear G P S d0 d1 d2 d3 d4 d5 h j l m p r s u y;obtain⟨d0,d1,d2,d3,d4,d5,_⟩:=Q.cells;obtain⟨h,j,l,m,p,r,s,u,y,_⟩:=e8.cells;obtain⟨na,a6⟩:∃x,(nE c sh k n).1=x:=⟨_,T⟩;obtain⟨nb,a7⟩:∃x,(nE c sh k n).2=x:=⟨_,T⟩;rw[a6,a7];have A:=M (aq a6 a7);clear a6 a7;have g5:0<=c.al:=H.2.1.1;have m4:c.al<=2048:=H.2.1.2;have hq:c.al.tdiv 2=c.al/2:=dl g5;by_cases hz:na=0
      ·have HT:Hid (tk c sh (k,n)=false):=M (by simp[tk,A.out.1,hz]);have h4:(na==0)=true:=by simpa using hz
       clear hz;go_wp2_with fail;go_roundw
       case rel=>exact⟨t+1,Nq,by omega,by first|rfl|simp,by rw[z.out,vJ HT.out],by rw[z.out,zc HT.out];exact LW.pure Q.pu⟩
       case measure=>simp[intOf];omega
      ·have h4:(na==0)=false:=by simpa using hz
       by_cases f:nb>c.al/2
       ·have HT:Hid (tk c sh (k,n)=false):=M (by simp[tk,A.out.2,f]);have F:decide (nb>c.al/2)=true:=by simpa using f
        clear hz f;go_wp2_with fail;go_roundw
        case rel=>exact⟨t+1,Nq,by omega,by first|rfl|simp,by rw[z.out,vJ HT.out],by rw[z.out,zc HT.out];exact LW.pure Q.pu⟩
        case measure=>simp[intOf];omega
       ·have HT:Hid (tk c sh (k,n)=true):=M (by simp[tk,A.out.1,A.out.2,hz,f]);have F:decide (nb>c.al/2)=false:=by simpa using f
        clear hz f;have a4:=M (LW.pure Q.pu);go_wp2_with (at_builtin;refine bT _ T (.tmp 92) (.tmp 94) _ T w1.heap.size 32 i0 _ 6 56 underlying29 g3 g6 g7 g9 T (by omega) (Z A7 Nq c7) Nq _ T (aH a4.own _) _ 1 1 [J 1,J 0,J k,J 0,J 0,U 0 0] T (jd.cI _ _ #[J 1,J 0,J k,J 0,J 0,U 0 0] 6 1 _ T T) (by simp[Value.oneCell']) (by simp only[maxLen];omega) (by omega) (by have:=a4.pu.size;simp;omega) ?_;intro v9 w9 g b9 b7;obtain⟨A9,n9,rfl⟩:=aD g;have e7:=M (a4.Kj (o:=gC sh k n) g (by rw[Gx n b4.out];rfl) b9);clear g b9 b7;go_frame);go_roundw
        case rel=>exact⟨t+1,Nq+1,by omega,by first|rfl|simp,(ay (λx=>J (max (Mo c sh (pr B ns t)) x)) A.1.symm).trans (by rw[z.out,xN HT.out]),by rw[z.out,BU HT.out];exact e7⟩
        case measure=>simp[intOf];omega
    | true =>
     rw[b0]at a5;have b4:=M b0;clear b0;obtain⟨rfl,rfl⟩:c8=true/\aS=true:=by simpa using a5
     have y3:(wc.setCell (I Yq 0) (J 2)).cell? (I g2 (o2+t))=some (J n):=(World.cell?_setCell_other _ ⟨Yq,0,none⟩ ⟨g2,o2+t,none⟩ (J 2) (by intro e;injection e with e;have:=k9.1;have:=HI.le;omega)).trans x3;go_upto_if 67 with fail;go_cut [12] (λ_ wx=>It wr Yq 2 k n wx)
     case first =>
      go_wp2_with fail;go_region
      all_goals
       go_wp2_with fail;go_meet
       first
        | exact((HI.yR 2).K5 n).aj ((ck _).drewN 1)
        | exact((HI.K5 n).yR 2).aj ((ck _).drewN 1)
     case rest =>
      have P:=M (hcut);clear hcut hz e4 x3 y3 d0 d1 d2 d3 d4 d5 h6 h7;have S:=M (RR.aj P.pu);obtain⟨d0,d1,d2,d3,d4,d5,_⟩:=P.cells;obtain⟨h,j,l,m,p,r,s,u,y,_⟩:=S.cells;go_wp2_with fail;refine(DE c A0 c0 sh k n _ (HL _ S.2.2) HB.1 b4).mono ?_;rintro e w5⟨rfl,G⟩;have Q:=M (P.aj G);have e8:=M (S.aj G);clear G P S d0 d1 d2 d3 d4 d5 h j l m p r s u y;obtain⟨d0,d1,d2,d3,d4,d5,_⟩:=Q.cells;obtain⟨h,j,l,m,p,r,s,u,y,_⟩:=e8.cells;obtain⟨na,a6⟩:∃x,(nE c sh k n).1=x:=⟨_,T⟩;obtain⟨nb,a7⟩:∃x,(nE c sh k n).2=x:=⟨_,T⟩;rw[a6,a7];have A:=M (aq a6 a7);clear a6 a7;have g5:0<=c.al:=H.2.1.1;have m4:c.al<=2048:=H.2.1.2;have hq:c.al.tdiv 2=c.al/2:=dl g5;by_cases hz:na=0
      ·have HT:Hid (tk c sh (k,n)=false):=M (by simp[tk,A.out.1,hz]);have h4:(na==0)=true:=by simpa using hz
       clear hz;go_wp2_with fail;go_roundw
       case rel=>exact⟨t+1,Nq,by omega,by first|rfl|simp,by rw[z.out,vJ HT.out],by rw[z.out,zc HT.out];exact LW.pure Q.pu⟩
       case measure=>simp[intOf];omega
      ·have h4:(na==0)=false:=by simpa using hz
       by_cases f:nb>c.al/2
       ·have HT:Hid (tk c sh (k,n)=false):=M (by simp[tk,A.out.2,f]);have F:decide (nb>c.al/2)=true:=by simpa using f
        clear hz f;go_wp2_with fail;go_roundw
        case rel=>exact⟨t+1,Nq,by omega,by first|rfl|simp,by rw[z.out,vJ HT.out],by rw[z.out,zc HT.out];exact LW.pure Q.pu⟩
        case measure=>simp[intOf];omega
       ·have HT:Hid (tk c sh (k,n)=true):=M (by simp[tk,A.out.1,A.out.2,hz,f]);have F:decide (nb>c.al/2)=false:=by simpa using f
        clear hz f;have a4:=M (LW.pure Q.pu);go_wp2_with (at_builtin;refine bT _ T (.tmp 92) (.tmp 94) _ T w1.heap.size 32 i0 _ 6 56 underlying29 g3 g6 g7 g9 T (by omega) (Z A7 Nq c7) Nq _ T (aH a4.own _) _ 1 1 [J 2,J 0,J k,J 0,J n,U 0 0] T (jd.cI _ _ #[J 2,J 0,J k,J 0,J n,U 0 0] 6 1 _ T T) (by simp[Value.oneCell']) (by simp only[maxLen];omega) (by omega) (by have:=a4.pu.size;simp;omega) ?_;intro v9 w9 g b9 b7;obtain⟨A9,n9,rfl⟩:=aD g;have e7:=M (a4.Kj (o:=gC sh k n) g (by rw[Gw n b4.out];rfl) b9);clear g b9 b7;go_frame);go_roundw
        case rel=>exact⟨t+1,Nq+1,by omega,by first|rfl|simp,(ay (λx=>J (max (Mo c sh (pr B ns t)) x)) A.1.symm).trans (by rw[z.out,xN HT.out]),by rw[z.out,BU HT.out];exact e7⟩
        case measure=>simp[intOf];omega
  ·obtain rfl:t=B.length:=by omega
   clear ht c4;have F:=(BV c sh (pr B ns B.length)).1;obtain⟨Mq,hM⟩:∃x,Mo c sh (pr B ns B.length)=x:=⟨_,T⟩;rw[hM]at F ⊢;have HM:=M hM;have l6:0<=Mq:=F.1;have l7:Mq<=1024:=by have:=H.1.2;omega
   obtain⟨TC,e9⟩:∃x,c.ao*c.aB=x:=⟨_,T⟩;have m5:0<=TC/\TC<=128:=by
    rw[<-e9];have h1:=H.2.2.2.1;have h2:=H.2.2.2.2.2.1;exact⟨Int.mul_nonneg (by omega) h2.1,Int.le_trans (fO h1.2 h2.1) (by omega)⟩
   obtain⟨j7,j8⟩:=m5;have l8:0<=c.ag:=by have:=H.1.1;omega
   have l9:c.ag<=1024:=H.1.2;clear hM F;by_cases f:2*Mq>c.ag-TC
   ·have F:decide (2*Mq>c.ag-TC)=true:=fN f;clear f;go_wp2_with fail;refine(hZ wr).mono ?_;rintro e w5⟨rfl,G⟩;have l3:=M G;clear G;go_wp2_with fail;go_ret;exact⟨T,RR.2.2.MD l3⟩
   ·have F:decide (2*Mq>c.ag-TC)=false:=dT f;have b5:=M (aq f e9);clear f;go_wp2_with fail;have h5:=M (KW c A0 c0 sh (pr B ns B.length) Nq A7 c7 w1 wr LW (HL _ RR.2.2) HB.1 HB.2.1 (by rw[jq];have:=HB.2.2.1;omega) (by rw[HM.out,b5.out.2];have:=b5.1;omega));refine h5.mono ?_;rintro e w5⟨E,K,b,hb,lg,yb,rfl,hE,hK,j1,c3⟩;have HE:=M (aq hE (aq hK j1));have LP:=M (c3 w RR.2.2);clear h5 hE hK j1 c3 F l6 l7 e9 j7 j8 l8 l9 h j l m p r s u y;go_wp2_with fail;clear g3 g6 g7 g9;go_loopw [17,18] (λd i wr=>∃t dn:N,t<=2000000/\i=J t/\d=J dn/\Lp w E K b hb lg yb t dn wr) (λ_ i _=>2000000-(intOf i).toNat)
    case atStart=>exact⟨0,0,by omega,T,T,LP⟩
    case round =>
     clear LP LW RR HM b5;obtain⟨t,dn,ht,rfl,rfl,c3⟩:=hrel;have e0:=M c3;clear c3;by_cases g0:dn<Nq
     ·have c4:=e0.lt HE.1 (by rw[HE.out.2.2];exact g0);have m6:(t:V)<2000000:=by omega
      have o7:decide ((dn:V)<(Nq:V))=true:=by simp;omega
      have o8:(dn:V)<(Nq:V):=by omega
      obtain⟨jj,j2⟩:∃jj,t%2=jj:=⟨_,T⟩;have e6:=M (e0.step HE.1 HE.2.1 (by rw[HE.out.2.2];exact g0) jj j2);have b6:=M c4;clear c4 ht;go_wp2_with fail;rw[and_one t (by have:=b6.out;omega),j2];refine e6.mono ?_;rintro e w6⟨d,a1,a2,⟨v1,v2,v3⟩,rfl,a8⟩;cases d with
      | false =>
       have L6:=M a8;obtain⟨a3,-,b8⟩:=Ac.aO w6 #[J jj,L false,J a1,J a2,J 0,L v1,U v2 v3] 48;have L7:=M (L6.pure a3);obtain⟨-,z1,-,-,z4,-,-⟩:=gF b8;clear a3 b8 a8 L6;go_wp2_with fail;generalize w6.alloc _=w7 at *;go_roundw
       case rel=>exact⟨t+1,dn,by have:=b6.out;omega,by first|rfl|simp,by first|rfl|simp,by simpa using L7.out⟩
       case measure=>have:=b6.out;simp[intOf];omega
      | true =>
       have L6:=M a8;obtain⟨a3,-,b8⟩:=Ac.aO w6 #[J jj,L true,J a1,J a2,J 0,L v1,U v2 v3] 48;have L7:=M (L6.pure a3);obtain⟨-,z1,-,-,z4,-,-⟩:=gF b8;clear a3 b8 a8 L6;go_wp2_with fail;generalize w6.alloc _=w7 at *;go_roundw
       case rel=>exact⟨t+1,dn+1,by have:=b6.out;omega,by first|rfl|simp,by first|rfl|simp,by simpa using L7.out⟩
       case measure=>have:=b6.out;simp[intOf];omega
     ·have hN:dn=Nq:=by have:=e0.le;have:=HE.2.2;omega
      subst hN;clear ht g0;by_cases m6:(t:V)<2000000
      all_goals
       go_wp2_with fail;refine(hZ wr).mono ?_;rintro e w7⟨rfl,a3⟩;have L7:=M (e0.pure a3);clear a3;have l5:=M (L7.sound HE.1 HE.2.1.ba);go_wp2_with fail;refine l5.mono ?_;rintro e w8⟨rfl,j5⟩;have l4:=M j5;clear j5;go_wp2_with fail;go_ret;exact⟨T,L7.pu.MD l4⟩
