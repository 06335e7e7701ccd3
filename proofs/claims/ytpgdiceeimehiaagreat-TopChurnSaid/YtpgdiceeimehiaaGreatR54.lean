/- spotop.TopChurn returns true for all arguments and leaves what was there as it was: the last part of the proof (no condition). -/
import Derived.Deep.SlicePairs
import Derived.Test.YtpgdiceeimehiaaGreatR53
set_option maxRecDepth 100000
set_option maxHeartbeats 16000000
set_option linter.all false
open Go.Proofs.Tryz
namespace Go.Proofs.YtpgdiceeimehiaaGreat
open RowKit
namespace topChurn
open Go.RowKit Go.ChangeShapes Go.WideShapes Go.ChangeAt
open fG
instance:Inhabited Sh:=⟨⟨false,Z none 0 0,[]⟩⟩
theorem Bc{H:Type}{enc:TypeId × Value->H}{W:Y}{b0 aC:N}{v:Value}{d:DataW H}{ps:List MemPlace}{r:Reach}
  (z:Value.okWide prog W r b0 24 v) (h:DataW.Trod enc prog W aC (λ_=>true) true 24 v d ps):∃x:Cn × Value × List Sh,v=hI x.1 x.2.1/\dm W W.heap.size x.2.1 x.2.2:=by
 obtain⟨cs,rfl,y⟩:=okWide_struct underlying24 z;have hC:prog.cellsOf 24=9:=by kernel_rfl
 have k3:prog.cellsOf 3=1:=by kernel_rfl
 have k8:prog.cellsOf 22=1:=by kernel_rfl
 rw[hC]at y;obtain⟨b4,w⟩:=h;obtain⟨xs,n,_,_,_,b3,e⟩:=DataW.trod_struct underlying24 w;obtain⟨l⟩:=cs
 match l,y,xs,b3 with
 | [c0,c1,c2,c3,c4,c5,c6,c7,c8],_,[y0,y1,y2,y3,y4,y5,y6,y7,y8],_ =>
  have g0:=e 0 _ T;have g1:=e 1 _ T;have g2:=e 2 _ T;have g3:=e 3 _ T;have g4:=e 4 _ T;have g5:=e 5 _ T;have g6:=e 6 _ T;have g7:=e 7 _ T;have g8:=e 8 _ T;simp[Value.cells,k3,k8]at g0 g1 g2 g3 g4 g5 g6 g7 g8;obtain⟨a0,G,_⟩:=eC underlying3 g0;obtain⟨a1,K,_⟩:=eC underlying3 g1;obtain⟨a2,P,_⟩:=eC underlying3 g2;obtain⟨a3,Q,_⟩:=eC underlying3 g3;obtain⟨a4,R,_⟩:=eC underlying3 g4;obtain⟨a5,S,_⟩:=eC underlying3 g5;obtain⟨a6,X,_⟩:=eC underlying3 g6;obtain⟨a7,e7,_⟩:=eC underlying3 g7;injection G with G;injection K with K;injection P with P;injection Q with Q;injection R with R;injection S with S;injection X with X;injection e7 with e7;subst G;subst K;subst P;subst Q;subst R;subst S;subst X;subst e7
  suffices hS:∃sh,dm W W.heap.size c8 sh by
   obtain⟨sh,hS⟩:=hS;exact⟨(⟨a0,a1,a2,a3,a4,a5,a6,a7⟩,c8,sh),T,hS⟩
  rcases Go.Deep.open_slice_pairs underlying22 underlying35 (by kernel_rfl) rfl rfl (by kernel_rfl) (by kernel_rfl) g8 with⟨c,_⟩|⟨a,g,t,m,q,V0,V1,D0,D1,P0,P1,c,_,hl,hm,a9,_,k⟩
  ·injection c with c;subst c;exact⟨[],⟨none,0,T,ci _,by simp,λh=>by simp at h⟩,λs p=>by simp at p⟩
  ·injection c with c;subst c;have b5:m=t:=by simpa using a9
   have u:∀i,i<g->∃s:Sh,W.cell? (a.add (i*2))=some (L s.a)/\W.cell? (a.add (i*2+1))=some s.v/\mE W W.heap.size s.v (da s.bs):=by
    intro i hi;obtain⟨B,E,F,h3⟩:=k i (by omega);obtain⟨b,hb,_⟩:=DataW.trod_bool underlying4 F;injection hb with hb;obtain⟨bs,a8⟩:=yC underlying33 underlying4 (by kernel_rfl) h3;exact⟨⟨b,V1 i,bs⟩,by rw[B,hb],E,a8⟩
   obtain⟨f,w⟩:=Go.Deep.choose_lt u;refine⟨(List.range g).map f,⟨some a,t,by simp,by simpa using hl,by simpa[maxLen]using hm,λhp=>?_⟩,λs p=>?_⟩
   ·have b1:0<g:=by simpa using hp
    have B:=(w 0 b1).1;obtain⟨b,off,A⟩:=a;have o:A=none:=by simpa[Addr.add]using World.cell?_spot B
    subst o;refine⟨b,off,T,?_,λj s p=>?_⟩
    ·have:=dM W _ B
     rwa [eD]at this
    ·have hj:j<g:=by
      have:=(dH.1 p).1;simpa using this
     have b2:f j=s:=by simpa[hj]using p
     subst b2;obtain⟨E,F,_⟩:=w j hj;rw[eD]at E F;exact⟨E,by simpa[Nat.add_assoc]using F⟩
   ·obtain⟨i,hi,rfl⟩:=aX.1 p;exact(w i (List.mem_range.1 hi)).2.2
theorem Js{H:Type}{enc:TypeId × Value->H}{W:Y}{b aC:N}{v:Value}{d:DataW H}{ps:List MemPlace}{r:Reach}
  (a:Value.okWide prog W r b 24 v) (h:DataW.Trod enc prog W aC (λ_=>true) true 24 v d ps):∃x:Cn × Value × List Sh,v=hI x.1 x.2.1/\dm W W.heap.size x.2.1 x.2.2:=Bc a h
theorem LH(c:Cn)(y:Option Addr)(A:N)(sh:List Sh)(P:Option Addr)(c1 d:N)(Q:Option Addr)(c2 s:N)(w:Y)(K:dm w w.heap.size (Z y sh.length A) sh)(h1:d<=9223372036854775807)(h2:s<=9223372036854775807)
  (h:60<d\/s<d\/bk c sh≠0\/64<c.ag) :
  C 3 #[hI c (Z y sh.length A),Z P d c1,Z Q s c2] w λe E=>e=O (L true)/\ae w E:=by
 have G:=M (λ(E:Y) (hp:ae w E)=>K.pure hp);clear K;go_enter func3,ntmps3;go_wp2_with fail;have x:=Row.new w c (Z y sh.length A);generalize w.alloc _=W at x ⊢;generalize w.heap.size=X at x ⊢;have R:=M x;clear x;refine(hZ W).mono ?_;rintro e w0⟨rfl,b⟩;have f:=M (R.aj b);clear b R;obtain⟨g,i,j,k,l,m,n,o,p,_⟩:=f.cells;by_cases H:60<d
 ·have b1:decide ((60:V)<(d:V))=true:=by simp;omega
  clear h;go_wp2_with fail;refine(hZ _).mono ?_;rintro e F⟨rfl,a⟩;have r:=M (ae.MD f.2.2 a);clear a;go_wp2_with fail;go_ret;exact⟨T,r⟩
 ·have b1:decide ((60:V)<(d:V))=false:=by simp;omega
  by_cases v:s<d
  ·have b2:decide (s<d)=true:=by simpa using v
   clear h;go_wp2_with fail;refine(hZ _).mono ?_;rintro e F⟨rfl,a⟩;have r:=M (ae.MD f.2.2 a);clear a;go_wp2_with fail;go_ret;exact⟨T,r⟩
  ·have b2:decide (s<d)=false:=by simpa using v
   by_cases u:bk c sh=0
   ·have b3:decide (c.ag>64)=true:=fN (by rcases h with h|h|h|h<;>first|omega|exact absurd u h);have z:=M u;clear h H v u;go_wp2_with fail;refine(gK c _ sh _ (G _ f.2.2)).mono ?_;rintro e w1⟨rfl,b⟩;rw[z.out];have t:=M (f.aj b);clear b f g i j k l m n o p;obtain⟨g,i,j,k,l,m,n,o,p,_⟩:=t.cells;go_wp2_with fail;refine(hZ _).mono ?_;rintro e F⟨rfl,a⟩;have r:=M (ae.MD t.2.2 a);clear a;go_wp2_with fail;go_ret;exact⟨T,r⟩
   ·obtain⟨q,B⟩:∃q,bk c sh=q:=⟨_,T⟩;have z:(q==0)=false:=by rw[<-B];simpa using u
    have E4:(q !=0)=true:=by rw[bne,z];rfl
    have S:=M B;clear h H v u B;go_wp2_with fail;refine(gK c _ sh _ (G _ f.2.2)).mono ?_;rintro e w1⟨rfl,b⟩;rw[S.out];have t:=M (f.aj b);clear b f g i j k l m n o p;obtain⟨g,i,j,k,l,m,n,o,p,_⟩:=t.cells;go_wp2_with fail;refine(hZ _).mono ?_;rintro e F⟨rfl,a⟩;have r:=M (ae.MD t.2.2 a);clear a;go_wp2_with fail;go_ret;exact⟨T,r⟩
theorem JS(w:Y)(v:Value)(x:Cn × Value × List Sh)(h:v=hI x.1 x.2.1/\dm w w.heap.size x.2.1 x.2.2)(q:Value)(a:List Int)(n:eO w w.heap.size q a)(r:Value)(d:List Int)(o:eO w w.heap.size r d):C 3 #[v,q,r] w λe y=>e=O (L true)/\ae w y:=by
 obtain⟨c,u,b⟩:=x;obtain⟨rfl,g⟩:=h;obtain⟨i,l,rfl⟩:∃A f,u=Z A b.length f:=by
  obtain⟨⟨A,f,e,_⟩,_⟩:=g;exact⟨A,f,e⟩
 obtain⟨j,c1,rfl,z,s,-⟩:=id n;obtain⟨k,m,rfl,B,t,-⟩:=id o;unfold maxLen at s t;by_cases p:60<a.length\/d.length<a.length\/bk c b≠0\/64<c.ag
 ·exact LH c i l b j c1 a.length k m d.length w g (by omega) (by omega) p
 ·exact LC c i l b j c1 a k m d w g n o (by omega) (by omega) (by by_cases e:bk c b=0;exact e;exact absurd (js (.inl e)) p) (by omega)
theorem lifted(os:Os)(ek:os.Started)(H:Type)(enc:TypeId × Value->H):ReturnsInHanded {} checked os 3 .any (Rows.topChurnSpec.pre6 enc prog f3 Rows.topChurnRow.domain false) (Rows.topChurnSpec.post enc prog f3 false true false false) :=
 Dm (Cq:=checked) own ek (by kernel_rfl) func3 FZ (by kernel_rfl) T T underlying4
  (λg h=>by match g,h with|[_,_,_],_=>rfl)
  (ChangeSpec.witness6 (enc:=enc) (C:=checked) false ⟨#[],#[.agg #[J 0,J 0,J 0,J 0,J 0,J 0,J 0,J 0,Z none 0 0],Z none 0 0,Z none 0 0],[]⟩ 8 (by kernel_rfl) (by kernel_rfl) (by kernel_rfl) (by kernel_rfl))
  (λW c b g B f x z=>by
   have d:DataW.TrodAll enc prog W 0 (λ_=>true) true f3.params.toList b.toList g B:=x;rw[params3]at d;have a:∀(j:N) t v,f3.params[j]?=some t->b[j]?=some v->Value.okWide prog W .any c t v:=f;rw[params3]at a;obtain⟨m,Q,d0,p,p0,q0,i,rfl,rfl,s,E⟩:=trodAll_cons d;obtain⟨n,R,d1,q,p1,q1,rfl,rfl,rfl,u,F⟩:=trodAll_cons E;obtain⟨o,S,d2,r,p2,q2,rfl,rfl,rfl,w,G⟩:=trodAll_cons F;obtain⟨rfl,rfl,rfl⟩:=trodAll_nil G;obtain rfl:b=#[m,n,o]:=by cases b;simp_all
   obtain⟨X,s0⟩:=Js (a 0 24 m T T) s;obtain⟨k,K⟩:=zI underlying25 underlying3 (by kernel_rfl) (a 1 25 n T T) u;obtain⟨l,P⟩:=zI underlying25 underlying3 (by kernel_rfl) (a 2 25 o T T) w;exact(JS W _ X s0 _ k K _ l P).mono λe W' ⟨y,A⟩=>⟨y,A.below⟩)
theorem named:prog.funcNamed Rows.topChurnRow.func=some 3:=by kernel_rfl
theorem ME:prog.inPlace 3=["math.Float64bits"]:=by kernel_rfl
theorem MF:prog.unfollowed 3=true:=by kernel_rfl
theorem MG:prog.recurses 3=true:=by kernel_rfl
theorem MH:prog.varsNamed 3=[]:=by kernel_rfl
theorem facts:joinedFacts prog 3 f3 Rows.topChurnSpec Rows.topChurnRow=true:=by
 unfold joinedFacts;rw[ME,MF,MG,MH]
 kernel_rfl
theorem proved:Rows.TopChurnSaid :=
 OpenClaim.holds_of_wide 3 f3 T T T T T T T ⟨T,T,T,T,T⟩ T T T T T named func3 facts
  (of_decide_eq_true (by kernel_rfl)) (by unfold Func.isWrapper;first|(rw[af (by decide +kernel)];kernel_rfl)|(rw[aa (by decide +kernel)];exact⟨T,T⟩))
  (λc a H b _=>lifted c a H b)
