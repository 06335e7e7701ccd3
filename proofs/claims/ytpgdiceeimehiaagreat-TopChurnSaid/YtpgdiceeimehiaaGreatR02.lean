/- Part 2 of the proof of spotop.TopChurn. -/
import Derived.Deep.RegionLaw
import Derived.Test.YtpgdiceeimehiaaGreatR01
set_option maxRecDepth 100000
set_option maxHeartbeats 16000000
set_option linter.all false
open Go.Proofs.Tryz
namespace Go.Proofs.YtpgdiceeimehiaaGreat
open RowKit
section
def vI(w:Y)(X:N)(c:Cn)(v:Value)(w':Y):Prop :=
 w'.cell? (I X 0)=some (J c.ag)/\w'.cell? (I X 1)=some (J c.al)/\w'.cell? (I X 2)=some (J c.ap)/\w'.cell? (I X 3)=some (J c.ao) /\
 w'.cell? (I X 4)=some (J c.ak)/\w'.cell? (I X 5)=some (J c.aB)/\w'.cell? (I X 6)=some (J c.be)/\w'.cell? (I X 7)=some (J c.di)/\w'.cell? (I X 8)=some v/\ae w w'
theorem vI.aj{w:Y}{X:N}{c:Cn}{v:Value}(a b:Y)(h:vI w X c v a)(k:ae a b):vI w X c v b:=by
 obtain⟨d,e,f,g,i,j,l,m,n,o⟩:=h;exact⟨k.aj d,k.aj e,k.aj f,k.aj g,k.aj i,k.aj j,k.aj l,k.aj m,k.aj n,o.MD k⟩
theorem gK(c:Cn)(v:Value)(l:List Sh)(w:Y)(hl:dm w w.heap.size v l):C 6 #[hI c v] w λe a=>e=O (J (bk c l))/\ae w a:=by
 have HL:=M (λ(a:Y) (hp:ae w a)=>hl.pure hp);obtain⟨⟨A,u,rfl,h1,h2,x⟩,h4⟩:=hl;clear x h4;go_enter func6,ntmps6;go_wp2_with fail;have S:vI w w.heap.size c (Z A l.length u) (w.alloc (D #[J c.ag,J c.al,J c.ap,J c.ao,J c.ak,J c.aB,J c.be,J c.di,Z A l.length u] 24)) :=
  ⟨by simp,by simp,by simp,by simp,by simp,by simp,by simp,by simp,by simp,(bo _).alloc _⟩
 generalize w.alloc _=W at *;generalize w.heap.size=X at *;have HC:=M S;obtain⟨k0,k1,k2,k3,k4,k5,k6,k7,k8,G⟩:=S;clear G;go_region_held3 (λa=>a.cell? (I X 0)=some (J c.ag)/\a.cell? (I X 1)=some (J c.al)/\a.cell? (I X 2)=some (J c.ap)/\a.cell? (I X 3)=some (J c.ao) /\
   a.cell? (I X 4)=some (J c.ak)/\a.cell? (I X 5)=some (J c.aB)/\a.cell? (I X 6)=some (J c.be)/\a.cell? (I X 7)=some (J c.di)/\a.cell? (I X 8)=some (Z A l.length u)/\ae w a)
  ((first|assumption|exact vI.aj W W.drew HC ((bo W).drewN 1)|exact vI.aj _ _ (by assumption) ((bo _).alloc _)))
  (first|(go_at_call 14;refine(Lf (by assumption) (vI.aj (X:=X) (c:=c)) (fS (sW _ _ _ _))).mono ?_;rintro e a⟨rfl,hs⟩))
 have y:∀j b,(gq c)[j]?=some b->(a.alloc (D #[L (bl c.ag 4 1024),L (bl c.al 0 2048),L (bl c.ap 0 8),L (bl c.ao 1 16),L (bl c.ak 1 8),L (bl c.aB 0 8),L (bl c.be 1 256),L (bl c.di 0 c.ag)] 4)).cell? (I a.heap.size j)=some (L b):=by
  intro j b f;have p:j<8:=by
   rcases Nat.lt_or_ge j 8 with h|h
   ·exact h
   ·rw[cT (by simpa[gq]using h)]at f;simp at f
  match j,p,f with
  | 0,_,f|1,_,f|2,_,f|3,_,f|4,_,f|5,_,f|6,_,f|7,_,f=>simp[gq]at f;subst f;simp
 have n:=vI.aj _ _ hs ((ck a).alloc (D #[L (bl c.ag 4 1024),L (bl c.al 0 2048),L (bl c.ap 0 8),L (bl c.ao 1 16),L (bl c.ak 1 8),L (bl c.aB 0 8),L (bl c.be 1 256),L (bl c.di 0 c.ag)] 4));generalize a.alloc _=W1 at y n ⊢;generalize a.heap.size=Yq at y ⊢;have HT:=M y;have m:=M n;clear y n hs;go_wp2_with fail;go_loopw [33] (λi wr=>∃k:N,k<=8/\i=J k/\(∀j,j<k->∀b,(gq c)[j]?=some b->b=true)/\wr=W1) (λi _=>8-(intOf i).toNat)
 case atStart=>exact⟨0,aw _,T,(by omega),T⟩
 case round =>
  obtain⟨k,hk,rfl,d,rfl⟩:=hrel;have g:=M d;clear d;by_cases p:k<8
  ·obtain⟨b,q⟩:∃b,(gq c)[k]?=some b:=⟨(gq c)[k]'(by simpa[gq]using p),cR _⟩;have a1:=HT k b q;have K:=M q;clear q;cases b with
   | false =>
    go_wp2;go_ret;refine⟨?_,m.2.2.2.2.2.2.2.2.2⟩;have:(gq c).all id=false:=by
     simp only[List.all_eq_false];exact⟨false,cZ K,by simp⟩
    rw[bk,af this];rfl
   | true =>
    go_wp2;go_roundw
    case rel =>
     refine⟨k+1,by omega,by first|rfl|simp,?_,by first|trivial|rfl⟩;intro j f b' o;by_cases e:j<k
     ·exact g j e b' o
     ·obtain rfl:j=k:=by omega
      rw[K.out]at o;cases o;rfl
    case measure=>simp[intOf];omega
  ·obtain rfl:k=8:=by omega
   have d:(gq c).all id=true:=by
    simp only[List.all_eq_true];intro b q;obtain⟨j,f,e⟩:=fa.1 q;exact g j (by simpa[gq]using f) b (by rw[cR f,e])
   have q:0<=c.ao*c.aB/\c.ao*c.aB<=128:=by
    have x:bl c.ao 1 16=true:=g 3 (by omega) (bl c.ao 1 16) T;have R:bl c.aB 0 8=true:=g 5 (by omega) (bl c.aB 0 8) T;simp only[bl,bt,aQ]at x R;refine⟨Int.mul_nonneg (by omega) (by omega),Int.le_trans (fO x.2 R.1) (by omega)⟩
   obtain⟨k0,k1,k2,k3,k4,k5,k6,k7,k8,G⟩:=m.out;have HA:=M d;clear k1 k2 k4 k6 k7 G d;have Q:bk c l=if c.ag<c.ao*c.aB then 1 else if(bl l.length 1 8&&ia l)=false then 4 else 0:=by
    rw[bk,aa (by rw[HA.out];simp)]
   have H:=M Q;clear Q;by_cases hf:c.ag<c.ao*c.aB
   ·have r:=M (H.trans (af hf));go_wp2;go_ret;refine⟨?_,m.2.2.2.2.2.2.2.2.2⟩;rw[r.out];rfl
   ·have r:=M (H.trans (aa hf));go_wp2_with fail;refine(sW (l.length:V) 1 8 _).mono ?_;rintro e w2⟨rfl,rfl⟩;cases B:bl (l.length:V) 1 8 with
    | false =>
     have F:=M B;clear B;go_wp2;go_ret;refine⟨?_,m.2.2.2.2.2.2.2.2.2⟩;have s:bk c l=4:=by rw[r.out,F.out];simp
     rw[s];rfl
    | true =>
     have F:=M B;clear B;go_wp2_with fail;refine(ut _ l _ (HL _ m.2.2.2.2.2.2.2.2.2)).mono ?_;rintro e w3⟨rfl,t⟩;have P:=M (m.2.2.2.2.2.2.2.2.2.MD t);clear t;cases z:ia l with
     | false =>
      have E:=M z;clear z;go_wp2;go_ret;refine⟨?_,P⟩;have s:bk c l=4:=by rw[r.out,E.out];simp
      rw[s];rfl
     | true =>
      have E:=M z;clear z;go_wp2;go_ret;refine⟨?_,P⟩;have s:bk c l=0:=by rw[r.out,E.out,F.out];simp
      rw[s];rfl
end
namespace Ln
theorem eu:(prog.info? 3).map (λi=>(i.zero,i.size,i.bytes))=some (some (J 0),1,8):=by kernel_rfl
theorem ju(v:Value)(xs:List Int)(w:Y)(h:eO w w.heap.size v xs)(R:xs.length<=1000000):C 236 #[v] w λe t=>∃s,e=O s/\ae w t/\t.ownsRow w.heap.size 3 1 s xs.length (bI xs):=by
 obtain⟨F,l,n,o,p⟩:=aR eu;have u:=h;obtain⟨A,c,rfl,H,K,Q,g⟩:=u;rcases A with _|q
 ·have z:xs.length=0:=by
   rcases kc xs.length with f|f
   ·exact f
   ·obtain⟨b,off,e,_⟩:=g f;cases e
  obtain rfl:xs=[]:=mD z;have i:=λw:Y=>Lib.run_eql_slice_nil (P:=prog) w 25 3 none 0 c 0 0 underlying25;go_enter func236,ntmps236;go_wp2;go_ret;exact⟨_,T,bo _,jD _ _ _ _⟩
 ·have E:=h.src.2;have m:jd (w.alloc (D #[] 3)) 1 (some q) xs.length (bI xs):=E.below ((Below.refl w.heap.size w).alloc (ci _) _) (λb B e=>by injection e with e;subst e;obtain⟨G,off,d,x,_⟩:=g B;injection d with d;subst d;exact x);have i:=λw:Y=>Lib.run_eql_slice_nil (P:=prog) w 25 3 (some q) xs.length c 0 0 underlying25;clear h g;go_enter func236,ntmps236;go_wp2_with (at_builtin;refine bT _ T (.tmp 5) (.tmp 6) _ T w.heap.size 3 F _ 1 8 underlying25 l n o p T (by omega) _ 0 [] T (fJ w #[] 0 (ci _) (by simp[maxLen]) T) _ _ _ _ T m (rT xs) (by simp only[maxLen];omega) (by omega) (by simp) ?_;intro S W a j r);go_ret;refine⟨_,T,((bo _).alloc _).grown j (λk y e=>?_),by simpa using a⟩;injection e with e;exact absurd e (Nat.ne_of_gt y)
theorem pn(w:Y):C 86 #[] w λe a=>e=O (.pointer (some (I w.heap.size 0)))/\a=w.alloc (D #[Z none 0 0] 217):=by
 go_enter func86,ntmps86;go_wp2_with fail;go_ret;exact⟨T,T⟩
theorem Dn(w:Y):bO (w.alloc (D #[Z none 0 0] 217)) w.heap.size (Z none 0 0) []:=⟨ai w _,jD _ _ _ _,λe a=>by simp at a,by simp,λe a=>by simp at a⟩
theorem om(P:N)(v:Value)(l:List En)(t:V)(w:Y)(d:bO w P v l):C 257 #[I P 0,J t] w λe k=>e=O (J (te (zs t) l))/\ae w k:=by
 have a:=(ck w).alloc (D #[J t] 3);have h:=M (d.pure a);have i:=M a;have f:(w.alloc (D #[J t] 3)).cell? (I w.heap.size 0)=some (J t):=by simp
 have g:=M f;obtain⟨A,c,rfl⟩:=d.form;have m:=(d.pure a).c0;clear d a f;go_enter func257,ntmps257;go_wp2_with fail;refine(Dc P _ l _ t _ h g).mono ?_;rintro e n⟨rfl,b⟩;have j:=M (ae.MD i b);clear b;go_wp2_with fail;go_ret;exact⟨T,j⟩
theorem lY(P:N)(v:Value)(l:List En)(w:Y)(b:bO w P v l):C 229 #[I P 0] w λe g=>e=O (J (te kU l))/\ae w g:=by
 have d:=M b;obtain⟨A,c,rfl⟩:=b.form;have h:=b.c0;clear b;go_enter func229,ntmps229;go_wp2_with fail;refine(index_first P _ l _ d).mono ?_;rintro e i⟨rfl,a⟩;have f:=M a;clear a;go_wp2_with fail;go_ret;exact⟨T,f⟩
theorem Hh(P:N)(i:V)(w:Y)(b:i<0):C 228 #[I P 0,J i] w λe a=>e=O (.tuple #[qi default (Z none 0 0),L false])/\ae w a:=by
 go_enter func228,ntmps228;go_wp2_with fail;exact au (v:=.tuple #[qi default (Z none 0 0),L false]) (by simp[results,results228,go_sem,default]) T ⟨T,(bo _).alloc _⟩
theorem gI{a w:Y}{X:N}(h:ac (λq=>q=X) a w)(i:N)(u:Value):ac (λq=>q=X) a (w.setCell (I X i) u):=h.setCell (p:=⟨X,i,none⟩) (λ_=>T) u
theorem qF{w:Y}{Yq:N}{a b c d e f g:Value}{Tq:TypeId}(h:w.heap[Yq]?=some (D #[a,b,c,d,e,f,g] Tq (0,0))):w.cell? (I Yq 0)=some a/\w.cell? (I Yq 1)=some b/\w.cell? (I Yq 2)=some c/\w.cell? (I Yq 3)=some d/\w.cell? (I Yq 4)=some e/\w.cell? (I Yq 5)=some f/\w.cell? (I Yq 6)=some g /\
   w.frozen? (I Yq 0)=false/\w.frozen? (I Yq 1)=false/\w.frozen? (I Yq 2)=false/\w.frozen? (I Yq 3)=false/\w.frozen? (I Yq 4)=false/\w.frozen? (I Yq 5)=false/\w.frozen? (I Yq 6)=false:=by
 refine⟨?_,?_,?_,?_,?_,?_,?_,ey _ h,ey _ h,ey _ h,ey _ h,ey _ h,ey _ h,ey _ h⟩<;>(rw[bK h];rfl)
theorem Hg(P:N)(v:Value)(l:List En)(k:N)(e:En)(w:Y)(s:bO w P v l)(p:l[k]?=some e):C 228 #[I P 0,J k] w λe' z=>∃A c,e'=O (.tuple #[qi e (Z A e.cG.length c),L true])/\ae w z/\eO z z.heap.size (Z A e.cG.length c) e.cG/\∀q,(Z A e.cG.length c).ownBlock=some q->w.heap.size<=q:=by
 have m:=(ck w).alloc (D #[J 0,J 0,J 0,J 0,J 0,J 0,Z none 0 0] 229);have d:=s.pure m;obtain⟨g,cg,rfl,d0,d1,d2,d3,d4,d5,d6,d7,_⟩:=d.cells p;have a2:=(dH.1 p).1;have a1:=s.eT;have K:=(s.cG e (cZ p)).1;have a3:=s.short e (cZ p);have c0:=d.c0;obtain⟨G,H,r,_⟩:=id K;rw[r]at d6 K;have HS:=M (λ(z:Y) (hp:ae w z)=>K.MC hp (λ_ _ f=>f));have t:ae w ((w.alloc (D #[J 0,J 0,J 0,J 0,J 0,J 0,Z none 0 0] 229)).alloc (D #[J e.bx,J e.ag,J e.al,J e.bE,J e.bh,J e.aM,Z G e.cG.length H] 229)):=m.alloc _;have W:=ai (w.alloc (D #[J 0,J 0,J 0,J 0,J 0,J 0,Z none 0 0] 229)) (D #[J e.bx,J e.ag,J e.al,J e.bE,J e.bh,J e.aM,Z G e.cG.length H] 229);rw[show(w.alloc (D #[J 0,J 0,J 0,J 0,J 0,J 0,Z none 0 0] 229)).heap.size=w.heap.size+1 from by simp]at W;have hx:=(((ck (w.alloc (D #[J 0,J 0,J 0,J 0,J 0,J 0,Z none 0 0] 229))).alloc (D #[J e.bx,J e.ag,J e.al,J e.bE,J e.bh,J e.aM,Z G e.cG.length H] 229)).block w.heap.size (by simp) (λf=>f)).trans (ai w (D #[J 0,J 0,J 0,J 0,J 0,J 0,Z none 0 0] 229));have R:=M t;have HX:=M hx;have Q:=M W;clear K p r s m d t hx W;go_enter func228,ntmps228;go_wp2_with fail;clear d0 d1 d2 d3 d4 d5 d6 d7 c0;generalize(w.alloc _).alloc _=W2 at *;refine(ju _ e.cG _ (HS _ R) (by omega)).mono ?_;rintro e1 w3⟨v3,rfl,a,j⟩;obtain⟨E,F,rfl⟩:=aD j;have u:=(a.block _ (bR.1 HX).1 (λf=>f)).trans HX;have y:=(a.block _ (bR.1 Q).1 (λf=>f)).trans Q;obtain⟨x0,x1,x2,x3,x4,x5,x6,a4,a5,a6,a7,a8,a9,b0⟩:=qF u;obtain⟨y0,y1,y2,y3,y4,y5,y6,b1,b2,b3,b4,b5,b6,b7⟩:=qF y;have P3:=M (R.MD a);have b:=M j;have o:=M (show w.heap.size+1<W2.heap.size from(bR.1 Q).1);have n:=M (show ∀x∈e.cG,-9223372036854775808<=x/\x<=9223372036854775807 from by obtain⟨_,_,_,_,_,h,_⟩:=HS _ R;exact h);clear a j u y;go_wp2_with fail;refine au (v:=.tuple #[qi e (Z E e.cG.length F),L true]) (by simp[results,results228,go_sem,x0,x1,x2,x3,x4,x5,x6]) T ⟨E,F,T,?_⟩;have X:∀B,ac (λq=>q=w.heap.size\/q=w.heap.size+1) w3 B->ae w B/\eO B B.heap.size (Z E e.cG.length F) e.cG/\∀q,(Z E e.cG.length F).ownBlock=some q->w.heap.size<=q:=λB ho =>
  ⟨P3.trans ho (λi hi e=>by omega),eO.fQ (ho.own b (λq S e=>by have:=(b.lt q S).1;have:=o.out;omega)) n,λq S=>by have:=(b.lt q S).1;have:=o.out;omega⟩
 refine X _ ?_
 iterate 7 refine ac.setCell ?_ (λ_=>.inl T) _
 exact(bo w3).setCell (λ_=>.inr T) _
theorem pW(P:N)(v:Value)(l:List En)(k:N)(e:En)(t:V)(w:Y)(S:bO w P v l)(R:l[k]?=some e)(j:te (zs t) l=k):C 197 #[I P 0,J t] w λe' s=>∃A c,e'=O (.tuple #[qi e (Z A e.cG.length c),L true])/\ae w s/\eO s s.heap.size (Z A e.cG.length c) e.cG/\∀q,(Z A e.cG.length c).ownBlock=some q->w.heap.size<=q:=by
 have HE:=M R;clear R;have m:=(ck w).alloc (D #[J 0,J 0,J 0,J 0,J 0,J 0,Z none 0 0] 229);have G:=M (λ(s:Y) (hp:ae w s)=>S.pure hp);have K:=M m;have H:=M (ai w (D #[J 0,J 0,J 0,J 0,J 0,J 0,Z none 0 0] 229));have z:=M j;clear S m j;go_enter func197,ntmps197;go_wp2_with fail;generalize w.alloc _=W1 at *;refine(om P v l t _ (G _ K)).mono ?_;rw[z.out];rintro e1 w2⟨rfl,b⟩;have Q:=M (ae.MD K b);have p:=(b.block _ (bR.1 H).1 (λf=>f)).trans H;have a:=M p;clear b p;go_wp2_with fail;refine(Hg P v l k e _ (G _ Q) HE).mono ?_;rintro e1 X⟨x,y,rfl,d,o,n⟩;have g:=M n;have h:=M (show w.heap.size<w2.heap.size from(bR.1 a).1);clear n;have r:=(d.block _ (bR.1 a).1 (λf=>f)).trans a;obtain⟨x0,x1,x2,x3,x4,x5,x6,a1,a2,a3,a4,a5,a6,a7⟩:=qF r;have P3:=M (Q.MD d);have B:=M o;clear d o r;go_wp2_with fail;refine au (v:=.tuple #[qi e (Z x e.cG.length y),L true]) (by simp[results,results197,go_sem,x0,x1,x2,x3,x4,x5,x6]) T ⟨x,y,T,?_⟩;have F:∀u,ac (λq=>q=w.heap.size) X u->ae w u/\eO u u.heap.size (Z x e.cG.length y) e.cG/\∀q,(Z x e.cG.length y).ownBlock=some q->w.heap.size<=q:=λu W =>
  ⟨P3.trans W (λi hi e=>by omega),B.MC W (λq E e=>by have:=g q E;have:=h.out;omega),λq E=>by have:=g q E;have:=h.out;omega⟩
 refine F _ ?_
 iterate 7 refine gI ?_ _ _
 exact bo X
theorem pX(P:N)(v:Value)(l:List En)(t:V)(w:Y)(s:bO w P v l)(d:te (zs t) l=-1):C 197 #[I P 0,J t] w λA n=>A=O (.tuple #[qi default (Z none 0 0),L false])/\ae w n:=by
 have g:=(ck w).alloc (D #[J 0,J 0,J 0,J 0,J 0,J 0,Z none 0 0] 229);have x:=M (λ(n:Y) (F:ae w n)=>s.pure F);have r:=M g;have p:=M (ai w (D #[J 0,J 0,J 0,J 0,J 0,J 0,Z none 0 0] 229));have k:=M d;clear s g d;go_enter func197,ntmps197;go_wp2_with fail;generalize w.alloc _=W1 at *;refine(om P v l t _ (x _ r)).mono ?_;rw[k.out];rintro B w2⟨rfl,a⟩;have y:=M (ae.MD r a);have h:=(a.block _ (bR.1 p).1 (λf=>f)).trans p;have c:=M h;clear a h;go_wp2_with fail;refine(Hh P (-1) _ (by omega)).mono ?_;rintro B u⟨rfl,b⟩;have j:=(b.block _ (bR.1 c).1 (λf=>f)).trans c;obtain⟨G,H,K,Q,R,S,W,X,a1,a2,a3,a4,a5,a6⟩:=qF j;have z:=M (y.MD b);clear b j;go_wp2_with fail;refine au (v:=.tuple #[qi default (Z none 0 0),L false]) (by simp[results,results197,go_sem,G,H,K,Q,R,S,W,default]) T ⟨T,?_⟩;have m:∀o,ac (λq=>q=w.heap.size) u o->ae w o:=λo E=>z.trans E (λi hi e=>by omega);refine m _ ?_
 iterate 7 refine gI ?_ _ _
 exact bo u
theorem mh(P:N)(v:Value)(l:List En)(k:N)(e:En)(w:Y)(R:bO w P v l)(Q:l[k]?=some e)(j:te kU l=k):C 166 #[I P 0] w λe' s=>∃A c,e'=O (.tuple #[qi e (Z A e.cG.length c),L true])/\ae w s/\eO s s.heap.size (Z A e.cG.length c) e.cG/\∀q,(Z A e.cG.length c).ownBlock=some q->w.heap.size<=q:=by
 have X:=M Q;clear Q;have m:=(ck w).alloc (D #[J 0,J 0,J 0,J 0,J 0,J 0,Z none 0 0] 229);have F:=M (λ(s:Y) (hp:ae w s)=>R.pure hp);have H:=M m;have G:=M (ai w (D #[J 0,J 0,J 0,J 0,J 0,J 0,Z none 0 0] 229));have y:=M j;clear R m j;go_enter func166,ntmps166;go_wp2_with fail;generalize w.alloc _=W1 at *;refine(lY P v l _ (F _ H)).mono ?_;rw[y.out];rintro e1 w2⟨rfl,b⟩;have K:=M (ae.MD H b);have p:=(b.block _ (bR.1 G).1 (λf=>f)).trans G;have a:=M p;clear b p;go_wp2_with fail;refine(Hg P v l k e _ (F _ K) X).mono ?_;rintro e1 W⟨u,x,rfl,d,o,n⟩;have g:=M n;have h:=M (show w.heap.size<w2.heap.size from(bR.1 a).1);clear n;have r:=(d.block _ (bR.1 a).1 (λf=>f)).trans a;obtain⟨x0,x1,x2,x3,x4,x5,x6,a1,a2,a3,a4,a5,a6,a7⟩:=qF r;have P3:=M (K.MD d);have z:=M o;clear d o r;go_wp2_with fail;refine au (v:=.tuple #[qi e (Z u e.cG.length x),L true]) (by simp[results,results166,go_sem,x0,x1,x2,x3,x4,x5,x6]) T ⟨u,x,T,?_⟩;have E:∀t,ac (λq=>q=w.heap.size) W t->ae w t/\eO t t.heap.size (Z u e.cG.length x) e.cG/\∀q,(Z u e.cG.length x).ownBlock=some q->w.heap.size<=q:=λt S =>
  ⟨P3.trans S (λi hi e=>by omega),z.MC S (λq B e=>by have:=g q B;have:=h.out;omega),λq B=>by have:=g q B;have:=h.out;omega⟩
 refine E _ ?_
 iterate 7 refine gI ?_ _ _
 exact bo W
theorem uH(P:N)(v:Value)(l:List En)(w:Y)(s:bO w P v l)(d:te kU l=-1):C 166 #[I P 0] w λz n=>z=O (.tuple #[qi default (Z none 0 0),L false])/\ae w n:=by
 have g:=(ck w).alloc (D #[J 0,J 0,J 0,J 0,J 0,J 0,Z none 0 0] 229);have u:=M (λ(n:Y) (E:ae w n)=>s.pure E);have r:=M g;have p:=M (ai w (D #[J 0,J 0,J 0,J 0,J 0,J 0,Z none 0 0] 229));have k:=M d;clear s g d;go_enter func166,ntmps166;go_wp2_with fail;generalize w.alloc _=W1 at *;refine(lY P v l _ (u _ r)).mono ?_;rw[k.out];rintro A w2⟨rfl,a⟩;have x:=M (ae.MD r a);have h:=(a.block _ (bR.1 p).1 (λf=>f)).trans p;have c:=M h;clear a h;go_wp2_with fail;refine(Hh P (-1) _ (by omega)).mono ?_;rintro A t⟨rfl,b⟩;have j:=(b.block _ (bR.1 c).1 (λf=>f)).trans c;obtain⟨F,G,H,K,Q,R,S,W,X,a1,a2,a3,a4,a5⟩:=qF j;have y:=M (x.MD b);clear b j;go_wp2_with fail;refine au (v:=.tuple #[qi default (Z none 0 0),L false]) (by simp[results,results166,go_sem,F,G,H,K,Q,R,S,default]) T ⟨T,?_⟩;have m:∀o,ac (λq=>q=w.heap.size) t o->ae w o:=λo B=>y.trans B (λi hi e=>by omega);refine m _ ?_
 iterate 7 refine gI ?_ _ _
 exact bo t
end Ln
namespace Ln
theorem xX(l:List En)(k:N)(e:En)(h:l[k]?=some e):(l.take (k+1)).countP kU=(l.take k).countP kU+if kU e=true then 1 else 0:=by
 rw[cD,h,List.countP_append];simp[ds]
theorem lN(P:N)(v:Value)(l:List En)(w:Y)(f:bO w P v l):C 143 #[I P 0] w λe q=>e=O (J (l.countP kU:N))/\ae w q:=by
 have s:=M (λ(q:Y) (h:ae w q)=>f.pure h);obtain⟨A,c,rfl⟩:=f.form;have u:=f.eT;have x:=f.c0;clear f;go_enter func143,ntmps143;go_wp2_with fail;clear x;go_loopw [3,11] (λn i wr=>∃k m:N,k<=l.length/\i=J k/\n=J m/\m<=k/\Hid (m=(l.take k).countP kU)/\ae w wr) (λ_ i _=>l.length-(intOf i).toNat)
 case atStart=>exact⟨0,0,aw _,T,T,ci _,M T,bo _⟩
 case round =>
  obtain⟨k,m,hk,rfl,rfl,hm,j,h⟩:=hrel;have HP:=M h;clear h;by_cases p:k<l.length
  ·obtain⟨e,b⟩:∃e,l[k]?=some e:=⟨l[k],cR p⟩;obtain⟨g,H,E,K,Q,R,S,W,X,y,d7,_⟩:=(s _ HP).cells b;injection E with hv1 hv2 hv3;subst hv1;have F:=M b;clear hv2 hv3;obtain⟨G,z,d,_⟩:=((s _ HP).cG e (cZ b)).1;rw[d]at y;have r:=M (xX l k e b);clear d b;have t:=M (HP.alloc (D #[J e.bx,J e.ag,J e.al,J e.bE,J e.bh,J e.aM,Z G e.cG.length z,L e.ka] 271));cases a:kU e with
   | true =>
    have B:(e.bE==0)=true:=a;have o:=M a;clear a;go_wp2_with fail;go_roundw
    case rel=>exact⟨k+1,m+1,by omega,by first|rfl|simp,by first|rfl|simp,by omega,M (by rw[r.out,o.out,<-j.out];rfl),t⟩
    case measure=>simp[intOf];omega
   | false =>
    have B:(e.bE==0)=false:=a;have o:=M a;clear a;go_wp2_with fail;go_roundw
    case rel=>exact⟨k+1,m,by omega,by first|rfl|simp,by first|rfl|simp,by omega,M (by rw[r.out,o.out,<-j.out];rfl),t⟩
    case measure=>simp[intOf];omega
  ·obtain rfl:k=l.length:=by omega
   go_wp2_with fail;go_ret;exact⟨dP (by rw[j.out,eF]),HP⟩
theorem xm{P:Program}{r:Array Oper}{o:Oper}{a:Act}{w:Y}{K:Act->Y->Prop}{Q:Exit->Act->Y->Prop}{E:Prop}(G:o.guard=none)(s x:Operand)(t:TypeId)
  (ho:o.op=.call {callee:=.builtin .append,args:=#[s,x],argTypes:=#[t,t]})
  (d:N) (e:TypeId) (i:TypeInfo) (z:Value) (b bytes:N) (ht:P.underlying t=some (.slice e)) (hi:P.info? e=some i) (hz:i.zero=some z)
  (k:i.size=b) (F:i.bytes=bytes) (R:z.cells.size=b) (H:0<b)
  (v:Value) (n:N) (S:List Value) (hs:a.eval s=v) (p:w.ownsRow d e b v n S)
  (A:Option Addr) (m c:N) (f:List Value) (hx:a.eval x=Z A m c) (q:jd w b A m f) (W:∀u∈f,u.oneCell'=true)
  (B:n+m<=maxLen) (g:(n+m)*bytes<=140737488355328) (j:d<=w.heap.size)
  (h:∀l y,y.ownsRow d e b l (n+m) (S++f)->w.grownBy y v.ownBlock->(l.ownBlock=v.ownBlock\/l.ownBlock=some w.heap.size)->K (a.put o.dst l) y) :
  if Region.wanted o (yielded r a.tmps)=true then Oper.wp P o a w K Q else E:=by
 have hw:Region.wanted o (yielded r a.tmps)=true:=by simp[Region.wanted,G]
 rw[af hw];obtain⟨l,y,hr,X,h3,h4⟩:=zN (P:=P) w d t o.type e i z b bytes ht hi hz k F R H v n S p A m c f q W B g j;unfold Oper.wp execOp;simp only[ho,resolve,invoke,builtin,Sem.run_bind,Sem.run_pure,Result.andThen_ok,List.map_toArray,ev,List.map_nil,hs,hx,hr];exact h l y X h3 h4
theorem rF:(prog.info? 271).map (λi=>(i.zero,i.size,i.bytes))=some (some (.agg #[J 0,J 0,J 0,J 0,J 0,J 0,Z none 0 0,L false]),8,80):=by kernel_rfl
def fresh(e:En):En:=⟨e.bx,e.ag,e.al,0,0,-1,Z none 0 0,[],false⟩
theorem jd.cI(w:Y)(e:TypeId)(cs:Array Value)(size m B:N)(b:cs.size=m*size)(a:w.heap.size=B):jd (w.alloc (D cs e)) size (some ⟨B,0,none⟩) m cs.toList:=by
 subst a;refine⟨by simpa using b,λ_=>⟨_,0,T,λj u c=>?_⟩⟩;rw[cell_of_row _ w.heap.size _ cs e (0,0) (ai w _),br];simpa using c
theorem nB{w:Y}{P:N}{v:Value}(h:w.heap[P]?=some (D #[v] 217 (0,0))){aC n:N}{u:Value}{xs:List Value}(e:w.ownsRow aC 271 8 u n xs){k:N}(a:u.ownBlock=some k):k≠P:=by
 rintro rfl;rcases e.2 with⟨rfl,_⟩|⟨g,c,d,rfl,_,b,_⟩
 ·simp[Value.ownBlock]at a
 ·simp only[Value.ownBlock,Option.some.injEq]at a;subst a;rw[h]at b;simp at b
theorem bO.Ki{w j:Y}{P:N}{v f:Value}{l:List En}{e:En}{t:N}(h:bO w P v l)(s:ac (λk=>v.ownBlock=some k) w j)(g:j.ownsRow 0 271 8 f (l.length+1) (kt l++eV (fresh e)))
  (b:f.ownBlock=v.ownBlock\/f.ownBlock=some t) (x:w.heap.size<=t) (y:l.length<=900):bO (j.setCell (I P 0) f) P f (l++[fresh e]):=by
 have u:=(bR.1 h.aM).1;have m:j.heap[P]?=some (D #[v] 217 (0,0)):=(s.block P u (λc=>nB h.aM h.own c T)).trans h.aM;have n:ac (eU P v) w (j.setCell (I P 0) f):=(s.mono (λ_ _ o=>.inr o)).setCell (p:=⟨P,0,none⟩) (λ_=>.inl T) f;have r:ac (λq=>q=P) j (j.setCell (I P 0) f):=gI (bo j) 0 f;refine⟨by simp[World.setCell,gV,m],?_,λc a=>?_,?_,λc a=>?_⟩
 ·rw[rE,show kt [fresh e]=eV (fresh e)from by simp[kt],show(l++[fresh e]).length=l.length+1 from by simp];exact r.own g (λk o=>nB m g o)
 ·rcases iE.1 a with a|a
  ·refine⟨(h.cG c a).1.MC n (λq i=>((h.cG c a).2 q i).1),λq i=>⟨?_,eR ((h.cG c a).2 q i).2 n.size⟩⟩;rintro(rfl|d)
   ·exact((h.cG c a).2 _ i).1 (.inl T)
   ·rcases b with b|b
    ·exact((h.cG c a).2 _ i).1 (.inr (b▸d))
    ·rw[b]at d;have:=((h.cG c a).2 _ i).2;injection d with d;omega
  ·simp only[jr]at a;subst a;exact⟨eO.nil _ _,λq i=>by simp[fresh,Value.ownBlock]at i⟩
 ·simp;omega
 ·rcases iE.1 a with a|a
  ·exact h.short c a
  ·simp only[jr]at a;subst a;simp[fresh]
theorem sm{w b:Y}{P:N}{v:Value}(a:Value)(d:ac (λk=>v.ownBlock=some k) w b):ac (eU P v) w (b.setCell (I P 0) a):=(d.mono (λ_ _ c=>.inr c)).setCell (p:=⟨P,0,none⟩) (λ_=>.inl T) a
theorem Fq(P:N)(v:Value)(l:List En)(e:En)(A:Option Addr)(n c:N)(w:Y)(H:bO w P v l)(G:te (zs e.bx) l=-1)(hf:l.length<=900):C 294 #[I P 0,qi e (Z A n c)] w λg w'=>∃v',g=O (L true)/\bO w' P v' (l++[fresh e])/\ac (eU P v) w w'/\(v'.ownBlock=v.ownBlock\/∃q,v'.ownBlock=some q/\w.heap.size<=q):=by
 obtain⟨i0,a2,a3,a4,a5⟩:=aR rF;have z:=(ck w).alloc (D #[J e.bx,J e.ag,J e.al,J e.bE,J e.bh,J e.aM,Z A n c] 229);have hy:=ai w (D #[J e.bx,J e.ag,J e.al,J e.bE,J e.bh,J e.aM,Z A n c] 229);have HL:=M (H.pure z);have HY:=M hy;have P1:=M z;have W:=M G;have X:=M H.lt;have R:=M (λ(g:En) (y:g∈l) (q:N) (hq:g.gv.ownBlock=some q)=>((H.cG g y).2 q hq).2);obtain⟨o,r,rfl⟩:=H.form;clear H z hy G;go_enter func294,ntmps294;go_wp2_with fail;generalize w.alloc _=W1 at *;refine(om P _ l e.bx _ HL).mono ?_;rw[W.out];rintro e1 Q⟨rfl,m⟩;have P2:=M (ae.MD P1 m);have L2:=M (HL.pure m);have B:=(m.block _ (bR.1 HY).1 (λf=>f)).trans HY;obtain⟨y0,y1,y2,y3,y4,y5,y6,a6,a7,a8,a9,b0,b1,b2⟩:=qF B;have a1:=M B;clear m B;go_wp2_with fail;have j:ac (λq=>q=w.heap.size) Q ((((Q.setCell (I w.heap.size 3) (J 0)).setCell (I w.heap.size 4) (J 0)).setCell (I w.heap.size 5) (J (-1))).setCell (I w.heap.size 6) (Z none 0 0)):=gI (gI (gI (gI (bo _) _ _) _ _) _ _) _ _;have K:(((((Q.setCell (I w.heap.size 3) (J 0)).setCell (I w.heap.size 4) (J 0)).setCell (I w.heap.size 5) (J (-1))).setCell (I w.heap.size 6) (Z none 0 0))).heap[w.heap.size]?=some (D #[J e.bx,J e.ag,J e.al,J 0,J 0,J (-1),Z none 0 0] 229 (0,0)):=by
  simp[World.setCell,gV,a1.out]
 have a:bO (((((Q.setCell (I w.heap.size 3) (J 0)).setCell (I w.heap.size 4) (J 0)).setCell (I w.heap.size 5) (J (-1))).setCell (I w.heap.size 6) (Z none 0 0))) P (Z o l.length r) l:=L2.MC j (λk hk e=>by have:=X k hk;omega) (λg y q hq e=>by have:=R g y q hq;omega);have P3:=M (P2.trans j (λi hi e=>by omega));clear y0 y1 y2 y3 y4 y5 y6 a6 a7 a8 a9 b0 b1 b2;generalize((((Q.setCell _ _).setCell _ _).setCell _ _).setCell _ _)=d at *;have b3:=M j;obtain⟨y0,y1,y2,y3,y4,y5,y6,_⟩:=qF K;have L3:=M a;have c0:(d.alloc (D #[J e.bx,J e.ag,J e.al,J 0,J 0,J (-1),Z none 0 0,L false] 271)).cell? (I P 0)=some (Z o l.length r):=ae.aj ((ck d).alloc _) a.c0;have b4:(d.alloc (D #[J e.bx,J e.ag,J e.al,J 0,J 0,J (-1),Z none 0 0,L false] 271)).drew.cell? (I P 0)=some (Z o l.length r):=c0;have b5:(d.drew.alloc (D #[J e.bx,J e.ag,J e.al,J 0,J 0,J (-1),Z none 0 0,L false] 271)).cell? (I P 0)=some (Z o l.length r):=c0;have b6:d.drew.cell? (I P 0)=some (Z o l.length r):=a.c0;have b7:d.cell? (I P 0)=some (Z o l.length r):=a.c0;have b8:P<d.heap.size:=(bR.1 a.aM).1;have u:=M a.aM;clear j K a;go_region_law ((first|(refine xm T (.tmp 18) (.tmp 21) _ T 0 271 i0 _ 8 80 underlying215 a2 a3 a4 a5 T (by omega) (Z o l.length r) l.length (kt l) T (aH (w:=d.drew) L3.own _) _ 1 1 (eV (fresh e)) T (jd.cI d.drew _ #[J e.bx,J e.ag,J e.al,J 0,J 0,J (-1),Z none 0 0,L false] 8 1 _ T T) (by simp[eV,fresh,Value.oneCell']) (by simp only[maxLen];omega) (by omega) (by omega) ?_;intro v6 w6 b F s;obtain⟨A6,c6,rfl⟩:=aD b;have t:=M (ac.grown (S:=λk=>(Z o l.length r).ownBlock=some k) ((show ac _ d d.drew from⟨T,T,T,ci _,λ_ _ _=>T⟩).alloc _) F (λk _ e=>e));have x:=(t.block P (bR.1 u).1 (λg=>nB u L3.own g T)).trans u;have s6:=fq 0 x;have b9:=ey 0 x;have p:=M s;have E:=M b;clear s b F x)))
 all_goals
  go_wp2_with fail;go_ret;refine⟨_,T,bO.Ki L3 t E p (by simp) hf,(P3.mono (λ_ _ f=>f.elim)).trans (sm (P:=P) _ t) (λ_ _ h=>h),?_⟩;rcases p.out with h|h
  ·exact .inl h
  ·exact .inr ⟨_,h,by have:=P3.size;simp;omega⟩
end Ln
namespace Ln
theorem kP(b:N)(e:TypeId):∀(a:List Value) (o:N) (w:Y) (an:Array Value),w.heap[b]?=some (D an e (0,0))->o+a.length<=an.size ->
  ∃cur',(w.setCells b o a).heap[b]?=some (D cur' e (0,0))/\cur'.toList=an.toList.take o++a++an.toList.drop (o+a.length)
 | [],o,w,an,h,c=>⟨an,h,by simp⟩
 | v::r,o,w,an,h,c=>by
  simp only[bu]at c;obtain⟨d,f,g⟩:=kP b e r (o+1) (w.setCell (I b o) v) (an.setIfInBounds o v) (heap_setCell_same w b o an e v h) (by simp;omega);refine⟨d,f,?_⟩;rw[g,Array.toList_setIfInBounds,cD,List.drop_set_of_lt (by omega),List.take_set_of_le (by omega),kS (by simp;omega)];simp only[bu,Option.toList_some,cS,dV,cW];rw[show o+1+r.length=o+(r.length+1)from by omega]
theorem oq(b:N):∀(c:List Value) (o:N) (a:Y) (w:Y),ac (λq=>q=b) a w->ac (λq=>q=b) a (w.setCells b o c)
 | [],_,_,_,h=>h
 | v::r,o,a,_,h=>oq b r (o+1) a _ (gI h o v)
theorem GA{w:Y}{g c:N}{l:List En}{k:N}(h:w.ownsRow 0 271 8 (Z (some (I g 0)) l.length c) l.length (kt l))(u:k<l.length)(f:List Value)(hz:f.length=8):((w.setCells g (k*8) (kt (l.drop (k+1)))).setCells g ((l.length-1)*8) f).ownsRow 0 271 8 (Z (some (I g 0)) (l.length-1) c) (l.length-1) (kt (l.eraseIdx k)):=by
 have b:(kt (l.drop (k+1))).length=(l.length-1-k)*8:=by rw[kI,lP];congr 1;omega
 rcases h.2 with⟨p,_⟩|⟨E,o,a,y,s,t,F,v,d,x⟩
 ·simp at p
 ·injection y with hv1 hv2 hv3;injection hv1 with hv1;injection hv1 with hv1;subst hv1 hv3;obtain⟨c1,q,j⟩:=kP g 271 (kt (l.drop (k+1))) (k*8) w a t (by rw[b,d];omega);have e:c1.size=a.size:=by
   rw[<-Array.length_toList,j];simp only[iB,jq,lP,Array.length_toList,b,d];omega
  obtain⟨i,r,m⟩:=kP g 271 f ((l.length-1)*8) _ c1 q (by rw[hz,e,d];omega);have B:i.size=a.size:=by
   rw[<-Array.length_toList,m,<-e];simp only[iB,jq,lP,Array.length_toList,hz,e,d];omega
  refine⟨by rw[kI,List.length_eraseIdx_of_lt u],.inr ⟨g,c,i,T,s,r,by omega,v,by rw[B,d],?_⟩⟩;have n:(a.toList.take (k*8))=kt (l.take k):=by
   rw[<-CF,<-x,List.take_take,eL (by omega)]
  have z:(kt (l.take k)).length=k*8:=by rw[kI,jq,eL (by omega)]
  have A:(a.toList.take (k*8)++kt (l.drop (k+1))).length=(l.length-1)*8:=by rw[iB,n,z,b];omega
  rw[m,cS,j,List.take_append_of_le_length (by rw[jq,iB,A];omega),List.take_take,Nat.min_self,List.take_append_of_le_length (by omega),List.take_of_length_le (by omega),n,<-rE,List.eraseIdx_eq_take_drop_succ]
theorem ya:∀w,(zeroValue 271).run prog w=.ok (.agg #[J 0,J 0,J 0,J 0,J 0,J 0,Z none 0 0,L false]) w:=λw=>by
 have hz:(t271).zero=some (.agg #[J 0,J 0,J 0,J 0,J 0,J 0,Z none 0 0,L false]):=by kernel_rfl
 simp[zeroValue,hz]
theorem tp{P:Program}(w:Y)(t e n:TypeId)(z:Value)(l:P.underlying t=some (.slice e))(m:∀w,(zeroValue e).run P w=.ok z w)(d:∀u∈z.cells.toList,u.oneCell'=true)(b o c:N)
  (h:∀j,j<z.cells.size->(w.cell? (I b (o+j))).isSome=true) (k:∀j,j<z.cells.size->w.frozen? (I b (o+j))=false) :
  (Builtin.clear_ #[t] n #[Z (some (I b o)) 1 c]).run P w=.ok (.tuple #[]) (w.setCells b o z.cells.toList):=by
 have f:(Builtin.zeroCells z.cells 1).toList=z.cells.toList:=by
  simp[Builtin.zeroCells];apply List.ext_getElem
  ·simp
  ·intro i d p;have g:i<z.cells.size:=by simpa using d
   simp[Nat.mod_eq_of_lt g,g]
 have a:=run_storeCells_cells (P:=P) b o z.cells.toList 0 w (by simpa using h) (by simpa using k) d;simp only[Nat.add_zero]at a;simp[Builtin.clear_,dC l,m,f,a]
theorem xZ(g c k:N)(l:List En)(w:Y)(h:w.ownsRow 0 271 8 (Z (some (I g 0)) l.length c) l.length (kt l))(hk:k<l.length)(s:∀u∈kt l,u.oneCell'=true)(S:l.length<=1000):C 258 #[Z (some (I g 0)) l.length c,J k,J ((k:V)+1)] w λe X=>e=O (Z (some (I g 0)) (l.length-1) c)/\X.ownsRow 0 271 8 (Z (some (I g 0)) (l.length-1) c) (l.length-1) (kt (l.eraseIdx k))/\ac (λq=>q=g) w X:=by
 obtain⟨i0,E,a6,F,a7⟩:=aR rF;obtain⟨R,W⟩:l.length<=c/\c<=9223372036854775807:=by
  rcases h.2 with⟨B,_⟩|⟨g',a1,a2,hv,hb,hg,hn,hm,hs,y⟩
  ·simp at B
  ·injection hv with hv1 hv2 hv3;exact⟨by omega,by simp only[maxLen]at hm;omega⟩
 obtain⟨a,d⟩:∃a,a=kt (l.drop (k+1)):=⟨_,T⟩;have f:a.length=(l.length-(k+1))*8:=by rw[d,kI,lP]
 have p:∀(t:N) (u:Value),a[t]?=some u->w.cell? (I g ((k+1)*8+t))=some u:=λt u i=>by
  have y:=(dH.1 i).1;rw[f]at y;rw[d,<-vZ,List.getElem?_drop]at i;exact(h.cellAt _ (by omega)).trans i
 have b:∀j,j<l.length*8->(w.cell? (I g j)).isSome=true/\w.frozen? (I g j)=false:=λj r=>by
  refine⟨?_,h.frozenAt j⟩;rw[h.cellAt j (by omega),cR (by rw[kI];exact r)];rfl
 obtain⟨A,hA,x⟩:∃A:Addr,(if c=k+1 then some (⟨g,0,none⟩:Addr)else some ⟨g,(k+1)*8,none⟩)=some A/\Hid (∀t u,a[t]?=some u->w.drew.cell? (A.add t)=some u):=by
  by_cases Q:c=k+1
  ·refine⟨⟨g,0,none⟩,by simp[Q],λt u i=>?_⟩;have B:a.length=0:=by rw[f];omega
   rw[eE.1 B]at i;simp at i
  ·refine⟨⟨g,(k+1)*8,none⟩,by simp[Q],λt u i=>?_⟩;rw[Addr.add_lit];exact p t u i
 have s1:Hid (a.length=(l.length-(k+1))*8):=f;have s2:Hid (∀u∈a,u.oneCell'=true):=by
  intro u i;rw[d,<-vZ]at i;exact s u (List.mem_of_mem_drop i)
 have s3:Hid (∀t,t<a.length->(w.drew.cell? (I g (0+k*8+t))).isSome=true/\w.drew.frozen? (I g (0+k*8+t))=false):=by
  intro t y;rw[f]at y;rw[br];exact b _ (by omega)
 obtain⟨m,n⟩:∃m,m=w.drew.setCells g (0+k*8) a:=⟨_,T⟩;have v:∀j,j<l.length*8->(m.cell? (I g j)).isSome=true/\m.frozen? (I g j)=false:=λj r=>by
  rw[n];exact⟨World.isSome_setCells g a _ _ _ (b j r).1,(World.frozen?_setCells g a _ _ _).trans (b j r).2⟩
 have o:(m.setCells g ((l.length-1)*8) [J 0,J 0,J 0,J 0,J 0,J 0,Z none 0 0,L false]).ownsRow 0 271 8 (Z (some (I g 0)) (l.length-1) c) (l.length-1) (kt (l.eraseIdx k))/\ac (λq=>q=g) w (m.setCells g ((l.length-1)*8) [J 0,J 0,J 0,J 0,J 0,J 0,Z none 0 0,L false]):=by
  rw[n,d,br];exact⟨GA (w:=w.drew) h hk _ T,oq g _ _ _ _ (oq g _ _ _ _ (show ac _ w w.drew from⟨T,T,T,ci _,λ_ _ _=>T⟩))⟩
 have K:l.length-(k+(l.length-(k+1)))=1:=by omega
 have P:k+(l.length-(k+1))=l.length-1:=by omega
 have a3:∀G z,(Builtin.clear_ #[215] G #[Z (some (I g ((k+(l.length-(k+1)))*8))) (l.length-(k+(l.length-(k+1)))) z]).run prog m=.ok (.tuple #[]) (m.setCells g ((l.length-1)*8) [J 0,J 0,J 0,J 0,J 0,J 0,Z none 0 0,L false]):=λG z=>by
  rw[K,P];exact tp m _ _ G _ underlying215 ya (by simp[Value.cells,Value.oneCell']) g _ z (λj r=>(v _ (by simp[Value.cells]at r;omega)).1) (λj r=>(v _ (by simp[Value.cells]at r;omega)).2)
 have hW:Hid (m=w.drew.setCells g (0+k*8) a):=n;have H:=M o;have a4:k<=c:=by omega
 have a5:k+1<=c:=by omega
 have b0:(0:V)<=(k:V)+1:=by omega
 have b1:(k:V)+1<=(l.length:V):=by omega
 clear n v b p d f o K P s h;go_enter func258,ntmps258;go_wp2_with fail;go_region_law (refine step_append_room T (.tmp 22) (.tmp 25) 215 T 271 i0 8 underlying215 E F g 0 k c (by simp[Act.eval,Act.put]) A (l.length-(k+1)) (c-(k+1)) a (by simp[Act.eval,Act.put]) s1 x s2 (by omega) s3 ?_;rw[<-hW.out]);go_wp2_with fail;go_ret;exact⟨by rw[show k+(l.length-(k+1))=l.length-1 from by omega];rfl,H.1,H.2⟩
theorem bO.one{w:Y}{P:N}{v:Value}{l:List En}(h:bO w P v l):∀u∈kt l,u.oneCell'=true:=by
 intro u a;obtain⟨e,b,a⟩:=List.mem_flatMap.1 a;obtain⟨A,c,d,_⟩:=(h.cG e b).1;simp only[eV,d]at a;simp at a;rcases a with rfl|rfl|rfl|rfl|rfl|rfl|rfl|rfl<;>rfl
theorem bO.FF{w w2:Y}{P g c k:N}{l:List En}(h:bO w P (Z (some (I g 0)) l.length c) l)(t:k<l.length)(j:w2.ownsRow 0 271 8 (Z (some (I g 0)) (l.length-1) c) (l.length-1) (kt (l.eraseIdx k)))(r:ac (λq=>q=g) w w2):bO (w2.setCell (I P 0) (Z (some (I g 0)) (l.length-1) c)) P (Z (some (I g 0)) (l.length-1) c) (l.eraseIdx k)/\ac (eU P (Z (some (I g 0)) l.length c)) w (w2.setCell (I P 0) (Z (some (I g 0)) (l.length-1) c)):=by
 have s:=(bR.1 h.aM).1;have o:g≠P:=nB h.aM h.own T;have n:w2.heap[P]?=some (D #[Z (some (I g 0)) l.length c] 217 (0,0)):=(r.block P s (λa=>o a.symm)).trans h.aM;have f:ac (eU P (Z (some (I g 0)) l.length c)) w (w2.setCell (I P 0) (Z (some (I g 0)) (l.length-1) c)):=sm _ (r.mono (λq _ b=>by subst b;rfl));have p:ac (λq=>q=P) w2 (w2.setCell (I P 0) (Z (some (I g 0)) (l.length-1) c)):=gI (bo w2) 0 _;have i:(l.eraseIdx k).length=l.length-1:=List.length_eraseIdx_of_lt t;refine⟨⟨by simp[World.setCell,gV,n],?_,λa d=>?_,by have:=h.eT;omega,λa d=>h.short a (List.mem_of_mem_eraseIdx d)⟩,f⟩
 ·rw[i];exact p.own j (λq b e=>by simp[Value.ownBlock]at b;omega)
 ·have m:=List.mem_of_mem_eraseIdx d;exact⟨(h.cG a m).1.MC f (λq b=>((h.cG a m).2 q b).1),λq b=>⟨((h.cG a m).2 q b).1,eR ((h.cG a m).2 q b).2 f.size⟩⟩
theorem vX(P:N)(v:Value)(l:List En)(t:V)(k:N)(w:Y)(o:bO w P v l)(m:te (zs t) l=k)(u:k<l.length):C 199 #[I P 0,J t] w λq y=>∃x,q=O (L true)/\bO y P x (l.eraseIdx k)/\ac (eU P v) w y/\x.ownBlock=v.ownBlock:=by
 obtain⟨g,c,rfl,_,_⟩:=o.own.form (n:=l.length) (by omega);have s:=M o;have p:=M m;have j:=o.eT;have B:((k:V)<0)=False:=by simp
 clear o m;go_enter func199,ntmps199;go_wp2_with fail;refine(om P _ l t _ s).mono ?_;rw[p.out];rintro G Q⟨rfl,i⟩;have z:=M i;have b:=M (s.pure i);have A:=b.c0;clear i;go_wp2_with fail;refine(xZ g c k l _ b.own u b.one j).mono ?_;rintro H E⟨rfl,a,e⟩;have r:=M (b.FF u a e);have d:E.heap[P]?=some (D #[Z (some (I g 0)) l.length c] 217 (0,0)):=(e.block P (bR.1 b.aM).1 (λq=>nB b.aM b.own T q.symm)).trans b.aM;have F:=fq 0 d;have K:=ey 0 d;clear a e d A;go_wp2_with fail;go_ret;exact⟨_,T,r.1,(z.mono (λ_ _ f=>f.elim)).trans r.2 (λ_ _ h=>h),T⟩
end Ln
section
theorem bB{P:Program}{id:N}{Q:Exit->Act->Y->Prop}{a:Act}{w:Y}{l:List Oper}(Dq:Y->Prop)(c:Dq w.drew)(g:P.follows .mixedOrders=true)(e:Region.lexB .any l.toArray=true)
  (h:∀(S:Type) (f:S->Y) (_:Nonempty S),(∀s,Dq (f s))->(∀b,Dq b->∃s,b=f s)->wpQuiet P l.toArray (λb=>∃s,b=f s) (λd=>∀b,(∃s,b=f s)->Q .normal d b) l a):(Code.region id l.toArray true).wp P Q a w :=
 wp_region_quiet (C:=λb=>∃s:{b // Dq b},b=s.1) g e ⟨⟨w.drew,c⟩,T⟩
  (by simpa using h {b // Dq b} Subtype.val ⟨⟨w.drew,c⟩⟩ (λs=>s.2) (λb i=>⟨⟨b,i⟩,T⟩))
theorem aN{P:Program}{f:FuncId}{args:Array Value}{w:Y}{v:Value}{Dq:Y->Prop}{S:Type}{g:S->Y}(b:∀a,Dq a->∃s,a=g s)(c:Dq w)(i:∀a,Dq w->ae w a->Dq a)
  (h:Calls P f args w λe a=>e=O v/\ae w a):Calls P f args w λe a=>e=O v/\∃s,a=g s :=
 h.mono λ_ a ⟨d,j⟩=>⟨d,b a (i a c j)⟩
theorem dA{w:Y}{aC a:N}{e:TypeId}{size:N}{v:Value}{n:N}{xs:List Value}(h:w.ownsRow aC e size v n xs)(j:a<=aC):w.ownsRow a e size v n xs:=⟨h.1,h.2.imp id λ⟨g,b,c,d,f,i⟩=>⟨g,b,c,d,aF j f,i⟩⟩
theorem Gz{w:Y}{aC:N}{e:TypeId}{size n c:N}{A:Option Addr}{xs:List Value}(h:w.ownsRow aC e size (Z A n c) n xs):n<=c/\c<=maxLen:=by
 rcases h.2 with⟨a,rfl⟩|⟨g,b,d,a,_,_,f,i,_⟩
 ·injection a with _ _ hc;subst hc;exact⟨ci _,by simp[maxLen]⟩
 ·injection a with _ _ hc;subst hc;exact⟨f,i⟩
theorem jd.part{w:Y}{aC:N}{e:TypeId}{g c:N}{ts:List Int}(h:w.ownsRow aC e 1 (Z (some (I g 0)) ts.length c) ts.length (bI ts))(k m:N)(d:k+m<=ts.length):jd w 1 (some ⟨g,k,none⟩) m (bI ((ts.drop k).take m)):=by
 refine⟨by rw[lh,jq,lP];omega,λ_=>⟨g,k,T,λj u a=>?_⟩⟩;have b:=(dH.1 a).1;rw[lh,jq,lP]at b;rw[h.cellAt (k+j) (by omega)];simp only[bI,fV,du,List.getElem?_drop]at a ⊢;rw[af (by omega)]at a;exact a
theorem xh{w:Y}{size:N}(A:Option Addr):jd w size A 0 []:=⟨by simp,λh=>absurd h (by omega)⟩
theorem jd.KE{w:Y}{aC:N}{e:TypeId}{g c:N}{ts:List Int}(h:w.ownsRow aC e 1 (Z (some (I g 0)) ts.length c) ts.length (bI ts))(k:N)(a:k<=ts.length):jd w 1 (some ⟨g,0,none⟩) k (bI (ts.take k)):=by
 simpa using jd.part h 0 k (by omega)
end
section
def JX(xs:List Int):Prop:=∀x∈xs,-9223372036854775808<=x/\x<=9223372036854775807
def ez(w:Y)(aC:N)(v:Value)(xs:List Int):Prop :=
 ∃(A:Option Addr) (c:N),v=Z A xs.length c/\xs.length<=c/\c<=maxLen/\JX xs/\(∀k,v.ownBlock=some k->aC<=k/\k<w.heap.size) /\
  (0<c->∃g off,A=some ⟨g,off,none⟩/\(∀j,j<xs.length->w.cell? (I g (off+j))=some (J (xs.getD j 0)))/\∀j,j<c->(w.cell? (I g (off+j))).isSome=true/\w.frozen? (I g (off+j))=false)
section
variable{w w':Y}{aC:N}{v:Value}{xs:List Int}
theorem ez.form(h:ez w aC v xs):∃A c,v=Z A xs.length c/\xs.length<=c/\c<=maxLen:=by
 obtain⟨A,c,a,b,d,_⟩:=h;exact⟨A,c,a,b,d⟩
theorem ez.lt(h:ez w aC v xs):∀k,v.ownBlock=some k->aC<=k/\k<w.heap.size:=by
 obtain⟨_,_,_,_,_,_,h,_⟩:=h;exact h
theorem ez.pA(h:ez w aC v xs):JX xs:=by
 obtain⟨_,_,_,_,_,h,_⟩:=h;exact h
theorem ez.nil(w:Y)(aC:N):ez w aC (Z none 0 0) []:=⟨none,0,T,ci _,by simp[maxLen],λx b=>by simp at b,λk a=>by simp[Value.ownBlock]at a,λh=>by omega⟩
theorem ez.MC{S:N->Prop}(h:ez w aC v xs)(b:ac S w w')(i:∀k,v.ownBlock=some k->¬S k):ez w' aC v xs:=by
 obtain⟨A,c,rfl,m,n,o,d,q⟩:=h;refine⟨A,c,T,m,n,o,λk l=>⟨(d k l).1,eR (d k l).2 b.size⟩,λs=>?_⟩;obtain⟨g,off,rfl,u,t⟩:=q s;have e:=(d g T).2;have r:=b.block g e (i g T);refine⟨g,off,T,λj f=>(b.cell (p:=⟨g,off+j,none⟩) e (i g T)).trans (u j f),λj f=>?_⟩;rw[b.cell (p:=⟨g,off+j,none⟩) e (i g rfl),World.frozen?_of_block (a:=⟨g,off+j,none⟩) r];exact t j f
theorem ez.pure(h:ez w aC v xs)(a:ae w w'):ez w' aC v xs:=h.MC a (λ_ _ f=>f)
theorem ez.sl(h:ez w aC v xs):eO w w.heap.size v xs:=by
 obtain⟨A,c,rfl,a,b,d,e,f⟩:=h;refine⟨A,c,T,a,b,d,λj=>?_⟩;obtain⟨g,off,rfl,i,_⟩:=f (by omega);exact⟨g,off,T,(e g T).2,i⟩
theorem ez.mono{a:N}(h:ez w aC v xs)(j:a<=aC):ez w a v xs:=by
 obtain⟨A,c,rfl,e,f,g,b,i⟩:=h;exact⟨A,c,T,e,f,g,λk d=>⟨aF j (b k d).1,(b k d).2⟩,i⟩
theorem ez.fQ{e:TypeId}(h:w.ownsRow aC e 1 v xs.length (bI xs))(n:JX xs):ez w aC v xs:=by
 rcases h.2 with⟨rfl,f⟩|⟨g,b,a,rfl,o,d,m,l,p,q⟩
 ·obtain rfl:xs=[]:=mD f;exact ez.nil w aC
 ·refine⟨_,b,T,m,l,n,λk i=>h.lt k i,λ_=>⟨g,0,T,λj c=>?_,λj c=>?_⟩⟩
  ·rw[br,h.cellAt j (by omega),bI,fV,cR c];simp[List.getD,c]
  ·rw[br,cell_of_row w g j a e (0,0) d,frozen_of_row w g j a e d,Array.getElem?_eq_getElem (by omega)];exact⟨T,T⟩
theorem ez.tail{A:Option Addr}{c n:N}{x:V}{xs:List Int}(h:ez w aC (Z A n c) (x::xs))(g off:N)(m:A=some ⟨g,off,none⟩):ez w aC (Z (if c=1 then some ⟨g,off,none⟩else some ⟨g,off+1,none⟩) (n-1) (c-1)) xs:=by
 obtain⟨t,u,q,f,B,i,l,b⟩:=h;injection q with hv1 hv2 hv3;subst hv1 hv2 hv3 m;simp only[bu]at f b;obtain⟨z,d,e,r,p⟩:=b (by omega);injection e with e;injection e with e1 e2;subst e1 e2;refine⟨_,c-1,by rw[bu,Nat.add_sub_cancel],by omega,by omega,λy s=>i y (eZ _ s),λk a=>?_,λE=>?_⟩
 ·have:k=g:=by
   split at a<;>(injection a with a;exact a.symm)
  subst this;exact l k T
 ·rw[aa (by omega)];refine⟨g,off+1,T,λj o=>?_,λj o=>?_⟩
  ·rw[show off+1+j=off+(j+1)from by omega,r (j+1) (by omega)];rfl
  ·rw[show off+1+j=off+(j+1)from by omega];exact p (j+1) (by omega)
end
end
section
def BR(P:Program)(c:Code)(Q:Exit->Act->Y->Prop):N->Exit->Act->Y->Prop
 | 0,.goto _,_,_=>False
 | n+1,.goto l,a,w=>∃gT,findLabel c l=some gT/\gT.wp P (BR P c Q n) a w
 | _,e,a,w=>Q e a w
section
variable{P:Program}{a:Act}{w:Y}{Q:Exit->Act->Y->Prop}{c:Code}{n:N}
@[go_sem] theorem gz:BR P c Q n .normal a w=Q .normal a w:=by cases n<;>rfl
@[go_sem] theorem MC (id:Nat):BR P c Q n (.exit id) a w=Q (.exit id) a w:=by cases n<;>rfl
@[go_sem] theorem cF:BR P c Q n .ret a w=Q .ret a w:=by cases n<;>rfl
@[go_sem] theorem JW (b:List PanicEntry):BR P c Q n (.panic b) a w=Q (.panic b) a w:=by cases n<;>rfl
theorem cO{l:N}{b:Code}(d:findLabel c l=some b)(h:b.wp P (BR P c Q n) a w):BR P c Q (n+1) (.goto l) a w:=⟨b,d,h⟩
theorem bf(n:N)(h:∀Cq,Cq=c->c.wp P (BR P Cq Q n) a w):(Code.scope c).wp P Q a w:=by
 have B:=h c T;clear h;intro b k cs;have x:∀(n:N) (d:Code) (a:Act) (w:Y),d.wp P (BR P c Q n) a w->∃e y A,Q e y A/\Arrives P (lone (b.at a (.code d::.inScope c::k)) cs w) b k cs e y A:=by
  intro n
  induction n with
  | zero =>
   intro d a w v;obtain⟨e,f,i,j,g⟩:=v b (.inScope c::k) cs;cases e with
   | normal=>exact⟨.normal,f,i,j,Steps.trans g (.one step_inScope)⟩
   | exit id=>exact⟨.exit id,f,i,j,λq o=>g q (by simp[exitTo,o])⟩
   | goto u=>exact(j:False).elim
   | ret=>exact⟨_,f,i,j,g⟩
   | panic z=>exact⟨_,f,i,j,g⟩
   | outgrown=>exact⟨_,f,i,j,g⟩
  | succ n H =>
   intro d a w v;obtain⟨e,f,i,j,g⟩:=v b (.inScope c::k) cs;cases e with
   | normal=>exact⟨.normal,f,i,j,Steps.trans g (.one step_inScope)⟩
   | exit id=>exact⟨.exit id,f,i,j,λq o=>g q (by simp[exitTo,o])⟩
   | goto u =>
    obtain⟨m,E,G⟩:=j;have F:gotoIn u (.inScope c::k)=some (.code m::.inScope c::k):=by simp[gotoIn,E]
    obtain⟨s,r,t,p,l⟩:=H m f i G;exact⟨s,r,t,p,.of_steps (g _ F) l⟩
   | ret=>exact⟨_,f,i,j,g⟩
   | panic z=>exact⟨_,f,i,j,g⟩
   | outgrown=>exact⟨_,f,i,j,g⟩
 obtain⟨e,f,i,j,g⟩:=x n c a w B;cases e with
 | normal=>exact⟨.normal,f,i,j,.head step_scope g⟩
 | exit id=>exact⟨.exit id,f,i,j,λq o=>.head step_scope (g q o)⟩
 | goto u=>exact⟨.goto u,f,i,j,λq o=>.head step_scope (g q o)⟩
 | ret=>exact⟨_,f,i,j,.of_steps (.one step_scope) g⟩
 | panic z=>exact⟨_,f,i,j,.of_steps (.one step_scope) g⟩
 | outgrown=>exact⟨_,f,i,j,.of_steps (.one step_scope) g⟩
theorem rS{l:N}{b:Code}(o:findLabel c l=some b)(g:N->Act->Y->Prop)
  (step:∀n a w,g n a w->b.wp P (Exit.jump l (λd f=>∃m,n=m+1/\g m d f) Q) a w):∀n a w,g n a w->b.wp P (BR P c Q n) a w:=by
 intro n
 induction n with
 | zero =>
  intro a w i;refine Code.wp_mono (λe d f h=>?_) (step 0 a w i);cases e with
  | goto s =>
   obtain⟨_,m,q,_⟩:=h;omega
  | normal=>exact h
  | exit id=>exact h
  | ret=>exact h
  | panic k=>exact h
  | outgrown=>exact h
 | succ n r =>
  intro a w i;refine Code.wp_mono (λe d f h=>?_) (step (n+1) a w i);cases e with
  | goto s =>
   obtain⟨p,m,q,j⟩:=h;obtain rfl:n=m:=by omega
   subst p;exact⟨b,o,r d f j⟩
  | normal=>exact h
  | exit id=>exact h
  | ret=>exact h
  | panic k=>exact h
  | outgrown=>exact h
