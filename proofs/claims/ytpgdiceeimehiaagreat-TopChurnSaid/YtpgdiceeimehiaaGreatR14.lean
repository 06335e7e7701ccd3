/- Part 14 of the proof of spotop.TopChurn. -/
import Derived.Test.YtpgdiceeimehiaaGreatR13
set_option maxRecDepth 100000
set_option maxHeartbeats 16000000
set_option linter.all false
open Go.Proofs.Tryz
namespace Go.Proofs.YtpgdiceeimehiaaGreat
open RowKit
section
namespace Sp
section
variable(c:Cn)(sh:List Sh)(q:Q)(s:St)
theorem oP(k sp:N)(se:Bool)(w:Y)(h:At w c sh q s)(hn:0<q.ns)(hk:1<=k)(e9:k<=1024)(b9:sp=0->s.sx.length<k)(b4:s.en=[])(B:gY s k sp=false):C 248 #[I q.sp 0,J 0,J k,J sp,L se] w λe w'=>∃lv',e=O (.agg #[J 0,Z none 0 0,J (-1)])/\ac (F q s) w w' /\
   At w' c sh q {s with lv:=lv',en:=[⟨0,k,sp,0,0,-1,Z none 0 0,[],false⟩]}/\(lv'.ownBlock=s.lv.ownBlock\/∃k,lv'.ownBlock=some k/\w.heap.size<=k):=by
 have g3:=Po.mS s.fr;have e7:=h.fL.eA.eT;have H0:=M h;have j:=M b4;have g:=mV (c:=c) (sh:=sh) (q:=q) (s:=s) k sp;rw[B]at g;obtain⟨z,hz⟩:∃z:V,(sp:V)=z:=⟨_,T⟩;rw[hz]at g ⊢;have e8:decide (z<0)=false:=by simp;omega
 have c8:Hid (sp=0/\z=0\/(z==0)=false):=M (by rcases kc sp with h|h;exact .inl ⟨h,by omega⟩;exact .inr (by simp;omega));have c9:=M b9;have a3:=M g;clear b9 g B hz;have hG:=ai w (D #[J 0,Z none 0 0,J 0] 191);have t:=(ck w).alloc (D #[J 0,Z none 0 0,J 0] 191);have hW:=h.pure t;have c7:=M t;have a9:=M hG;obtain⟨-,-,-,⟨n,c3⟩,-⟩:=hW.cs;have fb:=hW.fb;have c2:(w.alloc (D #[J 0,Z none 0 0,J 0] 191)).heap.size=w.heap.size+1:=by simp
 have H1:=M (hW.count (wrap64 (n+1)));have O1:Hid (ac (F q s) w ((w.alloc (D #[J 0,Z none 0 0,J 0] 191)).setCell (I q.sp 3) (J (wrap64 (n+1))))):=M (eX (dD t) 3 _);clear h hW t hG b4;go_enter func248,ntmps248;go_upto_region 2 with fail;have b8:w.heap.size≠q.sp:=λe=>by have:=H0.lt q.sp (.inl T);omega
 have c6:Hid (((w.alloc (D #[J 0,Z none 0 0,J 0] 191)).setCell (I q.sp 3) (J (wrap64 (n+1)))).heap[w.heap.size]?=some (D #[J 0,Z none 0 0,J 0] 191 (0,0))):=M (aK a9 b8);have e1:Hid (((w.alloc (D #[J 0,Z none 0 0,J 0] 191)).setCell (I q.sp 3) (J (wrap64 (n+1)))).heap.size=w.heap.size+1):=M (by simp[World.setCell]);generalize(w.alloc _).setCell _ _=w1 at *;clear c3 fb a9 c7 c2;have d:Hid (∀k,F q s k->k<w.heap.size):=M (λk hk=>H0.lt k hk);obtain⟨-,-,-,-,-,-,-,f⟩:=H1.cs;go_wp2_with fail;refine(rk c sh q s w1 H1 hn).mono ?_;rintro e w2⟨rfl,rfl⟩;have b6:C 197 #[I q.li 0,J 0] w1 λe' w'=>e'=O (.tuple #[.agg #[J 0,J 0,J 0,J 0,J 0,J 0,Z none 0 0],L false])/\ae w1 w':=Ln.pX q.li s.lv s.en 0 w1 H1.eM (by rw[j.out];rfl);have b0:=M b6;clear b6;go_wp2_with fail;refine b0.mono ?_;rintro e w2⟨rfl,b7⟩;have l:=ae.MD b7 ((ck _).alloc (D #[J 0,J 0,J 0,J 0,J 0,J 0,Z none 0 0] 229));have H3:=M (H1.pure l);have a4:=M (ae.bF l c6);have O3:Hid (ac (F q s) w (w2.alloc (D #[J 0,J 0,J 0,J 0,J 0,J 0,Z none 0 0] 229))):=M (O1.trans (dD l) (λ_ _ h=>h));have c5:w.heap.size+1<=(w2.alloc (D #[J 0,J 0,J 0,J 0,J 0,J 0,Z none 0 0] 229)).heap.size:=by have:=l.size;have:=e1.out;omega
 have b2:=M c5;clear b7 l b0 f c5;have d1:decide ((k:V)<1)=false:=by simp;omega
 go_upto_region 6 with fail;generalize w2.alloc _=w3 at *;have c4:=Sk.zV q.s0 c.aB (k:V) s.sv s.sx w3 H3.kz;have e0:=M c4;clear c4;rcases c8.out with⟨e6,rfl⟩|g4
 case' inl =>
  go_wp2_with fail;refine(e0 (.inr (by have:=c9 e6;omega))).mono ?_;rintro e w4⟨rfl,rfl⟩
 all_goals
  obtain⟨-,-,-,-,-,G,H,f⟩:=H3.cs;obtain⟨d4,d5,d6,d7,d8,d9,K,P,R⟩:=H3.cc;have W:=lN c sh q s w3 H3;rw[j.out]at W;have b1:=M W;clear W;go_wp2_with fail;refine b1.mono ?_;rintro e w4⟨rfl,m⟩;have H4:=M (H3.pure m);have a5:=M (ae.bF m a4);have O4:Hid (ac (F q s) w w4):=M (O3.trans (dD m) (λ_ _ h=>h));have b3:Hid (w.heap.size+1<=w4.heap.size):=M (aF b2 m.size);clear m b1 G H f d4 d5 d6 d7 d8 d9 K P R H3 a4 O3 b2;simp only[List.countP_nil];obtain⟨-,-,-,-,-,G,H,f⟩:=H4.cs;obtain⟨d4,d5,d6,d7,d8,d9,K,P,R⟩:=H4.cc;have a2:=M (a3 w4 H4 hk (by omega));go_wp2_with fail;refine a2.mono ?_;rintro e E⟨rfl,o⟩;have H5:=M (H4.pure o);have a6:=M (ae.bF o a5);have O5:Hid (ac (F q s) w E):=M (O4.trans (dD o) (λ_ _ h=>h));have e3:Hid (w.heap.size+1<=E.heap.size):=M (aF b3 o.size);clear o a2 G H f d4 d5 d6 d7 d8 d9 K P R H4 a5 O4 b3;obtain⟨-,-,-,-,-,-,-,f⟩:=H5.cs;have A:∀x:V,C 294 #[I q.li 0,.agg #[J 0,J k,J x,J 0,J 0,J 0,Z none 0 0]] E λe' w'=>∃v',e'=O (L true)/\Ln.bO w' q.li v' [⟨0,k,x,0,0,-1,Z none 0 0,[],false⟩]/\ac (Ln.eU q.li s.lv) E w'/\(v'.ownBlock=s.lv.ownBlock\/∃q,v'.ownBlock=some q/\E.heap.size<=q):=λx=>by
   have h9:=Ln.Fq q.li s.lv s.en ⟨0,k,x,0,0,0,Z none 0 0,[],false⟩ none 0 0 E H5.eM (by rw[j.out];rfl) (by rw[j.out];simp);rw[show s.en++[Ln.fresh ⟨0,k,x,0,0,0,Z none 0 0,[],false⟩]=[⟨0,k,x,0,0,-1,Z none 0 0,[],false⟩]from by rw[j.out];rfl]at h9;exact h9
  have u:=M A;clear A;go_wp2_with fail;refine(u _).mono ?_;rintro e w6⟨lv',rfl,h6,o6,S⟩;have H6:=M (H5.rU o6 h6 S (λe he b a=>by rw[jr]at he;subst he;cases a));have X:ac (F q s) E w6:=oi o6;have a7:=M (X.bF a6 (λhk=>by have:=d _ hk;omega));have O6:Hid (ac (F q s) w w6):=M (O5.trans X (λ_ _ h=>h));have a1:=M S;clear o6 X h6 S u f H5 a6 O5;go_wp2_with fail;refine(jO 0 w6).mono ?_;rintro e w7⟨rfl,r⟩;have H7:=M (H6.pure r);have a8:=M (ae.bF r a7);have O7:Hid (ac (F q s) w w7):=M (O6.trans (dD r) (λ_ _ h=>h));clear r H6 a7 O6;obtain⟨g0,g1,g2⟩:=gw a8;have gf:=λi=>ey i a8;go_wp2_with fail;have hX:∀x y z:Value,ac (λk=>k=w.heap.size) w7 (((w7.setCell (I w.heap.size 0) x).setCell (I w.heap.size 1) y).setCell (I w.heap.size 2) z):=λx y z=>(((ac.refl (λk=>k=w.heap.size) w7).setCell (p:=⟨w.heap.size,0,none⟩) (λ_=>T) x).setCell (p:=⟨w.heap.size,1,none⟩) (λ_=>T) y).setCell (p:=⟨w.heap.size,2,none⟩) (λ_=>T) z;have g5:=e3.out;have e5:∀b,lv'.ownBlock=some b->b<w.heap.size\/E.heap.size<=b:=λb a=>by
   rcases a1.out with h|⟨b',h,b5⟩
   ·exact .inl (d b (vC (.inl (.inr (h▸a)))))
   ·rw[h]at a;injection a with a;exact .inr (a▸b5)
  refine au (v:=.agg #[J 0,Z none 0 0,J (-1)]) (by simp[results,results248,go_sem,g0,g1,g2]) T ⟨lv',T,?_,?_,?_⟩
  ·exact O7.trans (hX _ _ _) (λb a e=>absurd a (by omega))
  ·refine H7.MC (hX _ _ _) (λb a e=>?_) (λb a e=>?_) (λe he b a=>?_)
   ·subst e;rcases a with a|a|a|a|a|a|(a|a)|a
    ·have:=d w.heap.size (.inl a);omega
    ·have:=d w.heap.size (.inr (.inl a));omega
    ·have:=d w.heap.size (js (.inl a));omega
    ·have:=d w.heap.size (pN (.inl a));omega
    ·have:=d w.heap.size (tw (.inl a));omega
    ·have:=d w.heap.size (xL (.inl a));omega
    ·have:=d w.heap.size (vC (.inl (.inl a)));omega
    ·have:=e5 _ a;omega
    ·have:=d w.heap.size (xH a);omega
   ·have:=(H0.ro b a).2;omega
   ·have e4:=jr.1 he;subst e4;cases a
  ·rcases a1.out with h|⟨b',h,b5⟩
   ·exact .inl h
   ·exact .inr ⟨b',h,by omega⟩
end
end Sp
end
section
namespace Sp
theorem nW{p:Ln.En->Bool}{e:Ln.En}(h:p e=true):Ln.te p [e]=(0:N):=Ln.yn (k:=0) (e:=e) T h (λj a=>by omega)
section
variable(c:Cn)(sh:List Sh)(q:Q)(s:St)
theorem nC(e:Ln.En)(w:Y)(h:At w c sh q s)(K:s.en=[e])(X:e.bx=0)(W:e.bE=0):C 129 #[I q.sp 0,J 0] w λe' w'=>e'=O (.agg #[J 0,Z none 0 0,J (-1)])/\ac (F q s) w w'/\At w' c sh q s:=by
 have H0:=M h;have A:=M K;have a4:=M W;have a5:=M X;have hG:=ai w (D #[J 0,Z none 0 0,J 0] 191);have t:=(ck w).alloc (D #[J 0,Z none 0 0,J 0] 191);have hW:=h.pure t;have E:=M hG;obtain⟨-,-,-,⟨n,c3⟩,-⟩:=hW.cs;have fb:=hW.fb;have H1:=M (hW.count (wrap64 (n+1)));have O1:Hid (ac (F q s) w ((w.alloc (D #[J 0,Z none 0 0,J 0] 191)).setCell (I q.sp 3) (J (wrap64 (n+1))))):=M (eX (dD t) 3 _);clear h hW t hG K W X;go_enter func129,ntmps129;go_upto_region 2 with fail;have S:w.heap.size≠q.sp:=λe'=>by have:=H0.lt q.sp (.inl T);omega
 have a2:Hid (((w.alloc (D #[J 0,Z none 0 0,J 0] 191)).setCell (I q.sp 3) (J (wrap64 (n+1)))).heap[w.heap.size]?=some (D #[J 0,Z none 0 0,J 0] 191 (0,0))):=M (aK E S);have H:Hid (((w.alloc (D #[J 0,Z none 0 0,J 0] 191)).setCell (I q.sp 3) (J (wrap64 (n+1)))).heap.size=w.heap.size+1):=M (by simp[World.setCell]);generalize(w.alloc _).setCell _ _=w1 at *;clear c3 fb E;have a1:Hid (∀k,F q s k->k<w.heap.size):=M (λk hk=>H0.lt k hk);obtain⟨-,-,-,-,-,-,-,a6⟩:=H1.cs;have G:=M (Ln.pW q.li s.lv s.en 0 e 0 w1 H1.eM (by rw[A.out];rfl) (by rw[A.out];exact nW (by simp[Ln.zs,a5.out])));go_wp2_with fail;refine G.mono ?_;rintro e2 j⟨d,g,rfl,r,R,P⟩;have o:=ai j (D #[J e.bx,J e.ag,J e.al,J e.bE,J e.bh,J e.aM,Z d e.cG.length g] 229);have u:=(ck j).alloc (D #[J e.bx,J e.ag,J e.al,J e.bE,J e.bh,J e.aM,Z d e.cG.length g] 229);have a:=ae.MD r u;have H3:=M (H1.pure a);have a3:=M (ae.bF a a2);have O3:Hid (ac (F q s) w (j.alloc (D #[J e.bx,J e.ag,J e.al,J e.bE,J e.bh,J e.aM,Z d e.cG.length g] 229))):=M (O1.trans (dD a) (λ_ _ h=>h));have b0:Hid (eO (j.alloc (D #[J e.bx,J e.ag,J e.al,J e.bE,J e.bh,J e.aM,Z d e.cG.length g] 229)) (j.alloc (D #[J e.bx,J e.ag,J e.al,J e.bE,J e.bh,J e.aM,Z d e.cG.length g] 229)).heap.size (Z d e.cG.length g) e.cG):=M (R.MC u (λ_ _ f=>f));have a8:Hid (∀b,(Z d e.cG.length g).ownBlock=some b->w.heap.size+1<=b):=M (λb l=>by have:=P b l;have:=H.out;omega);have b1:Hid (w.heap.size+1<=(j.alloc (D #[J e.bx,J e.ag,J e.al,J e.bE,J e.bh,J e.aM,Z d e.cG.length g] 229)).heap.size):=M (by have:=a.size;have:=H.out;omega);have r3:(j.alloc (D #[J e.bx,J e.ag,J e.al,J e.bE,J e.bh,J e.aM,Z d e.cG.length g] 229)).cell? (I j.heap.size 3)=some (J e.bE):=by rw[bK o];rfl
 have a7:=M o;have a9:Hid (w1.heap.size<=j.heap.size):=M r.size;clear r a G a6 R P o u;have hD:(e.bE==(0:V))=true:=by rw[a4.out];rfl
 go_wp2_with fail;generalize j.alloc _=w3 at *;refine(jO 0 w3).mono ?_;rintro e2 w7⟨rfl,m⟩;have H7:=M (H3.pure m);have B:=M (ae.bF m a3);have O7:Hid (ac (F q s) w w7):=M (O3.trans (dD m) (λ_ _ h=>h));clear m r3 hD;obtain⟨g0,g1,g2⟩:=gw B;have gf:=λi=>ey i B;go_wp2_with fail;have hX:∀x y z:Value,ac (λk=>k=w.heap.size) w7 (((w7.setCell (I w.heap.size 0) x).setCell (I w.heap.size 1) y).setCell (I w.heap.size 2) z):=λx y z=>(((ac.refl (λk=>k=w.heap.size) w7).setCell (p:=⟨w.heap.size,0,none⟩) (λ_=>T) x).setCell (p:=⟨w.heap.size,1,none⟩) (λ_=>T) y).setCell (p:=⟨w.heap.size,2,none⟩) (λ_=>T) z;refine au (v:=.agg #[J 0,Z none 0 0,J (-1)]) (by simp[results,results129,go_sem,g0,g1,g2]) T ⟨T,O7.trans (hX _ _ _) (λb l e=>absurd l (by omega)),?_⟩;refine H7.MC (hX _ _ _) (λb l e=>?_) (λb l e=>?_) (λe' he b l b2=>?_)
 ·have:=a1 b l;omega
 ·have:=(H0.ro b l).2;omega
 ·have:=((H0.eM.cG e' he).2 b l).2;omega
theorem kj(e:Ln.En)(w:Y)(h:At w c sh q s)(a7:s.en=[e])(b2:e.bx=0)(b1:e.bE=1):C 129 #[I q.sp 0,J 0] w λe' w'=>∃d g lv',e'=O (.agg #[J 1,Z d e.cG.length g,J e.aM])/\ac (F q s) w w'/\At w' c sh q {s with lv:=lv',en:=[]}/\lv'.ownBlock=s.lv.ownBlock/\eO w' w'.heap.size (Z d e.cG.length g) e.cG/\∀b,(Z d e.cG.length g).ownBlock=some b->w.heap.size<b:=by
 have H0:=M h;have m:=M a7;have a5:=M b1;have a6:=M b2;have hG:=ai w (D #[J 0,Z none 0 0,J 0] 191);have P:=(ck w).alloc (D #[J 0,Z none 0 0,J 0] 191);have hW:=h.pure P;have X:=M hG;obtain⟨-,-,-,⟨n,c3⟩,-⟩:=hW.cs;have fb:=hW.fb;have H1:=M (hW.count (wrap64 (n+1)));have O1:Hid (ac (F q s) w ((w.alloc (D #[J 0,Z none 0 0,J 0] 191)).setCell (I q.sp 3) (J (wrap64 (n+1))))):=M (eX (dD P) 3 _);clear h hW P hG a7 b1 b2;go_enter func129,ntmps129;go_upto_region 2 with fail;have b0:w.heap.size≠q.sp:=λe'=>by have:=H0.lt q.sp (.inl T);omega
 have b4:Hid (((w.alloc (D #[J 0,Z none 0 0,J 0] 191)).setCell (I q.sp 3) (J (wrap64 (n+1)))).heap[w.heap.size]?=some (D #[J 0,Z none 0 0,J 0] 191 (0,0))):=M (aK X b0);have B:Hid (((w.alloc (D #[J 0,Z none 0 0,J 0] 191)).setCell (I q.sp 3) (J (wrap64 (n+1)))).heap.size=w.heap.size+1):=M (by simp[World.setCell]);generalize(w.alloc _).setCell _ _=w1 at *;clear c3 fb X;have u:Hid (∀k,F q s k->k<w.heap.size):=M (λk hk=>H0.lt k hk);obtain⟨-,-,-,-,-,-,-,E⟩:=H1.cs;have a2:=M (Ln.pW q.li s.lv s.en 0 e 0 w1 H1.eM (by rw[m.out];rfl) (by rw[m.out];exact nW (by simp[Ln.zs,a6.out])));go_wp2_with fail;refine a2.mono ?_;rintro e2 j⟨d,g,rfl,K,a9,a8⟩;have G:=ai j (D #[J e.bx,J e.ag,J e.al,J e.bE,J e.bh,J e.aM,Z d e.cG.length g] 229);have R:=(ck j).alloc (D #[J e.bx,J e.ag,J e.al,J e.bE,J e.bh,J e.aM,Z d e.cG.length g] 229);have o:=ae.MD K R;have H3:=M (H1.pure o);have S:=M (ae.bF o b4);have O3:Hid (ac (F q s) w (j.alloc (D #[J e.bx,J e.ag,J e.al,J e.bE,J e.bh,J e.aM,Z d e.cG.length g] 229))):=M (O1.trans (dD o) (λ_ _ h=>h));have a3:Hid (eO (j.alloc (D #[J e.bx,J e.ag,J e.al,J e.bE,J e.bh,J e.aM,Z d e.cG.length g] 229)) (j.alloc (D #[J e.bx,J e.ag,J e.al,J e.bE,J e.bh,J e.aM,Z d e.cG.length g] 229)).heap.size (Z d e.cG.length g) e.cG):=M (a9.MC R (λ_ _ f=>f));have A:Hid (∀b,(Z d e.cG.length g).ownBlock=some b->w.heap.size+1<=b):=M (λb a=>by have:=a8 b a;have:=B.out;omega);have b6:Hid (w.heap.size+1<=(j.alloc (D #[J e.bx,J e.ag,J e.al,J e.bE,J e.bh,J e.aM,Z d e.cG.length g] 229)).heap.size):=M (by have:=o.size;have:=B.out;omega);have r3:(j.alloc (D #[J e.bx,J e.ag,J e.al,J e.bE,J e.bh,J e.aM,Z d e.cG.length g] 229)).cell? (I j.heap.size 3)=some (J e.bE):=by rw[bK G];rfl
 have b3:=M G;have b5:Hid (w1.heap.size<=j.heap.size):=M K.size;clear K o a2 E a9 a8 G R;have hD:(e.bE==(0:V))=false:=by rw[a5.out];rfl
 obtain⟨-,-,-,-,-,-,-,E⟩:=H3.cs;go_wp2_with fail;generalize j.alloc _=w3 at *;refine(Ln.vX q.li s.lv s.en 0 0 w3 H3.eM (by rw[m.out];exact nW (by simp[Ln.zs,a6.out])) (by rw[m.out];simp)).mono ?_;rintro e2 t⟨lv',rfl,h4,o4,H⟩;rw[show s.en.eraseIdx 0=[]from by rw[m.out];rfl]at h4;have H4:=M (H3.rU o4 h4 (.inl H) (λe he=>by cases he));have r:ac (F q s) w3 t:=oi o4;have W:=M (r.bF S (λhk=>by have:=u _ hk;omega));have O4:Hid (ac (F q s) w t):=M (O3.trans r (λ_ _ h=>h));have a4:Hid (eO t t.heap.size (Z d e.cG.length g) e.cG):=M (a3.MC r (λb a hF=>by have:=u b hF;have:=A b a;omega));have l:=M (r.bF b3 (λhk=>by have:=u _ hk;have:=B.out;have:=b5.out;omega));have a1:=M H;clear o4 r h4 H E r3 hD H3 S O3 a3;have q1:t.cell? (I j.heap.size 3)=some (J 1):=by rw[bK l.out];rw[<-a5.out];rfl
 have q2:t.cell? (I j.heap.size 6)=some (Z d e.cG.length g):=by rw[bK l.out];rfl
 have q3:t.cell? (I j.heap.size 5)=some (J e.aM):=by rw[bK l.out];rfl
 obtain⟨g0,g1,g2⟩:=gw W;have gf:=λi=>ey i W;go_wp2_with fail;have hX:∀x y z:Value,ac (λk=>k=w.heap.size) t (((t.setCell (I w.heap.size 0) x).setCell (I w.heap.size 1) y).setCell (I w.heap.size 2) z):=λx y z=>(((ac.refl (λk=>k=w.heap.size) t).setCell (p:=⟨w.heap.size,0,none⟩) (λ_=>T) x).setCell (p:=⟨w.heap.size,1,none⟩) (λ_=>T) y).setCell (p:=⟨w.heap.size,2,none⟩) (λ_=>T) z;refine au (v:=.agg #[J 1,Z d e.cG.length g,J e.aM]) (by simp[results,results129,go_sem,g0,g1,g2]) T ⟨d,g,lv',T,?_,?_,a1,?_,λb a=>by have:=A b a;omega⟩
 ·exact O4.trans (hX _ _ _) (λb a e=>absurd a (by omega))
 ·refine H4.MC (hX _ _ _) (λb a e=>?_) (λb a e=>?_) (λe' he=>by cases he)
  ·subst e;have hF:F q s w.heap.size:=by
    rcases a with a|a|a|a|a|a|(a|a)|a
    ·exact .inl a
    ·exact .inr (.inl a)
    ·exact js (.inl a)
    ·exact pN (.inl a)
    ·exact tw (.inl a)
    ·exact xL (.inl a)
    ·exact vC (.inl (.inl a))
    ·exact vC (.inl (.inr (a1▸a)))
    ·exact xH a
   have:=u _ hF;omega
  ·have:=(H0.ro b a).2;omega
 ·exact a4.MC (hX _ _ _) (λb a e=>by have:=A b a;omega)
theorem qw(e:Ln.En)(w:Y)(h:At w c sh q s)(a7:s.en=[e])(b2:e.bx=0)(b1:e.bE=2):C 129 #[I q.sp 0,J 0] w λe' w'=>∃lv',e'=O (.agg #[J 2,Z none 0 0,J (-1)])/\ac (F q s) w w'/\At w' c sh q {s with lv:=lv',en:=[]}/\lv'.ownBlock=s.lv.ownBlock:=by
 have H0:=M h;have m:=M a7;have a5:=M b1;have a6:=M b2;have hG:=ai w (D #[J 0,Z none 0 0,J 0] 191);have R:=(ck w).alloc (D #[J 0,Z none 0 0,J 0] 191);have hW:=h.pure R;have a1:=M hG;obtain⟨-,-,-,⟨n,c3⟩,-⟩:=hW.cs;have fb:=hW.fb;have H1:=M (hW.count (wrap64 (n+1)));have O1:Hid (ac (F q s) w ((w.alloc (D #[J 0,Z none 0 0,J 0] 191)).setCell (I q.sp 3) (J (wrap64 (n+1))))):=M (eX (dD R) 3 _);clear h hW R hG a7 b1 b2;go_enter func129,ntmps129;go_upto_region 2 with fail;have b0:w.heap.size≠q.sp:=λe'=>by have:=H0.lt q.sp (.inl T);omega
 have b4:Hid (((w.alloc (D #[J 0,Z none 0 0,J 0] 191)).setCell (I q.sp 3) (J (wrap64 (n+1)))).heap[w.heap.size]?=some (D #[J 0,Z none 0 0,J 0] 191 (0,0))):=M (aK a1 b0);have E:Hid (((w.alloc (D #[J 0,Z none 0 0,J 0] 191)).setCell (I q.sp 3) (J (wrap64 (n+1)))).heap.size=w.heap.size+1):=M (by simp[World.setCell]);generalize(w.alloc _).setCell _ _=w1 at *;clear c3 fb a1;have t:Hid (∀k,F q s k->k<w.heap.size):=M (λk hk=>H0.lt k hk);obtain⟨-,-,-,-,-,-,-,G⟩:=H1.cs;have a3:=M (Ln.pW q.li s.lv s.en 0 e 0 w1 H1.eM (by rw[m.out];rfl) (by rw[m.out];exact nW (by simp[Ln.zs,a6.out])));go_wp2_with fail;refine a3.mono ?_;rintro e2 d⟨g,j,rfl,P,a9,a8⟩;have H:=ai d (D #[J e.bx,J e.ag,J e.al,J e.bE,J e.bh,J e.aM,Z g e.cG.length j] 229);have S:=(ck d).alloc (D #[J e.bx,J e.ag,J e.al,J e.bE,J e.bh,J e.aM,Z g e.cG.length j] 229);have o:=ae.MD P S;have H3:=M (H1.pure o);have W:=M (ae.bF o b4);have O3:Hid (ac (F q s) w (d.alloc (D #[J e.bx,J e.ag,J e.al,J e.bE,J e.bh,J e.aM,Z g e.cG.length j] 229))):=M (O1.trans (dD o) (λ_ _ h=>h));have a4:Hid (eO (d.alloc (D #[J e.bx,J e.ag,J e.al,J e.bE,J e.bh,J e.aM,Z g e.cG.length j] 229)) (d.alloc (D #[J e.bx,J e.ag,J e.al,J e.bE,J e.bh,J e.aM,Z g e.cG.length j] 229)).heap.size (Z g e.cG.length j) e.cG):=M (a9.MC S (λ_ _ f=>f));have b5:Hid (∀b,(Z g e.cG.length j).ownBlock=some b->w.heap.size+1<=b):=M (λb a=>by have:=a8 b a;have:=E.out;omega);have b8:Hid (w.heap.size+1<=(d.alloc (D #[J e.bx,J e.ag,J e.al,J e.bE,J e.bh,J e.aM,Z g e.cG.length j] 229)).heap.size):=M (by have:=o.size;have:=E.out;omega);have r3:(d.alloc (D #[J e.bx,J e.ag,J e.al,J e.bE,J e.bh,J e.aM,Z g e.cG.length j] 229)).cell? (I d.heap.size 3)=some (J e.bE):=by rw[bK H];rfl
 have b3:=M H;have b6:Hid (w1.heap.size<=d.heap.size):=M P.size;clear P o a3 G a9 a8 H S;have hD:(e.bE==(0:V))=false:=by rw[a5.out];rfl
 obtain⟨-,-,-,-,-,-,-,G⟩:=H3.cs;go_wp2_with fail;generalize d.alloc _=w3 at *;refine(Ln.vX q.li s.lv s.en 0 0 w3 H3.eM (by rw[m.out];exact nW (by simp[Ln.zs,a6.out])) (by rw[m.out];simp)).mono ?_;rintro e2 A⟨lv',rfl,h4,o4,K⟩;rw[show s.en.eraseIdx 0=[]from by rw[m.out];rfl]at h4;have H4:=M (H3.rU o4 h4 (.inl K) (λe he=>by cases he));have r:ac (F q s) w3 A:=oi o4;have B:=M (r.bF W (λhk=>by have:=t _ hk;omega));have O4:Hid (ac (F q s) w A):=M (O3.trans r (λ_ _ h=>h));have b7:Hid (eO A A.heap.size (Z g e.cG.length j) e.cG):=M (a4.MC r (λb a hF=>by have:=t b hF;have:=b5 b a;omega));have l:=M (r.bF b3 (λhk=>by have:=t _ hk;have:=E.out;have:=b6.out;omega));have a2:=M K;clear o4 r h4 K G r3 hD H3 W O3 a4;have q1:A.cell? (I d.heap.size 3)=some (J 2):=by rw[bK l.out];rw[<-a5.out];rfl
 have q2:A.cell? (I d.heap.size 6)=some (Z g e.cG.length j):=by rw[bK l.out];rfl
 have q3:A.cell? (I d.heap.size 5)=some (J e.aM):=by rw[bK l.out];rfl
 obtain⟨g0,g1,g2⟩:=gw B;have gf:=λi=>ey i B;clear g0 g1 g2 gf;go_wp2_with fail;refine(jO 2 A).mono ?_;rintro e2 w7⟨rfl,u⟩;have H7:=M (H4.pure u);have X:=M (ae.bF u B);have O7:Hid (ac (F q s) w w7):=M (O4.trans (dD u) (λ_ _ h=>h));clear u q1 q2 q3;obtain⟨g0,g1,g2⟩:=gw X;have gf:=λi=>ey i X;go_wp2_with fail;have hX:∀x y z:Value,ac (λk=>k=w.heap.size) w7 (((w7.setCell (I w.heap.size 0) x).setCell (I w.heap.size 1) y).setCell (I w.heap.size 2) z):=λx y z=>(((ac.refl (λk=>k=w.heap.size) w7).setCell (p:=⟨w.heap.size,0,none⟩) (λ_=>T) x).setCell (p:=⟨w.heap.size,1,none⟩) (λ_=>T) y).setCell (p:=⟨w.heap.size,2,none⟩) (λ_=>T) z;refine au (v:=.agg #[J 2,Z none 0 0,J (-1)]) (by simp[results,results129,go_sem,g0,g1,g2]) T ⟨lv',T,?_,?_,a2⟩
 ·exact O7.trans (hX _ _ _) (λb a e=>absurd a (by omega))
 ·refine H7.MC (hX _ _ _) (λb a e=>?_) (λb a e=>?_) (λe' he=>by cases he)
  ·subst e;have hF:F q s w.heap.size:=by
    rcases a with a|a|a|a|a|a|(a|a)|a
    ·exact .inl a
    ·exact .inr (.inl a)
    ·exact js (.inl a)
    ·exact pN (.inl a)
    ·exact tw (.inl a)
    ·exact xL (.inl a)
    ·exact vC (.inl (.inl a))
    ·exact vC (.inl (.inr (a2▸a)))
    ·exact xH a
   have:=t _ hF;omega
  ·have:=(H0.ro b a).2;omega
end
end Sp
end
section
namespace Sp
section
variable(c:Cn)(sh:List Sh)(q:Q)(s:St)
theorem Ht{q:Q}{s:St}{a w:Y}(h:ac (Sk.og q.s0 s.sv) a w):ac (F q s) a w:=h.mono λ_ _ b=>xH b
theorem pO(k:N)(xs:List Nat)(se:Bool)(w:Y)(h:At w c sh q s)(hn:0<q.ns)(hk:1<=k)(b5:s.sx=Po.aI xs)(a6:k<=xs.length)(a7:∀x∈xs,x<s.l.length)(a5:s.en=[]):C 248 #[I q.sp 0,J 0,J k,J 0,L se] w λe w'=>∃v sv',e=O (.agg #[J 1,v,J (-1)])/\ac (F q s) w w' /\
   At w' c sh q {s with l:=de s.l (xs.take k) 2 se,sv:=sv',sx:=Po.aI (xs.drop k)} /\
   (∀b,sv'.ownBlock=some b->w.heap.size<=b)/\w'.ownsRow w.heap.size 3 1 v k (bI (Po.aI (xs.take k)))/\∀b,sv'.ownBlock=some b->v.ownBlock≠some b:=by
 have c4:Hid (s.l.length<=1000000):=M (by have:=h.im.eA.eT;omega);have H0:=M h;have K:=M a5;have g:=M (aq b5 a6);have a4:=M a7;have hG:=ai w (D #[J 0,Z none 0 0,J 0] 191);have t:=(ck w).alloc (D #[J 0,Z none 0 0,J 0] 191);have hW:=h.pure t;have c5:=M t;have X:=M hG;obtain⟨-,-,-,⟨n,c3⟩,-⟩:=hW.cs;have fb:=hW.fb;have b3:(w.alloc (D #[J 0,Z none 0 0,J 0] 191)).heap.size=w.heap.size+1:=by simp
 have H1:=M (hW.count (wrap64 (n+1)));have O1:Hid (ac (F q s) w ((w.alloc (D #[J 0,Z none 0 0,J 0] 191)).setCell (I q.sp 3) (J (wrap64 (n+1))))):=M (eX (dD t) 3 _);clear h hW t hG a5 b5 a6 a7;go_enter func248,ntmps248;go_upto_region 2 with fail;have b1:w.heap.size≠q.sp:=λe=>by have:=H0.lt q.sp (.inl T);omega
 have b9:Hid (((w.alloc (D #[J 0,Z none 0 0,J 0] 191)).setCell (I q.sp 3) (J (wrap64 (n+1)))).heap[w.heap.size]?=some (D #[J 0,Z none 0 0,J 0] 191 (0,0))):=M (aK X b1);have c6:Hid (((w.alloc (D #[J 0,Z none 0 0,J 0] 191)).setCell (I q.sp 3) (J (wrap64 (n+1)))).heap.size=w.heap.size+1):=M (by simp[World.setCell]);generalize(w.alloc _).setCell _ _=w1 at *;clear c3 fb X c5 b3;have d:Hid (∀k,F q s k->k<w.heap.size):=M (λk hk=>H0.lt k hk);obtain⟨-,-,-,-,-,-,-,c7⟩:=H1.cs;go_wp2_with fail;refine(rk c sh q s w1 H1 hn).mono ?_;rintro e w2⟨rfl,rfl⟩;have a8:C 197 #[I q.li 0,J 0] w1 λe' w'=>e'=O (.tuple #[.agg #[J 0,J 0,J 0,J 0,J 0,J 0,Z none 0 0],L false])/\ae w1 w':=Ln.pX q.li s.lv s.en 0 w1 H1.eM (by rw[K.out];rfl);have a1:=M a8;clear a8;go_wp2_with fail;refine a1.mono ?_;rintro e w2⟨rfl,a9⟩;have j:=ae.MD a9 ((ck _).alloc (D #[J 0,J 0,J 0,J 0,J 0,J 0,Z none 0 0] 229));have H3:=M (H1.pure j);have R:=M (ae.bF j b9);have O3:Hid (ac (F q s) w (w2.alloc (D #[J 0,J 0,J 0,J 0,J 0,J 0,Z none 0 0] 229))):=M (O1.trans (dD j) (λ_ _ h=>h));have b6:w.heap.size+1<=(w2.alloc (D #[J 0,J 0,J 0,J 0,J 0,J 0,Z none 0 0] 229)).heap.size:=by have:=j.size;have:=c6.out;omega
 have o:=M b6;clear a9 j a1 c7 b6;have d1:decide ((k:V)<1)=false:=by simp;omega
 go_upto_region 6 with fail;generalize w2.alloc _=w3 at *;have b4:=Sk.rs q.s0 c.aB k s.sv s.sx w3 H3.kz hk (by rw[g.out.1];simpa[Po.aI]using g.out.2);have a2:=M b4;clear b4;go_wp2_with fail;refine a2.mono ?_;rintro e G⟨v,sv',rfl,b2,own,o4,u⟩;have A:ac (Sk.og q.s0 s.sv) w3 G:=o4.mono (λ_ _ e=>.inl e);have H4:=M (H3.sM A b2 (λb a=>.inr (u b a).1));have f:Hid (G.ownsRow w3.heap.size 3 1 v k (bI (Po.aI (xs.take k)))):=M (by rw[g.out.1]at own;simpa[Po.aI,List.map_take]using own);have S:=M ((Ht (s:=s) A).bF R (λhk=>by have:=d _ hk;omega));have O4:Hid (ac (F q s) w G):=M (O3.trans (Ht A) (λ_ _ h=>h));have c8:Hid (w.heap.size+1<=G.heap.size):=M (aF o o4.size);have m:Hid (∀b,sv'.ownBlock=some b->w.heap.size+1<=b/\v.ownBlock≠some b):=M (λb a=>⟨aF o (u b a).1,(u b a).2⟩);have a3:Hid (∀b,v.ownBlock=some b->w.heap.size+1<=b):=M (λb a=>aF o (f.lt b a).1);have r:∀b,F q {s with sv:=sv',sx:=s.sx.drop k} b->b<w.heap.size\/(w.heap.size+1<=b/\v.ownBlock≠some b):=λb a=>by
  rcases a with a|a|a|a|a|a|a|a|a
  ·exact .inl (d b (.inl a))
  ·exact .inl (d b (.inr (.inl a)))
  ·exact .inl (d b (js (.inl a)))
  ·exact .inl (d b (pN (.inl a)))
  ·exact .inl (d b (tw (.inl a)))
  ·exact .inl (d b (xL (.inl a)))
  ·exact .inl (d b (vC (.inl a)))
  ·exact .inl (d b (xH (.inl a)))
  ·exact .inr (m b a)
 have P:Hid (∀b,v.ownBlock=some b->¬F q {s with sv:=sv',sx:=s.sx.drop k} b):=M (λb a H=>by
  rcases r b H with h|h
  ·have:=a3 b a;omega
  ·exact h.2 a)
 have c2:Hid (¬F q {s with sv:=sv',sx:=s.sx.drop k} w.heap.size):=M (λH=>by
  rcases r _ H with h|h
  ·omega
  ·have:=h.1;omega)
 have b8:Hid (∀b,F q {s with sv:=sv',sx:=s.sx.drop k} b->b<w.heap.size->F q s b):=M (λb H hl=>by
  rcases H with a|a|a|a|a|a|a|a|a
  ·exact .inl a
  ·exact .inr (.inl a)
  ·exact js (.inl a)
  ·exact pN (.inl a)
  ·exact tw (.inl a)
  ·exact xL (.inl a)
  ·exact vC (.inl a)
  ·exact xH (.inl a)
  ·have:=(m b a).1;omega)
 have b7:=M r;clear o4 A b2 own u a2 r H3 R O3;go_wp2_with fail;have b0:eO G G.heap.size v (Po.aI (xs.take k)):=eO.fQ (by have:=f.out;have h9:=g.2;simpa[Po.aI,eL h9]using this) (Po.jA _ (λx hx=>by have:=a4 x (dh hx);have:=c4.out;omega));refine(oA c sh q {s with sv:=sv',sx:=s.sx.drop k} v (xs.take k) 2 (by omega) se G H4 b0 P (λx hx=>a4 x (dh hx))).mono ?_;rintro e w5⟨rfl,o5,h5⟩;have B:ac (F q {s with sv:=sv',sx:=s.sx.drop k}) G w5:=o5;have H5:=M h5;have E:=M (B.own f P);have W:=M (B.bF S c2);have O5:Hid (ac (F q s) w w5):=M (O4.trans B (λb a H=>b8 b H a));clear o5 B h5 b0 H4 f S O4;obtain⟨g0,g1,g2⟩:=gw W;have gf:=λi=>ey i W;obtain⟨Av,cv,rfl⟩:=aD E;go_wp2_with fail;have hX:∀x y z:Value,ac (λk=>k=w.heap.size) w5 (((w5.setCell (I w.heap.size 0) x).setCell (I w.heap.size 1) y).setCell (I w.heap.size 2) z):=λx y z=>(((ac.refl (λk=>k=w.heap.size) w5).setCell (p:=⟨w.heap.size,0,none⟩) (λ_=>T) x).setCell (p:=⟨w.heap.size,1,none⟩) (λ_=>T) y).setCell (p:=⟨w.heap.size,2,none⟩) (λ_=>T) z;refine au (v:=.agg #[J 1,Z Av k cv,J (-1)]) (by simp[results,results248,go_sem,g0,g1,g2]) T ⟨Z Av k cv,sv',T,?_,?_,?_,?_,?_⟩
 ·exact O5.trans (hX _ _ _) (λb a e=>absurd a (by omega))
 ·rw[show Po.aI (xs.drop k)=s.sx.drop k from by rw[g.out.1];simp[Po.aI,List.map_drop]];refine H5.MC (hX _ _ _) (λb a e=>?_) (λb a e=>?_) (λe he=>?_)
  ·rcases b7 b a with h|h
   ·omega
   ·have:=h.1;omega
  ·have:=(H0.ro b a).2;omega
  ·rw[show({s with l:=de s.l (xs.take k) 2 se,sv:=sv',sx:=s.sx.drop k}:St).en=[]from K.out]at he;cases he
 ·exact λb a=>by have:=(m b a).1;omega
 ·exact dA ((hX _ _ _).own E (λb a e=>by have:=a3 b a;omega)) (by have:=o.out;omega)
 ·exact λb a=>(m b a).2
