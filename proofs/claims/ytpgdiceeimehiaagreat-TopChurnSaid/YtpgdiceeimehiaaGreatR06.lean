/- Part 6 of the proof of spotop.TopChurn. -/
import Derived.StillTailTactics
import Derived.Test.YtpgdiceeimehiaaGreatR02
set_option maxRecDepth 100000
set_option maxHeartbeats 16000000
set_option linter.all false
open Go.Proofs.Tryz
namespace Go.Proofs.YtpgdiceeimehiaaGreat
open RowKit
namespace Ln
theorem FH(l:List En)(j i:N)(e c:En)(u:Value)(a:l[j]?=some e)(f:i<8)(d:eV c=(eV e).set i u):kt (l.set j c)=(kt l).set (j*8+i) u:=by
 induction l generalizing j with
 | nil=>simp at a
 | cons t l g =>
  have b:∀t,(eV t).length=8:=λ_=>T;cases j with
  | zero =>
   simp at a;subst a;simp only[kt,dv,bN,fT,br];rw[List.set_append_left _ _ (by rw[b];exact f),d]
  | succ j =>
   have:=g j (by simpa using a);simp only[kt,fI,bN]at this ⊢;rw[cX _ _ (by rw[b];omega),b,show(j+1)*8+i-8=j*8+i from by omega,this]
theorem bO.set{w:Y}{P g c n:N}{l:List En}(h:bO w P (Z (some (I g 0)) n c) l)(B:n=l.length){j i:N}{e:En}(a:En){u:Value}(y:l[j]?=some e)(A:i<8)(v:eV a=(eV e).set i u)
  (z:eO w w.heap.size a.gv a.cG/\∀q,a.gv.ownBlock=some q->¬eU P (Z (some (I g 0)) n c) q/\q<w.heap.size) (E:a.cG.length<=100000) :
  bO (w.setCell (I g (j*8+i)) u) P (Z (some (I g 0)) n c) (l.set j a)/\ac (eU P (Z (some (I g 0)) n c)) w (w.setCell (I g (j*8+i)) u):=by
 subst B;have t:=(bR.1 h.aM).1;have o:g≠P:=nB h.aM h.own T;have b:ac (eU P (Z (some (I g 0)) l.length c)) w (w.setCell (I g (j*8+i)) u):=ac.setCell (p:=⟨g,j*8+i,none⟩) (bo w) (λ_=>.inr T) u;have r:ac (λq=>q=g) w (w.setCell (I g (j*8+i)) u):=gI (bo w) (j*8+i) u;have f:∀x:En,(eO w w.heap.size x.gv x.cG/\∀q,x.gv.ownBlock=some q->¬eU P (Z (some (I g 0)) l.length c) q/\q<w.heap.size) ->
   eO (w.setCell (I g (j*8+i)) u) (w.setCell (I g (j*8+i)) u).heap.size x.gv x.cG/\∀q,x.gv.ownBlock=some q->¬eU P (Z (some (I g 0)) l.length c) q/\q<(w.setCell (I g (j*8+i)) u).heap.size :=
  λx ⟨s,m⟩=>⟨s.MC b (λq k=>(m q k).1),λq k=>⟨(m q k).1,eR (m q k).2 b.size⟩⟩
 refine⟨⟨(r.block P t (λa=>o a.symm)).trans h.aM,?_,λx d=>?_,by rw[iC];exact h.eT,λx d=>?_⟩,b⟩
 ·rw[iC,FH l j i e a u y A v];exact(h.own.stored (j*8+i) u).1
 ·rcases eo d with d|rfl
  ·exact f x (h.cG x d)
  ·exact f _ z
 ·rcases eo d with d|rfl
  ·exact h.short x d
  ·exact E
theorem bO.lk{w:Y}{P g c n:N}{l:List En}(h:bO w P (Z (some (I g 0)) n c) l)(o:n=l.length){j i:N}{e:En}(a:En){u:Value}(b:l[j]?=some e)(m:i<8)(k:eV a=(eV e).set i u)(f:a.gv=e.gv)(d:a.cG=e.cG):bO (w.setCell (I g (j*8+i)) u) P (Z (some (I g 0)) n c) (l.set j a)/\ac (eU P (Z (some (I g 0)) n c)) w (w.setCell (I g (j*8+i)) u):=h.set o a b m k (by rw[f,d];exact h.cG e (cZ b)) (by rw[d];exact h.short e (cZ b))
def failed(e:En):En:={e with bE:=2}
def granted(e:En)(gv:Value)(cG:List Int)(aM:V):En:={e with bE:=1,gv:=gv,cG:=cG,aM:=aM}
theorem CI(P:N)(v:Value)(l:List En)(k:N)(e:En)(w:Y)(d:bO w P v l)(o:l[k]?=some e)(b:te kU l=k):C 171 #[I P 0] w λz x=>z=O (L true)/\bO x P v (l.set k (failed e))/\ac (eU P v) w x:=by
 have R:=(dH.1 o).1;obtain⟨g,c,rfl,_,_⟩:=d.own.form (n:=l.length) (by omega);have r:=M d;have j:=M b;have q:=M o;have t:=d.eT;have A:(k:V)<(l.length:V):=by omega
 clear d b o;go_enter func171,ntmps171;go_wp2_with fail;refine(lY P _ l _ r).mono ?_;rw[j.out];rintro H S⟨rfl,a⟩;have y:=M a;have m:=M (r.pure a);have F:=m.c0;obtain⟨Q,E,B,_,_,_,G,_,_,_,_,s⟩:=m.cells q;injection B with hv1;injection hv1 with hv1;injection hv1 with hv1;subst hv1;have K:=s (k*8+3);clear a s;go_wp2_with fail;go_ret;have p:=m.lk T (failed e) (i:=3) (u:=J 2) q (by omega) T T T;exact⟨T,p.1,(y.mono (λ_ _ f=>f.elim)).trans p.2 (λ_ _ h=>h)⟩
theorem AH(P:N)(v:Value)(l:List En)(k:N)(e:En)(u:Value)(xs:List Int)(aM:V)(w:Y)(z:bO w P v l)(W:l[k]?=some e)(s:te kU l=k)(A:eO w w.heap.size u xs)(hx:xs.length<=100000):C 170 #[I P 0,u,J aM] w λe' j=>∃gv,e'=O (L true)/\bO j P v (l.set k (granted e gv xs aM))/\ac (eU P v) w j/\∀q,gv.ownBlock=some q->w.heap.size<=q:=by
 have hk:=(dH.1 W).1;obtain⟨g,c,rfl,_,_⟩:=z.own.form (n:=l.length) (by omega);obtain⟨AU,cU,rfl,_,_⟩:=A.len;have HS:=M A;have HL:=M z;have K:=M s;have H:=M W;have p:=M (show ∀x∈xs,-9223372036854775808<=x/\x<=9223372036854775807 from by obtain⟨_,_,_,_,_,h,_⟩:=A;exact h);have a1:=z.eT;have a2:(k:V)<(l.length:V):=by omega
 clear z s W A;go_enter func170,ntmps170;go_wp2_with fail;refine(lY P _ l _ HL).mono ?_;rw[K.out];rintro e1 w2⟨rfl,m⟩;have S:=M m;have Q:=M (HL.pure m);have c0:=Q.c0;clear m;go_wp2_with fail;refine(ju _ xs _ (HS.MC S (λ_ _ f=>f)) (by omega)).mono ?_;rintro e3 B⟨v3,rfl,o,a⟩;obtain⟨b,d,rfl⟩:=aD a;have P3:=M (S.MD o);have R:=M (Q.pure o);have O3:=M a;have S3:=M (show eO B B.heap.size (Z b xs.length d) xs from eO.fQ a p);have HQ:=M (show ∀q,(Z b xs.length d).ownBlock=some q->w2.heap.size<=q/\q<B.heap.size from λq t=>a.lt q t);obtain⟨g',c',hv,_,_,_,d3,_,d5,d6,_,y⟩:=R.cells H;injection hv with hv1;injection hv1 with hv1;injection hv1 with hv1;subst hv1;obtain⟨G,gc,r,_⟩:=(R.cG e (cZ H)).1;rw[r]at d6;have f3:=y (k*8+3);have f5:=y (k*8+5);have f6:=y (k*8+6);clear o a y c0 r;go_wp2_with fail;go_ret;have t:∀q,(Z b xs.length d).ownBlock=some q->¬eU P (Z (some (I g 0)) l.length c) q/\w.heap.size<=q:=λq h=>by
  have h1:=HQ q h;have h2:=S.size;exact⟨λhS=>by have:=Q.lt q hS;omega,by omega⟩
 have X:∀j:Y,ac (eU P (Z (some (I g 0)) l.length c)) B j->eO j j.heap.size (Z b xs.length d) xs/\∀q,(Z b xs.length d).ownBlock=some q->¬eU P (Z (some (I g 0)) l.length c) q/\q<j.heap.size :=
  λj ho=>⟨S3.MC ho (λq h=>(t q h).1),λq h=>⟨(t q h).1,eR (HQ q h).2 ho.size⟩⟩
 have E:=R.lk T {e with bE:=1} (i:=3) (u:=J 1) H (by omega) rfl rfl rfl;have D2:=E.1.set (e:={e with bE:=1}) (by rw[iC]) {e with bE:=1,gv:=Z b xs.length d,cG:=xs} (i:=6) (u:=Z b xs.length d) (by rw[kS hk]) (by omega) rfl (X _ E.2) hx;have F:=D2.1.lk (e:={e with bE:=1,gv:=Z b xs.length d,cG:=xs}) (by rw[iC,iC]) (granted e (Z b xs.length d) xs aM) (i:=5) (u:=J aM) (by rw[kS (by rw[iC];exact hk)]) (by omega) T T T;rw[List.set_set,List.set_set]at F;exact⟨_,T,F.1,((P3.mono (λ_ _ f=>f.elim)).trans E.2 (λ_ _ h=>h)).trans (D2.2.trans F.2 (λ_ _ h=>h)) (λ_ _ h=>h),λq h=>(t q h).2⟩
def pH(f:En->En)(k:N)(l:List En):List En:=(l.take k).map f++l.drop k
theorem nM(f:En->En)(k:N)(l:List En):(pH f k l).length=l.length:=by simp[pH];omega
theorem xz(f:En->En)(l:List En):pH f 0 l=l:=by simp[pH]
theorem zX(f:En->En)(l:List En):pH f l.length l=l.map f:=by simp[pH]
theorem zY(f:En->En)(k:N)(l:List En)(a:k<l.length):(pH f k l)[k]?=some l[k]:=by
 simp only[pH];rw[oc (by simp;omega)];simp[eL (Nat.le_of_lt a)]
theorem xy(f:En->En)(k:N)(l:List En)(a:k<l.length):(pH f k l).set k (f l[k])=pH f (k+1) l:=by
 simp only[pH];rw[cX _ _ (by simp;omega)];simp only[fH,jq,eL (Nat.le_of_lt a),fj];rw[cd a,dv,<-List.take_append_getElem a,cV,cS];rfl
def sg(e:En):En:={e with ka:=kU e}
def jX(e:En):En:={e with bh:=if e.ka=true/\kU e=true then e.bh+1 else e.bh,ka:=false}
theorem pP(P:N)(v:Value)(l:List En)(w:Y)(a:bO w P v l):C 145 #[I P 0] w λt q=>t=O (.tuple #[])/\bO q P v (l.map sg)/\ac (eU P v) w q:=by
 obtain⟨A,c,rfl⟩:=a.form;have r:=M a;have m:=a.c0;have o:=a.eT;clear a;go_enter func145,ntmps145;go_wp2_with fail;clear m;go_loopw [8] (λi wr=>∃k:N,k<=l.length/\i=J k/\bO wr P (Z A l.length c) (pH sg k l)/\ac (eU P (Z A l.length c)) w wr) (λi _=>l.length-(intOf i).toNat)
 case atStart=>exact⟨0,aw _,T,by rw[xz];exact r,bo _⟩
 case round =>
  obtain⟨k,H,rfl,a,p⟩:=hrel;have d:=M a;have j:=M p;clear a p;by_cases b:k<l.length
  ·have g:=M (zY sg k l b);have s:=M (xy sg k l b);obtain⟨G,z,y,_,_,_,B,_,_,_,E,n⟩:=d.cells g;injection y with hv1 hv2 hv3;subst hv1;have m:=d.c0;have F:=n (k*8+7);clear n hv2 hv3;generalize l[k]=e at *;have x:(k:V)<(l.length:V):=by omega
   go_wp2_with fail;go_still_tail 17,(by kernel_rfl);go_wp2_with fail;have f:=d.lk (by rw[nM]) (sg e) (i:=7) (u:=L (kU e)) g (by omega) T T T;rw[s.out]at f;go_roundw
   case rel=>exact⟨k+1,by omega,by go_num,f.1.pure ((bo _).drewN 1),(j.trans f.2 (λ_ _ h=>h)).drewN 1⟩
   case measure=>simp[intOf];omega
  ·obtain rfl:k=l.length:=by omega
   go_wp2_with fail;go_end0;exact⟨T,by have:=d.out;rwa [zX]at this,j⟩
theorem uz(P:N)(v:Value)(l:List En)(w:Y)(g:bO w P v l)(o:∀e∈l,0<=e.bh/\e.bh<=100000):C 165 #[I P 0] w λQ H=>Q=O (.tuple #[])/\bO H P v (l.map jX)/\ac (eU P v) w H:=by
 obtain⟨A,c,rfl⟩:=g.form;have K:=M g;have r:=M o;have B:=g.c0;have F:=g.eT;clear g o;go_enter func165,ntmps165;go_wp2_with fail;clear B;go_loopw [9] (λi wr=>∃k:N,k<=l.length/\i=J k/\bO wr P (Z A l.length c) (pH jX k l)/\ac (eU P (Z A l.length c)) w wr) (λi _=>l.length-(intOf i).toNat)
 case atStart=>exact⟨0,aw _,T,by rw[xz];exact K,bo _⟩
 case round =>
  obtain⟨k,hk,rfl,g,G⟩:=hrel;have m:=M g;have q:=M G;clear g G;by_cases f:k<l.length
  ·have p:=M (zY jX k l f);have s:=M (xy jX k l f);obtain⟨R,S⟩:=r l[k] (List.getElem_mem f);obtain⟨g',cc,X,_,_,_,d3,d4,_,_,E,t⟩:=m.cells p;injection X with hv1 hv2 hv3;subst hv1;have B:=m.c0;have f4:=t (k*8+4);have f7:=t (k*8+7);clear t hv2 hv3;generalize l[k]=e at *;have W:(k:V)<(l.length:V):=by omega
   cases a:e.ka with
   | false =>
    rw[a]at E;have d:=M (show jX e={e with ka:=false}from by simp[jX,a]);have j:=M a;clear a;go_wp2_with fail;have b:=m.lk (by rw[nM]) (jX e) (i:=7) (u:=L false) p (by omega) (by rw[d.out];rfl) (by rw[d.out]) (by rw[d.out]);rw[s.out]at b;go_roundw
    case rel=>exact⟨k+1,by omega,by go_num,b.1,q.trans b.2 (λ_ _ h=>h)⟩
    case measure=>simp[intOf];omega
   | true =>
    rw[a]at E;have j:=M a;clear a;cases n:kU e with
    | false =>
     have d:=M (show jX e={e with ka:=false}from by simp[jX,n]);have y:(e.bE==0)=false:=n;clear n;go_wp2_with fail;have b:=m.lk (by rw[nM]) (jX e) (i:=7) (u:=L false) p (by omega) (by rw[d.out];rfl) (by rw[d.out]) (by rw[d.out]);rw[s.out]at b;go_roundw
     case rel=>exact⟨k+1,by omega,by go_num,b.1,q.trans b.2 (λ_ _ h=>h)⟩
     case measure=>simp[intOf];omega
    | true =>
     have d:=M (show jX e={e with bh:=e.bh+1,ka:=false}from by simp[jX,n,j.out]);have y:(e.bE==0)=true:=n;clear n;go_wp2_with fail;have x:k<(pH jX k l).length:=by rw[nM];exact f
     have z:=m.lk (by rw[nM]) {e with bh:=e.bh+1} (i:=4) (u:=J (e.bh+1)) p (by omega) rfl rfl rfl;have b:=z.1.lk (e:={e with bh:=e.bh+1}) (by rw[iC,nM]) (jX e) (i:=7) (u:=L false) (by rw[kS x]) (by omega) (by rw[d.out];rfl) (by rw[d.out]) (by rw[d.out]);rw[List.set_set,s.out]at b;go_roundw
     case rel=>exact⟨k+1,by omega,by go_num,b.1,q.trans (z.2.trans b.2 (λ_ _ h=>h)) (λ_ _ h=>h)⟩
     case measure=>simp[intOf];omega
  ·obtain rfl:k=l.length:=by omega
   go_wp2_with fail;go_end0;exact⟨T,by have:=m.out;rwa [zX]at this,q⟩
