/- Part 42 of the proof of spotop.TopChurn. -/
import Derived.Test.YtpgdiceeimehiaaGreatR39
import Derived.Test.YtpgdiceeimehiaaGreatR41
set_option maxRecDepth 100000
set_option maxHeartbeats 16000000
set_option linter.all false
open Go.Proofs.Tryz
namespace Go.Proofs.YtpgdiceeimehiaaGreat
open RowKit
namespace jH
open Ac (Vl dx Wr)
open fG (fF)
open Pl (gU ir gB fK kg qG sJ iT ep jn oV ej fieldStep fW ik rP lr jh aI)
theorem Bh{k j:N}(a:fe (k:V)=fe (j:V))(b:eh (k:V)=eh (j:V)):k=j:=by
 unfold fe at a;unfold eh at b;by_cases d:(k:V)<6<;>by_cases c:(j:V)<6<;>simp only[d,c,bP,bG]at a b<;>omega
theorem qs(f q:N)(bs:List Bool)(ws:List (Nat × Nat))(j:N)(h:∀k:N,k<j->fe (k:V)=f->(eh (k:V)).toNat≠q):(ej f bs j ws)[q]?=ws[q]?:=by
 induction j with
 | zero=>rfl
 | succ j b =>
  rw[Pl.jg,fieldStep];have a:=b (λk c=>h k (by omega));split
  ·rename_i e;rw[kT (h j (by omega) e)];exact a
  ·exact a
theorem yc(f k:N)(bs:List Bool)(ws:List (Nat × Nat))(m:ws.length=8)(h:fe (k:V)=f)(j:N)(o:k<j):(ej f bs j ws)[(eh (k:V)).toNat]?=some (fW (bs.getD k false)):=by
 induction j with
 | zero=>omega
 | succ j n =>
  obtain⟨p,i,d⟩:=Pl.jB k;rw[Pl.jg,fieldStep];by_cases e:k=j
  ·subst e;rw[af h,kS (by rw[Pl.fA,m,i];simpa using d)]
  ·have a:=n (by omega);split
   ·rename_i l;have b:(eh (j:V)).toNat≠(eh (k:V)).toNat:=by
     intro g;obtain⟨q,c,-⟩:=Pl.jB j;exact e (Bh (h.trans l.symm) (by rw[i,c]at g ⊢;simp only[iY]at g;omega))
    rw[kT b];exact a
   ·exact a
theorem oY{l:List (Nat × Nat)}{i:N}{z d:Nat × Nat}(h:l[i]?=some z):l.getD i d=z:=by simp[List.getD,h]
section
variable{kd:N}{sd:Bool}{xs:List Nat}{bs:List Bool}{j:N}
theorem Jm:(fK kd sd xs bs j).getD 0 (0,0)=ik xs j:=by
 refine oY ?_;unfold fK;rw[qs]
 ·rfl
 ·intro k _ _ e;unfold eh at e;split at e<;>omega
theorem Jn:(fK kd sd xs bs 0).getD 1 (0,0)=cQ kd (if sd then 1 else 0):=by
 refine oY ?_;unfold fK;rw[qs]
 ·rfl
 ·intro k _ a e;unfold fe at a;unfold eh at e;split at e<;>split at a<;>omega
theorem Jo{k:N}(b:k<bs.length)(a:fe (k:V)=j):(fK kd sd xs bs j).getD (eh (k:V)).toNat (0,0)=fW (bs.getD k false):=by
 refine oY ?_;exact yc j k bs _ T a _ b
end
def Th.bb(t:Th):N:=if t.md=1 then t.aM.toNat else t.fs.getD 1 0
structure TM(E:gb)(ws:List (Nat × Nat))(t:Th):Prop where
 head:∃md,md<=1/\(t.o.aE=2->md=0)/\ws[8*t.hd+1]?=some (cQ t.o.b.toNat md)
 ob:t.o.aE=1->Vw.vK ws E.c.ag (tE E.ba t.o) t.fs
 ar:t.o.aE=2->∃b0,tE E.ba t.o=[b0]/\Vw.tZ ws E.c b0 t.o.n.toNat t.d t.md t.bb t.fs t.hd
section
variable{E:gb}{t:Th}{ws c:List (Nat × Nat)}
theorem Ay(h:fF (t.wr E.ba) (t.wr E.ba).length ws){j k:N}(b:j<t.fs.length)(d:k<8):ws[8*t.fs.getD j 0+k]?=some ((t.Vq E.ba j).getD k (0,0)):=by
 have a:=Ab (E:=E) (t:=t) b d;have:=h (8*j+k) _ (dH.1 a).1 a;simp only[iY]at this;exact this
theorem uy(h:fF (t.wr E.ba) (t.wr E.ba).length ws)(b:t.gE=true){q:N}{z:Wr}(hz:(sJ t.fs t.aM (t.fs.length-1))[q]?=some z):ws[z.1.toNat]?=some z.2:=by
 have a:=Lg (E:=E) (t:=t) b z hz;exact h (8*t.fs.length+q) _ (dH.1 a).1 a
theorem Br{xs:List Nat}(h:Sk.eP (aI xs)=true){j:N}(e:j+1<xs.length):xs.getD (j+1) 0=xs.getD j 0+1:=by
 unfold Sk.eP at h;have h:=of_decide_eq_true h;have f:(aI xs).length=xs.length:=Pl.bQ xs;have d:=(h j (by omega)).2;have a:xs[j]?=some (xs.getD j 0):=by simp[List.getD,cR (show j<xs.length by omega)]
 have b:xs[j+1]?=some (xs.getD (j+1) 0):=by simp[List.getD,cR e]
 rw[Pl.eg xs j _ a,Pl.eg xs (j+1) _ b]at d;omega
theorem zO{xs:List Nat}(h:Sk.eP (aI xs)=true){j:N}(b:j+1<xs.length):xs.getD (j+1) 0=xs.getD 1 0+j:=by
 induction j with
 | zero=>rfl
 | succ j a=>rw[Br h (by omega),a (by omega)];omega
theorem uN(d:V)(a:Bool):jh d a=0↔d<=4:=by
 unfold jh;split
 ·simp[*]
 ·split<;>omega
theorem Gq{d:V}{a:Bool}(h:jh d a=2):a=true:=by
 unfold jh at h;split at h
 ·omega
 ·split at h
  ·assumption
  ·omega
theorem Gp{d:V}{a:Bool}(h:jh d a=1):4<d/\a=false:=by
 unfold jh at h;split at h
 ·omega
 ·split at h
  ·omega
  ·exact⟨by omega,by simpa using ‹¬a=true›⟩
structure Ca(E:gb)(t:Th):Prop where
 pos:1<=t.fs.length
 eT:t.fs.length<=64
 J0:t.fs[0]?=some t.hd
 kV:t.hd∈t.fs
 jY:t.o.aE=2->t.o.n=(t.o.n.toNat:V)/\t.o.n.toNat<=512/\bX t.o.n=(t.d:V)/\t.fs.length=t.d+1
 Lo:t.gE=true->5<=t.d/\jT E.ba t.o=t.d+2
 Mz:t.o.b.toNat<8
theorem EG(g:E.Ok)(k:t.o∈E.Lq)(n:t.fs.length=fE E.ba t.o):Ca E t:=by
 have j:=g.op _ k;obtain⟨kd,s0,f⟩:=j.sh g;have o:=j.DD;have a:1<=t.fs.length:=by omega
 have i:t.hd∈t.fs:=jM a;have d:t.o.aE=2->t.o.n=(t.o.n.toNat:V)/\t.o.n.toNat<=512/\bX t.o.n=(t.d:V)/\t.fs.length=t.d+1:=by
  intro e;obtain⟨s,u,r⟩:=f.jY e o;refine⟨by omega,by omega,?_,?_⟩
  ·unfold Th.d;omega
  ·unfold Th.d;omega
 refine⟨a,?_,Th.I9 a,i,d,?_,?_⟩
 ·have:=j.CP;have:=g.BG;omega
 ·intro l;obtain⟨e,q⟩:=pF l;obtain⟨r,-,m,-⟩:=d e;have:=(Gp q).1;rw[m]at this;refine⟨by omega,?_⟩;obtain⟨b,p⟩:=f.one e;have:=f.al;rw[e,p]at this;unfold cE at this;rw[aa]at this
  ·rw[m]at this;omega
  ·rintro(h|h|h)
   ·simp[gZ]at h
   ·simp at h
   ·omega
 ·rw[f.b];have:=f.KS;simpa using this
theorem ie.sz(a:E.Ok)(h:ie E t):Ca E t:=EG a h.op h.len
theorem wE{xs:List Nat}{k:N}(h:k+1<xs.length):ik xs k=bi (xs.getD (k+1) 0):=by unfold ik;rw[af h]
theorem Dd(xs:List Nat)(l:List (Nat × Nat))(a:l.length=8):∀n k,k<n->n<=4->(lr xs l n)[4+k]?=some (ik xs k):=by
 intro n
 induction n with
 | zero=>intro k h;omega
 | succ n b =>
  intro k d f;show((lr xs l n).set (4+n) (ik xs n))[4+k]?=_;by_cases e:k=n
  ·subst e;rw[kS (by rw[Pl.jN,a];omega)]
  ·rw[kT (by omega)];exact b k (by omega) (by omega)
theorem De(xs:List Nat)(l:List (Nat × Nat)):∀n q,q<4->(lr xs l n)[q]?=l[q]?:=by
 intro n
 induction n with
 | zero=>intro q _;rfl
 | succ n b =>
  intro q a;show((lr xs l n).set (4+n) (ik xs n))[q]?=_;rw[kT (by omega)];exact b q a
theorem sB(kd n m:N)(xs:List Nat)(a:V)(q:N)(b:q<4):(iT kd n m xs a)[q]?=(ep kd n m)[q]?:=by
 unfold iT;split
 ·exact De _ _ _ _ b
 ·split
  ·rw[kT (by omega)]
  ·rw[kT (by omega)]
theorem TM.of(q:E.Ok)(y:ie E t)(h:fF (t.wr E.ba) (t.wr E.ba).length ws):TM E ws t:=by
 have hz:=y.sz q;have ho:=q.op _ y.op;obtain⟨kd,s0,hs⟩:=ho.sh q;have A:=hs.bs;have e:=λ{j k:N} (i:j<t.fs.length) (r:k<8)=>Ay h (E:=E) i r;have F:∀x∈t.fs,(x:V)<E.c.ag:=λx n=>by have:=y.lt x n;have:=q.F;omega
 have d:∀{j x:N},t.fs[j]?=some x->j<t.fs.length/\t.fs.getD j 0=x:=λ{j x} i=>⟨(dH.1 i).1,by simp[List.getD,i]⟩;rcases ho.aE with r|r
 ·have v:∀j,t.Vq E.ba j=fK t.o.b.toNat (Sk.eP (aI t.fs)) t.fs (tE E.ba t.o) j:=λj=>by unfold Th.Vq;rw[af r]
  refine⟨⟨if Sk.eP (aI t.fs)then 1 else 0,by split<;>omega,by omega,?_⟩,λ_=>⟨hz.pos,?_,by have:=hz.eT;omega,F,?_,?_⟩,by omega⟩
  ·have:=e (j:=0) (k:=1) hz.pos (by omega);rw[v,Jn]at this;exact this
  ·rw[A,hs.obj r,y.len]
  ·intro j x z i R;obtain⟨o,g⟩:=d i;obtain⟨b1,b2⟩:=d R;have:=e (j:=j) (k:=0) o (by omega);rw[v,Jm,wE b1,g,b2]at this;exact this
  ·intro k x w n;obtain⟨o,g⟩:=d n;obtain⟨p,hp,a8⟩:=Pl.jB k;obtain⟨f,hf⟩:=Pl.su k;have X:=(dH.1 w).1;have:=e (j:=(fe (k:V)).toNat) (k:=(eh (k:V)).toNat) o (by omega);rw[v,Jo X (by omega),g]at this;rw[this,show(tE E.ba t.o).getD k false=true by simp[List.getD,w]];rfl
 ·obtain⟨hn,a3,hd,hl⟩:=hz.jY r;obtain⟨b,w⟩:=hs.one r;rw[<-A]at w;have v:∀j,t.Vq E.ba j=xS t.o.b.toNat t.o.n.toNat t.md t.fs t.aM b j:=λj=>by unfold Th.Vq;rw[aa (by omega),w];rfl
  have Q:bX (t.o.n.toNat:V)=(t.d:V):=by rw[<-hn];exact hd
  have u:∀{k:N} {z:Nat × Nat},k<8->(iT t.o.b.toNat t.o.n.toNat t.md t.fs t.aM)[k]?=some z->ws[8*t.hd+k]?=some z:=by
   intro k z W a6;have:=e (j:=0) (k:=k) hz.pos W;rw[v]at this;unfold xS at this;rw[af rfl,oY a6]at this;exact this
  have G:t.md<=2:=Pl.wI _ _;refine⟨⟨0,by omega,λ_=>T,u (by omega) (by rw[sB _ _ _ _ _ _ (by omega)];rfl)⟩,by omega,λ_=>⟨b,w,?_⟩⟩;refine⟨hz.J0,Q,hl,F,a3,u (by omega) (by rw[sB _ _ _ _ _ _ (by omega)];rfl),u (by omega) (by rw[sB _ _ _ _ _ _ (by omega)];rfl),G,?_,?_,?_,?_,?_⟩
  ·unfold Th.md;rw[uN,hd];omega
  ·intro s j x i n;obtain⟨o,g⟩:=d n;have S:j<4:=by
    have:=(uN (bX t.o.n) (Sk.eP (aI t.fs))).1 s;omega
   refine u (by omega) ?_;unfold iT;rw[af s,Dd _ _ rfl 4 j S (by omega),wE o,g]
  ·intro s;have K:=Gq s;have h5:4<t.d:=by
    have:=mt (uN (bX t.o.n) (Sk.eP (aI t.fs))).2 (show ¬t.md=0 by omega);omega
   have a:t.bb=t.fs.getD 1 0:=by unfold Th.bb;rw[aa (by omega)]
   refine⟨u (by omega) ?_,?_,?_⟩
   ·unfold iT;rw[aa (by omega),aa (by omega),a];rfl
   ·rw[a];have:=zO K (j:=t.d-1) (by omega);have h2:=y.lt _ (jM (l:=t.fs) (j:=t.d-1+1) (by omega));have:=q.F;omega
   ·intro j i;rw[a,<-zO K (by omega)];simp[List.getD,cR (show j+1<t.fs.length by omega)]
  ·intro s;have m:t.gE=true:=by unfold Th.gE;rw[r,s];rfl
   obtain⟨sp,off,h2,h3,h4⟩:=y.aM m;have a:t.bb=t.aM.toNat:=by unfold Th.bb;rw[af s]
   have B:sp*E.S<=E.S:=by
    match sp,h2 with
    | 0,_=>omega
    | 1,_=>omega
   have a4:=uy h (E:=E) m (Ew t.fs t.aM (t.fs.length-1)).1;have a5:=uy h (E:=E) m (Ew t.fs t.aM (t.fs.length-1)).2;refine⟨u (by omega) ?_,?_,?_,?_,?_⟩
   ·unfold iT;rw[aa (by omega),af s,a,h4,iY,kS (by simp[ep])]
   ·rw[a,h4,q.F,q.S];have hg:=q.g;unfold gb.aC;simp only[iY]
    push_cast
    have:((sp*E.S:N):V)<=E.S:=by exact_mod_cast B
    push_cast at this
    omega
   ·rw[a];exact a4
   ·rw[a];have e1:t.aM.toNat+1=(t.aM+1).toNat:=by omega
    have e2:((t.fs.length:V)-1)=(t.d:V):=by omega
    rw[e1,a5,e2]
   ·intro j x i n;obtain⟨o,g⟩:=d n;have:=uy h (E:=E) m (zS t.fs t.aM (t.fs.length-1) j (by omega));rw[g]at this;rw[a,<-this];congr 1;dsimp only;omega
  ·intro P k x a7 n;obtain⟨o,g⟩:=d n;have:=e (j:=1+k/8) (k:=k%8) o (by omega);rw[v]at this;unfold xS at this;rw[aa (by omega),g]at this;rw[this];subst P;congr 1;refine oY ?_;have h8:k%8<8:=by omega
   have H:jn true 8=List.replicate 8 bD:=rfl;rw[H];rw[dI,af h8]
theorem TM.aj(P:E.Ok)(A:ie E t)(h:TM E ws t)(B:∀a,Ff E t a->c[a]?=ws[a]?):TM E c t:=by
 have hz:=A.sz P;have d:∀{x k:N},x∈t.fs->k<8->c[8*x+k]?=ws[8*x+k]?:=λ{x k} f g=>B _ (.inl ⟨x,f,by omega⟩);obtain⟨X,R,S,W⟩:=h.head;refine⟨⟨X,R,S,(d hz.kV (by omega)).trans W⟩,λg=>?_,λg=>?_⟩
 ·have i:=h.ob g;refine⟨i.len,i.size,i.eT,i.lt,λj x z o l=>(d (k:=0) (cZ o) (by omega)).trans (i.Gd j x z o l),λk x o l=>?_⟩;obtain⟨p,hp,Q⟩:=Pl.jB k;exact(d (cZ l) (by omega)).trans (i.refs k x o l)
 ·obtain⟨H,v,b⟩:=h.ar g;refine⟨H,v,b.EZ,b.dd,b.len,b.lt,b.nl,(d hz.kV (by omega)).trans b.length,(d hz.kV (by omega)).trans b.mode,b.m3,b.inl,λe j x y f=>?_,λe=>?_,λe=>?_,λv k x g f=>(d (cZ f) (by omega)).trans (b.refs v k x g f)⟩
  ·have:=b.inl.1 e;exact(d hz.kV (by omega)).trans (b.m0 e j x y f)
  ·obtain⟨r,s,u⟩:=b.m2 e;exact⟨(d hz.kV (by omega)).trans r,s,u⟩
  ·obtain⟨r,s,u,F,G⟩:=b.m1 e;have n:t.gE=true:=by unfold Th.gE;rw[g,e];rfl
   obtain⟨sp,off,l,h3,K⟩:=A.aM n;have w:t.bb=t.aM.toNat:=by unfold Th.bb;rw[af e]
   have m:∀q,q<t.d+2->c[t.bb+q]?=ws[t.bb+q]?:=λq m=>B _ (.inr ⟨n,q,m,by rw[w,K,iY];omega⟩);exact⟨(d hz.kV (by omega)).trans r,s,(m 0 (by omega)).trans u,(m 1 (by omega)).trans F,λj x y f=>by rw[Nat.add_assoc,m (2+j) (by omega),<-Nat.add_assoc];exact G j x y f⟩
theorem TM.move(m:E.Ok)(r:ie E t)(h:TM E ws t)(H:t.gE=true)(sp off:N)(B:sp<2)(h3:off+(t.d+2)<=E.S)(G:8*t.hd+4<ws.length)
  (z:ws[E.aC sp+off]?=some (bi t.hd)) (c1:ws[E.aC sp+off+1]?=some (bH (t.d:V))) (cs:∀i,i<t.d->ws[E.aC sp+off+2+i]?=ws[t.bb+2+i]?) :
  TM E (ws.set (8*t.hd+4) (bH ((E.aC sp+off:N):V))) {t with aM:=((E.aC sp+off:N):V)}:=by
 have hz:=r.sz m;obtain⟨p,v⟩:=pF H;obtain⟨y,n,d⟩:=h.ar p;obtain⟨W,X,a3,a4,w⟩:=d.m1 v;obtain⟨S,P,Q,R⟩:=h.head;have F:t.hd<E.F:=r.lt _ hz.kV;have s:8*E.F<=E.aC sp:=by unfold gb.aC;omega
 have g:sp*E.S<=E.S:=by
  match sp,B with
  | 0,_=>omega
  | 1,_=>omega
 have b:∀{a:N},a≠8*t.hd+4->(ws.set (8*t.hd+4) (bH ((E.aC sp+off:N):V)))[a]?=ws[a]?:=λ{a} d=>kT (λe=>d e.symm);have o:({t with aM:=((E.aC sp+off:N):V)}:Th).bb=E.aC sp+off:=by
  unfold Th.bb;rw[af (show({t with aM:=((E.aC sp+off:N):V)}:Th).md=1 from v)];exact iY _
 refine⟨⟨S,P,Q,(b (by show 8*t.hd+1≠_;omega)).trans R⟩,λq=>by have:t.o.aE=1:=q;omega,λ_=>⟨y,n,?_⟩⟩;refine⟨d.EZ,d.dd,d.len,d.lt,d.nl,(b (by show 8*t.hd+2≠_;omega)).trans d.length,(b (by show 8*t.hd+3≠_;omega)).trans d.mode,d.m3,d.inl,λf=>by have:t.md=0:=f;omega,λf=>by have:t.md=2:=f;omega,λ_=>?_,λn k x p l=>?_⟩
 ·rw[o];refine⟨kS G,?_,(b (by omega)).trans z,(b (by omega)).trans c1,λj x u l=>(b (by omega)).trans ((cs j u).trans (w j x u l))⟩;rw[m.F,m.S];have hg:=m.g;unfold gb.aC
  push_cast
  have:((sp*E.S:N):V)<=E.S:=by exact_mod_cast g
  push_cast at this
  show(8*(E.F:V)+sp*E.S+off)+((t.d:V)+2)<=_;omega
 ·have K:x≠t.hd:=by
   intro e;obtain⟨c1,A⟩:1+k/8<t.fs.length/\t.fs.getD (1+k/8) 0=x:=⟨(dH.1 l).1,by rw[List.getD,l];rfl⟩;have:=getD_inj r.nd c1 (show 0<t.fs.length from hz.pos) (by rw[A,e];rfl);omega
  exact(b (by omega)).trans (d.refs n k x p l)
theorem ie.move(a:ie E t)(sp off:N)(b:sp<2)(d:off+(t.d+2)<=E.S):ie E {t with aM:=((E.aC sp+off:N):V)}:=⟨a.op,a.len,a.nd,a.lt,λ_=>⟨sp,off,b,d,T⟩⟩
end
end jH
namespace jH
open Ac (Vl dx Wr)
abbrev iG:=Nat × Nat
def fu:List iG->N
 | []=>0
 | e::l=>e.2+2+fu l
theorem jG(a b:List iG):fu (a++b)=fu a+fu b:=by
 induction a with
 | nil=>simp[fu]
 | cons e a c=>simp only[dV,fu,c];omega
def ce(l:List iG)(off hd d:N):Prop:=∃a b,l=a++(hd,d)::b/\fu a=off
section
variable{l r k:List iG}{off g f i d j:N}
theorem ce.le(h:ce l off f d):off+(d+2)<=fu l:=by
 obtain⟨a,b,rfl,rfl⟩:=h;rw[jG];simp only[fu];omega
theorem ce.eG(h:ce l off f d)(r:List iG):ce (l++r) off f d:=by
 obtain⟨a,b,rfl,e⟩:=h;exact⟨a,b++r,by simp,e⟩
theorem ce.jz(l:List iG)(f d:N):ce (l++[(f,d)]) (fu l) f d:=⟨l,[],T,T⟩
theorem ce.AI(k r:List iG)(f d:N):ce (k++(f,d)::r) (fu k) f d:=⟨k,r,T,T⟩
theorem ce.zE(h:ce (l++[(i,j)]) off f d):ce l off f d\/(off=fu l/\f=i/\d=j):=by
 obtain⟨a,b,e,rfl⟩:=h;rcases fi.1 e with⟨c,n,m⟩|⟨c,n,m⟩
 ·cases c with
  | nil =>
   simp only[bJ]at n;simp only[cW,List.cons.injEq,Prod.mk.injEq]at m;exact .inr ⟨by rw[n],m.1.1.symm,m.1.2.symm⟩
  | cons x c=>simp at m
 ·cases c with
  | nil =>
   simp only[bJ]at n;simp only[cW,List.cons.injEq,Prod.mk.injEq]at m;exact .inr ⟨by rw[n],m.1.1,m.1.2⟩
  | cons x c =>
   simp only[dV,List.cons.injEq]at m;obtain⟨rfl,m⟩:=m;exact .inl ⟨a,c,n,T⟩
theorem ce.mem(h:ce l off f d):(f,d)∈l:=by
 obtain⟨a,b,rfl,-⟩:=h;simp
theorem ce.apart(h:ce l off f d)(o:ce l g i j):(off=g/\f=i/\d=j)\/off+(d+2)<=g\/g+(j+2)<=off:=by
 obtain⟨a,b,rfl,rfl⟩:=h;obtain⟨p,q,e,rfl⟩:=o;rcases fi.1 e with⟨c,n,m⟩|⟨c,n,m⟩
 ·cases c with
  | nil =>
   simp only[bJ]at n;simp only[cW,List.cons.injEq,Prod.mk.injEq]at m;exact .inl ⟨by rw[n],m.1.1,m.1.2⟩
  | cons x c =>
   simp only[dV,List.cons.injEq]at m;obtain⟨rfl,m⟩:=m;refine .inr (.inl ?_);rw[n,jG];simp only[fu];omega
 ·cases c with
  | nil =>
   simp only[bJ]at n;simp only[cW,List.cons.injEq,Prod.mk.injEq]at m;exact .inl ⟨by rw[n],m.1.1.symm,m.1.2.symm⟩
  | cons x c =>
   simp only[dV,List.cons.injEq]at m;obtain⟨rfl,m⟩:=m;refine .inr (.inr ?_);rw[n,jG];simp only[fu];omega
theorem ce.EP(p:(l.map Prod.fst).Nodup)(h:ce l off f d)(q:ce l g f j):off=g/\d=j:=by
 obtain⟨a,b,rfl,rfl⟩:=h;obtain⟨s,t,e,rfl⟩:=q;have o:=p;rw[e]at o;simp only[cV,ev,ew,List.nodup_cons,dr]at p o;rcases fi.1 e with⟨c,n,m⟩|⟨c,n,m⟩
 ·cases c with
  | nil =>
   simp only[bJ]at n;simp only[cW,List.cons.injEq,Prod.mk.injEq]at m;exact⟨by rw[n],m.1.2⟩
  | cons x c =>
   simp only[dV,List.cons.injEq]at m;obtain⟨rfl,m⟩:=m;exact absurd T (o.2.2 f (by rw[n];simp) f (.inl T))
 ·cases c with
  | nil =>
   simp only[bJ]at n;simp only[cW,List.cons.injEq,Prod.mk.injEq]at m;exact⟨by rw[n],m.1.2.symm⟩
  | cons x c =>
   simp only[dV,List.cons.injEq]at m;obtain⟨rfl,m⟩:=m;exact absurd T (p.2.2 f (by rw[n];simp) f (.inl T))
theorem ce.gT(h:ce (k++r) off f d)(o:fu k<=off):ce r (off-fu k) f d:=by
 obtain⟨a,b,e,rfl⟩:=h;rcases fi.1 e with⟨c,m,n⟩|⟨c,m,n⟩
 ·exact⟨c,b,n,by rw[m,jG];omega⟩
 ·cases c with
  | nil =>
   simp only[bJ]at m;simp only[cW]at n;exact⟨[],b,n.symm,by rw[m];simp[fu]⟩
  | cons x c =>
   rw[m,jG]at o;simp only[fu]at o;omega
theorem ce.none(h:ce [] off f d):False:=by
 obtain⟨a,b,e,-⟩:=h;simp at e
theorem ce.head(h:ce ((i,j)::r) off f d):(off=0/\f=i/\d=j)\/j+2<=off:=by
 have b:ce ((i,j)::r) 0 i j:=⟨[],r,T,T⟩;rcases h.apart b with a|a|a
 ·exact .inl a
 ·omega
 ·exact .inr (by omega)
end
structure G8(ws:List (Nat × Nat))(A hd d:N):Prop where
 h0:ws[A]?=some (bi hd)
 h1:ws[A+1]?=some (bH (d:V))
 ow:ws[8*hd+4]?=some (bH (A:V))
theorem G8.aj{ws a:List (Nat × Nat)}{A b d:N}(h:G8 ws A b d)(c:a[A]?=ws[A]?)(e:a[A+1]?=ws[A+1]?)(f:a[8*b+4]?=ws[8*b+4]?):G8 a A b d:=⟨c.trans h.h0,e.trans h.h1,f.trans h.ow⟩
theorem TM.jw{E:gb}{t:Th}{ws:List (Nat × Nat)}(h:TM E ws t)(j:t.gE=true){A:N}(f:t.aM=(A:V)):G8 ws A t.hd t.d:=by
 obtain⟨i,e⟩:=pF j;obtain⟨m,n,g⟩:=h.ar i;obtain⟨b,k,c,d,l⟩:=g.m1 e;have a:t.bb=A:=by unfold Th.bb;rw[af e,f];simp
 rw[a]at b c d;exact⟨c,d,b⟩
end jH
namespace jH
open Ac (Vl dx Wr aA)
open fG (fF tb up)
inductive bW where
 | idle
 | Cm
 | post (k:N)
 | eN (k i:N)
 | fC (i:N)
 | mark (b:Bool)
 | trace (t:Tr.St)
 | cb
 | qS
 | jZ
 | cP (h:Hl.St)
 | done
 | jR (i:N)
 | fin
 | serve
inductive gJ where
 | je|mw|qH|start|write|born|fZ|nk|nj|pI
def bW.pos:bW->Int × Int
 | .idle=>(0,0)
 | .Cm=>(1,0)
 | .post 1=>(1,2)
 | .post 2=>(2,2)
 | .post 3=>(3,2)
 | .post 4=>(6,2)
 | .post _=>(7,2)
 | .eN 1 _=>(2,0)
 | .eN 2 _=>(3,0)
 | .eN 3 _=>(4,1)
 | .eN 4 _=>(6,1)
 | .eN _ _=>(8,0)
 | .fC _=>(4,0)
 | .mark _=>(5,0)
 | .trace _=>(5,4)
 | .cb=>(5,5)
 | .qS=>(6,0)
 | .jZ=>(7,0)
 | .cP _=>(7,0)
 | .done=>(8,7)
 | .jR _=>(9,0)
 | .fin=>(10,0)
 | .serve=>(10,7)
def bW.st:bW->V
 | .idle=>0
 | .Cm=>0
 | .post 1=>0
 | .post 2=>1
 | .post 3=>2
 | .post 4=>3
 | .post _=>4
 | .eN k _=>k
 | .fC _=>3
 | .mark _=>3
 | .trace _=>3
 | .cb=>3
 | .qS=>3
 | .jZ=>4
 | .cP _=>4
 | .done=>0
 | .jR _=>0
 | .fin=>0
 | .serve=>0
def bW.mM:bW->Bool
 | .eN _ 0=>true
 | .fC _=>true
 | _=>false
def bW.ix(p:bW)(i:N):Prop:=match p with
 | .eN _ j=>i=j
 | .fC j=>i=j
 | .jR j=>i=j
 | .qS=>i=0
 | .post 4=>i=0
 | _=>True
def bW.pA(E:gb):bW->Prop
 | .eN k i=>k<=4/\i<E.Tq
 | .fC i=>i<=E.g
 | .jR i=>i<E.F
 | .post k=>k<=4
 | _=>True
def mA(z:V):V:=if z=0 then 4 else z-1
def gJ.pos:gJ->Int × Int × Int
 | .je=>(1,0,0)
 | .mw=>(1,1,0)
 | .qH=>(1,2,0)
 | .start=>(2,0,0)
 | .write=>(2,0,7)
 | .born=>(2,0,8)
 | .fZ=>(3,5,0)
 | .nk=>(3,0,0)
 | .nj=>(3,1,0)
 | .pI=>(3,2,0)
def gJ.mu:gJ->Bool
 | .mw=>true
 | .qH=>true
 | .nj=>true
 | .pI=>true
 | _=>false
def gJ.jz:gJ->Bool
 | .qH=>true
 | .pI=>true
 | _=>false
def gJ.bZ:gJ->Bool
 | .mw=>true
 | .nj=>true
 | _=>false
def gJ.hH:gJ->Bool
 | .fZ=>true
 | .nk=>true
 | .nj=>true
 | .pI=>true
 | _=>false
def gJ.vO:gJ->Bool
 | .je=>true
 | .mw=>true
 | .qH=>true
 | _=>false
def gJ.made:gJ->Bool
 | .write=>true
 | .born=>true
 | _=>false
def gJ.at(t:gJ)(s:Ac.St):Prop:=s.bn=t.pos.1/\(s.bn=2->s.aM=t.pos.2.2)/\(s.bn≠2->s.pc=t.pos.2.1)
def nv:bW->Bool
 | .idle=>true
 | .Cm=>true
 | .post 1=>true
 | .fin=>true
 | .serve=>true
 | _=>false
def iQ(p:bW)(t:gJ)(ib:Bool):Bool:=match p with
 | .eN 1 _=>true
 | .post 2=>true
 | .eN 2 _=>true
 | .post 3=>true
 | .fC _=>ib&&!t.jz
 | .eN 3 _=>ib&&!t.jz
 | _=>false
def bW.tn:bW->Bool
 | .post 4=>true
 | .eN 4 _=>true
 | .jZ=>true
 | .cP _=>true
 | .post 0=>true
 | .eN 0 _=>true
 | .done=>true
 | _=>false
def bW.ti(p:bW):Bool:=p.tn||match p with
 | .jR _=>true
 | .fin=>true
 | .serve=>true
 | _=>false
def bW.wP:bW->Bool
 | .fC _=>true
 | .eN 3 _=>true
 | .mark true=>true
 | .trace _=>true
 | _=>false
def bW.mz:bW->Bool
 | .fC _=>true
 | .eN 3 _=>true
 | .mark true=>true
 | _=>false
def bW.Hk:bW->Bool
 | .mark true=>true
 | .trace _=>true
 | _=>false
def uV(b:Bool)(bg:Option Th):List Int:=match b,bg with
 | true,some th=>[(th.hd:V)]
 | _,_=>[]
def Kd(p:bW)(y:dw.St)(o:Pg):Prop:=match p with
 | .trace t=>o=.tr t
 | .cP h=>o=.hl h
 | .jZ=>y.h=.pointer none
 | _=>True
def bW.cp:bW->Option iG
 | .cP h=>if 6<=h.pc then some (h.k,h.head)else none
 | _=>none
def bW.mv(p:bW)(ib:Bool):Bool:=match p with
 | .post 4=>true
 | .eN 4 0=>ib
 | _=>false
def bW.kk:bW->N
 | .post 4=>1
 | .eN 4 _=>1
 | .jZ=>1
 | .cP _=>2
 | _=>0
def bW.sv:bW->Bool
 | .serve=>true
 | _=>false
def bW.zero:bW->Bool
 | .idle=>true
 | .Cm=>true
 | _=>false
def bW.sw:bW->N
 | .jR i=>i
 | _=>0
def bW.eb(p:bW):Bool:=p.tn||match p with
 | .jR _=>true
 | _=>false
def Aa(p:bW)(cB:Bool):Bool:=match p with
 | .post 1=>false
 | _=>!cB
structure Ih(Nq:N)(E:gb)(st:V)(se:Bool)(y:dw.St)(o:Pg)(p:bW):Prop where
 pos:y.dp=p.pos.1/\y.aM=p.pos.2
 ix:p.ix y.i
 pA:p.pA E
 st:st=p.st
 se:se=y.ah
 pg:Kd p y o
 cY:y.ek<=Nq/\y.finished<=Nq
structure LO(E:gb)(bA:List Int)(aY:V)(ah:Bool)(seen:V)(ys:Bool)(pst:V)(mM mu ib:Bool):Prop where
 bA:bA=aY::List.replicate (E.Tq-1) (-1)
 aY:aY=if ib=true then mA pst else pst
 mM:ib=true->mM=true
 ah:ah=if ib=true/\pst=1/\mu=false then !ys else ys
 mu:mu=true->ib=true/\seen=pst
structure Ll(lo fo:Bool)(xl gy:List Int)(pst:V)(wP mz Hk tgrey jz ib:Bool)(rc ro:Option Th):Prop where
 bZ:tgrey=true->pst=3/\∃th,rc=some th/\gy=[(th.hd:V)]
 bg:ro≠none->wP=true
 mark:Hk=true->ro≠none
 qM:ro≠none->ib=true->jz=true
 cb:lo=false
 xs:xl=uV mz ro
 cm:fo=false
structure Wt(E:gb)(sv zr:Bool)(o:dx)(pd:Option Th)(nt gr:Bool)(e:Ln.En):Prop where
 th:e.bx=0
 fr:e.ag=(fE E.ba o:V)
 sp:e.al=(jT E.ba o:V)
 st:e.bE=if gr=true then 1 else 0
 cy:gr=false->e.bh=if nt=true/\sv=true then 1 else 0
 JY:0<=e.bh/\e.bh<=1
 ka:gr=false->e.ka=(nt&&!sv)
 LY:gr=false->nt=true->zr=false
 cG:gr=true->nt=false/\∃th,pd=some th/\th.o=o/\e.cG=Po.aI th.fs/\e.aM=th.aM
structure EX(E:gb)(Nq:N)(en:List Ln.En)(s:Ac.St)(sv zr:Bool)(pst:V)(t:gJ)(nt gr:Bool)(an pd:Option Th):Prop where
 aM:t.at s
 own:∃n:N,s.own=(n:V)/\n<=Nq
 loc:s.ak=(match an with|none=>aA|some th=>(true,bi th.hd))::List.replicate (E.n-1) aA
 op:t.vO=false->∃o,E.Lq[s.next]?=some o/\(t.hH=true->∃e,en=[e]/\Wt E sv zr o pd nt gr e)/\(t.made=true->∃th,pd=some th/\th.o=o/\s.cG=Po.aI th.fs)
 en:t.hH=false->en=[]/\gr=false/\nt=false
 sr:t.made=false->gr=false->pd=none
 wn:gr=true->t.bZ=false/\(t.mu=true->pst=1)/\(s.aY=0\/(s.aY=1/\t=.fZ))
structure xP(E:gb)(l:List dq.dy)(fr:List Bool)(sx:List Int)(rc ro rp:Option Th)(es:N->List iG)(tf:N->dq.dy):Prop where
 l:l=tb E.F tf
 fr:fr=tb E.F (λi=>decide ((tf i).st=0))
 le:∀i,i<E.F->(tf i).st<=2
 sx:∃q:List Nat,sx=Po.aI q/\q.Nodup/\q.length<=E.Cq/\∀i,i∈q↔i<E.F/\(tf i).st=1
 an:∀th,rc=some th->ie E th/\(∀f∈th.fs,(tf f).st=2)/\(tf th.hd).head=true
 bg:∀th,ro=some th->ie E th/\(∀f∈th.fs,(tf f).st=2)/\(tf th.hd).head=true
 pd:∀th,rp=some th->ie E th/\(∀f∈th.fs,(tf f).st=2/\(tf f).head=false)
 uv:∀th th',rp=some th->rc=some th'->∀f∈th.fs,f∉th'.fs
 Ax:∀th th',rp=some th->ro=some th'->∀f∈th.fs,f∉th'.fs
 jw:∀sp,sp<2->∀e∈es sp,e.1<E.F/\(tf e.1).st=2
 oW:∀sp,sp<2->∀e∈es sp,∀th,rc=some th->e.1∈th.fs->e.1=th.hd/\th.gE=true/\e.2=th.d
 oX:∀sp,sp<2->∀e∈es sp,∀th,rp=some th->e.1∈th.fs->e.1=th.hd/\th.gE=true/\e.2=th.d
def xQ(E:gb)(ys:Bool)(tf:N->dq.dy)(th:Th)(t:Tr.St):Prop :=
 t.head=th.hd/\t.ah=ys /\
 ((t.pc=0/\t.j=0/\t.fP=th.hd/\t.aC=0) \/
 (th.o.aE=1/\t.jY=false/\t.bs=tE E.ba th.o/\t.aC=0/\th.fs[t.j]?=some t.fP /\
  ((t.pc=1/\t.am≠[]/\t.am.length<=40/\(∀x∈t.am,∃k:N,t.bs[k]?=some true/\fe (k:V)=(t.j:V)/\x=eh (k:V))/\∀i x,i<=t.j->th.fs[i]?=some x->(tf x).ah=ys) \/
   (t.pc=3/\t.am=[]/\t.j+1<th.fs.length/\∀i x,i<=t.j->th.fs[i]?=some x->(tf x).ah=ys) \/
   (t.pc=4/\∀i x,i<t.j->th.fs[i]?=some x->(tf x).ah=ys))) \/
 (th.o.aE=2/\t.jY=true/\t.bs=tE E.ba th.o /\
  ((t.pc=5/\t.j=0/\t.aC=0) \/
   (t.n=th.o.n.toNat/\1<=t.n /\
   ((t.pc=6/\t.j=0/\t.aC=0) \/
    (t.mode=th.md/\t.j<th.d /\
    ((t.pc=7/\t.j=0/\t.aC=0/\th.md≠0) \/
     ((if th.md=0 then t.aC=0 else t.aC=th.bb) /\
     ((t.pc=8/\th.md≠2/\∀i x,i<t.j->th.fs[i+1]?=some x->(tf x).ah=ys) \/
      (th.fs[t.j+1]?=some t.fP /\
      ((t.pc=4/\∀i x,i<t.j->th.fs[i+1]?=some x->(tf x).ah=ys) \/
       (t.pc=1/\t.am≠[]/\t.am.length<=8/\(∀x∈t.am,t.bs.getD 0 false=true/\∃k:N,k<8/\x=(k:V)/\8*t.j+k<t.n)/\∀i x,i<=t.j->th.fs[i+1]?=some x->(tf x).ah=ys))))))))))))
structure xI(E:gb)(ys:Bool)(cA cB eb wb:Bool)(sw:N)(nt:Bool)(cu:N)(rc ro rp:Option Th)(es:N->List iG)(tf:N->dq.dy):Prop where
 A:cA=true->∀i,i<E.F->(tf i).st=2->(tf i).ah=ys
 B:cB=true->∀i,i<E.F->(tf i).st=2->(tf i).ah=!ys
 Cp:cA=false->cB=false->∀th,rp=some th->∀f∈th.fs,(tf f).ah=ys
 Cc:cA=false->cB=false->∀th,rc=some th->ro=some th\/∀f∈th.fs,(tf f).ah=ys
 bg:∀th,ro=some th->(tf th.hd).ah=ys/\(th.gE=true->∃sp off,sp<2/\ce (es sp) off th.hd th.d/\th.aM=((E.aC sp+off:N):V))
 jw:eb=true->∀e∈es cu,(tf e.1).ah=ys
 sw:∀j,j<sw->(tf j).st=2->(tf j).ah=ys
 wh:nt=true->wb=true->∀i,i<E.F->(tf i).st=2->(tf i).ah=ys->∃th,rc=some th/\i∈th.fs
 J4:nt=true->∀th,ro=some th->rc=some th
structure vD(E:gb)(size:V)(ku:N)(uu:N->V)(kept:V)(tn ti mv:Bool)(cp:Option iG)(kk:N)(nt:Bool)(rc rp:Option Th)(es:N->List iG)(dk:N):Prop where
 size:size=(E.S:V)
 cu:ku<2
 u:∀sp,sp<2->uu sp=(fu (es sp):V)
 le:∀sp,sp<2->fu (es sp)<=E.S
 k0:0<=kept
 room:(fu (es ku):V)+kept<=(E.S:V)
 nd:∀sp,sp<2->((es sp).map Prod.fst).Nodup
 DS:tn=false->es (1-ku)=[]
 d5:∀sp,sp<2->∀e∈es sp,5<=e.2
 qv:kk=0->kept=0/\dk=fu (es (1-ku))
 pe:kk=1->kept=(fu (es (1-ku)):V)/\dk=0
 kF:∀off hd d,ce (es (1-ku)) off hd d->dk<=off->hd∉(es ku).map Prod.fst\/cp=some (off,hd)
 an:∀th,rc=some th->th.gE=true->∃sp off,sp<2/\ce (es sp) off th.hd th.d/\th.aM=((E.aC sp+off:N):V)/\((sp=ku/\∀k,cp≠some (k,th.hd))\/(sp=1-ku/\dk<=off))
 pd:∀th,rp=some th->th.gE=true->∃sp off,sp<2/\ce (es sp) off th.hd th.d/\th.aM=((E.aC sp+off:N):V)/\(sp=ku\/mv=true)
 Jk:nt=true->ti=true->∀e∈es ku,∃th,rc=some th/\e.1=th.hd
structure J9(E:gb)(am:List (Nat × Nat))(ys:Bool)(cu:N)(kept:V)(es:N->List iG)(tf:N->dq.dy)(dk:N)(h:Hl.St):Prop where
 from_:h.from_=1-cu
 fX:h.fX=fu (es (1-cu))
 ah:h.ah=ys
 dF:h.dF<=h.k
 dk:dk=h.k
 pc:0<=h.pc/\h.pc<=10
 KU:∃dn gT,es (1-cu)=dn++gT/\fu dn=h.k /\
  ((h.pc=0/\kept=(fu gT:V)/\gT≠[]) \/
  (1<=h.pc/\∃d r,gT=(h.head,d)::r/\(2<=h.pc->h.d=d)/\(h.pc<=5->kept=(fu gT:V)) /\
   (h.pc=3\/5<=h.pc->(tf h.head).ah=ys/\(tf h.head).head=true) /\
   (6<=h.pc->kept=(fu r:V)/\ce (es cu) h.dst h.head d) /\
   (7<=h.pc->am[E.aC cu+h.dst]?=some (bi h.head)) /\
   (8<=h.pc->am[E.aC cu+h.dst+1]?=some (bH (d:V))/\(h.pc<=9->h.j<d)/\(h.pc=10->h.j=d)/\∀i,i<h.j->am[E.aC cu+h.dst+2+i]?=am[E.aC (1-cu)+h.k+2+i]?) /\
   (h.pc=4->(tf h.head).ah=ys->(tf h.head).head=false) /\
   (h.pc=9->am[E.aC (1-cu)+h.k+2+h.j]?=some h.w)))
structure Mem(E:gb)(am:List (Nat × Nat))(bz:List Wr)(cu:N)(cp:Option iG)(t:gJ)(rc ro rp:Option Th)(es:N->List iG)(dk:N):Prop where
 len:am.length=8*E.F+2*E.S+E.g
 fC:∀i,i<E.g->am[8*E.F+2*E.S+i]?=some bD
 an:∀th,rc=some th->TM E am th
 bg:∀th,ro=some th->TM E am th
 write:t=.write->∃th j,rp=some th/\bz=(th.wr E.ba).drop j/\j<(th.wr E.ba).length/\fF (th.wr E.ba) j am
 born:t=.born->∃th,rp=some th/\fF (th.wr E.ba) (th.wr E.ba).length am
 jw:∀sp off hd d,sp<2->ce (es sp) off hd d->(sp=cu\/dk<=off)->(∃th,rp=some th/\hd=th.hd)\/(sp=cu/\∃k,cp=some (k,hd))\/G8 am (E.aC sp+off) hd d
structure Gh where
 p:bW
 t:gJ
 ib:Bool
 nt:Bool
 gr:Bool
 an:Option Th
 bg:Option Th
 pd:Option Th
 es:N->List iG
 tf:N->dq.dy
 dk:N
structure dR(E:gb)(Nq:N)(m:aW.St)(s:Ac.St)(y:dw.St)(o:Pg)(G:Gh):Prop where
 gX:Ih Nq E m.st m.se y o G.p
 kN:LO E m.bA s.aY s.ah s.seen y.ah G.p.st G.p.mM G.t.mu G.ib
 mB:Ll m.cb m.s.cm m.xs s.bZ G.p.st G.p.wP G.p.mz G.p.Hk G.t.bZ G.t.jz G.ib G.an G.bg
 jp:EX E Nq m.s.en s G.p.sv G.p.zero G.p.st G.t G.nt G.gr G.an G.pd
 lw:xP E m.s.l m.s.fr m.s.sx G.an G.bg G.pd G.es G.tf
 ft:xI E y.ah (nv G.p) (iQ G.p G.t G.ib) G.p.eb (Aa G.p (iQ G.p G.t G.ib)) G.p.sw G.nt m.s.an G.an G.bg G.pd G.es G.tf
 kQ:vD E m.s.size m.s.an m.s.u m.s.kept G.p.tn G.p.ti (G.p.mv G.ib) G.p.cp G.p.kk G.nt G.an G.pd G.es G.dk
 mem:Mem E m.am s.bz m.s.an G.p.cp G.t G.an G.bg G.pd G.es G.dk
 BM:∀tt,G.p=.trace tt->∃th,G.bg=some th/\xQ E y.ah G.tf th tt
 qt:∀h,G.p=.cP h->J9 E m.am y.ah m.s.an m.s.kept G.es G.tf G.dk h
def tz(t:Tr.St):N :=
 if t.pc=0 then 778 else if t.jY=false then(if t.pc=4 then(7-t.j)*44 else if t.pc=1 then(7-t.j)*44-42+t.am.length else(7-t.j)*44-43)
 else if t.pc=5 then 772 else if t.pc=6 then 771 else if t.pc=7 then 770 else if t.pc=8 then(64-t.j)*12+1 else if t.pc=4 then(64-t.j)*12 else(64-t.j)*12+t.am.length-9
def hz(h:Hl.St):N:=3*(h.fX-h.k)+2 -
 (if h.pc=0 then 0 else if h.pc=1 then 1 else if h.pc=2 then 2 else if h.pc=3 then 3 else if h.pc=4 then 3 else if h.pc=5 then 4 else if h.pc=6 then 5 else if h.pc=7 then 6 else if h.pc=8 then 7+2*h.j else if h.pc=9 then 8+2*h.j else 7+2*h.d)
def R:bW->N
 | .serve=>1
 | .fin=>2
 | .jR i=>2+(64-i)
 | .done=>67
 | .eN 0 i=>67+(17-i)
 | .post 0=>92
 | .cP h=>92+hz h
 | .jZ=>6246
 | .eN 4 i=>6246+(17-i)
 | .post 4=>6271
 | .qS=>6272
 | .cb=>6273
 | .mark false=>6274
 | .trace t=>6275+tz t
 | .mark true=>7054
 | .eN 3 i=>7054+(17-i)
 | .fC i=>7071+(10-i)
 | .post 3=>7089
 | .eN 2 i=>7089+(17-i)
 | .post 2=>7114
 | .eN 1 i=>7114+(17-i)
 | .post 1=>7139
 | .Cm=>7140
 | .idle=>7141
 | _=>0
def bW.zK:bW->Bool
 | .post _=>true
 | _=>false
def tj(p:bW)(ib nt gr:Bool)(a b:N):N:=if gr=true then 620+a else 640+(if ib=true then b else 0)+R p+(if nt=true\/p.zero=true then 0 else 7141)
def qd(p:bW)(t:gJ)(ib nt gr:Bool)(l:N):N:=match t with
 | .je=>if ib=true then 14945 else 14941
 | .mw=>14944
 | .qH=>14943
 | .start=>14940
 | .write=>l+2
 | .born=>1
 | .fZ=>tj p ib nt gr 1 4
 | .nk=>tj p ib nt gr 3 3
 | .nj=>tj p ib nt gr 1 2
 | .pI=>tj p ib nt gr 2 1
def pk(p:bW)(t:gJ)(ib nt gr:Bool)(l:N):N:=match t with
 | .je=>if ib=true\/p.zK=true then 14945 else 14941
 | .mw=>14944
 | .qH=>14943
 | .start=>14940
 | .write=>l+2
 | .born=>1
 | .fZ=>tj p ib nt gr 1 4
 | .nk=>tj p ib nt gr 3 3
 | .nj=>tj p ib nt gr 1 2
 | .pI=>tj p ib nt gr 2 1
def vH(t:gJ)(ib gr:Bool):Bool:=!(t.hH&&!gr&&!ib)
end jH
namespace jH
open Ac (Vl dx Wr aA)
open fG (fF tb up)
def bW.Ly(p:bW)(t:gJ)(ib:Bool):=(p.wP,p.mz,p.Hk,p.sv,p.zero,nv p,iQ p t ib,p.eb,Aa p (iQ p t ib),p.sw,p.tn,p.ti,p.mv ib,p.cp,p.kk)
section
variable{E:gb}{u:N}{m:aW.St}{s:Ac.St}{y y':dw.St}{o o':Pg}{p d:bW}{t:gJ}{c x j v i gr':Bool}{an bg q cur' g B:Option Th}{es:N->List iG}{r:N->dq.dy}{A:N->List iG}{tf':N->dq.dy}{w z l:N}
theorem EX.eG{en:List Ln.En}{sv b:Bool}{a:V}(h:EX E u en s sv b a t j i an q):EX E (u+1) en s sv b a t j i an q:=by
 obtain⟨n,e,f⟩:=h.own;exact⟨h.aM,⟨n,e,by omega⟩,h.loc,h.op,h.en,h.sr,h.wn⟩
def ue(G G':Gh)(l:N):Prop:=qd G'.p G'.t G'.ib G'.nt G'.gr l<=pk G.p G.t G.ib G.nt G.gr l/\(vH G'.t G'.ib G'.gr=false->qd G'.p G'.t G'.ib G'.nt G'.gr l<pk G.p G.t G.ib G.nt G.gr l)
def iL(E:gb)(u:N)(s:Ac.St)(G:Gh)(m':aW.St)(y':dw.St)(o':Pg):Prop:=∃G',dR E (u+1) m' s y' o' G'/\ue G G' s.bz.length
theorem KV:qd p t c j i l<=pk p t c j i l:=by
 cases t<;>simp only[pk,qd,ci];cases c
 ·simp only[gx,false_or,bG];split<;>omega
 ·simp
theorem Hm(b:t.hH=false)(a:t=.je->x=true->c=true\/p.zK=true):qd d t x v gr' l<=pk p t c j i l:=by
 cases t<;>simp only[pk,qd,ci]<;>first|(simp[gJ.hH]at b)|skip
 cases x
 ·simp only[gx,bG];split<;>omega
 ·rw[af rfl,af (a rfl rfl)];omega
theorem Jh(e:t.hH=true):∃a b,b<=4/\∀p c j i l,qd p t c j i l=tj p c j i a b/\pk p t c j i l=tj p c j i a b:=by
 cases t<;>first|(simp[gJ.hH]at e;done)|skip
 ·exact⟨1,4,by omega,λ_ _ _ _ _=>⟨T,T⟩⟩
 ·exact⟨3,3,by omega,λ_ _ _ _ _=>⟨T,T⟩⟩
 ·exact⟨1,2,by omega,λ_ _ _ _ _=>⟨T,T⟩⟩
 ·exact⟨2,1,by omega,λ_ _ _ _ _=>⟨T,T⟩⟩
theorem wD(k:t.hH=true->i=false->R d+(if v=true\/d.zero=true then 0 else 7141)<R p+(if j=true\/p.zero=true then 0 else 7141)):ue ⟨p,t,c,j,i,an,bg,q,es,r,w⟩ ⟨d,t,c,v,i,cur',g,B,A,tf',z⟩ l:=by
 unfold ue;simp only;cases f:t.hH
 ·exact⟨Hm f λ_ e=>.inl e,λe=>by simp[vH,f]at e⟩
 ·obtain⟨a,b,-,h⟩:=Jh f;rw[(h d c v i l).1,(h p c j i l).2];unfold tj;cases i
  ·have k:=k f T;simp only[gx,bG];exact⟨by omega,λ_=>by omega⟩
  ·simp[vH]
theorem zA(a:R d+(if v=true\/d.zero=true then 0 else 7141)<R p+(if j=true\/p.zero=true then 0 else 7141)):ue ⟨p,t,c,j,i,an,bg,q,es,r,w⟩ ⟨d,t,c,v,i,cur',g,B,A,tf',z⟩ l:=wD λ_ _=>a
theorem eI(hz:d.zero=p.zero)(a:R d<R p):ue ⟨p,t,c,j,i,an,bg,q,es,r,w⟩ ⟨d,t,c,j,i,cur',g,B,A,tf',z⟩ l:=zA (by rw[hz];omega)
theorem lD(n:R d+5<=R p)(hz:d.zero=p.zero)(f:p.zK=true):ue ⟨p,t,false,j,i,an,bg,q,es,r,w⟩ ⟨d,t,true,j,i,cur',g,B,A,tf',z⟩ l:=by
 unfold ue;simp only;cases k:t.hH
 ·exact⟨Hm k λ_ _=>.inr f,λe=>by simp[vH,k]at e⟩
 ·obtain⟨a,b,F,h⟩:=Jh k;rw[(h d true j i l).1,(h p false j i l).2,vH];unfold tj;rw[hz];cases i
  ·simp only[gx,bG,bP];exact⟨by omega,λe=>by simp at e⟩
  ·simp
theorem Dl:ue ⟨p,t,true,j,i,an,bg,q,es,r,w⟩ ⟨p,t,true,j,i,an,bg,q,es,r,w⟩ l:=by
 refine⟨KV,λh=>?_⟩;simp[vH]at h
theorem dR.wJ{G:aW.St}(h:dR E u m s y o ⟨p,t,c,j,i,an,bg,q,es,r,w⟩)(F:G.s=m.s/\G.am=m.am/\G.bA=m.bA/\G.st=m.st/\G.se=m.se)(hc:Ih (u+1) E m.st m.se y' o' d)(hg:Ll G.cb m.s.cm G.xs s.bZ d.st d.wP d.mz d.Hk t.bZ t.jz c an g)(k:g=none\/g=bg)(K:y'.ah=y.ah)(a1:d.st=p.st)(W:c=true->d.mM=true)
  (a8:nv p=false->iQ p t c=false->∀th,an=some th->g=some th\/∀f∈th.fs,(r f).ah=y.ah)
  (R:(d.sv,d.zero,nv d,iQ d t c,d.eb,Aa d (iQ d t c),d.sw,d.tn,d.ti,d.mv c,d.cp,d.kk)=(p.sv,p.zero,nv p,iQ p t c,p.eb,Aa p (iQ p t c),p.sw,p.tn,p.ti,p.mv c,p.cp,p.kk))
  (h1:∀H,d=.trace H->∃th,g=some th/\xQ E y.ah r th H) (h2:∀H,d≠.cP H) :
  dR E (u+1) G s y' o' ⟨d,t,c,j,i,an,g,q,es,r,w⟩:=by
 simp only[Prod.mk.injEq]at R;obtain⟨e4,e5,e6,e7,e8,e9,a3,a4,a5,a6,Q,a7⟩:=R;obtain⟨P,k2,k3,k4,k5⟩:=F;have S:=h.kN;have ht:=h.jp.eG;have b:=h.lw;have a:=h.ft;have X:=h.kQ;have F:=h.mem;simp only at S ht b a X F;have n:∀th,g=some th->bg=some th:=λth e=>by
  rcases k with k|k
  ·rw[k]at e;cases e
  ·rw[<-k];exact e
 refine⟨by rw[k4,k5];exact hc,?_,by rw[P];exact hg,?_,?_,?_,?_,?_,λH e=>by rw[K];exact h1 H e,λH e=>absurd e (h2 H)⟩
 ·simp only;rw[K,a1,k3];exact⟨S.bA,S.aY,W,S.ah,S.mu⟩
 ·simp only;rw[e4,e5,a1,P];exact ht
 ·simp only;rw[P];exact⟨b.l,b.fr,b.le,b.sx,b.an,λth e=>b.bg th (n th e),b.pd,b.uv,λth a2 e e'=>b.Ax th a2 e (n a2 e'),b.jw,b.oW,b.oX⟩
 ·simp only;rw[e9,e6,e7,e8,a3,K,P];exact⟨a.A,a.B,a.Cp,a8,λth e=>a.bg th (n th e),a.jw,a.sw,a.wh,λhn th e=>a.J4 hn th (n th e)⟩
 ·simp only;rw[a4,a5,a6,Q,a7,P];exact X
 ·simp only;rw[Q,P,k2];exact⟨F.len,F.fC,F.an,λth e=>F.bg th (n th e),F.write,F.born,F.jw⟩
theorem dR.move(h:dR E u m s y o ⟨p,t,c,j,i,an,bg,q,es,r,w⟩)(hc:Ih (u+1) E m.st m.se y' o d)(Q:y'.ah=y.ah)(f:d.st=p.st)(b:c=true->d.mM=true)(a:d.Ly t c=p.Ly t c)(h1:∀k,d≠.trace k)(h2:∀k,d≠.cP k):dR E (u+1) m s y' o ⟨d,t,c,j,i,an,bg,q,es,r,w⟩:=by
 unfold bW.Ly at a;simp only[Prod.mk.injEq]at a;obtain⟨S,W,X,e4,e5,e6,e7,e8,e9,n,F,G,H,K,P⟩:=a;refine h.wJ ⟨T,T,T,T,T⟩ hc ?_ (.inr T) Q f b h.ft.Cc ?_ (λk e=>absurd e (h1 k)) h2
 ·have R:=h.mB;simp only at R ⊢;rw[S,W,X,f];exact R
 ·rw[e4,e5,e9,e6,e7,e8,n,F,G,H,K,P]
theorem dR.va{k:V}(h:dR E u m s y o ⟨p,t,false,j,i,an,bg,q,es,r,w⟩)(hc:Ih (u+1) E k m.se y' o d)(W:y'.ah=y.ah)(a8:p.st=mA d.st)(a6:d.st≠1)(Q:d.mM=true)(R:bg=none)(a7:d.Hk=false)
  (K:(d.sv,d.zero,nv d,iQ d t true,d.eb,Aa d (iQ d t true),d.sw,d.tn,d.ti,d.mv true,d.cp,d.kk)=(p.sv,p.zero,nv p,iQ p t false,p.eb,Aa p (iQ p t false),p.sw,p.tn,p.ti,p.mv false,p.cp,p.kk)) (h1:∀G,d≠.trace G) (h2:∀G,d≠.cP G) :
  dR E (u+1) {m with st:=k} s y' o ⟨d,t,true,j,i,an,bg,q,es,r,w⟩:=by
 simp only[Prod.mk.injEq]at K;obtain⟨e4,e5,e6,e7,e8,e9,a1,a2,a3,a4,H,a5⟩:=K;have P:=h.kN;have X:=h.mB;have f:=h.jp.eG;have n:=h.ft;have S:=h.kQ;have hm:=h.mem;simp only at P X f n S hm;have a:t.mu=false:=by
  cases F:t.mu
  ·rfl
  ·exact absurd (P.mu F).1 (by simp)
 have b:t.bZ=false:=by
  cases t<;>first|rfl|simp[gJ.mu]at a
 refine⟨hc,?_,?_,?_,h.lw,?_,?_,?_,λG e=>absurd e (h1 G),λG e=>absurd e (h2 G)⟩
 ·simp only;rw[W];refine⟨P.bA,by rw[af rfl,<-a8];simpa using P.aY,λ_=>Q,?_,λF=>(by rw[a]at F;cases F)⟩;rw[aa (λe=>a6 e.2.1)];have:=P.ah
  rwa [aa (by simp)]at this
 ·simp only;subst R;refine⟨λe=>(by rw[b]at e;cases e),λe=>absurd rfl e,λe=>(by rw[a7]at e;cases e),λe=>absurd rfl e,X.cb,?_,X.cm⟩;rw[X.xs];unfold uV;cases p.mz<;>cases d.mz<;>rfl
 ·simp only;rw[e4,e5];exact⟨f.aM,f.own,f.loc,f.op,f.en,f.sr,λb=>⟨(f.wn b).1,λF=>(by rw[a]at F;cases F),(f.wn b).2.2⟩⟩
 ·simp only;rw[e9,e6,e7,e8,a1,W];exact n
 ·simp only;rw[a2,a3,a4,H,a5];exact S
 ·simp only;rw[H];exact hm
