/- Part 17 of the proof of spotop.TopChurn. -/
import Derived.Test.YtpgdiceeimehiaaGreatR16
set_option maxRecDepth 100000
set_option maxHeartbeats 16000000
set_option linter.all false
open Go.Proofs.Tryz
namespace Go.Proofs.YtpgdiceeimehiaaGreat
open RowKit
section
theorem rI{a:Type}(f:a->List Value)(k:N)(b:∀x,(f x).length=k)(l:List a):(l.flatMap f).length=l.length*k:=by
 induction l with
 | nil=>simp
 | cons x l c=>rw[bN,iB,b,c,bu,Nat.add_mul,Nat.one_mul,Nat.add_comm]
theorem wi{b:Type}(f:b->List Value)(k:N)(a:∀x,(f x).length=k)(l:List b)(j i:N)(x:b)(h:l[j]?=some x)(c:i<k):(l.flatMap f)[j*k+i]?=(f x)[i]?:=by
 induction l generalizing j with
 | nil=>simp at h
 | cons y l d =>
  rw[bN];cases j with
  | zero =>
   simp only[List.getElem?_cons_zero,Option.some.injEq]at h;subst h;rw[fT,br,pL (by rw[a];exact c)]
  | succ j =>
   rw[oc (by rw[a,Nat.succ_mul];omega),a,show(j+1)*k+i-k=j*k+i from by rw[Nat.succ_mul];omega];exact d j (by simpa using h)
theorem wj{b:Type}(f:b->List Value)(k:N)(a:∀x,(f x).length=k)(l:List b)(j i:N)(x y:b)(v:Value)(h:l[j]?=some x)(c:i<k)(d:f y=(f x).set i v):(l.flatMap f).set (j*k+i) v=(l.set j y).flatMap f:=by
 induction l generalizing j with
 | nil=>simp at h
 | cons z l e =>
  cases j with
  | zero =>
   simp only[List.getElem?_cons_zero,Option.some.injEq]at h;subst h;rw[dv,bN,bN,d,fT,br,List.set_append_left _ _ (by rw[a];exact c)]
  | succ j =>
   rw[fI,bN,bN,cX _ _ (by rw[a,Nat.succ_mul];omega),a,show(j+1)*k+i-k=j*k+i from by rw[Nat.succ_mul];omega,e j (by simpa using h)]
namespace Ac
structure dx where
 aE:N
 a:V
 b:V
 c:V
 n:V
 x:N
 y:N
abbrev jb(o:dx):Value:=.agg #[J o.aE,J o.a,J o.b,J o.c,J o.n,U o.x o.y]
def BK(o:dx):List Value:=[J o.aE,J o.a,J o.b,J o.c,J o.n,U o.x o.y]
def dj(l:List dx):List Value:=l.flatMap BK
abbrev Vl:=Bool × Nat × Nat
abbrev GW(v:Vl):Value:=.agg #[L v.1,U v.2.1 v.2.2]
def vu(v:Vl):List Value:=[L v.1,U v.2.1 v.2.2]
def fY(l:List Vl):List Value:=l.flatMap vu
abbrev Wr:=Int × Nat × Nat
def Ia(v:Wr):List Value:=[J v.1,U v.2.1 v.2.2]
def jm(l:List Wr):List Value:=l.flatMap Ia
theorem Jq{l:List dx}{j:N}{o:dx}(h:l[j]?=some o)(i:N)(a:i<6):(dj l)[j*6+i]?=(BK o)[i]?:=wi BK 6 (λ_=>T) l j i o h a
theorem Jr(l:List dx):(dj l).length=l.length*6:=rI BK 6 (λ_=>T) l
theorem mq{l:List Vl}{j:N}{o:Vl}(h:l[j]?=some o)(i:N)(a:i<2):(fY l)[j*2+i]?=(vu o)[i]?:=wi vu 2 (λ_=>T) l j i o h a
theorem vv(l:List Vl):(fY l).length=l.length*2:=rI vu 2 (λ_=>T) l
theorem nr(l:List Wr):(jm l).length=l.length*2:=rI Ia 2 (λ_=>T) l
def jJ(w:Y)(v:Value)(l:List Wr):Prop :=
 ∃(A:Option Addr) (c:N),v=Z A l.length c/\l.length<=c/\(∀k,v.ownBlock=some k->k<w.heap.size) /\
  (0<l.length->∃g off,A=some ⟨g,off,none⟩/\∀j u,(jm l)[j]?=some u->w.cell? (I g (off+j))=some u)
section
variable{w w':Y}{v:Value}{l:List Wr}
theorem jJ.nil(w:Y):jJ w (Z none 0 0) []:=⟨none,0,T,ci _,λk a=>by simp[Value.ownBlock]at a,λh=>by simp at h⟩
theorem jJ.MC{S:N->Prop}(h:jJ w v l)(b:ac S w w')(i:∀k,v.ownBlock=some k->¬S k):jJ w' v l:=by
 obtain⟨A,c,rfl,d,a,e⟩:=h;refine⟨A,c,T,d,λk f=>eR (a k f) b.size,λm=>?_⟩;obtain⟨g,off,rfl,o⟩:=e m;exact⟨g,off,T,λj u n=>(b.cell (p:=⟨g,off+j,none⟩) (a g T) (i g T)).trans (o j u n)⟩
theorem jJ.fQ{aC:N}{e:TypeId}(h:w.ownsRow aC e 2 v l.length (jm l)):jJ w v l:=by
 rcases h.2 with⟨rfl,d⟩|⟨g,a,c,rfl,m,n,i,p,q,r⟩
 ·obtain rfl:l=[]:=mD d;exact jJ.nil w
 ·refine⟨_,a,T,i,λk f=>(h.lt k f).2,λ_=>⟨g,0,T,λj u b=>?_⟩⟩;have o:j<l.length*2:=by rw[<-nr];exact(dH.1 b).1
  rw[br,h.cellAt j (by omega)];exact b
end
theorem jJ.tail{w:Y}{g off d:N}{x:Wr}{l:List Wr}(h:jJ w (Z (some (I g off)) (l.length+1) d) (x::l))(f:Option Addr)(b:(if d=1 then some (⟨g,off,none⟩:Addr)else some ⟨g,off+2,none⟩)=f):jJ w (Z f l.length (d-1)) l/\∀k,(Z f l.length (d-1)).ownBlock=some k->k=g:=by
 obtain⟨A,c,r,o,p,m⟩:=h;injection r with e1 e2 e3;subst e3;subst e1;have a:∀k,(Z f l.length (d-1)).ownBlock=some k->k=g:=λk a=>by
  rw[<-b]at a;split at a<;>(injection a with a;exact a.symm)
 simp only[bu]at o m;refine⟨⟨f,d-1,T,by omega,λk i=>(a k i)▸p g T,λv=>?_⟩,a⟩;rw[aa (by omega)]at b;obtain⟨t,n,e,s⟩:=m (by omega);injection e with e;injection e with e1 e2;subst e1 e2;refine⟨g,off+2,b.symm,λj u q=>?_⟩;rw[show off+2+j=off+(j+2)from by omega];exact s (j+2) u (by simpa[jm,Ia]using q)
def ud(w:Y)(v:Value)(xs:List Int):Prop:=eO w w.heap.size v xs/\∀k,v.ownBlock=some k->k<w.heap.size
theorem ud.MC{S:N->Prop}{w b:Y}{v:Value}{xs:List Int}(h:ud w v xs)(a:ac S w b)(d:∀k,v.ownBlock=some k->¬S k):ud b v xs:=⟨h.1.MC a d,λk c=>eR (h.2 k c) a.size⟩
theorem ud.nil(w:Y):ud w (Z none 0 0) []:=⟨eO.nil _ _,λk a=>by simp[Value.ownBlock]at a⟩
structure B where
 t:N
 ab:N
 lg:N
 ov:Value
 ops:List dx
structure St where
 ak:List Vl
 bn:V
 aY:V
 ah:Bool
 next:N
 pc:V
 seen:V
 gv:Value
 own:V
 aM:V
 f:Value
 addr:V
 DZ:Bool
 bg:Nat × Nat
 w:Nat × Nat
 tv:Value
 wv:Value
 bZ:List Int
 cG:List Int
 bz:List Wr
def cs(b:B)(s:St):Array Value:=#[J b.t,b.ov,Z (some (I b.lg 0)) s.ak.length s.ak.length,J s.bn,J s.aY,L s.ah,J s.next,J s.pc,J s.seen,s.gv,J s.own,J s.aM,s.f,J s.addr,L s.DZ,U s.bg.1 s.bg.2,U s.w.1 s.w.2,s.tv,s.wv]
structure Rd(w:Y)(κ:N->N)(b:B)(s:St):Prop where
 ops:w.ownsRow 0 32 6 b.ov b.ops.length (dj b.ops)
 bZ:ez w 0 s.gv s.bZ
 cG:ud w s.tv s.cG
 wr:jJ w s.wv s.bz
 k8:∀k,b.ov.ownBlock=some k\/s.gv.ownBlock=some k\/s.tv.ownBlock=some k\/s.wv.ownBlock=some k->κ k=8
structure At(w:Y)(κ:N->N)(b:B)(s:St):Prop where
 me:w.heap[b.ab]?=some (D (cs b s) 134 (0,0))
 loc:w.heap[b.lg]?=some (D (fY s.ak).toArray 44 (0,0))
 eT:s.ak.length<=8
 rd:Rd w κ b s
 k6:κ b.ab=6
 k7:κ b.lg=7
section
variable{w d:Y}{κ κ':N->N}{b:B}{s s':St}
theorem At.lb(h:At w κ b s):b.ab<w.heap.size:=(bR.1 h.me).1
theorem At.ll(h:At w κ b s):b.lg<w.heap.size:=(bR.1 h.loc).1
theorem At.ne(h:At w κ b s):b.lg≠b.ab:=aV h.loc h.me (by decide)
theorem Rd.lt(h:Rd w κ b s)(k:N)(a:b.ov.ownBlock=some k\/s.gv.ownBlock=some k\/s.tv.ownBlock=some k\/s.wv.ownBlock=some k):k<w.heap.size:=by
 rcases a with a|a|a|a
 ·exact(h.ops.lt k a).2
 ·exact(h.bZ.lt k a).2
 ·exact h.cG.2 k a
 ·obtain⟨_,_,_,_,c,_⟩:=h.wr;exact c k a
theorem At.c(h:At w κ b s)(i:N)(v:Value)(e:(cs b s)[i]?=some v):w.cell? (I b.ab i)=some v:=by rw[bK h.me];exact e
theorem At.p0(h:At w κ b s):w.cell? (I b.ab 0)=some (J b.t):=h.c 0 _ T
theorem At.p1(h:At w κ b s):w.cell? (I b.ab 1)=some (b.ov):=h.c 1 _ T
theorem At.p2(h:At w κ b s):w.cell? (I b.ab 2)=some (Z (some (I b.lg 0)) s.ak.length s.ak.length):=h.c 2 _ T
theorem At.p3(h:At w κ b s):w.cell? (I b.ab 3)=some (J s.bn):=h.c 3 _ T
theorem At.p4(h:At w κ b s):w.cell? (I b.ab 4)=some (J s.aY):=h.c 4 _ T
theorem At.p5(h:At w κ b s):w.cell? (I b.ab 5)=some (L s.ah):=h.c 5 _ T
theorem At.p6(h:At w κ b s):w.cell? (I b.ab 6)=some (J s.next):=h.c 6 _ T
theorem At.p7(h:At w κ b s):w.cell? (I b.ab 7)=some (J s.pc):=h.c 7 _ T
theorem At.p8(h:At w κ b s):w.cell? (I b.ab 8)=some (J s.seen):=h.c 8 _ T
theorem At.p9(h:At w κ b s):w.cell? (I b.ab 9)=some (s.gv):=h.c 9 _ T
theorem At.sq(h:At w κ b s):w.cell? (I b.ab 10)=some (J s.own):=h.c 10 _ T
theorem At.kv(h:At w κ b s):w.cell? (I b.ab 11)=some (J s.aM):=h.c 11 _ T
theorem At.jc(h:At w κ b s):w.cell? (I b.ab 12)=some (s.f):=h.c 12 _ T
theorem At.pt(h:At w κ b s):w.cell? (I b.ab 13)=some (J s.addr):=h.c 13 _ T
theorem At.rf(h:At w κ b s):w.cell? (I b.ab 14)=some (L s.DZ):=h.c 14 _ T
theorem At.qC(h:At w κ b s):w.cell? (I b.ab 15)=some (U s.bg.1 s.bg.2):=h.c 15 _ T
theorem At.tP(h:At w κ b s):w.cell? (I b.ab 16)=some (U s.w.1 s.w.2):=h.c 16 _ T
theorem At.vG(h:At w κ b s):w.cell? (I b.ab 17)=some (s.tv):=h.c 17 _ T
theorem At.rh(h:At w κ b s):w.cell? (I b.ab 18)=some (s.wv):=h.c 18 _ T
theorem At.fb(h:At w κ b s)(k:N):w.frozen? (I b.ab k)=false:=ey k h.me
theorem At.fl(h:At w κ b s)(k:N):w.frozen? (I b.lg k)=false:=ey k h.loc
theorem At.oj(h:At w κ b s){j:N}{v:Vl}(a:s.ak[j]?=some v):w.cell? (I b.lg (j*2))=some (L v.1)/\w.cell? (I b.lg (j*2+1))=some (U v.2.1 v.2.2):=by
 constructor
 ·rw[bK h.loc];have:=mq a 0 (by omega);simpa[vu]using this
 ·rw[bK h.loc];have:=mq a 1 (by omega);simpa[vu]using this
theorem Rd.op(h:Rd w κ b s){j:N}{o:dx}(k:b.ops[j]?=some o):∃g c,b.ov=Z (some (I g 0)) b.ops.length c/\κ g=8/\w.cell? (I g (j*6))=some (J o.aE)/\w.cell? (I g (j*6+1))=some (J o.a)/\w.cell? (I g (j*6+2))=some (J o.b)/\w.cell? (I g (j*6+3))=some (J o.c)/\w.cell? (I g (j*6+4))=some (J o.n)/\w.cell? (I g (j*6+5))=some (U o.x o.y):=by
 have p:j<b.ops.length:=(dH.1 k).1;rcases h.ops.2 with⟨e,q⟩|⟨g,f,m,e,-⟩
 ·omega
 ·refine⟨g,f,e,h.k8 g (.inl (by rw[e];rfl)),?_⟩;have a:∀i,i<6->w.cell? (I g (j*6+i))=(BK o)[i]?:=λi n=>by
   have l:=h.ops;rw[e]at l;rw[l.cellAt (j*6+i) (by omega)];exact Jq k i n
  exact⟨a 0 (by omega),a 1 (by omega),a 2 (by omega),a 3 (by omega),a 4 (by omega),a 5 (by omega)⟩
theorem Rd.aj{Tq:N->Prop}(h:Rd w κ b s)(e:ac Tq w d)(c:∀k,κ k=8->¬Tq k)(f:∀k,k<w.heap.size->κ' k=κ k):Rd d κ' b s:=⟨e.own h.ops (λk a=>c k (h.k8 k (.inl a))),h.bZ.MC e (λk a=>c k (h.k8 k (.inr (.inl a)))),h.cG.MC e (λk a=>c k (h.k8 k (js (.inl a)))),h.wr.MC e (λk a=>c k (h.k8 k (pN a))),λk a=>(f k (h.lt k a)).trans (h.k8 k a)⟩
theorem At.aj{Tq:N->Prop}(h:At w κ b s)(c:ac Tq w d)(a:∀k,κ k=6\/κ k=7\/κ k=8->¬Tq k)(e:∀k,k<w.heap.size->κ' k=κ k):At d κ' b s:=⟨c.bF h.me (a _ (.inl h.k6)),c.bF h.loc (a _ (.inr (.inl h.k7))),h.eT,h.rd.aj c (λk f=>a k (js f)) e,(e _ h.lb).trans h.k6,(e _ h.ll).trans h.k7⟩
theorem At.pure(h:At w κ b s)(a:ae w d):At d κ b s:=h.aj a (λ_ _ f=>f) (λ_ _=>T)
theorem At.ext{Cq:N->Prop}(h:At w κ b s)(a:aG Cq w κ d κ')(c:∀x,Cq x->x≠6/\x≠7/\x≠8):At d κ' b s:=h.aj a.MC (λk f e=>by have:=c _ e;omega) a.same
theorem Rd.mf(h:Rd w κ b s)(s':St)(e:s'.gv=s.gv/\s'.bZ=s.bZ/\s'.tv=s.tv/\s'.cG=s.cG/\s'.wv=s.wv/\s'.bz=s.bz):Rd w κ b s':=by
 obtain⟨a,g,c,i,f,j⟩:=e;refine⟨h.ops,?_,?_,?_,?_⟩
 ·rw[a,g];exact h.bZ
 ·rw[c,i];exact h.cG
 ·rw[f,j];exact h.wr
 ·rw[a,c,f];exact h.k8
theorem At.dN(h:At w κ b s)(s':St)(c:ac (λk=>k=b.ab) w d)(g:d.heap[b.ab]?=some (D (cs b s') 134 (0,0)))(a:s'.ak=s.ak)(i:Rd w κ b s'):At d κ b s':=by
 refine⟨g,?_,by rw[a];exact h.eT,i.aj c (λk f e=>by rw[e,h.k6]at f;omega) (λ_ _=>T),h.k6,h.k7⟩;rw[a];exact c.bF h.loc h.ne
theorem At.put(h:At w κ b s)(i:N)(v:Value)(s':St)(e:(cs b s).setIfInBounds i v=cs b s')(c:s'.ak=s.ak)(f:s'.gv=s.gv/\s'.bZ=s.bZ/\s'.tv=s.tv/\s'.cG=s.cG/\s'.wv=s.wv/\s'.bz=s.bz):At (w.setCell (I b.ab i) v) κ b s':=by
 have a:=az (i:=i) (u:=v) h.me;rw[e]at a;exact h.dN s' ((ac.refl (λk=>k=b.ab) w).setCell (p:=⟨b.ab,i,none⟩) (λ_=>T) _) a c (h.rd.mf s' f)
theorem ac.me{a:Y}(h:ac (λk=>k=b.ab) a w)(i:N)(v:Value):ac (λk=>k=b.ab) a (w.setCell (I b.ab i) v):=h.setCell (p:=⟨b.ab,i,none⟩) (λ_=>T) v
theorem ac.new{S:N->Prop}{a:Y}(h:ac S a w)(X i:N)(v:Value)(c:a.heap.size<=X):ac S a (w.setCell (I X i) v):=h.setCell (p:=⟨X,i,none⟩) (λh=>absurd (show X<a.heap.size from h) (by omega)) v
theorem At.K3(h:At w κ b s)(c:Value)(e:List Wr)(f:jJ w c e)(g:∀k,c.ownBlock=some k->κ k=8):At (w.setCell (I b.ab 18) c) κ b {s with wv:=c,bz:=e}:=by
 have j:=az (i:=18) (u:=c) h.me;refine h.dN _ ((ac.refl (λk=>k=b.ab) w).setCell (p:=⟨b.ab,18,none⟩) (λ_=>T) _) j T ⟨h.rd.ops,h.rd.bZ,h.rd.cG,f,λk a=>?_⟩;rcases a with a|a|a|a
 ·exact h.rd.k8 k (.inl a)
 ·exact h.rd.k8 k (.inr (.inl a))
 ·exact h.rd.k8 k (js (.inl a))
 ·exact g k a
theorem At.wU(h:At w κ b s)(c:Value)(e:List Int)(f:ez w 0 c e)(g:∀k,c.ownBlock=some k->κ k=8):At (w.setCell (I b.ab 9) c) κ b {s with gv:=c,bZ:=e}:=by
 have j:=az (i:=9) (u:=c) h.me;refine h.dN _ ((ac.refl (λk=>k=b.ab) w).setCell (p:=⟨b.ab,9,none⟩) (λ_=>T) _) j T ⟨h.rd.ops,f,h.rd.cG,h.rd.wr,λk a=>?_⟩;rcases a with a|a|a|a
 ·exact h.rd.k8 k (.inl a)
 ·exact g k a
 ·exact h.rd.k8 k (js (.inl a))
 ·exact h.rd.k8 k (js (.inr a))
theorem At.LV(h:At w κ b s)(j:N)(v:Vl)(f:j<s.ak.length):At ((w.setCell (I b.lg (j*2)) (L v.1)).setCell (I b.lg (j*2+1)) (U v.2.1 v.2.2)) κ b {s with ak:=s.ak.set j v}:=by
 obtain⟨x,n⟩:∃x,s.ak[j]?=some x:=⟨_,cR f⟩;have g:=az (i:=j*2+1) (u:=U v.2.1 v.2.2) (az (i:=j*2) (u:=L v.1) h.loc);have e:(((fY s.ak).toArray.setIfInBounds (j*2) (L v.1)).setIfInBounds (j*2+1) (U v.2.1 v.2.2))=(fY (s.ak.set j v)).toArray:=by
  have a:=wj vu 2 (λ_=>T) s.ak j 0 x (v.1,x.2) (L v.1) n (by omega) T;have c:=wj vu 2 (λ_=>T) (s.ak.set j (v.1,x.2)) j 1 (v.1,x.2) v (U v.2.1 v.2.2) (by rw[kS f]) (by omega) T;rw[List.set_set]at c;rw[Nat.add_zero]at a;rw[pM,pM,fY,a,c];rfl
 rw[e]at g;have l:ac (λk=>k=b.lg) w ((w.setCell (I b.lg (j*2)) (L v.1)).setCell (I b.lg (j*2+1)) (U v.2.1 v.2.2)):=((ac.refl (λk=>k=b.lg) w).setCell (p:=⟨b.lg,j*2,none⟩) (λ_=>T) _).setCell (p:=⟨b.lg,j*2+1,none⟩) (λ_=>T) _;refine⟨?_,g,by simpa using h.eT,?_,h.k6,h.k7⟩
 ·have:=l.bF h.me (λe=>h.ne e.symm);simpa[cs]using this
 ·have:=h.rd.aj (κ':=κ) l (λk m e=>by rw[e,h.k7]at m;omega) (λ_ _=>T);exact⟨this.ops,this.bZ,this.cG,this.wr,this.k8⟩
def BO(x:N):Prop:=x=6\/x=7
def CT(x:N):Prop:=1<=x/\x<=7
theorem At.bS(h:At w κ b s)(c:ae w d):At d (aL w.heap.size κ 9) b s:=h.aj c (λ_ _ f=>f) (λ_ a=>dE a)
theorem FI{Cq:N->Prop}(a:ae w d):aG Cq w κ d (aL w.heap.size κ 9):=aG.aL 9 (a.mono (λ_ _ f=>f.elim))
theorem ec(a:κ b.ab=6)(e:ac (λk=>k=b.ab) w d):aG BO w κ d κ:=aG.of (e.mono (λk _ c=>by rw[c];exact .inl a))
theorem CH(a:κ b.lg=7)(e:ac (λk=>k=b.lg) w d):aG BO w κ d κ:=aG.of (e.mono (λk _ c=>by rw[c];exact .inr a))
theorem At.drew(h:At w κ b s):At w.drew κ b s:=h.pure ((bo w).drewN 1)
theorem At.aZ(h:At w κ b s){X:N}(a:κ X=9)(i:N)(v:Value):At (w.setCell (I X i) v) κ b s:=h.aj ((ac.refl (λk=>k=X) w).setCell (p:=⟨X,i,none⟩) (λ_=>T) v) (λk c e=>by rw[e,a]at c;omega) (λ_ _=>T)
end
end Ac
section
variable{Cq:N->Prop}{w w1 w2:Y}{κ κ1 a:N->N}
theorem aG.new(h:aG Cq w κ w2 a){X:N}(c:w.heap.size<=X)(i:N)(v:Value):aG Cq w κ (w2.setCell (I X i) v) a:=⟨h.MC.setCell (p:=⟨X,i,none⟩) (λb=>absurd (show X<w.heap.size from b) (by omega)) v,h.same⟩
theorem aG.bF(h:aG Cq w κ w2 a){X:N}{o:Obj}(b:w.heap[X]?=some o)(c:¬Cq (κ X)):w2.heap[X]?=some o:=h.MC.bF b c
theorem aG.ft(h:aG Cq w κ w2 a){X:N}(b:X<w.heap.size):a X=κ X:=h.same X b
end
namespace aW
theorem At.ext{Cq:N->Prop}{w d:Y}{c:Cn}{K:Q}{κ κ':N->N}{m:St}(h:At w c K κ m)(b:aG Cq w κ d κ')(e:∀x,Cq x->6<=x):At d c K κ' m:=(h.nc b.same).MC (b.MC.mono (Tq:=λk=>Cq (κ k)/\k<w.heap.size) (λk a h=>⟨h,a⟩)) (λk a=>by rw[b.same k a.2];have:=e _ a.1;omega)
theorem At.aZ{w:Y}{c:Cn}{K:Q}{κ:N->N}{m:St}(h:At w c K κ m){X:N}(a:κ X=9)(i:N)(v:Value):At (w.setCell ⟨X,i,Option.none⟩ v) c K κ m:=h.MC ((ac.refl (λk=>k=X) w).setCell (p:=⟨X,i,Option.none⟩) (λ_=>T) v) (λk b=>by rw[b,a];omega)
theorem At.bS{w a:Y}{c:Cn}{K:Q}{κ:N->N}{m:St}(h:At w c K κ m)(b:ae w a):At a c K (aL w.heap.size κ 9) m:=h.ext (Cq:=λ_=>False) (Ac.FI b) (λ_ f=>f.elim)
end aW
namespace aW
section
variable{w:Y}{c:Cn}{K:Q}{κ:N->N}{m:St}
theorem At.q9(h:At w c K κ m):w.cell? ⟨K.kb,9,Option.none⟩=some (.pointer (some ⟨K.mb,0,Option.none⟩)):=by rw[bK h.me];rfl
theorem At.wV(h:At w c K κ m):w.cell? ⟨K.kb,10,Option.none⟩=some (.pointer (some ⟨K.sb,0,Option.none⟩)):=by rw[bK h.me];rfl
theorem At.lH(h:At w c K κ m):w.cell? ⟨K.kb,11,Option.none⟩=some (.pointer (some ⟨K.q.sp,0,Option.none⟩)):=by rw[bK h.me];rfl
theorem At.xK(h:At w c K κ m):w.cell? ⟨K.kb,12,Option.none⟩=some (.pointer (some ⟨K.hb,0,Option.none⟩)):=by rw[bK h.me];rfl
theorem At.qc(h:At w c K κ m):w.cell? ⟨K.kb,0,Option.none⟩=some (J c.ag)/\w.cell? ⟨K.kb,1,Option.none⟩=some (J c.al)/\w.cell? ⟨K.kb,2,Option.none⟩=some (J c.ap)/\w.cell? ⟨K.kb,3,Option.none⟩=some (J c.ao)/\w.cell? ⟨K.kb,4,Option.none⟩=some (J c.ak)/\w.cell? ⟨K.kb,5,Option.none⟩=some (J c.aB)/\w.cell? ⟨K.kb,6,Option.none⟩=some (J c.be)/\w.cell? ⟨K.kb,7,Option.none⟩=some (J c.di)/\w.cell? ⟨K.kb,8,Option.none⟩=some K.cv:=by
 refine⟨?_,?_,?_,?_,?_,?_,?_,?_,?_⟩<;>(rw[bK h.me];rfl)
theorem At.drew(h:At w c K κ m):At w.drew c K κ m:=h.pure ((bo w).drewN 1)
theorem At.qL(h:At w c K κ m):K.kb<w.heap.size:=(h.k0 _ (.inl T)).2
end
end aW
section
variable{Cq:N->Prop}{w w1 w2:Y}{κ a b:N->N}
theorem aG.qr(h:aG Cq w.drew a w2 b):aG Cq w a w2 b:=(aG.pure ((ck w).drewN 1)).trans h
end
structure dt(w:Y)(c:Cn)(K:aW.Q)(κ:N->N)(m:aW.St)(b:Ac.B)(s:Ac.St):Prop where
 bm:aW.At w c K κ m
 bj:Ac.At w κ b s
section
variable{w a:Y}{c:Cn}{K:aW.Q}{κ κ':N->N}{m m':aW.St}{b:Ac.B}{s s':Ac.St}
theorem dt.cJ(h:dt w c K κ m b s)(e:aG aW.C5 w κ a κ')(f:aW.At a c K κ' m'):aG Ac.CT w κ a κ'/\dt a c K κ' m' b s:=⟨e.mono (λx d=>by unfold aW.C5 at d;unfold Ac.CT;omega),f,h.bj.ext e (λx d=>by unfold aW.C5 at d;omega)⟩
theorem dt.fk(h:dt w c K κ m b s)(e:aG Ac.BO w κ a κ')(f:Ac.At a κ' b s'):aG Ac.CT w κ a κ'/\dt a c K κ' m b s':=⟨e.mono (λx d=>by unfold Ac.BO at d;unfold Ac.CT;omega),h.bm.ext e (λx d=>by unfold Ac.BO at d;omega),f⟩
theorem dt.drew(h:dt w c K κ m b s):dt w.drew c K κ m b s:=⟨h.bm.drew,h.bj.drew⟩
theorem dt.bS(h:dt w c K κ m b s)(d:ae w a):aG Ac.CT w κ a (aL w.heap.size κ 9)/\dt a c K (aL w.heap.size κ 9) m b s:=⟨Ac.FI d,h.bm.bS d,h.bj.bS d⟩
theorem dt.aZ(h:dt w c K κ m b s){X:N}(d:κ X=9)(i:N)(v:Value):dt (w.setCell (I X i) v) c K κ m b s:=⟨h.bm.aZ d i v,h.bj.aZ d i v⟩
end
end
namespace Ac
abbrev iJ(op own e:V)(v:Vl):Value:=.agg #[J op,J own,J e,L v.1,U v.2.1 v.2.2]
abbrev aA:Vl:=(false,0,0)
abbrev L5(v1:Bool)(v2 v3:N):Obj:=D #[L v1,U v2 v3] 44
abbrev gm:Obj:=D #[J 0,J 0,J 0,L false,U 0 0] 46
theorem cC(w:Y)(c1 c:Array Value)(a b:TypeId):ae w ((w.alloc (D c1 a)).alloc (D c b))/\((w.alloc (D c1 a)).alloc (D c b)).heap.size=w.heap.size+2/\((w.alloc (D c1 a)).alloc (D c b)).heap[w.heap.size]?=some (D c1 a (0,0))/\((w.alloc (D c1 a)).alloc (D c b)).heap[w.heap.size+1]?=some (D c b (0,0)):=by
 have e:=ai w (D c1 a);have d:=ai (w.alloc (D c1 a)) (D c b);have hz:(w.alloc (D c1 a)).heap.size=w.heap.size+1:=by simp
 rw[hz]at d;exact⟨((bo w).alloc _).alloc _,by simp,ae.bF ((bo _).alloc _) e,d⟩
theorem aO(w:Y)(c1:Array Value)(a:TypeId):ae w (w.alloc (D c1 a))/\(w.alloc (D c1 a)).heap.size=w.heap.size+1/\(w.alloc (D c1 a)).heap[w.heap.size]?=some (D c1 a (0,0)):=⟨(bo w).alloc _,by simp,ai w _⟩
theorem bc{w:Y}{X:N}{a b c d e:Value}{Tq:TypeId}(h:w.heap[X]?=some (D #[a,b,c,d,e] Tq (0,0))):w.cell? (I X 0)=some a/\w.cell? (I X 1)=some b/\w.cell? (I X 2)=some c/\w.cell? (I X 3)=some d/\w.cell? (I X 4)=some e:=by
 refine⟨?_,?_,?_,?_,?_⟩<;>(rw[bK h];rfl)
section
variable{w w':Y}{κ:N->N}{b:B}{s:St}
theorem dZ(v:Vl)(e:V)(w:Y)(h:At w κ b s)(R:s.bn≠4)(he:e=0\/(e==0)=false)(q:Vl)(hq:q=if e=0 then v else aA)(a4:s.next<=100000):C 127 #[I b.ab 0,GW v,J e] w λr w' =>
  r=O (.tuple #[iJ s.next s.own e q,L true])/\ac (λk=>k=b.ab) w w'/\At w' κ b {s with next:=s.next+1,bn:=1,pc:=0}:=by
 obtain⟨y,z,A⟩:=v;have a3:(s.bn !=4)=true:=by simpa using R
 have H:=M h;have HL:=M h.lb;have HE:=M he;have HQ:=M hq;clear h R he hq;go_enter func127,ntmps127;go_wp2_with fail;obtain⟨x,hz,hv,S⟩:=cC w #[L y,U z A] #[J 0,J 0,J 0,L false,U 0 0] 44 46;have HP:=M x;have HZ:=M hz;have HV:=M hv;have HR:=M S;have G:=M (H.pure x);clear x hz hv S;generalize(w.alloc _).alloc _=W at *;have a2:=G.lb;have c6:=G.p6;have a1:=G.sq;go_region;obtain⟨x,hz,S⟩:=aO W #[J s.next,J s.own,J e,L false,U 0 0] 46;have j:ae W (W.alloc (D #[J s.next,J s.own,J e,L false,U 0 0] 46)).drew:=x.drewN 1;have u:=M (G.pure j);have K:=M (HP.MD j);have l:=M (ae.bF j HR);have P:=M (ae.bF j HV);have m:Hid ((W.alloc (D #[J s.next,J s.own,J e,L false,U 0 0] 46)).drew.heap[W.heap.size]?=_):=M S;clear x j hz S c6 a1 a2 G;have Q:Hid (w.heap.size+2=W.heap.size):=M (by have:=HZ.out;omega);generalize(W.alloc _).drew=W2 at *;generalize W.heap.size=n at *;have c6:=u.p6;have c3:=u.p3;have fb:=u.fb;obtain⟨r0,r1,r2,r3,r4⟩:=bc m;obtain⟨z0,z1,E,z3,F⟩:=bc l;have v0:W2.cell? (I w.heap.size 0)=some (L y):=by rw[bK P.out];rfl
 have X:W2.cell? (I w.heap.size 1)=some (U z A):=by rw[bK P.out];rfl
 have f2:=λk=>ey k m;have f1:=λk=>ey k l;have o:b.ab≠n:=by have:=Q.out;have:=HL.out;omega
 have c:b.ab≠w.heap.size+1:=by have:=HL.out;omega
 have n4:w.heap.size+1≠n:=by have:=Q.out;omega
 have n5:w.heap.size≠n:=by have:=Q.out;omega
 have c7:=u.p7;rcases HE.out with rfl|he
 ·obtain⟨d,a⟩:∃d,((((W2.setCell (I n 3) (L y)).setCell (I n 4) (U z A)).setCell (I b.ab 6) (J ((s.next:V)+1))).setCell (I b.ab 3) (J 1)).setCell (I b.ab 7) (J 0)=d:=⟨_,T⟩;have p:Hid (d.heap[b.ab]?=some (D (cs b {s with next:=s.next+1,bn:=1,pc:=0}) 134 (0,0))):=M (by rw[<-a];exact az (az (az (aK (aK u.me o) o))));have g:Hid (ac (λk=>k=b.ab) w d):=M (by rw[<-a];exact ac.me (ac.me (ac.me (ac.new (ac.new (K.mono (λ_ _ f=>f.elim)) n _ _ (by have:=Q.out;omega)) n _ _ (by have:=Q.out;omega)) _ _) _ _) _ _);have t:Hid (d.heap[n]?=some (D #[J s.next,J s.own,J 0,L y,U z A] 46 (0,0))):=M (by rw[<-a];exact aK (aK (aK (az (az m)) (bC o)) (bC o)) (bC o));have i:Hid (d.heap[w.heap.size+1]?=some (D #[J 0,J 0,J 0,L false,U 0 0] 46 (0,0))):=M (by rw[<-a];exact aK (aK (aK (aK (aK l n4) n4) (bC c)) (bC c)) (bC c));go_upto_region 7 with fail;clear a r0 r1 r2 r3 r4 z0 z1 E z3 F f1 f2 fb c3 c6 c7 v0 X;obtain⟨r0,r1,r2,r3,r4⟩:=bc t;obtain⟨z0,z1,E,z3,F⟩:=bc i;have f1:=λk=>ey k i;go_wp2_with fail;refine au (v:=.tuple #[iJ s.next s.own 0 (y,z,A),L true]) (by simp[results,results127,go_sem,z0,z1,E,z3,F]) T ?_;refine⟨by rw[HQ.out];rfl,ac.new (ac.new (ac.new (ac.new (ac.new g _ _ _ (by omega)) _ _ _ (by omega)) _ _ _ (by omega)) _ _ _ (by omega)) _ _ _ (by omega),?_⟩;exact H.dN _ (ac.new (ac.new (ac.new (ac.new (ac.new g _ _ _ (by omega)) _ _ _ (by omega)) _ _ _ (by omega)) _ _ _ (by omega)) _ _ _ (by omega)) (aK (aK (aK (aK (aK p c) c) c) c) c) T (H.rd.mf _ ⟨T,T,T,T,T,T⟩)
 ·obtain⟨d,a⟩:∃d,((W2.setCell (I b.ab 6) (J ((s.next:V)+1))).setCell (I b.ab 3) (J 1)).setCell (I b.ab 7) (J 0)=d:=⟨_,T⟩;have p:Hid (d.heap[b.ab]?=some (D (cs b {s with next:=s.next+1,bn:=1,pc:=0}) 134 (0,0))):=M (by rw[<-a];exact az (az (az u.me)));have g:Hid (ac (λk=>k=b.ab) w d):=M (by rw[<-a];exact ac.me (ac.me (ac.me (K.mono (λ_ _ f=>f.elim)) _ _) _ _) _ _);have t:Hid (d.heap[n]?=some (D #[J s.next,J s.own,J e,L false,U 0 0] 46 (0,0))):=M (by rw[<-a];exact aK (aK (aK m (bC o)) (bC o)) (bC o));have i:Hid (d.heap[w.heap.size+1]?=some (D #[J 0,J 0,J 0,L false,U 0 0] 46 (0,0))):=M (by rw[<-a];exact aK (aK (aK l (bC c)) (bC c)) (bC c));go_upto_region 7 with fail;clear a r0 r1 r2 r3 r4 z0 z1 E z3 F f1 f2 fb c3 c6 c7 v0 X;obtain⟨r0,r1,r2,r3,r4⟩:=bc t;obtain⟨z0,z1,E,z3,F⟩:=bc i;have f1:=λk=>ey k i;go_wp2_with fail;refine au (v:=.tuple #[.agg #[J s.next,J s.own,J e,L false,U 0 0],L true]) (by simp[results,results127,go_sem,z0,z1,E,z3,F]) T ?_;refine⟨by rw[HQ.out,aa (by simpa using he)],ac.new (ac.new (ac.new (ac.new (ac.new g _ _ _ (by omega)) _ _ _ (by omega)) _ _ _ (by omega)) _ _ _ (by omega)) _ _ _ (by omega),?_⟩;exact H.dN _ (ac.new (ac.new (ac.new (ac.new (ac.new g _ _ _ (by omega)) _ _ _ (by omega)) _ _ _ (by omega)) _ _ _ (by omega)) _ _ _ (by omega)) (aK (aK (aK (aK (aK p c) c) c) c) c) T (H.rd.mf _ ⟨T,T,T,T,T,T⟩)
end
end Ac
namespace Pl
open Go.ChangeMaps (setBlock)
theorem nI(t:TypeId)(w:Y):(Instr.makeMap t none).run prog w=.ok (.map (some w.heap.size)) (w.alloc (.map #[] 0)):=rfl
def aI(xs:List Nat):List Int:=xs.map Int.ofNat
theorem bQ(xs:List Nat):(aI xs).length=xs.length:=by simp[aI]
theorem eg(xs:List Nat)(j x:N)(h:xs[j]?=some x):(aI xs).getD j 0=(x:V):=by simp[aI,List.getD,h]
theorem CJ(c:Cn)(v:Value)(sh:List Sh)(gv:Value)(xs:List Nat)(w:Y)(hl:dm w w.heap.size v sh)(u:bk c sh=0)(hg:eO w w.heap.size gv (aI xs))(hx:∀x∈xs,(x:V)<c.ag)(H:xs.Nodup)(a7:xs.length<=2000):C 303 #[hI c v,gv] w λe w'=>e=O (.tuple #[L false,L false])/\ae w w':=by
 obtain⟨A,a,rfl⟩:∃A a,v=Z A sh.length a:=by
  obtain⟨⟨A,a,rfl,_⟩,_⟩:=hl;exact⟨A,a,T⟩
 have hb:=db u;obtain⟨Ag,cg,rfl,s,-,-,r⟩:=hg;rw[bQ]at s r;have hr:=Row.new w c (Z A sh.length a);have HL:=M (λ(w':Y) (hp:ae w w')=>hl.pure hp);have HR:=M hr;have R:=M (aq u (aq hx H));have HB:=M hb;have HG:=M r;have a8:=M s;have a9:=M (bQ xs);rw[bQ];clear hl hr u hx H hb r s;go_enter func303,ntmps303;have a6:=nI 82 (w.alloc (D #[J c.ag,J c.al,J c.ap,J c.ao,J c.ak,J c.aB,J c.be,J c.di,Z A sh.length a] 24));have hz:(w.alloc (D #[J c.ag,J c.al,J c.ap,J c.ao,J c.ak,J c.aB,J c.be,J c.di,Z A sh.length a] 24)).heap.size=w.heap.size+1:=by simp
 rw[hz]at a6;have t:=qY (w.alloc (D #[J c.ag,J c.al,J c.ap,J c.ao,J c.ak,J c.aB,J c.be,J c.di,Z A sh.length a] 24));rw[hz]at t;have a1:=M t;have K:=(ck (w.alloc (D #[J c.ag,J c.al,J c.ap,J c.ao,J c.ak,J c.aB,J c.be,J c.di,Z A sh.length a] 24))).alloc (.map #[] 0);have q:=M (HR.aj K);clear t K hz HR;go_upto_region 2 with fail;generalize(w.alloc _).alloc _=W at *;go_wp2_with fail;go_loopw [14] (λi wr=>∃j:N,j<=xs.length/\i=J j/\ac (λk=>k=w.heap.size+1) W wr/\ke wr (w.heap.size+1) (xs.take j)) (λi _=>xs.length-(intOf i).toNat)
 case atStart=>exact⟨0,aw _,T,bo _,a1⟩
 case round =>
  obtain⟨j,hj,rfl,ho,hm⟩:=hrel;have o:Row w w.heap.size c (Z A sh.length a) wr:=⟨q.1,ho.bF q.2.1 (by omega),q.2.2.trans ho (λi E e=>by omega)⟩;have X:=M o;have HO:=M ho;have HM:=M hm;clear o ho hm;by_cases d:j<xs.length
  ·obtain⟨x,l⟩:∃x,xs[j]?=some x:=⟨_,cR d⟩;have P:=cZ l;obtain⟨g,off,hA,z,B⟩:=HG (by omega);have g0:wr.cell? (I g (off+j))=some (J x):=by
    rw[X.out.2.2.cell (p:=⟨g,off+j,none⟩) z (λf=>f),B j d,eg xs j x l]
   subst hA;have S:=M (aq l P);obtain⟨k0,k1,k2,k3,k4,k5,k6,k7,k8,kf⟩:=X.cells;clear l P B z;go_wp2_with fail;refine(lZ c _ sh x 0 wr (HL wr X.2.2) R.1 (by omega) (R.2.1 x S.2) (by omega) (by omega)).mono ?_;rintro e w2⟨rfl,y⟩;have F:=HM.MC y (λf=>f);have n:x∉xs.take j:=λa4=>by
    obtain⟨i,E⟩:=List.mem_iff_getElem?.1 a4;rw[du]at E;split at E
    ·have:=(List.getElem?_inj (by omega) R.2.2).1 (E.trans S.1.symm);omega
    ·cases E
   have Q:x<=1000000:=by have:=R.2.1 x S.2;have:=HB.out;omega
   obtain⟨es,b,b0,G⟩:=zC F Q n;have m:ke (setBlock w2 (w.heap.size+1) (.map es b)) (w.heap.size+1) (xs.take (j+1)):=by rw[cD,S.out.1];exact G
   have a2:=M m;have a3:=M ((HO.trans (y.mono (λ_ _ f=>f.elim)) (λ_ _ h=>h)).trans (sE w2 (w.heap.size+1) (.map es b)) (λ_ _ h=>h));clear y F G m n Q k0 k1 k2 k3 k4 k5 k6 k7 k8 kf g0;go_wp2_with fail;exact⟨⟨j+1,d,by go_num,a3,a2⟩,by simp[intOf];omega⟩
  ·obtain rfl:j=xs.length:=by omega
   clear d;have a5:=Gn HM;rw[eF]at a5;go_wp2_with fail;go_ret2;exact⟨T,X.2.2⟩
theorem dG{w:Y}{X:N}{a b:Value}(h:w.heap[X]?=some (D #[a,b] 35 (0,0))):w.cell? (I X 0)=some a/\w.cell? (I X 1)=some b:=by
 refine⟨?_,?_⟩<;>(rw[bK h];rfl)
abbrev Fz(c:Cn)(A:Option Addr)(l cc:N):Obj:=D #[J c.ag,J c.al,J c.ap,J c.ao,J c.ak,J c.aB,J c.be,J c.di,Z A l cc] 24
theorem xF(c:Cn)(v:Value)(sh:List Sh)(k:N)(s:Sh)(n:N)(gv:Value)(xs:List Nat)(w:Y)(hl:dm w w.heap.size v sh)(b8:bk c sh=0)(y:sh[k]?=some s)(c9:s.bs.length<=1000000)(c2:bM s.a s.bs.length n=xs.length)
  (hg:eO w w.heap.size gv (aI xs)) (hx:∀x∈xs,(x:V)<c.ag) (b7:xs.Nodup) (b5:xs.length<=2000) :
  C 259 #[hI c v,J k,J n,L s.a,gv] w λe l=>∃A d,e=O (.tuple #[.agg #[L s.a,Z A s.bs.length d],J 0])/\ae w l/\mE l l.heap.size (Z A s.bs.length d) (da s.bs)/\∀k,(Z A s.bs.length d).ownBlock=some k->w.heap.size<=k/\k<l.heap.size:=by
 obtain⟨A,u,rfl⟩:∃A u,v=Z A sh.length u:=by
  obtain⟨⟨A,u,rfl,_⟩,_⟩:=hl;exact⟨A,u,T⟩
 obtain⟨Ag,cg,K,c8,e0⟩:=hg.len;rw[bQ]at K c8;have hW:Row w w.heap.size c (Z A sh.length u) (w.alloc (Fz c A sh.length u)):=Row.new w c _;obtain⟨b,c3,-,b6⟩:=Ac.cC w #[J c.ag,J c.al,J c.ap,J c.ao,J c.ak,J c.aB,J c.be,J c.di,Z A sh.length u] #[L false,Z none 0 0] 24 35;have HL:=M (λ(l:Y) (hp:ae w l)=>hl.pure hp);have HG:=M (λ(l:Y) (hp:ae w l)=>(hg.MC hp (λ_ _ f=>f):eO l l.heap.size gv (aI xs)));have a:=M (hW.aj ((ck _).alloc (D #[L false,Z none 0 0] 35)));have HN:=M b6;have HZ:=M c3;have E:=M (aq b8 (aq y (aq hx (aq b7 c2))));have c4:=M K;subst K;clear hl hg b8 y hx b7 c2 b c3 b6 hW c4;go_enter func259,ntmps259;go_upto_region 1 with fail;generalize(w.alloc _).alloc _=W at *;obtain⟨k0,k1,k2,k3,k4,k5,k6,k7,k8,kf⟩:=a.cells;refine bf 1 (λCq X=>?_);have HC:=M X;clear X;go_wp2_with fail;refine(CJ c _ sh _ xs W (HL W a.2.2) E.1 (HG W a.2.2) E.2.2.1 E.2.2.2.1 b5).mono ?_;rintro e w2⟨rfl,b⟩;have o:=M (a.aj b);have F:=M (b.bF HN);clear b k0 k1 k2 k3 k4 k5 k6 k7 k8 kf a HN;obtain⟨k0,k1,k2,k3,k4,k5,k6,k7,k8,kf⟩:=o.cells;go_wp2_with fail;refine(iy c _ sh k s w2 (HL w2 o.2.2) E.2.1 c9).mono ?_;rintro e Q⟨m,r,rfl,P,b9,b3⟩;have H:=M (o.aj P);have G:=M (P.bF F);have a8:=M b9;have a1:Hid (∀k,(Z m s.bs.length r).ownBlock=some k->w.heap.size+2<=k/\k<Q.heap.size):=M (λk y=>by have:=b3 k y;have:=(bR.1 F).1;omega);clear P b9 b3 k0 k1 k2 k3 k4 k5 k6 k7 k8 kf o F;go_upto_region 4 with fail;have b4:=ai Q (D #[L s.a,Z m s.bs.length r] 35);have t:=(ck Q).alloc (D #[L s.a,Z m s.bs.length r] 35);have R:=M b4;have q:=M (H.aj t);have a2:=M (ae.bF t G);have a9:=M (a8.pure t);have c7:Hid (w.heap.size+2<=Q.heap.size):=M (by have:=H.2.2.size;have:=HZ.out;have:=(bR.1 G).1;omega);clear b4 t H G a8;generalize Q.alloc _=w4 at *;generalize Q.heap.size=X4 at *;obtain⟨k0,k1,k2,k3,k4,k5,k6,k7,k8,kf⟩:=q.cells;go_wp2_with fail;refine(gK c _ sh w4 (HL w4 q.2.2)).mono ?_;rw[E.out.1];rintro e w5⟨rfl,g⟩;have a6:=M (q.aj g);have a3:=M (g.bF a2);have z:=M (g.bF R);have b0:=M (a9.pure g);clear g k0 k1 k2 k3 k4 k5 k6 k7 k8 kf q a2 R a9;obtain⟨y0,y1⟩:=dG z;have i1:decide ((xs.length:V)<0)=false:=by simp
 have b2:s.bs.length<=9223372036854775807:=by omega
 go_wp2_with fail;refine(lL s.a m s.bs.length r n w5 b2).mono ?_;rw[E.out.2.2.2.2];rintro e w6⟨rfl,h⟩;have a7:=M (a6.aj h);have a4:=M (h.bF a3);have B:=M (h.bF z);have b1:=M (b0.pure h);clear h y0 y1 a6 a3 z b0;obtain⟨y0,y1⟩:=dG B;go_wp2_with fail;refine(lL s.a m s.bs.length r n w6 b2).mono ?_;rw[E.out.2.2.2.2];rintro e w7⟨rfl,j⟩;have c5:=M (a7.aj j);have a5:=M (j.bF a4);have S:=M (j.bF B);have c6:=M (b1.pure j);clear j y0 y1 a7 a4 B b1;obtain⟨y0,y1⟩:=dG S;obtain⟨z0,z1⟩:=dG a5;have fz:=λk=>ey k a5;have n1:X4≠w.heap.size+1:=by have:=c7.out;omega
 go_wp2_with fail;go_step3;clear HC;go_wp2_with fail;simp only[cF];have ho:ac (λk=>k=w.heap.size+1) w7 ((w7.setCell (I (w.heap.size+1) 0) (L s.a)).setCell (I (w.heap.size+1) 1) (Z m s.bs.length r)):=((ac.refl (λk=>k=w.heap.size+1) w7).setCell (p:=⟨w.heap.size+1,0,none⟩) (λ_=>T) _).setCell (p:=⟨w.heap.size+1,1,none⟩) (λ_=>T) _;refine au (v:=.tuple #[.agg #[L s.a,Z m s.bs.length r],J 0]) (by simp[results,results259,go_sem,z0,z1]) T ⟨m,r,T,c5.2.2.trans ho (λi hi e=>by omega),c6.MC ho (λk y e=>by have:=a1 k y;omega),λk y=>by have:=a1 k y;have:=(bR.1 S).1;simp[World.setCell];omega⟩
end Pl
namespace Pl
theorem LB(ws:List (Nat × Nat))(g:ws.length=8)(j:N)(z:Nat × Nat)(h:ws[j]?=some z)(w:Y):(Instr.index 299 (.agg (Mm.cI ws).toArray) (J j)).run prog w=.ok (U z.1 z.2) w:=by
 obtain⟨i,a,e,b,f⟩:=aR Mm.oT;have c:j<8:=by have:=(dH.1 h).1;omega
 have d:=Mm.kl ws j z h;simp[Instr.index,asIntOf,dC underlying299,sizeOf,typeInfo,a,b,part,isAgg,dC underlying30,c,d]
def fW(r:Bool):Nat × Nat:=if r then bD else(0,0)
theorem tD(r:Bool)(w:Y):C 267 #[L r] w λe a=>e=O (U (fW r).1 (fW r).2)/\w=a:=by
 cases r
 ·go_enter func267,ntmps267;go_wp2_with fail;refine(fm 0 w (by omega) (by omega)).mono ?_;rw[show floatOfInt .f64 0=0 from by decide +kernel];rintro e b⟨rfl,rfl⟩;go_wp2_with fail;go_ret;exact⟨T,T⟩
 ·go_enter func267,ntmps267;go_wp2_with fail;refine(jO w).mono ?_;rintro e b⟨rfl,rfl⟩;go_wp2_with fail;go_ret;exact⟨T,T⟩
open Ac (Wr jm Ia nr)
def ir(i:N)(ws:List (Nat × Nat))(j:N):List Wr:=(List.range j).map λk=>(((8*i+k:N):V),ws.getD k (0,0))
def gU(i:N)(ws:List (Nat × Nat)):List Wr:=ir i ws 8
theorem xC(i:N)(ws:List (Nat × Nat))(j:N):ir i ws (j+1)=ir i ws j++[(((8*i+j:N):V),ws.getD j (0,0))]:=by simp[ir,dK]
theorem mr(i:N)(ws:List (Nat × Nat))(j:N):(ir i ws j).length=j:=by simp[ir]
theorem xG(l:List Wr)(x:Wr):jm (l++[x])=jm l++[J x.1,U x.2.1 x.2.2]:=by simp[jm,Ia]
theorem Ad:(prog.info? 249).map (λi=>(i.zero,i.size,i.bytes))=some (some (.agg #[J 0,U 0 0]),2,24):=by kernel_rfl
theorem gQ(c:Cn)(v:Value)(sh:List Sh)(lv:Value)(l:List Wr)(B i:N)(z0 z1 m z3 n o p r:Nat × Nat)(w:Y)(hl:dm w w.heap.size v sh)(a4:∀k,mK v sh k->k<B)(hB:B<=w.heap.size)(H:bk c sh=0)(hi:(i:V)<c.ag)
  (b:w.ownsRow B 249 2 lv l.length (jm l)) (c4:l.length<=100000) :
  C 262 #[hI c v,lv,J i,.agg #[U z0.1 z0.2,U z1.1 z1.2,U m.1 m.2,U z3.1 z3.2,U n.1 n.2,U o.1 o.2,U p.1 p.2,U r.1 r.2]] w λe K =>
   ∃y,e=O y/\K.ownsRow B 249 2 y (l.length+8) (jm (l++gU i [z0,z1,m,z3,n,o,p,r]))/\ac (λk=>lv.ownBlock=some k) w K/\(y.ownBlock=lv.ownBlock\/∃k,y.ownBlock=some k/\w.heap.size<=k):=by
 obtain⟨i0,b4,b7,b8,b9⟩:=aR Ad;obtain⟨A,E,rfl⟩:∃A E,v=Z A sh.length E:=by
  obtain⟨⟨A,E,rfl,_⟩,_⟩:=hl;exact⟨A,E,T⟩
 obtain⟨P,cl,rfl⟩:=aD b;have hb:=db H;have c6:i<=1024:=by omega
 obtain⟨g,x,a5,d⟩:=Ac.cC w #[J c.ag,J c.al,J c.ap,J c.ao,J c.ak,J c.aB,J c.be,J c.di,Z A sh.length E] #[U z0.1 z0.2,U z1.1 z1.2,U m.1 m.2,U z3.1 z3.2,U n.1 n.2,U o.1 o.2,U p.1 p.2,U r.1 r.2] 24 299;have HL:=M (λ(K:Y) (hp:ac (λk=>(Z P l.length cl).ownBlock=some k) w K)=>(hl.MC hp (λk hk e=>by have:=a4 k hk;have:=(b.lt k e).1;omega):dm K K.heap.size (Z A sh.length E) sh));have HH:=M (aq H (aq hi (aq hB hb)));have HP:=M g;have HZ:=M x;have b1:=M a5;have c5:=M b;have R:=M (g.own b (λ_ _ f=>f));have b2:Hid (∀k,(Z P l.length cl).ownBlock=some k->k<w.heap.size):=M (λk hk=>(b.lt k hk).2);obtain⟨y0,y1,y2,y3,y4,y5,y6,y7⟩:_/\_/\_/\_/\_/\_/\_/\_:=⟨(fq 0 d).trans T,(fq 1 d).trans T,(fq 2 d).trans T,(fq 3 d).trans T,(fq 4 d).trans T,(fq 5 d).trans T,(fq 6 d).trans T,(fq 7 d).trans T⟩;clear hl a4 H hi hB hb g x a5 b d;go_enter func262,ntmps262;go_wp2_with fail;generalize(w.alloc _).alloc _=W at *;clear y0 y1 y2 y3 y4 y5 y6 y7;go_loopw [1,14] (λy i' wr=>∃j:N,j<=8/\i'=J j/\wr.ownsRow B 249 2 y (l.length+j) (jm (l++ir i [z0,z1,m,z3,n,o,p,r] j))/\ac (λk=>(Z P l.length cl).ownBlock=some k) W wr/\(y.ownBlock=(Z P l.length cl).ownBlock\/∃k,y.ownBlock=some k/\w.heap.size+2<=k)) (λ_ i' _=>8-(intOf i').toNat)
 case atStart=>exact⟨0,aw _,T,by rw[show l++ir i [z0,z1,m,z3,n,o,p,r] 0=l from by simp[ir]];exact R,bo _,.inl T⟩
 case round =>
  obtain⟨j,hj,rfl,G,ho,a9⟩:=hrel;obtain⟨A',c',rfl⟩:=aD G;have a1:=M G;have HO:=M ho;have HV:=M a9;have Q:Hid (ac (λk=>(Z P l.length cl).ownBlock=some k) w wr):=M ((HP.mono (λ_ _ f=>f.elim)).trans ho (λ_ _ h=>h));have a:=ho.bF b1 (λe=>by have:=b2 _ e;omega);have c3:=M a;have X:Hid (w.heap.size+2<=wr.heap.size):=M (by have:=ho.size;have:=HZ.out;omega);clear G ho a9;by_cases F:j<8
  ·obtain⟨k0,k1,k2,k3,k4,k5,k6,k7,k8⟩:_/\_/\_/\_/\_/\_/\_/\_/\_:=⟨(fq 0 a).trans T,(fq 1 a).trans T,(fq 2 a).trans T,(fq 3 a).trans T,(fq 4 a).trans T,(fq 5 a).trans T,(fq 6 a).trans T,(fq 7 a).trans T,(fq 8 a).trans T⟩;obtain⟨z,hz⟩:∃z,[z0,z1,m,z3,n,o,p,r][j]?=some z:=⟨_,cR F⟩;have a7:=LB [z0,z1,m,z3,n,o,p,r] T j z hz wr;simp only[Mm.cI,ev,List.map_nil]at a7;have b5:(j:V)<8:=by omega
   have b3:=M hz;clear a hz;go_wp2_with fail;refine(lZ c _ sh i j wr (HL wr Q) HH.1 (by omega) HH.2.1 (by omega) b5).mono ?_;rintro e w2⟨rfl,g⟩;have s:=g.own a1 (λ_ _ f=>f);have a2:=M s;have S:=M g;have a8:B<=(w2.alloc (D #[J (8*(i:V)+(j:V)),U z.1 z.2] 249)).heap.size:=by have:=g.size;have:=HH.2.2.1;have:=X.out;simp;omega
   clear g s k0 k1 k2 k3 k4 k5 k6 k7 k8 a7;go_wp2_with (at_builtin;refine bT _ T (.tmp 25) (.tmp 29) _ T B 249 i0 _ 2 24 underlying130 b4 b7 b8 b9 T (by omega) (Z A' (l.length+j) c') (l.length+j) (jm (l++ir i [z0,z1,m,z3,n,o,p,r] j)) T (aH (w:=w2) a2 _) _ 1 1 [J (8*(i:V)+(j:V)),U z.1 z.2] T (jd.cI w2 _ #[J (8*(i:V)+(j:V)),U z.1 z.2] 2 1 _ T T) (by simp[Value.oneCell']) (by simp only[maxLen];omega) (by omega) a8 ?_;intro v2 w3 t a6 u;have a3:=M t;have G2:=M a6;have b0:=M u;clear t a6 u);go_roundw
   case rel =>
    have c2:[z0,z1,m,z3,n,o,p,r].getD j (0,0)=z:=by rw[ko,b3.out];rfl
    refine⟨j+1,F,by go_num,?_,((HO.trans (S.mono (λ_ _ f=>f.elim)) (λ_ _ h=>h)).alloc _).grown G2 (λk hk e=>?_),?_⟩
    ·have:=a3.out;rw[xC,<-cS,xG,c2,show(((8*i+j:N):V))=8*(i:V)+(j:V)from by omega];exact this
    ·rcases HV.out with hv|⟨q,hq,b6⟩
     ·exact hv.symm.trans e
     ·rw[hq]at e;injection e with e;have:=HZ.out;omega
    ·rcases b0.out with ha|ha
     ·rw[ha];exact HV
     ·refine .inr ⟨_,ha,?_⟩;have:=S.size;have:=X.out;simp;omega
   case measure=>simp[intOf];omega
  ·obtain rfl:j=8:=by omega
   clear F;go_wp2_with fail;go_ret;refine⟨_,T,a1,Q,?_⟩;rcases HV.out with hv|⟨q,hq,b6⟩
   ·exact .inl hv
   ·exact .inr ⟨q,hq,by omega⟩
