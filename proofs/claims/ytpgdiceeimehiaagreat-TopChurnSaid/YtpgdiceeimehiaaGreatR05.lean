/- Part 5 of the proof of spotop.TopChurn. -/
import Derived.Deep.DeepCutAuto
import Derived.Deep.CutBlock
import Derived.Test.YtpgdiceeimehiaaGreatR02
import Derived.Test.YtpgdiceeimehiaaGreatR03
set_option maxRecDepth 100000
set_option maxHeartbeats 16000000
set_option linter.all false
open Go.Proofs.Tryz
namespace Go.Proofs.YtpgdiceeimehiaaGreat
open RowKit
section
def Row(w:Y)(X:N)(c:Cn)(v:Value)(w':Y):Prop:=w.heap.size<=X/\w'.heap[X]?=some (D #[J c.ag,J c.al,J c.ap,J c.ao,J c.ak,J c.aB,J c.be,J c.di,v] 24 (0,0))/\ae w w'
theorem Row.aj{w:Y}{X:N}{c:Cn}{v:Value}{a b:Y}(h:Row w X c v a)(k:ae a b):Row w X c v b:=⟨h.1,(k.block X (bR.1 h.2.1).1 (λf=>f)).trans h.2.1,h.2.2.MD k⟩
theorem Row.cells{w:Y}{X:N}{c:Cn}{v:Value}{a:Y}(h:Row w X c v a):a.cell? (I X 0)=some (J c.ag)/\a.cell? (I X 1)=some (J c.al)/\a.cell? (I X 2)=some (J c.ap)/\a.cell? (I X 3)=some (J c.ao) /\
  a.cell? (I X 4)=some (J c.ak)/\a.cell? (I X 5)=some (J c.aB)/\a.cell? (I X 6)=some (J c.be)/\a.cell? (I X 7)=some (J c.di)/\a.cell? (I X 8)=some v/\∀q,a.frozen? (I X q)=false:=by
 refine⟨?_,?_,?_,?_,?_,?_,?_,?_,?_,λq=>ey q h.2.1⟩<;>(rw[bK h.2.1];rfl)
theorem Row.new(w:Y)(c:Cn)(v:Value):Row w w.heap.size c v (w.alloc (D #[J c.ag,J c.al,J c.ap,J c.ao,J c.ak,J c.aB,J c.be,J c.di,v] 24)):=⟨ci _,ai w _,(bo _).alloc _⟩
theorem Ak(bs:List Bool):∀u∈da bs,u.oneCell'=true:=by
 intro u a;simp only[da,aX]at a;obtain⟨x,_,rfl⟩:=a;rfl
theorem mE.src{w:Y}{B:N}{A:Option Addr}{m c:N}{a:List Value}(h:mE w B (Z A m c) a):m=a.length/\jd w 1 A m a:=by
 obtain⟨i,j,e,k,l,d⟩:=h;injection e with e1 e2 e3;subst e1;subst e2;refine⟨T,by simp,λg=>?_⟩;obtain⟨b,off,e,_,f⟩:=d g;exact⟨b,off,e,f⟩
theorem mE.fQ{w:Y}{aC:N}{e:TypeId}{n:N}{v:Value}{a:List Value}(h:w.ownsRow aC e 1 v n a):mE w w.heap.size v a:=by
 have k:a.length=n:=by have:=h.1;omega
 rcases h.2 with⟨rfl,rfl⟩|⟨g,c,b,rfl,p,i,f,d,m,o⟩
 ·obtain rfl:a=[]:=mD k;exact⟨none,0,T,ci _,by omega,λh=>by simp at h⟩
 ·subst k;refine⟨_,c,T,f,by simpa[maxLen]using d,λr=>⟨g,0,T,(bR.1 i).1,λj u l=>?_⟩⟩;rw[br,cell_of_row w g j b e (0,0) i];have q:=(dH.1 l).1;have:(b.toList.take (a.length*1))[j]?=a[j]?:=by rw[o]
  rw[du,af (by omega),ga]at this;rw[this,l]
theorem mE.nil(w:Y)(B:N):mE w B (Z none 0 0) (da []):=⟨none,0,T,by simp[da],by omega,λh=>by simp[da]at h⟩
def fU(l:List Sh):List Value:=l.flatMap λs=>[L s.a,s.v]
theorem sH(l:List Sh):(fU l).length=l.length*2:=by
 induction l with
 | nil=>rfl
 | cons s l a=>simp[fU]at a ⊢;omega
theorem sG(l m:List Sh):fU (l++m)=fU l++fU m:=by simp[fU]
theorem xe(l:List Sh)(j:N)(s:Sh)(h:l[j]?=some s):(fU l)[j*2]?=some (L s.a)/\(fU l)[j*2+1]?=some s.v:=by
 induction l generalizing j with
 | nil=>simp at h
 | cons t l a =>
  cases j with
  | zero=>simp at h;subst h;exact⟨T,T⟩
  | succ j =>
   have:=a j (by simpa using h);simp only[fU,bN]at this ⊢;rw[show(j+1)*2=j*2+1+1 from by omega];simpa using this
theorem dm.fQ{w:Y}{aC:N}{e:TypeId}{n:N}{v:Value}{l:List Sh}(h:w.ownsRow aC e 2 v n (fU l))(x:∀s∈l,mE w w.heap.size s.v (da s.bs)):dm w w.heap.size v l:=by
 have k:l.length=n:=by have:=h.1;rw[sH]at this;omega
 refine⟨?_,x⟩;rcases h.2 with⟨rfl,rfl⟩|⟨g,b,a,rfl,y,d,f,c,t,m⟩
 ·obtain rfl:l=[]:=mD k;exact⟨none,0,T,ci _,by simp,λh=>by simp at h⟩
 ·subst k;refine⟨_,b,T,f,by simpa[maxLen]using c,λz=>⟨g,0,T,(bR.1 d).1,λj s i=>?_⟩⟩;have u:=(dH.1 i).1;obtain⟨q,r⟩:=xe l j s i;have o:(a.toList.take (l.length*2))[j*2]?=(fU l)[j*2]?:=by rw[m]
  have p:(a.toList.take (l.length*2))[j*2+1]?=(fU l)[j*2+1]?:=by rw[m]
  rw[du,af (by omega),ga]at o p;rw[br,cell_of_row w g _ a e (0,0) d,cell_of_row w g _ a e (0,0) d,o,p];exact⟨q,r⟩
def alike(l m:List Sh):Prop:=l.map (λs=>(s.a,s.bs))=m.map (λs=>(s.a,s.bs))
theorem alike.length{l m:List Sh}(h:alike l m):l.length=m.length:=by have:=ay List.length h;simpa using this
theorem rZ(l:List Sh):ia l=(l.map (λs=>(s.a,s.bs))).all λp=>gZ p.1 p.2.length:=by
 simp[ia,List.all_map,Function.comp_def]
theorem alike.check{l m:List Sh}(h:alike l m)(c:Cn):bk c l=bk c m:=by
 simp only[bk];rw[rZ l,rZ m,h.length,h]
theorem pQ:(prog.info? 4).map (λi=>(i.zero,i.size,i.bytes))=some (some (L false),1,1):=by kernel_rfl
theorem yS:(prog.info? 35).map (λi=>(i.zero,i.size,i.bytes))=some (some (.agg #[L false,Z none 0 0]),2,32):=by kernel_rfl
theorem xW(v:Value)(bs:List Bool)(w:Y)(h:mE w w.heap.size v (da bs))(R:bs.length<=1000000):C 142 #[v] w λe x=>∃u,e=O u/\ae w x/\x.ownsRow w.heap.size 4 1 u bs.length (da bs):=by
 obtain⟨H,m,o,p,q⟩:=aR pQ;have y:=h;obtain⟨A,c,rfl,z,Q,f⟩:=y;rw[bV]at z f;have d:=bV bs;rcases A with _|r
 ·have F:bs.length=0:=by
   rcases kc bs.length with i|i
   ·exact i
   ·obtain⟨b,off,e,_⟩:=f i;cases e
  obtain rfl:bs=[]:=mD F;have j:=λw:Y=>Lib.run_eql_slice_nil (P:=prog) w 33 4 none 0 c 0 0 underlying33;go_enter func142,ntmps142;go_wp2;go_ret;exact⟨_,T,bo _,jD _ _ _ _⟩
 ·have t:=h.src.2;rw[d]at t ⊢;have n:jd (w.alloc (D #[] 4)) 1 (some r) bs.length (da bs):=t.below ((Below.refl w.heap.size w).alloc (ci _) _) (λb G e=>by injection e with e;subst e;obtain⟨K,off,g,B,_⟩:=f G;injection g with g;subst g;exact B);have j:=λw:Y=>Lib.run_eql_slice_nil (P:=prog) w 33 4 (some r) bs.length c 0 0 underlying33;clear h f d;go_enter func142,ntmps142;go_wp2_with (at_builtin;refine bT _ T (.tmp 5) (.tmp 6) _ T w.heap.size 4 H _ 1 1 underlying33 m o p q T (by omega) _ 0 [] T (fJ w #[] 0 (ci _) (by simp[maxLen]) T) _ _ _ _ T n (Ak bs) (by simp only[maxLen];omega) (by omega) (by simp) ?_;intro S W a l s);go_ret;refine⟨_,T,((bo _).alloc _).grown l (λk E e=>?_),by simpa using a⟩;injection e with e;exact absurd e (Nat.ne_of_gt E)
def J6(w:Y)(X Yq:N)(w':Y):Prop:=X≠Yq/\(∃x y,w'.heap[Yq]?=some (D #[x,y] 35 (0,0)))/\w.heap.size<=Yq/\ae w w'
def oe(w:Y)(X Yq:N)(a:Bool)(v:Value)(w':Y):Prop:=w'.cell? (I X 0)=some (L a)/\w'.cell? (I X 1)=some v/\J6 w X Yq w'
theorem oe.aj{w:Y}{X Yq:N}{a:Bool}{v:Value}(b c:Y)(h:oe w X Yq a v b)(k:ae b c):oe w X Yq a v c:=by
 obtain⟨e,g,l,⟨x,y,d⟩,i,j⟩:=h;exact⟨k.aj e,k.aj g,l,⟨x,y,(k.block Yq (bR.1 d).1 (λf=>f)).trans d⟩,i,j.MD k⟩
theorem oe.stored{w b:Y}{X Yq:N}{a:Bool}{v u z:Value}(h:oe w X Yq a v b):oe w X Yq a v ((b.setCell (I Yq 0) u).setCell (I Yq 1) z):=by
 obtain⟨f,g,e,⟨x,y,j⟩,d,l⟩:=h;have i:ac (λk=>k=Yq) b ((b.setCell (I Yq 0) u).setCell (I Yq 1) z):=((ac.refl (λk=>k=Yq) b).setCell (p:=⟨Yq,0,none⟩) (λ_=>T) u).setCell (p:=⟨Yq,1,none⟩) (λ_=>T) z;refine⟨?_,?_,e,⟨u,z,?_⟩,d,?_⟩
 ·exact(i.cell (dM b _ f) e).trans f
 ·exact(i.cell (dM b _ g) e).trans g
 ·simp[World.setCell,gV,j]
 ·exact(l.setCell (p:=⟨Yq,0,none⟩) (λc=>Nat.not_lt.2 d c) u).setCell (p:=⟨Yq,1,none⟩) (λc=>Nat.not_lt.2 d c) z
theorem oe.Ks{w b:Y}{X Yq:N}{a:Bool}{v:Value}{bs:List Bool}(h:oe w X Yq a v b)(o:∀c,ae w c->mE c c.heap.size v (da bs))(p:bs.length<=1000000):C 142 #[v] b λe d=>∃A c x y,e=O (Z A bs.length c)/\oe w X Yq a v d/\d.cell? (I Yq 0)=some x/\d.cell? (I Yq 1)=some y/\d.frozen? (I Yq 0)=false/\d.frozen? (I Yq 1)=false/\Hid (mE d d.heap.size (Z A bs.length c) (da bs)/\∀k,(Z A bs.length c).ownBlock=some k->k≠Yq/\w.heap.size<=k/\k<d.heap.size):=by
 refine(xW v bs b (o b h.2.2.2.2.2) p).mono ?_;rintro e d⟨q,rfl,n,i⟩;obtain⟨A,c,rfl⟩:=aD i;have l:=oe.aj b d h n;obtain⟨x,y,f⟩:=l.2.2.2.1;obtain⟨r,s,j⟩:=h.2.2.2.1;have m:=(bR.1 j).1;refine⟨A,c,x,y,T,l,?_,?_,ey _ f,ey _ f,M ⟨mE.fQ i,λk g=>?_⟩⟩
 ·rw[bK f];rfl
 ·rw[bK f];rfl
 ·have:=i.lt k g;have:=h.2.2.2.2.2.size;omega
theorem rz(a:Bool)(v:Value)(bs:List Bool)(w:Y)(h:mE w w.heap.size v (da bs))(x:bs.length<=1000000):C 90 #[.agg #[L a,v]] w λe b=>∃A c,e=O (.agg #[L a,Z A bs.length c])/\ae w b/\mE b b.heap.size (Z A bs.length c) (da bs)/\∀k,(Z A bs.length c).ownBlock=some k->w.heap.size<=k/\k<b.heap.size:=by
 obtain⟨A,c,rfl⟩:∃A c,v=Z A bs.length c:=by obtain⟨A,c,e,_⟩:=h;rw[bV]at e;exact⟨A,c,e⟩
 have r:=M (λc (t:ae w c)=>h.pure t);have m:oe w w.heap.size (w.heap.size+1) a (Z A bs.length c) ((w.alloc (D #[L a,Z A bs.length c] 35)).alloc (D #[L false,Z none 0 0] 35)) :=
  ⟨by simp,by simp,by omega,⟨_,_,by have:=ai (w.alloc (D #[L a,Z A bs.length c] 35)) (D #[L false,Z none 0 0] 35);simpa using this⟩,by omega,((bo _).alloc _).alloc _⟩
 clear h;go_enter func90,ntmps90;go_wp2_with fail;generalize(w.alloc _).alloc _=W at *;generalize w.heap.size+1=Yq at *;generalize w.heap.size=X at *;have q:=M m;obtain⟨z,B,y⟩:=m;clear y;go_region_held3 (λb=>b.cell? (I X 0)=some (L a)/\b.cell? (I X 1)=some (Z A bs.length c)/\J6 w X Yq b)
  ((first|assumption|exact oe.aj W W.drew q ((bo W).drewN 1)|exact oe.stored (by assumption)))
  (first|(go_at_call 142;refine(oe.Ks (w:=w) (X:=X) (Yq:=Yq) (a:=a) (by assumption) r x).mono ?_;rintro e b⟨g,i,E,F,rfl,u,j,l,n,o,d⟩))
 go_wp2;refine au (v:=.agg #[L a,Z g bs.length i]) (by simp[results,results90,go_sem,j,l]) T ⟨g,i,T,?_,?_,λk f=>⟨(d.2 k f).2.1,by simpa[World.setCell]using(d.2 k f).2.2⟩⟩
 ·exact(oe.stored u).2.2.2.2.2
 ·have s:ac (λk=>k=Yq) b ((b.setCell (I Yq 0) (L a)).setCell (I Yq 1) (Z g bs.length i)):=((ac.refl (λk=>k=Yq) b).setCell (p:=⟨Yq,0,none⟩) (λ_=>T) _).setCell (p:=⟨Yq,1,none⟩) (λ_=>T) _;exact d.1.MC s (λk f=>(d.2 k f).1)
theorem yF{w b c:Y}{Yq:N}{Tq:TypeId}{x y:Value}(h:b.heap[Yq]?=some (D #[x,y] Tq (0,0)))(k:ae b c)(e:w.heap.size<=Yq)(g:ae w b):c.cell? (I Yq 0)=some x/\c.cell? (I Yq 1)=some y/\c.frozen? (I Yq 0)=false/\c.frozen? (I Yq 1)=false/\∀u z,ae w ((c.setCell (I Yq 0) u).setCell (I Yq 1) z):=by
 have a:=(k.block Yq (bR.1 h).1 (λf=>f)).trans h;refine⟨?_,?_,ey _ a,ey _ a,λu z=>?_⟩
 ·rw[bK a];rfl
 ·rw[bK a];rfl
 ·exact((g.MD k).setCell (p:=⟨Yq,0,none⟩) (λd=>Nat.not_lt.2 e d) u).setCell (p:=⟨Yq,1,none⟩) (λd=>Nat.not_lt.2 e d) z
theorem iy(c:Cn)(v:Value)(l:List Sh)(k:N)(s:Sh)(w:Y)(hl:dm w w.heap.size v l)(a:l[k]?=some s)(hx:s.bs.length<=1000000):C 136 #[hI c v,J k] w λe n=>∃A d,e=O (.tuple #[.agg #[L s.a,Z A s.bs.length d],L true])/\ae w n/\mE n n.heap.size (Z A s.bs.length d) (da s.bs)/\∀k,(Z A s.bs.length d).ownBlock=some k->w.heap.size<=k/\k<n.heap.size:=by
 obtain⟨⟨A,j,rfl,X,h2,F⟩,G⟩:=hl;have a1:=(dH.1 a).1;obtain⟨b,off,hA,hb,K⟩:=F (by omega);subst hA;obtain⟨W,t⟩:=K k s a;have H:=G s (cZ a);have o:=M (λc (m:ae w c)=>H.pure m);obtain⟨B,d,P,u,x,_⟩:=H;rw[P]at o t;rw[bV]at t o;have m:ae w ((w.alloc (D #[J c.ag,J c.al,J c.ap,J c.ao,J c.ak,J c.aB,J c.be,J c.di,Z (some (I b off)) l.length j] 24)).alloc (D #[L false,Z none 0 0] 35)):=((bo _).alloc _).alloc _;have y:=ai (w.alloc (D #[J c.ag,J c.al,J c.ap,J c.ao,J c.ak,J c.aB,J c.be,J c.di,Z (some (I b off)) l.length j] 24)) (D #[L false,Z none 0 0] 35);rw[show(w.alloc (D #[J c.ag,J c.al,J c.ap,J c.ao,J c.ak,J c.aB,J c.be,J c.di,Z (some (I b off)) l.length j] 24)).heap.size=w.heap.size+1 from by simp]at y;have HP:=M m;have r:=M (show((w.alloc (D #[J c.ag,J c.al,J c.ap,J c.ao,J c.ak,J c.aB,J c.be,J c.di,Z (some (I b off)) l.length j] 24)).alloc (D #[L false,Z none 0 0] 35)).heap.size=w.heap.size+2 from by simp);have R:=M y;clear F G K a P u x m y;go_enter func136,ntmps136;go_wp2_with (fail);refine(rz _ _ s.bs _ (o _ HP) hx).mono ?_;rintro e w1⟨z,E,rfl,h,i,g⟩;have q:=M i;have f:=M g;clear i g;obtain⟨y0,y1,y2,y3,Q⟩:=yF (w:=w) R h (by omega) HP;have S:=M Q;clear Q h W t;go_wp2_with (fail);refine au (v:=.tuple #[.agg #[L s.a,Z z s.bs.length E],L true]) (by simp[results,results136,go_sem,y0,y1]) T ⟨z,E,T,S _ _,?_,λk a=>⟨by have:=(f k a).1;have:=HP.size;omega,by simpa[World.setCell]using(f k a).2⟩⟩;refine q.MC (((ac.refl (λk=>k=w.heap.size+1) w1).setCell (p:=⟨w.heap.size+1,0,none⟩) (λ_=>T) _).setCell (p:=⟨w.heap.size+1,1,none⟩) (λ_=>T) _) (λk a e=>?_);have X:=(f k a).1;have h2:=r.out;omega
theorem jd.cI(w:Y)(e:TypeId)(cs:Array Value)(size m B:N)(b:cs.size=m*size)(a:w.heap.size=B):jd (w.alloc (D cs e)) size (some ⟨B,0,none⟩) m cs.toList:=by
 subst a;refine⟨by simpa using b,λ_=>⟨_,0,T,λj u c=>?_⟩⟩;rw[cell_of_row _ w.heap.size _ cs e (0,0) (ai w _),br];simpa using c
structure mN(W:Y)(l:List Sh)(k:N)(v':Value)(m:List Sh)(wr:Y):Prop where
 own:wr.ownsRow W.heap.size 35 2 v' k (fU m)
 sl:∀s∈m,mE wr wr.heap.size s.v (da s.bs)
 apart:∀s∈m,∀q,s.v.ownBlock=some q->v'.ownBlock≠some q/\W.heap.size<=q/\q<wr.heap.size
 mf:alike (l.take k) m
 pure:ae W wr
theorem mN.start(W:Y)(l:List Sh):mN W l 0 (Z none 0 0) [] W:=⟨jD _ _ _ _,λ_ h=>by simp at h,λ_ h=>by simp at h,by simp[alike],bo _⟩
theorem mN.MD{W:Y}{l:List Sh}{k:N}{e:Value}{m:List Sh}{a b:Y}(h:mN W l k e m a)(p:ae a b):mN W l k e m b:=⟨p.own h.own (λ_ _ f=>f),λs c=>(h.sl s c).pure p,λs c q d=>⟨(h.apart s c q d).1,(h.apart s c q d).2.1,eR (h.apart s c q d).2.2 p.size⟩,h.mf,h.pure.MD p⟩
theorem mN.step{W a c n:Y}{l m:List Sh}{k:N}{j g r:Value}{s:Sh}(h:mN W l k j m a)(B:l[k]?=some s)(p:ae a c)
  (z:mE c c.heap.size r (da s.bs)) (d:∀q,r.ownBlock=some q->a.heap.size<=q/\q<c.heap.size)
  (A:n.ownsRow W.heap.size 35 2 g (k+1) (fU m++[L s.a,r])) (y:c.grownBy n j.ownBlock) (w:g.ownBlock=j.ownBlock\/g.ownBlock=some c.heap.size) :
  mN W l (k+1) g (m++[⟨s.a,r,s.bs⟩]) n:=by
 have o:=h.MD p;have v:ac (λq=>j.ownBlock=some q) c n:=(bo c).grown y (λ_ _ e=>e);have i:=λq e=>(h.own.lt q e).2;have E:=p.size;refine⟨?_,?_,?_,?_,?_⟩
 ·rw[sG];exact A
 ·intro t b;rcases iE.1 b with b|b
  ·exact(o.sl t b).MC v (λq f=>(o.apart t b q f).1)
  ·simp at b;subst b;exact z.MC v (λq f e=>by have:=(d q f).1;have:=i q e;omega)
 ·intro t b q f;have F:=h.pure.size;have x:j.ownBlock≠some q/\W.heap.size<=q/\q<c.heap.size:=by
   rcases iE.1 b with b|b
   ·exact o.apart t b q f
   ·simp at b;subst b;exact⟨λe=>by have:=(d q f).1;have:=i q e;omega,by have:=(d q f).1;omega,(d q f).2⟩
  refine⟨λe=>?_,x.2.1,eR x.2.2 v.size⟩;rcases w with u|u
  ·exact x.1 (u.symm.trans e)
  ·rw[u]at e;injection e with e;omega
 ·have:=h.mf;unfold alike at this ⊢;rw[cD,B,cV,cV,this];rfl
 ·exact o.pure.grown y (λq f e=>by have:=(h.own.lt q e).1;omega)
theorem CA{w W wr c:Y}{l m:List Sh}{A:Option Addr}{d:N}(j:W.heap.size=w.heap.size+2)(g:ae w W)(h:mN W l l.length (Z A l.length d) m wr)
  (f:ac (λq=>q=w.heap.size\/q=w.heap.size+1) wr c) :
  ae w c/\c.ownsRow w.heap.size 35 2 (Z A l.length d) l.length (fU m)/\(∀s∈m,mE c c.heap.size s.v (da s.bs)) /\
   (∀s∈m,∀q,s.v.ownBlock=some q->(Z A l.length d).ownBlock≠some q/\w.heap.size<=q/\q<c.heap.size)/\alike l m:=by
 refine⟨?_,?_,?_,?_,?_⟩
 ·exact(g.MD h.pure).trans f (λi k e=>by omega)
 ·exact dA (f.own h.own (λq a e=>by have:=(h.own.lt q a).1;omega)) (by omega)
 ·exact λs b=>(h.sl s b).MC f (λq a e=>by have:=(h.apart s b q a).2.1;omega)
 ·exact λs b q a=>⟨(h.apart s b q a).1,by have:=(h.apart s b q a).2.1;omega,eR (h.apart s b q a).2.2 f.size⟩
 ·have:=h.mf
  rwa [eF]at this
theorem Cz(c:Cn)(v:Value)(l:List Sh)(w:Y)(hl:dm w w.heap.size v l)(hn:l.length<=1000)(hx:∀s∈l,s.bs.length<=1000000):C 53 #[hI c v] w λe P=>∃(A:Option Addr) (d:N) (m:List Sh),e=O (hI c (Z A l.length d))/\ae w P/\P.ownsRow w.heap.size 35 2 (Z A l.length d) l.length (fU m) /\
   (∀s∈m,mE P P.heap.size s.v (da s.bs))/\(∀s∈m,∀q,s.v.ownBlock=some q->(Z A l.length d).ownBlock≠some q/\w.heap.size<=q/\q<P.heap.size)/\alike l m:=by
 obtain⟨i0,a3,a4,a5,a6⟩:=aR yS;obtain⟨⟨A,x,rfl,h1,h2,h3⟩,h4⟩:=hl;have hr:=(Row.new w c (Z A l.length x)).aj ((bo _).alloc (D #[J 0,J 0,J 0,J 0,J 0,J 0,J 0,J 0,Z none 0 0] 24));have h:=ai (w.alloc (D #[J c.ag,J c.al,J c.ap,J c.ao,J c.ak,J c.aB,J c.be,J c.di,Z A l.length x] 24)) (D #[J 0,J 0,J 0,J 0,J 0,J 0,J 0,J 0,Z none 0 0] 24);rw[show(w.alloc (D #[J c.ag,J c.al,J c.ap,J c.ao,J c.ak,J c.aB,J c.be,J c.di,Z A l.length x] 24)).heap.size=w.heap.size+1 from by simp]at h;have HW:=M (show((w.alloc (D #[J c.ag,J c.al,J c.ap,J c.ao,J c.ak,J c.aB,J c.be,J c.di,Z A l.length x] 24)).alloc (D #[J 0,J 0,J 0,J 0,J 0,J 0,J 0,J 0,Z none 0 0] 24)).heap.size=w.heap.size+2 from by simp);have H3:=M h3;have H4:=M h4;have HX:=M hx;have HY:=M h;have HR:=M hr;clear h3 h4 hx h hr;go_enter func53,ntmps53;go_wp2_with fail;generalize(w.alloc _).alloc _=W at *;go_loopw [3,9] (λv' i wr=>∃(k:N) (m:List Sh),k<=l.length/\i=J k/\mN W l k v' m wr) (λ_ i _=>l.length-(intOf i).toNat)
 case atStart=>exact⟨0,[],aw _,T,mN.start W l⟩
 case round =>
  obtain⟨k,m,hk,rfl,hrel⟩:=hrel;obtain⟨S,d',rfl⟩:=aD hrel.own;have a:=M hrel;clear hrel;by_cases E:k<l.length
  ·obtain⟨b,off,hA,hb,hc⟩:=H3 (by omega);subst hA;obtain⟨s,G⟩:∃s,l[k]?=some s:=⟨l[k],cR E⟩;obtain⟨d1,Q⟩:=hc k s G;have hS:=H4 s (cZ G);have a2:=HX s (cZ G);have p:=M (λc (r:ae w c)=>hS.pure r);obtain⟨B,d,hv,_⟩:=hS;rw[hv]at p Q;rw[bV]at Q p;have r:=HR.2.2.MD a.pure;have a7:=r.aj d1;have a8:=r.aj Q;have HP:=M r;have HS:=M G;clear hc G hv r d1 Q;go_wp2_with fail;refine(rz _ _ s.bs _ (p _ (HP.alloc _)) a2).mono ?_;rintro e R⟨X,c1,rfl,F,H,y⟩;have P1:=M (ae.MD ((bo wr).alloc _) F);have S1:=M H;have B1:=M y;have j:=P1.own a.own (λ_ _ f=>f);have t:=M j;have K:W.heap.size<=(R.alloc (D #[L s.a,Z X s.bs.length c1] 35)).heap.size:=by have:=P1.size;have:=a.pure.size;simp;omega
   clear F H y j;go_wp2_with (at_builtin;refine bT _ T (.tmp 13) (.tmp 16) _ T W.heap.size 35 i0 _ 2 32 underlying22 a3 a4 a5 a6 T (by omega) (Z S k d') k (fU m) T (aH (w:=R) t _) _ 1 1 [L s.a,Z X s.bs.length c1] T (jd.cI R _ #[L s.a,Z X s.bs.length c1] 2 1 _ T T) (by simp[Value.oneCell']) (by simp only[maxLen];omega) (by omega) K ?_;intro v2 w2 n z o;have u:=M n;have G2:=M z;have a1:=M o;clear n z o);go_roundw
   case rel =>
    refine⟨k+1,_,E,by go_num,a.step HS (P1.alloc _) (S1.pure ((bo R).alloc _)) (λq hq=>?_) u G2 a1⟩;have:=B1 q hq;simp at this ⊢;omega
   case measure=>simp[intOf];omega
  ·obtain rfl:k=l.length:=by omega
   obtain⟨c0,c1,c2,c3,c4,c5,c6,c7,c8,f⟩:=(HR.aj a.pure).cells;have f8:=f 8;have h:=(a.pure.block _ (bR.1 HY).1 (λf=>f)).trans HY;have g:=λi=>ey i h;have a9:=g 0;have b0:=g 1;have b1:=g 2;have b2:=g 3;have b3:=g 4;have b4:=g 5;have b5:=g 6;have b6:=g 7;have b7:=g 8;have y0:wr.cell? (I (w.heap.size+1) 0)=some (J 0):=by rw[bK h];rfl
   have y1:wr.cell? (I (w.heap.size+1) 1)=some (J 0):=by rw[bK h];rfl
   have y2:wr.cell? (I (w.heap.size+1) 2)=some (J 0):=by rw[bK h];rfl
   have y3:wr.cell? (I (w.heap.size+1) 3)=some (J 0):=by rw[bK h];rfl
   have y4:wr.cell? (I (w.heap.size+1) 4)=some (J 0):=by rw[bK h];rfl
   have y5:wr.cell? (I (w.heap.size+1) 5)=some (J 0):=by rw[bK h];rfl
   have y6:wr.cell? (I (w.heap.size+1) 6)=some (J 0):=by rw[bK h];rfl
   have y7:wr.cell? (I (w.heap.size+1) 7)=some (J 0):=by rw[bK h];rfl
   have y8:wr.cell? (I (w.heap.size+1) 8)=some (Z none 0 0):=by rw[bK h];rfl
   clear f h g;go_wp2_with fail;refine au (v:=hI c (Z S l.length d')) (by simp[results,results53,go_sem,y0,y1,y2,y3,y4,y5,y6,y7,y8]) T ⟨S,d',m,T,CA HW HR.2.2 a ?_⟩
   iterate 9 refine ac.setCell ?_ (λ_=>.inr T) _
   exact(bo wr).setCell (λ_=>.inl T) _
end
section
@[go_sem] theorem GK {P:Program} {w:World} (a:Addr) (x y:Nat) (m:Mode):(store a (U x y) m).run P w=stored P w a (U x y) m:=run_store P w a _ m T
theorem ac.bF{S:N->Prop}{w c:Y}{b:N}{o:Obj}(h:ac S w c)(a:w.heap[b]?=some o)(d:¬S b):c.heap[b]?=some o:=(h.block b (bR.1 a).1 d).trans a
theorem ae.bF{w a:Y}{b:N}{o:Obj}(h:ae w a)(c:w.heap[b]?=some o):a.heap[b]?=some o:=ac.bF h c (λf=>f)
theorem az{w:Y}{b i:N}{cs:Array Value}{Tq:TypeId}{u:Value}(h:w.heap[b]?=some (D cs Tq (0,0))):(w.setCell (I b i) u).heap[b]?=some (D (cs.setIfInBounds i u) Tq (0,0)):=by simp[World.setCell,gV,h]
theorem aK{w:Y}{b c i:N}{o:Obj}{u:Value}(h:w.heap[c]?=some o)(a:c≠b):(w.setCell (I b i) u).heap[c]?=some o:=by simp[World.setCell,gV,h,bC a]
theorem eu:(prog.info? 3).map (λi=>(i.zero,i.size,i.bytes))=some (some (J 0),1,8):=by kernel_rfl
theorem aV{w:Y}{b c:N}{cs a:Array Value}{Tq Uq:TypeId}(h:w.heap[b]?=some (D cs Tq (0,0)))(k:w.heap[c]?=some (D a Uq (0,0)))(d:Tq≠Uq):b≠c:=by
 rintro rfl;rw[h]at k;injection k with k;injection k with _ k;exact d k
theorem nG{w:Y}{aC:N}{e:TypeId}{size n:N}{v:Value}{xs:List Value}(h:w.ownsRow aC e size v n xs){k:N}(a:v.ownBlock=some k):∃an,w.heap[k]?=some (D an e (0,0)):=by
 rcases h.2 with⟨rfl,-⟩|⟨g,b,an,rfl,-,c,-⟩
 ·cases a
 ·injection a with a;subst a;exact⟨an,c⟩
theorem ca{w:Y}{aC:N}{e Uq:TypeId}{size n:N}{v:Value}{xs:List Value}{c:N}{b:Array Value}(h:w.ownsRow aC e size v n xs)(k:w.heap[c]?=some (D b Uq (0,0)))(g:e≠Uq):v.ownBlock≠some c:=λf=>by
 obtain⟨a,d⟩:=nG h f;exact aV d k g T
end
namespace dq
structure dy where
 st:N
 head:Bool
 ah:Bool
def cI(l:List dy):List Value:=l.flatMap λo=>[J o.st,L o.head,L o.ah]
theorem yJ(l:List dy):(cI l).length=l.length*3:=by
 induction l with
 | nil=>rfl
 | cons o l a=>simp only[cI,bN,iB,bu,dJ]at a ⊢;omega
theorem kl(l:List dy)(j:N)(o:dy)(h:l[j]?=some o):(cI l)[j*3]?=some (J o.st)/\(cI l)[j*3+1]?=some (L o.head)/\(cI l)[j*3+2]?=some (L o.ah):=by
 induction l generalizing j with
 | nil=>simp at h
 | cons a l b =>
  cases j with
  | zero =>
   injection h with h;subst h;exact⟨T,T,T⟩
  | succ j =>
   have:=b j (by simpa using h);rw[show(j+1)*3=j*3+3 from by omega];simpa[cI]using this
theorem ji(l:List dy)(j:N)(o:dy)(b:j<l.length):cI (l.set j o)=(((cI l).set (j*3) (J o.st)).set (j*3+1) (L o.head)).set (j*3+2) (L o.ah):=by
 induction l generalizing j with
 | nil=>simp at b
 | cons a l c =>
  cases j with
  | zero=>rfl
  | succ j =>
   have:=c j (by simpa using b);rw[show(j+1)*3=j*3+3 from by omega];simpa[cI]using this
theorem Ej(l:List dy)(j:N)(o:dy)(c:l[j]?=some o)(b:Bool):cI (l.set j {o with head:=b})=(cI l).set (j*3+1) (L b):=by
 induction l generalizing j with
 | nil=>simp at c
 | cons a l d =>
  cases j with
  | zero=>injection c with c;subst c;rfl
  | succ j =>
   have:=d j (by simpa using c);rw[show(j+1)*3=j*3+3 from by omega];simpa[cI]using this
theorem Ek(l:List dy)(j:N)(o:dy)(c:l[j]?=some o)(b:Bool):cI (l.set j {o with ah:=b})=(cI l).set (j*3+2) (L b):=by
 induction l generalizing j with
 | nil=>simp at c
 | cons a l d =>
  cases j with
  | zero=>injection c with c;subst c;rfl
  | succ j =>
   have:=d j (by simpa using c);rw[show(j+1)*3=j*3+3 from by omega];simpa[cI]using this
def cY(l:List dy)(k:N):N:=l.countP λo=>o.st==k
theorem mS(l:List dy)(k:N):cY l k<=l.length:=List.countP_le_length
theorem uq(l:List dy)(j:N)(o c:dy)(b:l[j]?=some o)(k:N):cY (l.set j c) k+(if o.st=k then 1 else 0)=cY l k+(if c.st=k then 1 else 0):=by
 induction l generalizing j with
 | nil=>simp at b
 | cons a l d =>
  cases j with
  | zero =>
   injection b with b;subst b;simp only[cY,dv,ds,beq_iff_eq];omega
  | succ j =>
   have:=d j (by simpa using b);simp only[cY,fI,ds,beq_iff_eq]at this ⊢;omega
structure ic(w:Y)(b g:N)(l:List dy)(f:N->V):Prop where
 me:w.heap[b]?=some (D #[Z (some (I g 0)) l.length l.length,J (f 0),J (f 1),J (f 2)] 198 (0,0))
 cI:w.heap[g]?=some (D (cI l).toArray 207 (0,0))
 eT:l.length<=1024
 st:∀o∈l,o.st<3
def At(w:Y)(b g:N)(l:List dy):Prop:=ic w b g l λk=>(cY l k:V)
section
variable{w w':Y}{b g:N}{l:List dy}{f:N->V}
theorem ic.c0(h:ic w b g l f):w.cell? (I b 0)=some (Z (some (I g 0)) l.length l.length):=by rw[fq 0 h.me];rfl
theorem ic.cn(h:ic w b g l f)(k:N)(a:k<3):w.cell? (I b (1+k))=some (J (f k)):=by
 rw[bK h.me];rcases(by omega:k=0\/k=1\/k=2)with rfl|rfl|rfl<;>rfl
theorem ic.fb(h:ic w b g l f)(k:N):w.frozen? (I b k)=false:=ey k h.me
theorem ic.fg(h:ic w b g l f)(k:N):w.frozen? (I g k)=false:=ey k h.cI
theorem ic.ne(h:ic w b g l f):b≠g:=by
 rintro rfl;have:=h.me.symm.trans h.cI;simp at this
theorem ic.lb(h:ic w b g l f):b<w.heap.size:=(bR.1 h.me).1
theorem ic.lg(h:ic w b g l f):g<w.heap.size:=(bR.1 h.cI).1
theorem ic.MC{S:N->Prop}(h:ic w b g l f)(a:ac S w w')(c:¬S b)(d:¬S g):ic w' b g l f:=⟨(a.block b h.lb c).trans h.me,(a.block g h.lg d).trans h.cI,h.eT,h.st⟩
theorem ic.one(h:ic w b g l f){j:N}{o:dy}(a:l[j]?=some o):w.cell? (I g (j*3))=some (J o.st)/\w.cell? (I g (j*3+1))=some (L o.head)/\w.cell? (I g (j*3+2))=some (L o.ah):=by
 obtain⟨c,d,e⟩:=kl l j o a;refine⟨?_,?_,?_⟩<;>(rw[bK h.cI];simpa)
theorem ic.put(h:ic w b g l f)(k:N)(v:V)(a:k<3):ic (w.setCell (I b (1+k)) (J v)) b g l (λi=>if i=k then v else f i):=by
 refine⟨?_,?_,h.eT,h.st⟩
 ·simp only[World.setCell,gV,h.me];rcases(by omega:k=0\/k=1\/k=2)with rfl|rfl|rfl<;>simp
 ·simp only[World.setCell,gV,h.cI,aa h.ne]
theorem ic.drew(h:ic w b g l f):ic w.drew b g l f:=⟨h.me,h.cI,h.eT,h.st⟩
theorem ic.Gv(h:ic w b g l f){j:N}(c:j<l.length)(o:dy)(d:o.st<3):ic (((w.setCell (I g (j*3)) (J o.st)).setCell (I g (j*3+1)) (L o.head)).setCell (I g (j*3+2)) (L o.ah)) b g (l.set j o) f:=by
 refine⟨?_,?_,by simpa using h.eT,λx a=>?_⟩
 ·simp only[World.setCell,gV,h.me,aa (bC h.ne),iC]
 ·simp only[World.setCell,gV,h.cI,bP,ji l j o c];simp
 ·rcases eo a with a|rfl
  ·exact h.st x a
  ·exact d
theorem ic.JB(h:ic w b g l f){j:N}{o:dy}(c:l[j]?=some o)(v:Bool):ic (w.setCell (I g (j*3+1)) (L v)) b g (l.set j {o with head:=v}) f:=by
 refine⟨?_,?_,by simpa using h.eT,λx a=>?_⟩
 ·simp only[World.setCell,gV,h.me,aa (bC h.ne),iC]
 ·simp only[World.setCell,gV,h.cI,bP,Ej l j o c];simp
 ·rcases eo a with a|rfl
  ·exact h.st x a
  ·exact h.st o (cZ c)
theorem ic.JC(h:ic w b g l f){j:N}{o:dy}(c:l[j]?=some o)(v:Bool):ic (w.setCell (I g (j*3+2)) (L v)) b g (l.set j {o with ah:=v}) f:=by
 refine⟨?_,?_,by simpa using h.eT,λx a=>?_⟩
 ·simp only[World.setCell,gV,h.me,aa (bC h.ne),iC]
 ·simp only[World.setCell,gV,h.cI,bP,Ek l j o c];simp
 ·rcases eo a with a|rfl
  ·exact h.st x a
  ·exact h.st o (cZ c)
theorem At.eA(h:At w b g l):ic w b g l λk=>(cY l k:V):=h
theorem ic.aM(h:ic w b g l f)(a:∀k,k<3->f k=(cY l k:V)):At w b g l:=⟨by rw[<-a 0 (by omega),<-a 1 (by omega),<-a 2 (by omega)];exact h.me,h.cI,h.eT,h.st⟩
end
theorem FM(b g:N)(l:List dy)(i:V)(w:Y)(h:At w b g l):C 141 #[I b 0,J i] w λe c=>e=O (L (decide (0<=i)&&decide (i<l.length)))/\w=c:=by
 have f:=h.eA.c0;by_cases a:0<=i
 ·have d:decide (i>=0)=true:=by simpa using a
  go_enter func141,ntmps141;go_wp2_with fail;go_ret;exact⟨eH (by simp[a]),T⟩
 ·go_enter func141,ntmps141;go_wp2_with fail;go_ret;exact⟨eH (by simp;omega),T⟩
theorem mW(b g:N)(l:List dy)(j:N)(w:Y)(h:At w b g l)(c:j<l.length):C 141 #[I b 0,J j] w λe a=>e=O (L true)/\w=a:=by
 have:=FM b g l j w h
 rwa [show(decide ((0:V)<=(j:V))&&decide ((j:V)<l.length))=true from by simp;omega]at this
theorem iz(b g:N)(l:List dy)(j:N)(o:dy)(w:Y)(h:At w b g l)(c:l[j]?=some o):C 77 #[I b 0,J j] w λe d=>e=O (J o.st)/\w=d:=by
 have f:=h.eA.c0;obtain⟨c1,-,-⟩:=h.eA.one c;have a:j<l.length:=(dH.1 c).1;go_enter func77,ntmps77;go_wp2_with fail;refine(mW b g l j w h a).mono ?_;rintro e i⟨rfl,rfl⟩;go_wp2_with fail;go_ret;exact⟨T,T⟩
theorem oA(b g:N)(l:List dy)(j:N)(o:dy)(w:Y)(h:At w b g l)(q:l[j]?=some o)(st:N)(m:st<3)(head ah:Bool):C 226 #[I b 0,J j,J st,L head,L ah] w λe w'=>e=O (L true)/\ac (λk=>k=b\/k=g) w w'/\At w' b g (l.set j ⟨st,head&&decide (st=2),ah⟩):=by
 have S:=h.eA.c0;obtain⟨c1,W,X⟩:=h.eA.one q;have t:j<l.length:=(dH.1 q).1;go_enter func226,ntmps226;go_wp2_with fail;refine(mW b g l j w h t).mono ?_;rintro e P⟨rfl,rfl⟩;have a6:decide ((st:V)<0)=false:=by simp
 have a7:decide ((2:V)<(st:V))=false:=by simp;omega
 have u:=h.eA.st o (cZ q);have i1:(0:V)<=(j:V):=by omega
 have i2:(j:V)<(l.length:V):=by omega
 have i3:(0:V)<=(o.st:V):=by omega
 have i4:(o.st:V)<3:=by omega
 have cn:=h.eA.cn o.st u;have K:=h.eA.fb;have a2:1<=cY l o.st:=List.one_le_countP_iff.2 ⟨o,cZ q,by simp⟩;have a5:=mS l o.st;have a1:=h.eA.eT;have hw:IntKind.i64.wrap ((cY l o.st:V)-1)=(cY l o.st:V)-1:=by rw[aP];omega
 go_wp2_with fail;go_region;have Q:=(h.eA.put o.st ((cY l o.st:V)-1) u).drew;have R:ac (λk=>k=b\/k=g) w (w.setCell (I b (1+o.st)) (J ((cY l o.st:V)-1))).drew:=((bo w).setCell (p:=⟨b,1+o.st,none⟩) (λ_=>.inl T) _).drewN 1;have E:=M Q;have HO:=M R;generalize(w.setCell _ _).drew=P at *;have r:=E.cn st m;obtain⟨v,n⟩:∃v:V,(if st=o.st then(cY l o.st:V)-1 else(cY l st:V))=v:=⟨_,T⟩;rw[n]at r;have a8:0<=v/\v<=1024:=by have:=mS l st;rw[<-n];split<;>omega
 have a9:IntKind.i64.wrap (v+1)=v+1:=by rw[aP];omega
 have s:=E.fb;have hV:=M n;have i5:(0:V)<=(st:V):=by omega
 have i6:(st:V)<3:=by omega
 clear Q R S c1 W X cn K n;go_wp2_with fail;go_region;have d:=M (E.put st (v+1) m).drew;have F:Hid (ac (λk=>k=b\/k=g) w (P.setCell (I b (1+st)) (J (v+1))).drew):=M ((HO.setCell (p:=⟨b,1+st,none⟩) (λ_=>.inl T) _).drewN 1);generalize(P.setCell _ _).drew=w2 at *;have S:=d.c0;obtain⟨c1,W,X⟩:=d.one q;have a4:=d.fg;clear r s;have A:∀H:Bool,H=(head&&decide (st=2))->ic (((w2.setCell (I g (j*3)) (J st)).setCell (I g (j*3+1)) (L H)).setCell (I g (j*3+2)) (L ah)) b g (l.set j ⟨st,head&&decide (st=2),ah⟩) λk=>(cY (l.set j ⟨st,head&&decide (st=2),ah⟩) k:V):=λH hh=>by
  subst hh;have:=d.Gv t ⟨st,head&&decide (st=2),ah⟩ m;refine this.aM λk hk=>?_;have i:=uq l j o ⟨st,head&&decide (st=2),ah⟩ q k;have n:=hV.out;simp only at i ⊢;by_cases G:k=st
  ·subst G;rw[af rfl];by_cases c:k=o.st
   ·subst c;simp at i n ⊢;omega
   ·rw[aa c]at n;rw[aa (bC c)]at i;simp at i;omega
  ·rw[aa G,aa (bC G)]at *;by_cases c:k=o.st
   ·subst c;simp at i ⊢;omega
   ·rw[aa c];rw[aa (bC c)]at i;simp at i;omega
 have B:=M A;clear A;have a:∀x y z:Value,ac (λk=>k=b\/k=g) w (((w2.setCell (I g (j*3)) x).setCell (I g (j*3+1)) y).setCell (I g (j*3+2)) z):=λx y z=>((F.setCell (p:=⟨g,j*3,none⟩) (λ_=>.inr T) x).setCell (p:=⟨g,j*3+1,none⟩) (λ_=>.inr T) y).setCell (p:=⟨g,j*3+2,none⟩) (λ_=>.inr T) z;have f:=M a;clear a;cases head
 ·go_wp2_with fail;go_ret;exact⟨T,f _ _ _,B _ T⟩
 ·by_cases c:st=2
  ·subst c;go_wp2_with fail;go_ret;exact⟨T,f _ _ _,B _ T⟩
  ·have a3:((st:V)==2)=false:=by simp;omega
   go_wp2_with fail;go_ret;exact⟨T,f _ _ _,B _ (by simp[c])⟩
theorem At.MC{S:N->Prop}{w a:Y}{b g:N}{l:List dy}(h:At w b g l)(e:ac S w a)(c:¬S b)(d:¬S g):At a b g l:=h.eA.MC e c d
theorem At.JB{w:Y}{b g:N}{l:List dy}(h:At w b g l){j:N}{o:dy}(a:l[j]?=some o)(v:Bool):At (w.setCell (I g (j*3+1)) (L v)) b g (l.set j {o with head:=v}):=(h.eA.JB a v).aM λk _=>by have:=uq l j o {o with head:=v} a k;simp only at this ⊢;omega
theorem At.JC{w:Y}{b g:N}{l:List dy}(h:At w b g l){j:N}{o:dy}(a:l[j]?=some o)(v:Bool):At (w.setCell (I g (j*3+2)) (L v)) b g (l.set j {o with ah:=v}):=(h.eA.JC a v).aM λk _=>by have:=uq l j o {o with ah:=v} a k;simp only at this ⊢;omega
theorem un(b g:N)(l:List dy)(j:N)(o:dy)(w:Y)(h:At w b g l)(c:l[j]?=some o)(f:o.st=2)(d:o.head=false):C 256 #[I b 0,J j] w λe m=>e=O (L true)/\ac (λk=>k=b\/k=g) w m/\At m b g (l.set j {o with head:=true}):=by
 have u:=h.eA.c0;obtain⟨c1,r,v⟩:=h.eA.one c;rw[d]at r;have t:j<l.length:=(dH.1 c).1;have x:(0:V)<=(j:V):=by omega
 have y:(j:V)<(l.length:V):=by omega
 have s:=h.eA.fg;have HP:=M (h.JB c true);have i:=(ac.refl (λk=>k=b\/k=g) w).setCell (p:=⟨g,j*3+1,none⟩) (λ_=>.inr T) (L true);have n:=M i;have a:=iz b g l j o w h c;rw[f]at a;have q:=M a;clear a i;go_enter func256,ntmps256;go_wp2_with fail;refine q.mono ?_;rintro e z⟨rfl,rfl⟩;go_wp2_with fail;go_ret;exact⟨T,n,HP⟩
theorem pa(b g:N)(l:List dy)(j:N)(o:dy)(w:Y)(h:At w b g l)(c:l[j]?=some o):C 159 #[I b 0,J j] w λe d=>e=O (L o.head)/\w=d:=by
 have f:=h.eA.c0;obtain⟨c1,i,k⟩:=h.eA.one c;have a:j<l.length:=(dH.1 c).1;have m:(0:V)<=(j:V):=by omega
 have n:(j:V)<(l.length:V):=by omega
 go_enter func159,ntmps159;go_wp2_with fail;refine(mW b g l j w h a).mono ?_;rintro e p⟨rfl,rfl⟩;go_wp2_with fail;go_ret;exact⟨T,T⟩
theorem xY(b g:N)(l:List dy)(w:Y)(h:At w b g l):C 70 #[I b 0] w λe a=>e=O (.tuple #[J (cY l 0),J (cY l 1),J (cY l 2)])/\ae w a:=by
 have c:w.cell? (I b 1)=_:=h.eA.cn 0 (by omega);have c1:w.cell? (I b 2)=_:=h.eA.cn 1 (by omega);have d:w.cell? (I b 3)=_:=h.eA.cn 2 (by omega);go_enter func70,ntmps70;go_wp2_with fail;go_quiet (fail);go_wp2_with fail;go_ret3;exact⟨T,(bo _).drewN _⟩
theorem Gb(b g:N)(l:List dy)(w:Y)(h:At w b g l):C 83 #[I b 0] w λe a=>e=O (J l.length)/\w=a:=by
 have c:=h.eA.c0;go_enter func83,ntmps83;go_wp2_with fail;go_ret;exact⟨T,T⟩
theorem jK(b g:N)(l:List dy)(j:N)(o:dy)(s:Bool)(w:Y)(h:At w b g l)(a:l[j]?=some o):C 160 #[I b 0,J j,L s] w λe i=>e=O (L (decide (o.st=2)&&o.ah==s))/\w=i:=by
 have m:=h.eA.c0;obtain⟨c1,n,p⟩:=h.eA.one a;have f:j<l.length:=(dH.1 a).1;have q:(0:V)<=(j:V):=by omega
 have r:(j:V)<(l.length:V):=by omega
 by_cases c:o.st=2
 ·have d:((o.st:V)==2)=true:=by simp;omega
  go_enter func160,ntmps160;go_wp2_with fail;refine(iz b g l j o w h a).mono ?_;rintro e k⟨rfl,rfl⟩;go_wp2_with fail;go_ret;exact⟨by simp[c],T⟩
 ·have d:((o.st:V)==2)=false:=by simp;omega
  go_enter func160,ntmps160;go_wp2_with fail;refine(iz b g l j o w h a).mono ?_;rintro e k⟨rfl,rfl⟩;go_wp2_with fail;go_ret;exact⟨by simp[c],T⟩
theorem Gm(b g:N)(l:List dy)(j:N)(o:dy)(s:Bool)(w:Y)(h:At w b g l)(c:l[j]?=some o)(a:o.st=2->o.ah=s):C 149 #[I b 0,J j,L s] w λe k=>e=O (L false)/\w=k:=by
 have i:=M a;clear a;by_cases d:o.st=2
 ·have a:((o.st:V) !=2)=false:=by simp;omega
  go_enter func149,ntmps149;go_wp2_with fail;refine(iz b g l j o w h c).mono ?_;rintro e f⟨rfl,rfl⟩;go_wp2_with fail;refine(jK b g l j o s w h c).mono ?_;rintro e f⟨rfl,rfl⟩;rw[show(decide (o.st=2)&&o.ah==s)=true from by simp[d,i.out d]];go_wp2_with fail;go_ret;exact⟨T,T⟩
 ·have a:((o.st:V) !=2)=true:=by simp;omega
  go_enter func149,ntmps149;go_wp2_with fail;refine(iz b g l j o w h c).mono ?_;rintro e f⟨rfl,rfl⟩;go_wp2_with fail;go_ret;exact⟨T,T⟩
theorem wG(b g:N)(l:List dy)(j:N)(o:dy)(s:Bool)(w:Y)(h:At w b g l)(a:l[j]?=some o)(x:o.st=2)(d:o.ah≠s):C 149 #[I b 0,J j,L s] w λe f=>e=O (L true)/\ac (λk=>k=b\/k=g) w f/\At f b g (l.set j {o with ah:=s}):=by
 have y:((o.st:V) !=2)=false:=by simp;omega
 have t:=h.eA.c0;obtain⟨c1,u,v⟩:=h.eA.one a;have q:j<l.length:=(dH.1 a).1;have z:(0:V)<=(j:V):=by omega
 have A:(j:V)<(l.length:V):=by omega
 have n:=h.eA.fg;have HP:=M (h.JC a s);have c:=(ac.refl (λk=>k=b\/k=g) w).setCell (p:=⟨g,j*3+2,none⟩) (λ_=>.inr T) (L s);have i:=M c;have m:=M d;clear c d;go_enter func149,ntmps149;go_wp2_with fail;refine(iz b g l j o w h a).mono ?_;rintro e r⟨rfl,rfl⟩;go_wp2_with fail;refine(jK b g l j o s w h a).mono ?_;rintro e r⟨rfl,rfl⟩;rw[show(decide (o.st=2)&&o.ah==s)=false from by simp[m.out]];go_wp2_with fail;go_ret;exact⟨T,i,HP⟩
end dq
namespace Po
def cY(l:List Bool):N:=l.countP id
theorem mS(l:List Bool):cY l<=l.length:=List.countP_le_length
theorem FA(l:List Bool)(j:N)(h:l[j]?=some true):cY (l.set j false)+1=cY l:=by
 induction l generalizing j with
 | nil=>simp at h
 | cons a l b =>
  cases j with
  | zero=>injection h with h;subst h;simp[cY]
  | succ j=>have:=b j (by simpa using h);simp only[cY,fI,ds]at this ⊢;omega
theorem IP(l:List Bool)(j:N)(h:l[j]?=some false):cY (l.set j true)=cY l+1:=by
 induction l generalizing j with
 | nil=>simp at h
 | cons a l b =>
  cases j with
  | zero=>injection h with h;subst h;simp[cY]
  | succ j=>have:=b j (by simpa using h);simp only[cY,fI,ds]at this ⊢;omega
structure ic(w:Y)(b g:N)(l:List Bool)(n:V):Prop where
 me:w.heap[b]?=some (D #[Z (some (I g 0)) l.length l.length,J n] 211 (0,0))
 cI:w.heap[g]?=some (D (da l).toArray 4 (0,0))
 eT:l.length<=1024
def At(w:Y)(b g:N)(l:List Bool):Prop:=ic w b g l (cY l:V)
section
variable{w w':Y}{b g:N}{l:List Bool}{n:V}
theorem ic.c0(h:ic w b g l n):w.cell? (I b 0)=some (Z (some (I g 0)) l.length l.length):=by rw[fq 0 h.me];rfl
theorem ic.c1(h:ic w b g l n):w.cell? (I b 1)=some (J n):=by rw[fq 1 h.me];rfl
theorem ic.fb(h:ic w b g l n)(k:N):w.frozen? (I b k)=false:=ey k h.me
theorem ic.fg(h:ic w b g l n)(k:N):w.frozen? (I g k)=false:=ey k h.cI
theorem ic.ne(h:ic w b g l n):b≠g:=by
 rintro rfl;have:=h.me.symm.trans h.cI;simp at this
theorem ic.lb(h:ic w b g l n):b<w.heap.size:=(bR.1 h.me).1
theorem ic.lg(h:ic w b g l n):g<w.heap.size:=(bR.1 h.cI).1
theorem ic.MC{S:N->Prop}(h:ic w b g l n)(a:ac S w w')(c:¬S b)(d:¬S g):ic w' b g l n:=⟨(a.block b h.lb c).trans h.me,(a.block g h.lg d).trans h.cI,h.eT⟩
theorem ic.one(h:ic w b g l n){j:N}{x:Bool}(a:l[j]?=some x):w.cell? (I g j)=some (L x):=by
 rw[bK h.cI];simp[da,a]
theorem ic.count(h:ic w b g l n)(v:V):ic (w.setCell (I b 1) (J v)) b g l v:=⟨by simp[World.setCell,gV,h.me],by simp only[World.setCell,gV,h.cI,aa h.ne],h.eT⟩
theorem ic.put(h:ic w b g l n)(j:N)(x:Bool):ic (w.setCell (I g j) (L x)) b g (l.set j x) n:=by
 refine⟨?_,?_,by simpa using h.eT⟩
 ·simp only[World.setCell,gV,h.me,aa (bC h.ne),iC]
 ·simp only[World.setCell,gV,h.cI,bP,da,List.map_set];simp
theorem At.eA(h:At w b g l):ic w b g l (cY l:V):=h
theorem At.MC{S:N->Prop}(h:At w b g l)(d:ac S w w')(a:¬S b)(c:¬S g):At w' b g l:=h.eA.MC d a c
end
theorem kJ(b g:N)(l:List Bool)(w:Y)(h:At w b g l):C 144 #[I b 0] w λe a=>e=O (J (cY l))/\w=a:=by
 have c1:=h.eA.c1;go_enter func144,ntmps144;go_wp2_with fail;go_ret;exact⟨T,T⟩
theorem xp(b g:N)(l:List Bool)(j:N)(w:Y)(h:At w b g l)(c:l[j]?=some true):C 289 #[I b 0,J j] w λe d=>e=O (.tuple #[])/\ac (λk=>k=b\/k=g) w d/\d.heap.size=w.heap.size/\At d b g (l.set j false):=by
 have r:=h.eA.c0;have s:=h.eA.one c;have u:=h.eA.fg;have o:j<l.length:=(dH.1 c).1;have v:(j:V)<(l.length:V):=by omega
 have a:=M (h.eA.put j false);have m:Hid (ac (λk=>k=b\/k=g) w (w.setCell (I g j) (L false))):=M ((ac.refl (λk=>k=b\/k=g) w).setCell (p:=⟨g,j,none⟩) (λ_=>.inr T) _);have c1:=a.c1;have t:=a.fb;have q:=mS l;have f:=h.eA.eT;have n:=FA l j c;have i:1<=cY l:=by omega
 go_enter func289,ntmps289;go_wp2_with fail;go_end0;refine⟨T,m.setCell (p:=⟨b,1,none⟩) (λ_=>.inl T) _,by simp[World.setCell],?_⟩;unfold At;rw[show(cY (l.set j false):V)=(cY l:V)-1 from by omega];exact a.count _
theorem FK(b g:N)(l:List Bool)(j:N)(w:Y)(h:At w b g l)(c:l[j]?=some false):C 227 #[I b 0,J j] w λe f=>e=O (L true)/\ac (λk=>k=b\/k=g) w f/\At f b g (l.set j true):=by
 have q:=h.eA.c0;have r:=h.eA.one c;have t:=h.eA.fg;have n:j<l.length:=(dH.1 c).1;have u:decide ((j:V)<0)=false:=by simp
 have v:(j:V)<(l.length:V):=by omega
 have x:decide ((j:V)>=(l.length:V))=false:=by simp;omega
 have a:=M (h.eA.put j true);have i:Hid (ac (λk=>k=b\/k=g) w (w.setCell (I g j) (L true))):=M ((ac.refl (λk=>k=b\/k=g) w).setCell (p:=⟨g,j,none⟩) (λ_=>.inr T) _);have c1:=a.c1;have s:=a.fb;have o:=mS l;have d:=h.eA.eT;have m:=IP l j c;go_enter func227,ntmps227;go_wp2_with fail;go_ret;refine⟨T,i.setCell (p:=⟨b,1,none⟩) (λ_=>.inl T) _,?_⟩;unfold At;rw[show(cY (l.set j true):V)=(cY l:V)+1 from by omega];exact a.count _
def pB(l:List Bool)(k:N):N->N->Option Nat
 | 0,_=>none
 | i+1,n=>if l.getD i false=true then(if n+1=k then some i else pB l k i (n+1))else pB l k i 0
def run(l:List Bool)(k:N):Option Nat:=pB l k l.length 0
def Bn:Option Nat->Value
 | some i=>.tuple #[J i,L true]
 | none=>.tuple #[J 0,L false]
theorem ve(b g:N)(l:List Bool)(k:N)(w:Y)(h:At w b g l)(B:1<=k)(t:k<=2000):C 230 #[I b 0,J k] w λe v=>e=O (Bn (run l k))/\w=v:=by
 have y:=h.eA.c0;have A:decide ((k:V)<1)=false:=by simp;omega
 have r:=h.eA.eT;have H:=M h;clear h;go_enter func230,ntmps230;go_wp2_with fail;go_loopw [6,7] (λn i wr=>w=wr/\∃(m q:N),n=J m/\i=J ((q:V)-1)/\q<=l.length/\m+q<=l.length/\run l k=pB l k q m) (λn i _=>(intOf i+1).toNat)
 case atStart=>exact⟨T,0,l.length,T,by go_num,ci _,by omega,T⟩
 case round =>
  obtain⟨rfl,m,q,rfl,rfl,E,u,c⟩:=hrel;have o:=M c;clear c;cases q with
  | zero =>
   have a:run l k=none:=by rw[o.out];rfl
   have d:=M a;clear a;go_wp2_with fail;go_ret2;exact⟨by rw[d.out];rfl,T⟩
  | succ q =>
   have e:((q+1:N):V)-1=(q:V):=by omega
   rw[e];obtain⟨x,j⟩:∃x,l[q]?=some x:=⟨_,cR (by omega)⟩;have z:=H.eA.one j;have F:(q:V)<(l.length:V):=by omega
   have f:l.getD q false=x:=by simp[List.getD,j]
   cases x
   ·have a:run l k=pB l k q 0:=by rw[o.out,pB,f];rfl
    have d:=M a;clear a f j;go_wp2_with fail;go_roundw
    case rel=>exact⟨trivial,0,q,T,by go_num,by omega,by omega,d⟩
    case measure=>simp[intOf]
   ·by_cases s:m+1=k
    ·have a:run l k=some q:=by rw[o.out,pB,f,af rfl,af s]
     have d:=M a;have p:(((m:V)+1)==(k:V))=true:=by simp;omega
     clear a f j;go_wp2_with fail;go_ret2;exact⟨by rw[d.out];rfl,T⟩
    ·have a:run l k=pB l k q (m+1):=by rw[o.out,pB,f,af rfl,aa s]
     have d:=M a;have p:(((m:V)+1)==(k:V))=false:=by simp;omega
     clear a f j;go_wp2_with fail;go_roundw
     case rel=>exact⟨trivial,m+1,q,by go_num,by go_num,by omega,by omega,d⟩
     case measure=>simp[intOf]
def lE(l:List Bool)(k:N):N->N->List Nat->List Nat
 | 0,_,acc=>acc
 | q+1,p,acc=>if acc.length<k then lE l k q (p+1) (if l.getD p false=true then acc++[p]else acc)else acc
def di(l:List Bool)(k:N):List Nat:=lE l k l.length 0 []
def off(l:List Bool)(xs:List Nat):List Bool:=xs.foldl (λl j=>l.set j false) l
theorem DM(l:List Bool)(xs:List Nat)(j:N):off l (xs++[j])=(off l xs).set j false:=by simp[off]
theorem zG(l:List Bool)(xs:List Nat):(off l xs).length=l.length:=by
 induction xs generalizing l with
 | nil=>rfl
 | cons j xs a=>show(off (l.set j false) xs).length=_;rw[a,iC]
theorem zF(l:List Bool)(xs:List Nat)(i:N)(h:i∉xs):(off l xs)[i]?=l[i]?:=by
 induction xs generalizing l with
 | nil=>rfl
 | cons j xs b =>
  show(off (l.set j false) xs)[i]?=_;rw[b _ (by intro a;exact h (by simp[a])),kT (by intro e;subst e;simp at h)]
def aI(xs:List Nat):List Int:=xs.map λ(j:N)=>(j:V)
theorem eu:(prog.info? 3).map (λi=>(i.zero,i.size,i.bytes))=some (some (J 0),1,8):=by kernel_rfl
structure He(w:Y)(b g:N)(l:List Bool)(v:Value)(xs:List Nat)(wr:Y):Prop where
 aM:At wr b g (off l xs)
 MC:ac (λk=>k=b\/k=g) w wr
 own:wr.ownsRow w.heap.size 3 1 v xs.length (bI (aI xs))
theorem He.Hx{w wr w1 w2:Y}{b g:N}{l:List Bool}{A:Option Addr}{c:N}{v:Value}{xs:List Nat}{j:N}(h:He w b g l (Z A xs.length c) xs wr)(p:ac (λk=>k=b\/k=g) wr w1)(o:b<w.heap.size/\g<w.heap.size)(n:At w1 b g ((off l xs).set j false))
  (m:(w1.alloc (D #[J j] 3)).grownBy w2 (Z A xs.length c).ownBlock) (e:w2.ownsRow w.heap.size 3 1 v (xs.length+1) (bI (aI xs)++[J j])):He w b g l v (xs++[j]) w2:=by
 have d:∀k,(Z A xs.length c).ownBlock=some k->w.heap.size<=k:=λk a=>(h.own.lt k a).1;have i:ac (λk=>(Z A xs.length c).ownBlock=some k) w1 w2:=((bo w1).alloc _).grown m (λk _ a=>a);refine⟨?_,?_,?_⟩
 ·rw[DM];exact n.MC i (λa=>by have:=d _ a;omega) (λa=>by have:=d _ a;omega)
 ·exact(h.MC.trans p (λ_ _ a=>a)).trans i (λk a f=>by have:=d _ f;omega)
 ·simpa[aI,bI]using e
theorem Ds(b g:N)(l:List Bool)(k:N)(w:Y)(h:At w b g l)(b2:k<=2000):C 288 #[I b 0,J k] w λe w'=>∃v,e=O v/\He w b g l v (di l k) w':=by
 obtain⟨i0,a4,a8,a9,b0⟩:=aR eu;have b1:=h.eA.eT;have a5:b<w.heap.size/\g<w.heap.size:=⟨h.eA.lb,h.eA.lg⟩;have H:=M h;clear h;go_enter func288,ntmps288;go_wp2_with fail;go_loopw [5,6] (λv i wr=>∃(q p:N) (a:List Nat),i=J p/\q+p=l.length/\He w b g l v a wr/\a.length<=p/\(∀x∈a,x<p)/\di l k=lE l k q p a) (λ_ i _=>(l.length-(intOf i).toNat))
 case atStart=>exact⟨l.length,0,[],T,T,⟨H,bo _,jD _ _ _ _⟩,by simp,by simp,T⟩
 case round =>
  obtain⟨q,p,a,rfl,hq,Q,b3,G,s⟩:=hrel;obtain⟨A,c,rfl⟩:=aD Q.own;have n:=M Q;have K:=M s;have X:=M G;have c0:=Q.aM.eA.c0;have F:=zG l a;rw[F]at c0;have o:q+p<=l.length:=by omega
  have r:l.length<=q+p:=by omega
  clear Q s G F hq;cases q with
  | zero =>
   have j:di l k=a:=by rw[K.out];rfl
   have u:=M j;have a6:decide (p<l.length)=false:=by simp;omega
   clear j o r;go_wp2_with fail;go_ret;exact⟨_,T,by rw[u.out];exact n⟩
  | succ q =>
   have a6:decide (p<l.length)=true:=by simp;omega
   by_cases d:a.length<k
   ·have a3:decide (a.length<k)=true:=by simp;omega
    obtain⟨x,m⟩:∃x,l[p]?=some x:=⟨_,cR (by omega)⟩;have y:(off l a)[p]?=some x:=by rw[zF _ _ _ (λhm=>by have:=X.out p hm;omega)];exact m
    have P:l.getD p false=x:=by simp[List.getD,m]
    have a1:=M y;have cx:=n.aM.eA.one y;have i2:(p:V)<(l.length:V):=by omega
    have E:Hid (l.length<=q+1+p):=M r;have t:Hid (q+1+p<=l.length):=M o;clear m y o r;cases x
    ·have j:di l k=lE l k q (p+1) a:=by rw[K.out,lE,af d,P];rfl
     have u:=M j;clear j P;go_wp2_with fail;go_roundw
     case rel=>exact⟨q,p+1,a,by go_num,by have:=E.out;have:=t.out;omega,n,by omega,λx m=>by have:=X x m;omega,u⟩
     case measure=>simp[intOf];omega
    ·have j:di l k=lE l k q (p+1) (a++[p]):=by rw[K.out,lE,af d,P];rfl
     have u:=M j;clear j P;go_wp2_with fail;refine(xp b g (off l a) p _ n.aM a1).mono ?_;rintro e w1⟨rfl,R,-,h1⟩;have O1:=M R;have H1:=M h1;have a2:Hid (w1.ownsRow w.heap.size 3 1 (Z A a.length c) a.length (bI (aI a))):=M (R.own n.own (λk hk e=>by have:=(n.own.lt k hk).1;omega));have a7:Hid (w.heap.size<=w1.heap.size):=M (aF n.MC.size R.size);clear cx c0 R h1;go_wp2_with (at_builtin;refine bT _ T (.tmp 32) (.tmp 34) _ T w.heap.size 3 i0 _ 1 8 underlying25 a4 a8 a9 b0 T (by omega) (Z A a.length c) a.length _ T (aH a2 _) _ 1 1 [J p] T (jd.cI _ _ #[J p] 1 1 _ T T) (by simp[Value.oneCell']) (by simp only[maxLen];omega) (by omega) (by have:=a7.out;simp;omega) ?_;intro v9 w9 f B z;obtain⟨A9,n9,rfl⟩:=aD f;have W:=M f;have S:=M B;clear f B z;go_frame);go_roundw
     case rel=>exact⟨q,p+1,a++[p],by go_num,by have:=E.out;have:=t.out;omega,n.Hx O1 a5 H1 S W,by simp;omega,λx m=>by rcases iE.1 m with m|m;(have:=X x m;omega);(simp at m;omega),u⟩
     case measure=>simp[intOf];omega
   ·have a3:decide (a.length<k)=false:=by simp;omega
    have j:di l k=a:=by rw[K.out,lE,aa d]
    have u:=M j;clear j o r;go_wp2_with fail;go_ret;exact⟨_,T,by rw[u.out];exact n⟩
theorem Bm(l:List Bool)(k:N):∀(i n:N) (r:N),n<k->(∀j,j<n->l[i+j]?=some true)->pB l k i n=some r->∀j,j<k->l[r+j]?=some true:=by
 intro i
 induction i with
 | zero=>intro n r _ _ h;cases h
 | succ i d =>
  intro n r p e h;unfold pB at h;split at h
  ·rename_i b;have f:l[i]?=some true:=by
    simp only[List.getD,Option.getD]at b;split at b
    ·rename_i x m;rw[m,b]
    ·cases b
   have a:∀j,j<n+1->l[i+j]?=some true:=λj c=>by
    rcases kc j with rfl|o
    ·simpa using f
    ·have:=e (j-1) (by omega)
     rwa [show i+1+(j-1)=i+j from by omega]at this
   split at h
   ·rename_i g;injection h with h;subst h;intro j c;exact a j (by omega)
   ·rename_i g;exact d (n+1) r (by omega) a h
  ·exact d 0 r (by omega) (λj c=>by omega) h
theorem pC{l:List Bool}{k r:N}(b:1<=k)(h:run l k=some r):∀j,j<k->l[r+j]?=some true:=Bm l k l.length 0 r (by omega) (λj a=>by omega) h
def take(l:List Bool)(k:N):List Nat:=match run l k with
 | some i=>List.range' i k
 | none=>di l k
theorem rq(b g:N)(l:List Bool)(k:N)(w:Y)(h:At w b g l)(y:1<=k)(a5:k<=cY l):C 232 #[I b 0,J k] w λe w'=>∃v,e=O (.tuple #[v,L true])/\He w b g l v (take l k) w':=by
 obtain⟨i0,Q,a1,a2,a3⟩:=aR eu;have a4:=h.eA.eT;have a6:=mS l;have R:b<w.heap.size/\g<w.heap.size:=⟨h.eA.lb,h.eA.lg⟩;have c1:=h.eA.c1;have d1:decide ((k:V)<1)=false:=by simp;omega
 have d2:decide ((cY l:V)<(k:V))=false:=by simp;omega
 have d3:decide (cY l<k)=false:=by simp;omega
 have H:=M h;have d:=M (ve b g l k w h y (by omega));clear h;rcases o:run l k with _|r
 ·rw[o]at d;have n:take l k=di l k:=by rw[take,o]
  have K:=M n;clear o n;go_enter func232,ntmps232;go_wp2_with fail;refine d.mono ?_;rintro e x⟨rfl,rfl⟩;simp only[Bn];go_wp2_with fail;refine(Ds b g l k w H (by omega)).mono ?_;rintro e x⟨v,rfl,hv⟩;have HV:=M hv;clear hv;go_wp2_with fail;go_ret2;exact⟨_,T,by rw[K.out];exact HV⟩
 ·have j:=pC y o;have a9:r<l.length:=(dH.1 (j 0 (by omega))).1;have a8:r+(k-1)<l.length:=(dH.1 (j (k-1) (by omega))).1;rw[o]at d;have n:take l k=List.range' r k:=by rw[take,o]
  have K:=M n;have G:=M j;clear o n j;go_enter func232,ntmps232;go_wp2_with fail;refine d.mono ?_;rintro e x⟨rfl,rfl⟩;simp only[Bn];go_wp2_with fail;go_loopw [8,9] (λv i wr=>∃m:N,i=J (r+m:N)/\m<=k/\He w b g l v (List.range' r m) wr) (λ_ i _=>(r+k-(intOf i).toNat))
  case atStart=>exact⟨0,by simp,by omega,⟨H,bo _,jD _ _ _ _⟩⟩
  case round =>
   obtain⟨m,rfl,hm,n⟩:=hrel;obtain⟨A,c,rfl⟩:=aD n.own;rw[List.length_range']at *;have f:=M n;clear n;obtain⟨p,t⟩:∃p,r+m=p:=⟨_,T⟩;have HP:=M t;rw[t];by_cases W:m<k
   ·have d4:decide ((p:V)<(r:V)+(k:V))=true:=by simp;omega
    have z:=G m W;rw[t]at z;have u:(off l (List.range' r m))[p]?=some true:=by rw[zF _ _ _ (λS=>by have:=List.mem_range'_1.1 S;omega)];exact z
    have a7:p<l.length:=(dH.1 z).1;have HX:=M u;clear z u t;go_wp2_with fail;refine(xp b g _ p _ f.aM HX).mono ?_;rintro e x⟨rfl,B,-,h1⟩;have O1:=M B;have H1:=M h1;have P:Hid (x.ownsRow w.heap.size 3 1 (Z A m c) m (bI (aI (List.range' r m)))):=M (by have:=B.own f.own (λk y e=>by have:=(f.own.lt k y).1;omega);simpa using this);have X:Hid (w.heap.size<=x.heap.size):=M (aF f.MC.size B.size);clear B h1;go_wp2_with (at_builtin;refine bT _ T (.tmp 42) (.tmp 44) _ T w.heap.size 3 i0 _ 1 8 underlying25 Q a1 a2 a3 T (by omega) (Z A m c) m _ T (aH P _) _ 1 1 [J p] T (jd.cI _ _ #[J p] 1 1 _ T T) (by simp[Value.oneCell']) (by simp only[maxLen];omega) (by omega) (by have:=X.out;simp;omega) ?_;intro v9 w9 a s q;obtain⟨A9,n9,rfl⟩:=aD a;have F:=M a;have E:=M s;clear a s q;go_frame);go_roundw
    case rel =>
     refine⟨m+1,by rw[<-HP.out];first|rfl|(congr 1;omega),by omega,?_⟩;rw[List.range'_concat,Nat.one_mul,HP.out];have hh:=f.out;exact He.Hx (A:=A) (c:=c) (v:=Z A9 (m+1) n9) (xs:=List.range' r m) (by simpa using hh) O1 R H1 (by simpa using E.out) (by simpa using F.out)
    case measure=>have:=HP.out;simp[intOf];omega
   ·obtain rfl:m=k:=by omega
    have d4:decide ((p:V)<(r:V)+(m:V))=false:=by simp;omega
    clear t;go_wp2_with fail;go_ret2;exact⟨_,T,by rw[K.out];simpa using f.out⟩
theorem pQ:(prog.info? 4).map (λi=>(i.zero,i.size,i.bytes))=some (some (L false),1,1):=by kernel_rfl
theorem AW(m:N)(j:m<=1000000)(w:Y):(Instr.makeSlice 33 (J m) (J m)).run prog w=.ok (Z (some (I w.heap.size 0)) m m) (w.alloc (D (da (List.replicate m false)).toArray 4)):=by
 obtain⟨f,a,b,c,d⟩:=aR pQ;rw[run_make w 33 4 f _ underlying33 a b .i64 .i64 m m (by omega) (by omega) (by rw[d];omega) (by omega)];have e:madeCells (L false).cells ((m:V).toNat*f.size)=(da (List.replicate m false)).toArray:=by
  rw[c,iY,ei];apply Array.ext
  ·simp[da,fc]
  ·intro i g h;simp[madeCells,da,Value.cells,Nat.mod_one]
 rw[e];simp
theorem zn(n:N):cY (List.replicate n true)=n:=by simp[cY,List.countP_replicate]
theorem gS(m:N)(w:Y)(z:m<=1024):C 84 #[J m] w λe l=>e=O (.tuple #[I (w.heap.size+1) 0,J 0])/\ae w l/\l.heap.size=w.heap.size+2/\At l (w.heap.size+1) w.heap.size (List.replicate m true):=by
 have A:=λw=>AW m (by omega) w;have F:decide ((m:V)<0)=false:=by simp
 have G:decide ((1024:V)<(m:V))=false:=by simp;omega
 have r:=ai w (D (da (List.replicate m false)).toArray 4);have d:=(ck w).alloc (D (da (List.replicate m false)).toArray 4);have hz:(w.alloc (D (da (List.replicate m false)).toArray 4)).heap.size=w.heap.size+1:=by simp
 have a:=ai (w.alloc (D (da (List.replicate m false)).toArray 4)) (D #[Z (some (I w.heap.size 0)) m m,J m] 211);rw[hz]at a;have f:=ae.MD d ((ck _).alloc (D #[Z (some (I w.heap.size 0)) m m,J m] 211));have c:=ae.bF ((ck _).alloc (D #[Z (some (I w.heap.size 0)) m m,J m] 211)) r;have g:((w.alloc (D (da (List.replicate m false)).toArray 4)).alloc (D #[Z (some (I w.heap.size 0)) m m,J m] 211)).heap.size=w.heap.size+2:=by simp
 have n:Hid (ic ((w.alloc (D (da (List.replicate m false)).toArray 4)).alloc (D #[Z (some (I w.heap.size 0)) m m,J m] 211)) (w.heap.size+1) w.heap.size (List.replicate m false) (m:V)):=M ⟨by simpa using a,c,by simpa using z⟩;have k:=n.c0;rw[lm]at k;have HP:=M f;have x:=M g;clear r d hz a c f g;go_enter func84,ntmps84;go_wp2_with fail;generalize(w.alloc _).alloc _=W at *;clear k;go_loopw [22] (λi wr=>∃q:N,i=J q/\q<=m/\ae w wr/\wr.heap.size=w.heap.size+2/\ic wr (w.heap.size+1) w.heap.size (List.replicate q true++List.replicate (m-q) false) (m:V)) (λi _=>(m-(intOf i).toNat))
 case atStart=>exact⟨0,T,by omega,HP,x,by simpa using n.out⟩
 case round =>
  obtain⟨q,rfl,H,d,hz,b⟩:=hrel;have s:(List.replicate q true++List.replicate (m-q) false).length=m:=by simp;omega
  have P:=M d;have o:=M hz;have j:=M b;have k:=b.c0;rw[s]at k;clear d hz b;by_cases y:q<m
  ·have u:(List.replicate q true++List.replicate (m-q) false)[q]?=some false:=by
    rw[oc (by simp),lm,fj,dI,af (by omega)]
   have B:=j.one u;have E:=j.fg;have K:(q:V)<(m:V):=by omega
   have t:(List.replicate q true++List.replicate (m-q) false).set q true=List.replicate (q+1) true++List.replicate (m-(q+1)) false:=by
    rw[cX _ _ (by simp),lm,fj,show m-q=(m-(q+1))+1 from by omega,fy,dv,List.replicate_succ'];simp
   have v:=M t;clear u t s;go_wp2_with fail;go_roundw
   case rel=>exact⟨q+1,by go_num,by omega,ac.setCell P (p:=⟨w.heap.size,q,none⟩) (λh=>absurd h (Nat.lt_irrefl _)) _,by have:=o.out;simpa[World.setCell]using this,by have:=j.put q true;rwa [v.out]at this⟩
   case measure=>simp[intOf];omega
  ·obtain rfl:q=m:=by omega
   go_wp2_with fail;go_ret2;refine⟨T,P,o,?_⟩;have:=j.out;unfold At;rw[zn];simpa using this
end Po
namespace Mm
def cI(l:List (Nat × Nat)):List Value:=l.map λz=>U z.1 z.2
theorem kl(l:List (Nat × Nat))(j:N)(z:Nat × Nat)(h:l[j]?=some z):(cI l)[j]?=some (U z.1 z.2):=by simp[cI,h]
theorem ji(l:List (Nat × Nat))(j:N)(z:Nat × Nat):cI (l.set j z)=(cI l).set j (U z.1 z.2):=by simp[cI,List.map_set]
structure At(w:Y)(b g:N)(l:List (Nat × Nat)):Prop where
 me:∃c:V,w.heap[b]?=some (D #[Z (some (I g 0)) l.length l.length,J c] 149 (0,0))
 cI:w.heap[g]?=some (D (cI l).toArray 30 (0,0))
 eT:l.length<=1000000
section
variable{w w':Y}{b g:N}{l:List (Nat × Nat)}
theorem At.c0(h:At w b g l):w.cell? (I b 0)=some (Z (some (I g 0)) l.length l.length):=by
 obtain⟨c,a⟩:=h.me;rw[fq 0 a];rfl
theorem At.c1(h:At w b g l):∃c:V,w.cell? (I b 1)=some (J c):=by
 obtain⟨c,a⟩:=h.me;exact⟨c,by rw[fq 1 a];rfl⟩
theorem At.fb(h:At w b g l)(k:N):w.frozen? (I b k)=false:=by
 obtain⟨c,a⟩:=h.me;exact ey k a
theorem At.fg(h:At w b g l)(k:N):w.frozen? (I g k)=false:=ey k h.cI
theorem At.ne(h:At w b g l):b≠g:=by
 rintro rfl;obtain⟨c,a⟩:=h.me;have:=a.symm.trans h.cI;simp at this
theorem At.lb(h:At w b g l):b<w.heap.size:=by
 obtain⟨c,a⟩:=h.me;exact(bR.1 a).1
theorem At.lg(h:At w b g l):g<w.heap.size:=(bR.1 h.cI).1
theorem At.MC{S:N->Prop}(h:At w b g l)(a:ac S w w')(d:¬S b)(f:¬S g):At w' b g l:=by
 obtain⟨c,e⟩:=h.me;exact⟨⟨c,(a.block b h.lb d).trans e⟩,(a.block g h.lg f).trans h.cI,h.eT⟩
theorem At.one(h:At w b g l){j:N}{z:Nat × Nat}(a:l[j]?=some z):w.cell? (I g j)=some (U z.1 z.2):=by
 rw[bK h.cI];simpa using kl l j z a
theorem At.count(h:At w b g l)(v:V):At (w.setCell (I b 1) (J v)) b g l:=by
 obtain⟨c,a⟩:=h.me;exact⟨⟨v,by simp[World.setCell,gV,a]⟩,by simp only[World.setCell,gV,h.cI,aa h.ne],h.eT⟩
theorem At.put(h:At w b g l)(j:N)(z:Nat × Nat):At (w.setCell (I g j) (U z.1 z.2)) b g (l.set j z):=by
 obtain⟨c,a⟩:=h.me;refine⟨⟨c,?_⟩,?_,by simpa using h.eT⟩
 ·simp only[World.setCell,gV,a,aa (bC h.ne),iC]
 ·simp only[World.setCell,gV,h.cI,bP,ji];simp
end
theorem mW(b g:N)(l:List (Nat × Nat))(j:N)(w:Y)(h:At w b g l)(a:j<l.length):C 89 #[I b 0,J j] w λe c=>e=O (L true)/\w=c:=by
 have d:=h.c0;have i:decide ((j:V)<(l.length:V))=true:=by simpa using a
 have f:decide ((0:V)<=(j:V))=true:=by simp
 go_enter func89,ntmps89;go_wp2_with fail;go_ret;exact⟨T,T⟩
theorem GD(b g:N)(l:List (Nat × Nat))(j:N)(z:Nat × Nat)(w:Y)(h:At w b g l)(c:l[j]?=some z):C 202 #[I b 0,J j] w λe d=>e=O (U z.1 z.2)/\w=d:=by
 have f:=h.c0;have c1:=h.one c;have a:j<l.length:=(dH.1 c).1;have i:(j:V)<(l.length:V):=by omega
 go_enter func202,ntmps202;go_wp2_with fail;refine(mW b g l j w h a).mono ?_;rintro e k⟨rfl,rfl⟩;go_wp2_with fail;go_ret;exact⟨T,T⟩
theorem eY(b g:N)(l:List (Nat × Nat))(j:N)(z:Nat × Nat)(w:Y)(h:At w b g l)(f:l[j]?=some z):C 97 #[I b 0,J j] w λe i=>e=O (.tuple #[U z.1 z.2,J 0])/\ac (λk=>k=b) w i/\At i b g l:=by
 have d:j<l.length:=(dH.1 f).1;have s:(j:V)<(l.length:V):=by omega
 obtain⟨c,c1⟩:=h.c1;have r:=h.fb;have a:=M (h.count (wrap64 (c+1)));have m:Hid (ac (λk=>k=b) w (w.setCell (I b 1) (J (wrap64 (c+1))))):=M ((ac.refl (λk=>k=b) w).setCell (p:=⟨b,1,none⟩) (λ_=>T) _);go_enter func97,ntmps97;go_wp2_with fail;generalize w.setCell _ _=n at *;refine(mW b g l j n a d).mono ?_;rintro e t⟨rfl,rfl⟩;have o:=a.c0;have q:=a.one f;go_wp2_with fail;go_ret2;exact⟨T,m,a⟩
theorem lO(b g:N)(l:List (Nat × Nat))(j x y:N)(w:Y)(h:At w b g l)(d:j<l.length):C 192 #[I b 0,J j,U x y] w λe f=>e=O (J 0)/\ac (λk=>k=b\/k=g) w f/\At f b g (l.set j (x,y)):=by
 have s:(j:V)<(l.length:V):=by omega
 obtain⟨c,c1⟩:=h.c1;have q:=h.fb;have a:=M (h.count (wrap64 (c+1)));have i:Hid (ac (λk=>k=b\/k=g) w (w.setCell (I b 1) (J (wrap64 (c+1))))):=M ((ac.refl (λk=>k=b\/k=g) w).setCell (p:=⟨b,1,none⟩) (λ_=>.inl T) _);go_enter func192,ntmps192;go_wp2_with fail;generalize w.setCell _ _=m at *;refine(mW b g l j m a d).mono ?_;rintro e t⟨rfl,rfl⟩;have n:=a.c0;obtain⟨z,hz⟩:∃z,l[j]?=some z:=⟨_,cR d⟩;have o:=a.one hz;have r:=a.fg;go_wp2_with fail;go_ret;exact⟨T,i.setCell (p:=⟨g,j,none⟩) (λ_=>.inr T) _,a.put j (x,y)⟩
theorem Jd(b g:N)(l:List (Nat × Nat))(j x y:N)(w:Y)(h:At w b g l)(a:j<l.length):C 51 #[I b 0,J j,U x y] w λe c=>e=O (.tuple #[])/\ac (λk=>k=b\/k=g) w c/\At c b g (l.set j (x,y)):=by
 have m:(j:V)<(l.length:V):=by omega
 have d:=h.c0;obtain⟨z,hz⟩:∃z,l[j]?=some z:=⟨_,cR a⟩;have f:=h.one hz;have i:=h.fg;go_enter func51,ntmps51;go_wp2_with fail;refine(mW b g l j w h a).mono ?_;rintro e n⟨rfl,rfl⟩;go_wp2_with fail;go_end0;exact⟨T,(ac.refl (λk=>k=b\/k=g) w).setCell (p:=⟨g,j,none⟩) (λ_=>.inr T) _,h.put j (x,y)⟩
theorem oT:(prog.info? 30).map (λi=>(i.zero,i.size,i.bytes))=some (some (U 0 0),1,16):=by kernel_rfl
theorem Gk(m:N)(j:m<=1000000)(w:Y):(Instr.makeSlice 147 (J m) (J m)).run prog w=.ok (Z (some (I w.heap.size 0)) m m) (w.alloc (D (cI (List.replicate m (0,0))).toArray 30)):=by
 obtain⟨f,a,b,c,d⟩:=aR oT;rw[run_make w 147 30 f _ underlying147 a b .i64 .i64 m m (by omega) (by omega) (by rw[d];omega) (by omega)];have e:madeCells (U 0 0).cells ((m:V).toNat*f.size)=(cI (List.replicate m (0,0))).toArray:=by
  rw[c,iY,ei];apply Array.ext
  ·simp[cI,fc]
  ·intro i g h;simp[madeCells,cI,Value.cells,Nat.mod_one]
 rw[e];simp
theorem gS(m:N)(w:Y)(c:m<=1000000):C 44 #[J m] w λe a=>e=O (.tuple #[I (w.heap.size+1) 0,J 0])/\ae w a/\a.heap.size=w.heap.size+2/\At a (w.heap.size+1) w.heap.size (List.replicate m (0,0)):=by
 have h:=λw=>Gk m c w;have i:decide ((m:V)<0)=false:=by simp
 have j:decide ((1048576:V)<(m:V))=false:=by simp;omega
 have b:=ai w (D (cI (List.replicate m (0,0))).toArray 30);have d:=(ck w).alloc (D (cI (List.replicate m (0,0))).toArray 30);have hz:(w.alloc (D (cI (List.replicate m (0,0))).toArray 30)).heap.size=w.heap.size+1:=by simp
 have f:=M b;have HP:=M d;have g:=M hz;clear b d hz;go_enter func44,ntmps44;go_wp2_with fail;go_ret2;refine⟨T,HP.alloc _,by simp,⟨⟨0,?_⟩,?_,by simpa using c⟩⟩
 ·rw[<-g.out,lm];exact ai _ _
 ·exact ae.bF ((ck _).alloc _) f
