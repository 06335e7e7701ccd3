/- Part 8 of the proof of spotop.TopChurn. -/
import Derived.Test.YtpgdiceeimehiaaGreatR05
set_option maxRecDepth 100000
set_option maxHeartbeats 16000000
set_option linter.all false
open Go.Proofs.Tryz
namespace Go.Proofs.YtpgdiceeimehiaaGreat
open RowKit
section
theorem kE{c:Cn}{l:List Sh}(h:bk c l=0):(gq c).all id=true/\¬c.ag<c.ao*c.aB/\(bl l.length 1 8&&ia l)=true:=by
 unfold bk at h;split at h
 ·simp at h
 ·split at h
  ·simp at h
  ·split at h
   ·simp at h
   ·simp_all
def z0(c:Cn)(l:List Sh):V:=if bk c l=0 then c.ag*8 else 0
def z1(c:Cn)(l:List Sh):V:=if bk c l=0 then c.al else 0
def z3(c:Cn)(l:List Sh):V:=if bk c l=0 then c.ap else 0
theorem nQ{c:Cn}{l:List Sh}(h:bk c l=0):z0 c l=c.ag*8/\z1 c l=c.al/\z3 c l=c.ap:=⟨af h,af h,af h⟩
theorem Lj{c:Cn}{l:List Sh}(h:bk c l≠0):z0 c l=0/\z1 c l=0/\z3 c l=0:=⟨aa h,aa h,aa h⟩
theorem db{c:Cn}{l:List Sh}(h:bk c l=0):4<=c.ag/\c.ag<=1024/\0<=c.al/\c.al<=2048/\0<=c.ap/\c.ap<=8:=by
 obtain⟨a,_,_⟩:=kE h;simp only[gq,bl,List.all_cons,List.all_nil,id,bt,aQ,Bool.and_true,and_assoc]at a;omega
theorem BF(c:Cn)(l:List Sh):0<=z0 c l/\z0 c l<=8192/\0<=z1 c l/\z1 c l<=2048/\0<=z3 c l/\z3 c l<=8:=by
 by_cases h:bk c l=0
 ·obtain⟨a,b,d⟩:=nQ h;have:=db h;omega
 ·obtain⟨a,b,d⟩:=Lj h;omega
theorem Eh{x y z u b y' c a:V}(d:b=x)(e:y'=y)(f:c=z)(g:a=u):O (.agg #[J x,J y,J z,J u])=O (.agg #[J b,J y',J c,J a]):=by rw[d,e,f,g]
theorem zL{x y a y':V}(b:a=x)(c:y'=y):O (.tuple #[J x,J y])=O (.tuple #[J a,J y']):=by rw[b,c]
theorem zM{x y z a y' b:V}(c:a=x)(d:y'=y)(e:b=z):O (.tuple #[J x,J y,J z])=O (.tuple #[J a,J y',J b]):=by rw[c,d,e]
theorem kx(c:Cn)(v:Value)(l:List Sh)(w:Y)(o:dm w w.heap.size v l):C 80 #[hI c v] w λe q=>e=O (.agg #[J (z0 c l),J (z1 c l),J (z1 c l),J (z3 c l)])/\ae w q:=by
 have z:=M (λ(q:Y) (K:ae w q)=>o.pure K);obtain⟨A,i,rfl⟩:∃A i,v=Z A l.length i:=by
  obtain⟨⟨A,i,rfl,_⟩,_⟩:=o;exact⟨A,i,T⟩
 clear o;have y:=(Row.new w c (Z A l.length i)).aj ((bo _).alloc (D #[J 0,J 0,J 0,J 0] 150));have p:=ai (w.alloc (D #[J c.ag,J c.al,J c.ap,J c.ao,J c.ak,J c.aB,J c.be,J c.di,Z A l.length i] 24)) (D #[J 0,J 0,J 0,J 0] 150);rw[show(w.alloc (D #[J c.ag,J c.al,J c.ap,J c.ao,J c.ak,J c.aB,J c.be,J c.di,Z A l.length i] 24)).heap.size=w.heap.size+1 from by simp]at p;have n:=M y;have k:=M p;clear y p;go_enter func80,ntmps80;go_wp2_with fail;generalize(w.alloc _).alloc _=W at *;refine(gK c _ l _ (z _ n.2.2)).mono ?_;by_cases j:bk c l=0
 ·have d:=M (nQ j);have x:=M (db j);rw[j];rintro e g⟨rfl,b⟩;have a:=(b.block _ (bR.1 k).1 (λf=>f)).trans k;have m:=M (n.aj b);obtain⟨R,c1,S,X,c4,c5,c6,c7,c8,_⟩:=m.cells;have B:=ey 0 a;have E:=ey 1 a;have F:=ey 2 a;have G:=ey 3 a;have r:g.cell? (I (w.heap.size+1) 0)=some (J 0):=by rw[bK a];rfl
  have s:g.cell? (I (w.heap.size+1) 1)=some (J 0):=by rw[bK a];rfl
  have t:g.cell? (I (w.heap.size+1) 2)=some (J 0):=by rw[bK a];rfl
  have u:g.cell? (I (w.heap.size+1) 3)=some (J 0):=by rw[bK a];rfl
  have P:4<=c.ag:=x.1;have Q:c.ag<=1024:=x.2.1;clear b a j;go_wp2_with fail;refine au (v:=.agg #[J (c.ag*8),J c.al,J c.al,J c.ap]) (by simp[results,results80,go_sem,r,s,t,u]) T ⟨Eh d.1 d.2.1 d.2.1 d.2.2,?_⟩
  iterate 4 refine ac.setCell ?_ (λh=>absurd h (by simp)) _
  exact m.2.2
 ·have d:=M (Lj j);have H:(bk c l !=0)=true:=by simpa using j
  rintro e g⟨rfl,b⟩;have a:=(b.block _ (bR.1 k).1 (λf=>f)).trans k;have m:=M (n.aj b);have B:=ey 0 a;have E:=ey 1 a;have F:=ey 2 a;have G:=ey 3 a;have r:g.cell? (I (w.heap.size+1) 0)=some (J 0):=by rw[bK a];rfl
  have s:g.cell? (I (w.heap.size+1) 1)=some (J 0):=by rw[bK a];rfl
  have t:g.cell? (I (w.heap.size+1) 2)=some (J 0):=by rw[bK a];rfl
  have u:g.cell? (I (w.heap.size+1) 3)=some (J 0):=by rw[bK a];rfl
  clear b a j;go_wp2_with fail;refine au (v:=.agg #[J 0,J 0,J 0,J 0]) (by simp[results,results80,go_sem,r,s,t,u]) T ⟨Eh d.1 d.2.1 d.2.1 d.2.2,?_⟩
  iterate 4 refine ac.setCell ?_ (λh=>absurd h (by simp)) _
  exact m.2.2
def pre(a b d:V):N->V
 | 0=>0
 | 1=>a
 | 2=>a+b
 | 3=>a+b+b
 | _=>a+b+b+d
theorem kB(c:Cn)(v:Value)(l:List Sh)(w:Y)(j:dm w w.heap.size v l):C 45 #[hI c v] w λe g=>e=O (J (z0 c l+z1 c l+z1 c l+z3 c l))/\ae w g:=by
 have m:=λ(g:Y) (r:ae w g)=>kx c v l g (j.pure r);have q:=BF c l;clear j;generalize z0 c l=a at *;generalize z1 c l=b at *;generalize z3 c l=d at *;obtain⟨a0,t,u,x,y,z⟩:=q;have p:=M m;clear m;have B:∀w,(Instr.index 150 (.agg #[J a,J b,J b,J d]) (J 0)).run prog w=.ok (J a) w:=λ_=>by kernel_rfl
 have E:∀w,(Instr.index 150 (.agg #[J a,J b,J b,J d]) (J 1)).run prog w=.ok (J b) w:=λ_=>by kernel_rfl
 have F:∀w,(Instr.index 150 (.agg #[J a,J b,J b,J d]) (J 2)).run prog w=.ok (J b) w:=λ_=>by kernel_rfl
 have G:∀w,(Instr.index 150 (.agg #[J a,J b,J b,J d]) (J 3)).run prog w=.ok (J d) w:=λ_=>by kernel_rfl
 go_enter func45,ntmps45;go_wp2_with fail;have h:=Row.new w c v;generalize w.alloc _=W at h ⊢;have R:=M h;clear h;refine(p _ R.2.2).mono ?_;rintro e s⟨rfl,f⟩;have o:=M (R.2.2.MD f);clear f;go_wp2_with fail;go_loopw [3,8] (λn i wr=>∃k:N,k<=4/\i=J k/\n=J (pre a b d k)/\wr=s) (λ_ i _=>4-(intOf i).toNat)
 case atStart=>exact⟨0,by omega,by first|rfl|simp,T,T⟩
 case round =>
  obtain⟨k,A,rfl,rfl,rfl⟩:=hrel;rcases(by omega:k=0\/k=1\/k=2\/k=3\/k=4)with rfl|rfl|rfl|rfl|rfl
  ·simp only[pre];go_wp2_with fail;go_roundw
   case rel=>exact⟨1,by omega,by first|rfl|simp,by first|rfl|go_num,by first|trivial|rfl⟩
   case measure=>simp[intOf]
  ·simp only[pre];go_wp2_with fail;go_roundw
   case rel=>exact⟨2,by omega,by first|rfl|simp,by first|rfl|go_num,by first|trivial|rfl⟩
   case measure=>simp[intOf]
  ·simp only[pre];go_wp2_with fail;go_roundw
   case rel=>exact⟨3,by omega,by first|rfl|simp,by first|rfl|go_num,by first|trivial|rfl⟩
   case measure=>simp[intOf]
  ·simp only[pre];go_wp2_with fail;go_roundw
   case rel=>exact⟨4,by omega,by first|rfl|simp,by first|rfl|go_num,by first|trivial|rfl⟩
   case measure=>simp[intOf]
  ·simp only[pre];go_wp2_with fail;go_ret;exact⟨T,o⟩
theorem Ip(c:Cn)(v:Value)(l:List Sh)(k:V)(w:Y)(o:dm w w.heap.size v l)(F:0<=k)(G:k<z0 c l):C 88 #[hI c v,J 1,J k] w λe h=>e=O (.tuple #[J (k+pre (z0 c l) (z1 c l) (z3 c l) 0),J 0])/\ae w h:=by
 have p:=λ(h:Y) (u:ae w h)=>kx c v l h (o.pure u);have t:=BF c l;clear o;generalize z0 c l=a at *;generalize z1 c l=b at *;generalize z3 c l=d at *;obtain⟨a0,y,z,A,B,E⟩:=t;have r:=M p;clear p;go_enter func88,ntmps88;go_wp2_with fail;have m:=Row.new w c v;generalize w.alloc _=W at m ⊢;have R:=M m;clear m;refine(r _ R.2.2).mono ?_;rintro e f⟨rfl,g⟩;have q:=M (R.2.2.MD (ae.MD g ((bo f).alloc (D #[J a,J b,J b,J d] 150))));clear g;go_wp2_with fail;obtain⟨K,P,Q,S⟩:(f.alloc (D #[J a,J b,J b,J d] 150)).cell? (I f.heap.size 0)=some (J a)/\(f.alloc (D #[J a,J b,J b,J d] 150)).cell? (I f.heap.size 1)=some (J b) /\
   (f.alloc (D #[J a,J b,J b,J d] 150)).cell? (I f.heap.size 2)=some (J b)/\(f.alloc (D #[J a,J b,J b,J d] 150)).cell? (I f.heap.size 3)=some (J d):=⟨by simp,by simp,by simp,by simp⟩
 generalize f.alloc _=s at *;generalize f.heap.size=x at *;go_loopw [2,27] (λn i wr=>∃j:N,j<=0/\i=J j/\n=J (k+pre a b d j)/\wr=s) (λ_ i _=>0-(intOf i).toNat)
 case atStart=>exact⟨0,by omega,by first|rfl|simp,by simp[pre],T⟩
 case round =>
  obtain⟨j,H,rfl,rfl,rfl⟩:=hrel;rcases(by omega:j=0)with rfl
  ·simp only[pre];go_wp2_with fail;go_ret2;exact⟨T,q⟩
theorem Iq(c:Cn)(v:Value)(l:List Sh)(k:V)(w:Y)(o:dm w w.heap.size v l)(F:0<=k)(G:k<z1 c l):C 88 #[hI c v,J 2,J k] w λe h=>e=O (.tuple #[J (k+pre (z0 c l) (z1 c l) (z3 c l) 1),J 0])/\ae w h:=by
 have p:=λ(h:Y) (u:ae w h)=>kx c v l h (o.pure u);have t:=BF c l;clear o;generalize z0 c l=a at *;generalize z1 c l=b at *;generalize z3 c l=d at *;obtain⟨a0,y,z,A,B,E⟩:=t;have r:=M p;clear p;go_enter func88,ntmps88;go_wp2_with fail;have m:=Row.new w c v;generalize w.alloc _=W at m ⊢;have R:=M m;clear m;refine(r _ R.2.2).mono ?_;rintro e f⟨rfl,g⟩;have q:=M (R.2.2.MD (ae.MD g ((bo f).alloc (D #[J a,J b,J b,J d] 150))));clear g;go_wp2_with fail;obtain⟨K,P,Q,S⟩:(f.alloc (D #[J a,J b,J b,J d] 150)).cell? (I f.heap.size 0)=some (J a)/\(f.alloc (D #[J a,J b,J b,J d] 150)).cell? (I f.heap.size 1)=some (J b) /\
   (f.alloc (D #[J a,J b,J b,J d] 150)).cell? (I f.heap.size 2)=some (J b)/\(f.alloc (D #[J a,J b,J b,J d] 150)).cell? (I f.heap.size 3)=some (J d):=⟨by simp,by simp,by simp,by simp⟩
 generalize f.alloc _=s at *;generalize f.heap.size=x at *;go_loopw [2,27] (λn i wr=>∃j:N,j<=1/\i=J j/\n=J (k+pre a b d j)/\wr=s) (λ_ i _=>1-(intOf i).toNat)
 case atStart=>exact⟨0,by omega,by first|rfl|simp,by simp[pre],T⟩
 case round =>
  obtain⟨j,H,rfl,rfl,rfl⟩:=hrel;rcases(by omega:j=0\/j=1)with rfl|rfl
  ·simp only[pre];go_wp2_with fail;go_roundw
   case rel=>exact⟨1,by omega,by first|rfl|simp,by first|rfl|go_num,by first|trivial|rfl⟩
   case measure=>simp[intOf]
  ·simp only[pre];go_wp2_with fail;go_ret2;exact⟨T,q⟩
theorem Ir(c:Cn)(v:Value)(l:List Sh)(k:V)(w:Y)(o:dm w w.heap.size v l)(F:0<=k)(G:k<z1 c l):C 88 #[hI c v,J 3,J k] w λe h=>e=O (.tuple #[J (k+pre (z0 c l) (z1 c l) (z3 c l) 2),J 0])/\ae w h:=by
 have p:=λ(h:Y) (u:ae w h)=>kx c v l h (o.pure u);have t:=BF c l;clear o;generalize z0 c l=a at *;generalize z1 c l=b at *;generalize z3 c l=d at *;obtain⟨a0,y,z,A,B,E⟩:=t;have r:=M p;clear p;go_enter func88,ntmps88;go_wp2_with fail;have m:=Row.new w c v;generalize w.alloc _=W at m ⊢;have R:=M m;clear m;refine(r _ R.2.2).mono ?_;rintro e f⟨rfl,g⟩;have q:=M (R.2.2.MD (ae.MD g ((bo f).alloc (D #[J a,J b,J b,J d] 150))));clear g;go_wp2_with fail;obtain⟨K,P,Q,S⟩:(f.alloc (D #[J a,J b,J b,J d] 150)).cell? (I f.heap.size 0)=some (J a)/\(f.alloc (D #[J a,J b,J b,J d] 150)).cell? (I f.heap.size 1)=some (J b) /\
   (f.alloc (D #[J a,J b,J b,J d] 150)).cell? (I f.heap.size 2)=some (J b)/\(f.alloc (D #[J a,J b,J b,J d] 150)).cell? (I f.heap.size 3)=some (J d):=⟨by simp,by simp,by simp,by simp⟩
 generalize f.alloc _=s at *;generalize f.heap.size=x at *;go_loopw [2,27] (λn i wr=>∃j:N,j<=2/\i=J j/\n=J (k+pre a b d j)/\wr=s) (λ_ i _=>2-(intOf i).toNat)
 case atStart=>exact⟨0,by omega,by first|rfl|simp,by simp[pre],T⟩
 case round =>
  obtain⟨j,H,rfl,rfl,rfl⟩:=hrel;rcases(by omega:j=0\/j=1\/j=2)with rfl|rfl|rfl
  ·simp only[pre];go_wp2_with fail;go_roundw
   case rel=>exact⟨1,by omega,by first|rfl|simp,by first|rfl|go_num,by first|trivial|rfl⟩
   case measure=>simp[intOf]
  ·simp only[pre];go_wp2_with fail;go_roundw
   case rel=>exact⟨2,by omega,by first|rfl|simp,by first|rfl|go_num,by first|trivial|rfl⟩
   case measure=>simp[intOf]
  ·simp only[pre];go_wp2_with fail;go_ret2;exact⟨T,q⟩
theorem Iu(c:Cn)(v:Value)(l:List Sh)(k:V)(w:Y)(o:dm w w.heap.size v l)(F:0<=k)(G:k<z3 c l):C 88 #[hI c v,J 4,J k] w λe h=>e=O (.tuple #[J (k+pre (z0 c l) (z1 c l) (z3 c l) 3),J 0])/\ae w h:=by
 have p:=λ(h:Y) (u:ae w h)=>kx c v l h (o.pure u);have t:=BF c l;clear o;generalize z0 c l=a at *;generalize z1 c l=b at *;generalize z3 c l=d at *;obtain⟨a0,y,z,A,B,E⟩:=t;have r:=M p;clear p;go_enter func88,ntmps88;go_wp2_with fail;have m:=Row.new w c v;generalize w.alloc _=W at m ⊢;have R:=M m;clear m;refine(r _ R.2.2).mono ?_;rintro e f⟨rfl,g⟩;have q:=M (R.2.2.MD (ae.MD g ((bo f).alloc (D #[J a,J b,J b,J d] 150))));clear g;go_wp2_with fail;obtain⟨K,P,Q,S⟩:(f.alloc (D #[J a,J b,J b,J d] 150)).cell? (I f.heap.size 0)=some (J a)/\(f.alloc (D #[J a,J b,J b,J d] 150)).cell? (I f.heap.size 1)=some (J b) /\
   (f.alloc (D #[J a,J b,J b,J d] 150)).cell? (I f.heap.size 2)=some (J b)/\(f.alloc (D #[J a,J b,J b,J d] 150)).cell? (I f.heap.size 3)=some (J d):=⟨by simp,by simp,by simp,by simp⟩
 generalize f.alloc _=s at *;generalize f.heap.size=x at *;go_loopw [2,27] (λn i wr=>∃j:N,j<=3/\i=J j/\n=J (k+pre a b d j)/\wr=s) (λ_ i _=>3-(intOf i).toNat)
 case atStart=>exact⟨0,by omega,by first|rfl|simp,by simp[pre],T⟩
 case round =>
  obtain⟨j,H,rfl,rfl,rfl⟩:=hrel;rcases(by omega:j=0\/j=1\/j=2\/j=3)with rfl|rfl|rfl|rfl
  ·simp only[pre];go_wp2_with fail;go_roundw
   case rel=>exact⟨1,by omega,by first|rfl|simp,by first|rfl|go_num,by first|trivial|rfl⟩
   case measure=>simp[intOf]
  ·simp only[pre];go_wp2_with fail;go_roundw
   case rel=>exact⟨2,by omega,by first|rfl|simp,by first|rfl|go_num,by first|trivial|rfl⟩
   case measure=>simp[intOf]
  ·simp only[pre];go_wp2_with fail;go_roundw
   case rel=>exact⟨3,by omega,by first|rfl|simp,by first|rfl|go_num,by first|trivial|rfl⟩
   case measure=>simp[intOf]
  ·simp only[pre];go_wp2_with fail;go_ret2;exact⟨T,q⟩
theorem pT(c:Cn)(v:Value)(l:List Sh)(k:V)(w:Y)(h:dm w w.heap.size v l)(g:bk c l=0)(n:0<=k)(o:k<c.ap):C 50 #[hI c v,J k] w λe f=>e=O (.tuple #[J (8*c.ag+2*c.al+k),J 0])/\ae w f:=by
 have i:=M (λ(f:Y) (p:ae w f)=>h.pure p);have hz:=nQ g;have b:k<z3 c l:=by omega
 have j:=M hz;clear h g hz o;go_enter func50,ntmps50;go_wp2_with fail;have d:=Row.new w c v;generalize w.alloc _=W at d ⊢;have R:=M d;clear d;refine(Iu c _ l k _ (i _ R.2.2) n b).mono ?_;rintro e q⟨rfl,a⟩;have m:=M (R.2.2.MD a);clear a;go_wp2_with fail;go_ret2;exact⟨zL (by have:=j.out;simp only[pre];omega) T,m⟩
theorem ni(c:Cn)(v:Value)(l:List Sh)(s k:V)(w:Y)(n:dm w w.heap.size v l)(m:bk c l=0)(q:s=0\/s=1)(j:0<=k)(o:k<c.al):C 235 #[hI c v,J s,J k] w λe g=>e=O (.tuple #[J (8*c.ag+s*c.al+k),J 0])/\ae w g:=by
 have h:=M (λ(g:Y) (p:ae w g)=>n.pure p);have hz:=nQ m;have d:k<z1 c l:=by omega
 have i:=M hz;clear n m hz o;rcases q with rfl|rfl
 ·go_enter func235,ntmps235;go_wp2_with fail;have b:=Row.new w c v;generalize w.alloc _=W at b ⊢;have R:=M b;clear b;refine(Iq c _ l k _ (h _ R.2.2) j d).mono ?_;rintro e r⟨rfl,a⟩;have f:=M (R.2.2.MD a);clear a;go_wp2_with fail;go_ret2;exact⟨zL (by have:=i.out;simp only[pre];omega) T,f⟩
 ·go_enter func235,ntmps235;go_wp2_with fail;have b:=Row.new w c v;generalize w.alloc _=W at b ⊢;have R:=M b;clear b;refine(Ir c _ l k _ (h _ R.2.2) j d).mono ?_;rintro e r⟨rfl,a⟩;have f:=M (R.2.2.MD a);clear a;go_wp2_with fail;go_ret2;exact⟨zL (by have:=i.out;simp only[pre];omega) T,f⟩
theorem lZ(c:Cn)(v:Value)(l:List Sh)(i k:V)(w:Y)(m:dm w w.heap.size v l)(h:bk c l=0)(P:0<=i)(Q:i<c.ag)(X:0<=k)(k1:k<8):C 203 #[hI c v,J i,J k] w λe o=>e=O (.tuple #[J (8*i+k),J 0])/\ae w o:=by
 have p:=M (λ(o:Y) (x:ae w o)=>m.pure x);obtain⟨A,a,rfl⟩:∃A a,v=Z A l.length a:=by
  obtain⟨⟨A,a,rfl,_⟩,_⟩:=m;exact⟨A,a,T⟩
 have hz:=nQ h;have u:=db h;have d:i*8+k<z0 c l:=by omega
 have b:0<=i*8+k:=by omega
 have S:i<=1024:=by omega
 have s:=M h;have q:=M b;have r:=M d;clear m h hz u b d;go_enter func203,ntmps203;go_wp2_with fail;have n:=Row.new w c (Z A l.length a);generalize w.alloc _=W at n ⊢;have R:=M n;clear n;refine(gK c _ l _ (p _ R.2.2)).mono ?_;rw[s.out];rintro e w1⟨rfl,f⟩;have j:=M (R.aj f);clear f;obtain⟨y,c1,z,B,E,F,G,H,K,_⟩:=j.cells;go_wp2_with fail;refine(Ip c _ l (i*8+k) _ (p _ j.2.2) q r).mono ?_;rintro e w2⟨rfl,g⟩;have t:=M (j.2.2.MD g);clear g;go_wp2_with fail;go_ret2;exact⟨zL (by simp only[pre];omega) T,t⟩
def DL(a b d x:V):Int × Int × Int:=if x<0 then(0,0,0)else if x<a then(1,x/8,x%8)else if x<a+b then(2,0,x-a)else if x<a+b+b then(3,0,x-a-b)else if x<a+b+b+d then(4,0,x-a-b-b)else(0,0,0)
theorem om(c:Cn)(v:Value)(l:List Sh)(x:V)(w:Y)(z:dm w w.heap.size v l)(H:x<=9223372036854775807):C 76 #[hI c v,J x] w λe r=>e=O (.tuple #[J (DL (z0 c l) (z1 c l) (z3 c l) x).1,J (DL (z0 c l) (z1 c l) (z3 c l) x).2.1,J (DL (z0 c l) (z1 c l) (z3 c l) x).2.2])/\ae w r:=by
 have A:=λ(r:Y) (G:ae w r)=>kx c v l r (z.pure G);have E:=BF c l;clear z;generalize z0 c l=a at *;generalize z1 c l=b at *;generalize z3 c l=d at *;obtain⟨a0,P,Q,S,X,d1⟩:=E;have B:=M A;clear A;have i0:∀w,(Instr.index 150 (.agg #[J a,J b,J b,J d]) (J 0)).run prog w=.ok (J a) w:=λ_=>by kernel_rfl
 have i1:∀w,(Instr.index 150 (.agg #[J a,J b,J b,J d]) (J 1)).run prog w=.ok (J b) w:=λ_=>by kernel_rfl
 have i2:∀w,(Instr.index 150 (.agg #[J a,J b,J b,J d]) (J 2)).run prog w=.ok (J b) w:=λ_=>by kernel_rfl
 have i3:∀w,(Instr.index 150 (.agg #[J a,J b,J b,J d]) (J 3)).run prog w=.ok (J d) w:=λ_=>by kernel_rfl
 by_cases u:x<0
 ·have f:DL a b d x=(0,0,0):=af u;rw[f];clear f;go_enter func76,ntmps76;go_wp2_with fail;go_ret3;exact⟨T,(bo w).alloc _⟩
 ·have m:=M (show DL a b d x=if x<a then(1,x/8,x%8)else if x<a+b then(2,0,x-a)else if x<a+b+b then(3,0,x-a-b)else if x<a+b+b+d then(4,0,x-a-b-b)else(0,0,0)from aa u);generalize DL a b d x=o at *;have y:0<=x:=by omega
  clear u;go_enter func76,ntmps76;go_wp2_with fail;have t:=Row.new w c v;generalize w.alloc _=W at t ⊢;have R:=M t;clear t;refine(B _ R.2.2).mono ?_;rintro e K⟨rfl,q⟩;have p:=M (R.2.2.MD q);clear q;go_wp2_with fail;go_loopw [1,13] (λn i wr=>∃k:N,k<=4/\i=J k/\n=J (x-pre a b d k)/\pre a b d k<=x/\wr=K) (λ_ i _=>4-(intOf i).toNat)
  case atStart=>exact⟨0,by omega,by first|rfl|simp,by simp[pre],by simpa[pre]using y,T⟩
  case round =>
   obtain⟨k,hk,rfl,rfl,F,rfl⟩:=hrel;rcases(by omega:k=0\/k=1\/k=2\/k=3\/k=4)with rfl|rfl|rfl|rfl|rfl
   ·simp only[pre]at *;by_cases j:x<a
    ·have f:o=(1,x/8,x%8):=by rw[m.out];rw[af (by omega)]
     have g:=M f;clear f;have h:¬a<=x-0:=by omega
     have s:0<=x-0:=by omega
     go_wp2_with fail;go_ret3;exact⟨by rw[g.out];exact zM (by first|rfl|(dsimp only;omega)) (by first|rfl|(dsimp only;omega)) (by first|rfl|(dsimp only;omega)),p⟩
    ·have h:a<=x-0:=by omega
     go_wp2_with fail;go_roundw
     case rel=>exact⟨1,by omega,by first|rfl|simp,by first|rfl|go_num,by first|omega|(simp only[pre];omega),by first|trivial|rfl⟩
     case measure=>simp[intOf]
   ·simp only[pre]at *;by_cases j:x<a+b
    ·have f:o=(2,0,x-a):=by rw[m.out];rw[aa (by omega)];rw[af (by omega)]
     have g:=M f;clear f;have h:¬b<=x-(a):=by omega
     have s:0<=x-(a):=by omega
     go_wp2_with fail;go_ret3;exact⟨by rw[g.out];exact zM (by first|rfl|(dsimp only;omega)) (by first|rfl|(dsimp only;omega)) (by first|rfl|(dsimp only;omega)),p⟩
    ·have h:b<=x-(a):=by omega
     go_wp2_with fail;go_roundw
     case rel=>exact⟨2,by omega,by first|rfl|simp,by first|rfl|go_num,by first|omega|(simp only[pre];omega),by first|trivial|rfl⟩
     case measure=>simp[intOf]
   ·simp only[pre]at *;by_cases j:x<a+b+b
    ·have f:o=(3,0,x-a-b):=by rw[m.out];rw[aa (by omega)];rw[aa (by omega)];rw[af (by omega)]
     have g:=M f;clear f;have h:¬b<=x-(a+b):=by omega
     have s:0<=x-(a+b):=by omega
     go_wp2_with fail;go_ret3;exact⟨by rw[g.out];exact zM (by first|rfl|(dsimp only;omega)) (by first|rfl|(dsimp only;omega)) (by first|rfl|(dsimp only;omega)),p⟩
    ·have h:b<=x-(a+b):=by omega
     go_wp2_with fail;go_roundw
     case rel=>exact⟨3,by omega,by first|rfl|simp,by first|rfl|go_num,by first|omega|(simp only[pre];omega),by first|trivial|rfl⟩
     case measure=>simp[intOf]
   ·simp only[pre]at *;by_cases j:x<a+b+b+d
    ·have f:o=(4,0,x-a-b-b):=by rw[m.out];rw[aa (by omega)];rw[aa (by omega)];rw[aa (by omega)];rw[af (by omega)]
     have g:=M f;clear f;have h:¬d<=x-(a+b+b):=by omega
     have s:0<=x-(a+b+b):=by omega
     go_wp2_with fail;go_ret3;exact⟨by rw[g.out];exact zM (by first|rfl|(dsimp only;omega)) (by first|rfl|(dsimp only;omega)) (by first|rfl|(dsimp only;omega)),p⟩
    ·have h:d<=x-(a+b+b):=by omega
     go_wp2_with fail;go_roundw
     case rel=>exact⟨4,by omega,by first|rfl|simp,by first|rfl|go_num,by first|omega|(simp only[pre];omega),by first|trivial|rfl⟩
     case measure=>simp[intOf]
   ·simp only[pre]at *;have f:o=(0,0,0):=by rw[m.out,aa (by omega),aa (by omega),aa (by omega),aa (by omega)]
    have g:=M f;clear f;go_wp2_with fail;go_ret3;exact⟨by rw[g.out];rfl,p⟩
end
section
theorem mc(n a b:V)(w:Y):C 79 #[J n,J a,J b] w λe c=>e=O (L (bl n a b))/\w=c:=by
 by_cases h:a<=n
 ·go_enter func79,ntmps79;go_wp2;go_ret;exact⟨eH (by simp[bl,h]),T⟩
 ·go_enter func79,ntmps79;go_wp2;go_ret;exact⟨eH (by rw[bl,dT (show ¬a<=n by omega)];rfl),T⟩
theorem eJ(a:Bool)(A:Option Addr)(n c:N)(w:Y)(h:n<=9223372036854775807):C 42 #[nP a A n c] w λe g=>e=O (L (gZ a n))/\ae w g:=by
 cases a
 ·by_cases b:n<=40
  ·go_enter func42,ntmps42;go_wp2;go_ret;exact⟨eH (by simp[gZ,b];omega),(bo _).alloc _⟩
  ·go_enter func42,ntmps42;go_wp2;go_ret;exact⟨eH (by simp[gZ,b];omega),(bo _).alloc _⟩
 ·by_cases d:n=1
  ·subst d;go_enter func42,ntmps42;go_wp2;go_ret;exact⟨eH (by simp[gZ]),(bo _).alloc _⟩
  ·have f:((n:V)==1)=false:=by simp;omega
   go_enter func42,ntmps42;go_wp2;go_ret;exact⟨eH (by simp[gZ,d]),(bo _).alloc _⟩
theorem iP{c:Cn}{l:List Sh}{b:Bool}(a:b∈gq c)(h:b=false):bk c l=1:=by
 subst h;rw[bk,af];simp only[List.all_eq_false];exact⟨false,a,by simp⟩
theorem pz(c:Cn)(v:Value)(l:List Sh)(w:Y)(hl:dm w w.heap.size v l):C 41 #[hI c v] w λe w'=>e=O (J (bk c l))/\ae w w':=by
 have HL:=M (λ(w':Y) (o:ae w w')=>hl.pure o);obtain⟨⟨A,cc,rfl,h1,h2,x⟩,h4⟩:=hl;have H3:=M x;have H4:=M h4;clear x h4;have H2:=M h2;have H1:=M h1;clear h1 h2;go_enter func41,ntmps41;go_wp2_with fail;have y:=Row.new w c (Z A l.length cc);generalize w.alloc _=W at y ⊢;generalize w.heap.size=X at y H3 H4 ⊢;have R:=M y;obtain⟨c0,c1,c2,c3,c4,c5,c6,c7,c8,_⟩:=y.cells;clear y;refine(mc c.ag 4 1024 W).mono ?_;rintro e h⟨rfl,rfl⟩;cases t0:bl c.ag 4 1024 with
 | false =>
  have f:=M t0;clear t0;go_wp2;go_ret;exact⟨dP (iP (by simp[gq]) f),R.2.2⟩
 | true =>
  have a2:=M t0;clear t0;go_wp2_with fail;refine(mc c.al 0 2048 W).mono ?_;rintro e h⟨rfl,rfl⟩;cases t1:bl c.al 0 2048 with
  | false =>
   have f:=M t1;clear t1;go_wp2;go_ret;exact⟨dP (iP (by simp[gq]) f),R.2.2⟩
  | true =>
   have a3:=M t1;clear t1;go_wp2_with fail;refine(mc c.ap 0 8 W).mono ?_;rintro e h⟨rfl,rfl⟩;cases t2:bl c.ap 0 8 with
   | false =>
    have f:=M t2;clear t2;go_wp2;go_ret;exact⟨dP (iP (by simp[gq]) f),R.2.2⟩
   | true =>
    have a4:=M t2;clear t2;go_wp2_with fail;refine(mc c.ao 1 16 W).mono ?_;rintro e h⟨rfl,rfl⟩;cases H:bl c.ao 1 16 with
    | false =>
     have f:=M H;clear H;go_wp2;go_ret;exact⟨dP (iP (by simp[gq]) f),R.2.2⟩
    | true =>
     have r:=M H;clear H;go_wp2_with fail;refine(mc c.ak 1 8 W).mono ?_;rintro e h⟨rfl,rfl⟩;cases K:bl c.ak 1 8 with
     | false =>
      have f:=M K;clear K;go_wp2;go_ret;exact⟨dP (iP (by simp[gq]) f),R.2.2⟩
     | true =>
      have a5:=M K;clear K;go_wp2_with fail;refine(mc c.aB 0 8 W).mono ?_;rintro e h⟨rfl,rfl⟩;cases P:bl c.aB 0 8 with
      | false =>
       have f:=M P;clear P;go_wp2;go_ret;exact⟨dP (iP (by simp[gq]) f),R.2.2⟩
      | true =>
       have t:=M P;clear P;go_wp2_with fail;refine(mc c.be 1 256 W).mono ?_;rintro e h⟨rfl,rfl⟩;cases Q:bl c.be 1 256 with
       | false =>
        have f:=M Q;clear Q;go_wp2;go_ret;exact⟨dP (iP (by simp[gq]) f),R.2.2⟩
       | true =>
        have a6:=M Q;clear Q;go_wp2_with fail;refine(mc c.di 0 c.ag W).mono ?_;rintro e h⟨rfl,rfl⟩;cases S:bl c.di 0 c.ag with
        | false =>
         have f:=M S;clear S;go_wp2;go_ret;exact⟨dP (iP (by simp[gq]) f),R.2.2⟩
        | true =>
         have a7:=M S;clear S;have a:(gq c).all id=true:=by
          simp[gq,a2.out,a3.out,a4.out,r.out,a5.out,t.out,a6.out,a7.out]
         have hb:0<=c.ao*c.aB/\c.ao*c.aB<=128:=by
          have x:bl c.ao 1 16=true:=r;have h5:bl c.aB 0 8=true:=t;simp only[bl,bt,aQ]at x h5;refine⟨Int.mul_nonneg (by omega) (by omega),Int.le_trans (fO x.2 h5.1) (by omega)⟩
         have e1:bk c l=if c.ag<c.ao*c.aB then 1 else if(bl l.length 1 8&&ia l)=false then 4 else 0:=by
          rw[bk,aa (by rw[a];simp)]
         have E1:=M e1;clear e1 a;by_cases hf:c.ag<c.ao*c.aB
         ·have q:=M (E1.trans (af hf));go_wp2;go_ret;refine⟨?_,R.2.2⟩;rw[q.out];rfl
         ·have q:=M (E1.trans (aa hf));go_wp2_with fail;refine(mc (l.length:V) 1 8 _).mono ?_;rintro e w2⟨rfl,rfl⟩;clear hb hf c0 c1 c2 c3 c4 c5 c6 c7;cases z:bl (l.length:V) 1 8 with
          | false =>
           have HW:=M z;clear z;go_wp2;go_ret;refine⟨?_,R.2.2⟩;have u:bk c l=4:=by rw[q.out,HW.out];simp
           rw[u];rfl
          | true =>
           have b5:l.length<=8:=by
            simp only[bl,bt,aQ]at z;omega
           have HW:=M z;clear z;go_wp2_with fail;go_loopw [3] (λi wr=>∃k:N,k<=l.length/\i=J k/\(∀j,j<k->∀s,l[j]?=some s->gZ s.a s.bs.length=true)/\ae W wr) (λi _=>l.length-(intOf i).toNat)
           case atStart=>exact⟨0,aw _,T,(by omega),bo _⟩
           case round =>
            obtain⟨k,hk,rfl,a,o⟩:=hrel;have m:=M a;have HP:=M (R.2.2.MD o);have b1:=o.aj c8;have a1:=M o;clear a o;by_cases a9:k<l.length
            ·obtain⟨b,off,hA,hb,hc⟩:=H3 (by omega);subst hA;obtain⟨s,p⟩:∃s,l[k]?=some s:=⟨l[k],cR a9⟩;obtain⟨d1,F⟩:=hc k s p;obtain⟨B,d,hv,a8,b4,_⟩:=H4 s (cZ p);rw[hv]at F;rw[bV]at F a8;have b2:=HP.aj d1;have b3:=HP.aj F;have HS:=M p;clear hc d1 F hv p;cases G:gZ s.a s.bs.length with
             | false =>
              have HM:=M G;go_wp2_with fail;refine(eJ s.a B s.bs.length d _ (by omega)).mono ?_;rw[G];rintro e h⟨rfl,g⟩;have P1:=M (HP.MD g);clear g;go_wp2;go_ret;refine⟨?_,P1⟩;have b0:ia l=false:=by
               simp only[ia,List.all_eq_false];exact⟨s,cZ HS,by rw[HM.out];simp⟩
              have u:bk c l=4:=by rw[q.out,b0];simp
              rw[u];rfl
             | true =>
              have HM:=M G;go_wp2_with fail;refine(eJ s.a B s.bs.length d _ (by omega)).mono ?_;rw[G];rintro e h⟨rfl,g⟩;have P1:=M (a1.MD g);clear g;go_wp2;go_roundw
              case rel =>
               refine⟨k+1,by omega,by first|rfl|simp,?_,P1⟩;intro j hj s' n;by_cases e:j<k
               ·exact m j e s' n
               ·obtain rfl:j=k:=by omega
                rw[HS.out]at n;cases n;exact HM
              case measure=>simp[intOf];omega
            ·obtain rfl:k=l.length:=by omega
             go_wp2;go_ret;refine⟨?_,HP⟩;have E:ia l=true:=by
              simp only[ia,List.all_eq_true];intro s p;obtain⟨j,hj,e⟩:=fa.1 p;exact m j hj s (by rw[cR hj,e])
             have u:bk c l=0:=by rw[q.out,E,HW.out];simp
             rw[u];rfl
end
section
theorem jQ(c:Cn)(v:Value)(l:List Sh)(k:N)(s:Sh)(w:Y)(r:dm w w.heap.size v l)(a:l[k]?=some s):C 7 #[hI c v,J k] w λe u=>e=O (.tuple #[.agg #[L s.a,s.v],L true])/\ae w u:=by
 obtain⟨⟨A,m,rfl,y,z,h⟩,i⟩:=r;have t:=(dH.1 a).1;obtain⟨b,off,o,E,j⟩:=h (by omega);subst o;obtain⟨x,n⟩:=j k s a;obtain⟨B,d,g,p,q,_⟩:=i s (cZ a);rw[g]at n;have f:ae w ((w.alloc (D #[J c.ag,J c.al,J c.ap,J c.ao,J c.ak,J c.aB,J c.be,J c.di,Z (some (I b off)) l.length m] 24)).alloc (D #[L s.a,s.v] 35)):=((bo _).alloc _).alloc _;rw[g]at f ⊢;have HP:=M f;clear h i j a g f;go_enter func7,ntmps7;go_wp2_with (fail);exact au (v:=.tuple #[.agg #[L s.a,Z B (da s.bs).length d],L true]) (by simp[results,results7,go_sem]) T ⟨T,HP⟩
theorem mo(c:Cn)(A:Option Addr)(n cc:N)(k:V)(w:Y)(a:k<0\/(n:V)<=k):C 7 #[hI c (Z A n cc),J k] w λe b=>e=O (.tuple #[.agg #[L false,Z none 0 0],L false])/\ae w b:=by
 have HP:=M (((ck w).alloc (D #[J c.ag,J c.al,J c.ap,J c.ao,J c.ak,J c.aB,J c.be,J c.di,Z A n cc] 24)).alloc (D #[L false,Z none 0 0] 35));by_cases d:k<0
 ·clear a;go_enter func7,ntmps7;go_wp2_with (fail);exact au (v:=.tuple #[.agg #[L false,Z none 0 0],L false]) (by simp[results,results7,go_sem]) T ⟨T,HP⟩
 ·have f:(n:V)<=k:=by omega
  clear a;go_enter func7,ntmps7;go_wp2_with (fail);exact au (v:=.tuple #[.agg #[L false,Z none 0 0],L false]) (by simp[results,results7,go_sem]) T ⟨T,HP⟩
