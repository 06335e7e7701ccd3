/- Part 52 of the proof of spotop.TopChurn. -/
import Derived.Test.YtpgdiceeimehiaaGreatR51
set_option maxRecDepth 100000
set_option maxHeartbeats 16000000
set_option linter.all false
open Go.Proofs.Tryz
namespace Go.Proofs.YtpgdiceeimehiaaGreat
open RowKit
namespace topChurn
variable{c:Cn}{sh:List Sh}
theorem tS{k:V}(h:mI sh k=none):k<0\/(sh.length:V)<=k:=by
 unfold mI at h;split at h
 ·exact .inl (by assumption)
 ·have:=List.getElem?_eq_none_iff.1 h;exact .inr (by omega)
theorem nJ{k:V}{s:Sh}(h:mI sh k=some s):∃j:N,k=(j:V)/\sh[j]?=some s:=by
 unfold mI at h;split at h
 ·cases h
 ·exact⟨k.toNat,by omega,h⟩
theorem Es(c:Cn)(a:Option Addr)(b:N)(sh:List Sh)(k:V)(w:Y)(d:mI sh k=none):C 7 #[hI c (Z a sh.length b),J k] w λe f=>e=O (.tuple #[.agg #[L false,Z none 0 0],L false])/\ae w f:=mo c a sh.length b k w (tS d)
theorem Er(c:Cn)(a:Option Addr)(b:N)(sh:List Sh)(k:V)(w:Y)(s:Sh)(g:dm w w.heap.size (Z a sh.length b) sh)(f:mI sh k=some s):C 7 #[hI c (Z a sh.length b),J k] w λe h=>e=O (.tuple #[.agg #[L s.a,s.v],L true])/\ae w h:=by
 obtain⟨j,rfl,d⟩:=nJ f;exact jQ c _ sh j s w g d
theorem Gr(c:Cn)(b:Option Addr)(d:N)(sh:List Sh)(k:V)(w:Y)(g:dm w w.heap.size (Z b sh.length d) sh)(a:bk c sh=0)(h:mI sh k=none):C 8 #[hI c (Z b sh.length d),Bb 1 k 0] w λe f=>e=O (.tuple #[J 0,J 0])/\ae w f:=jF c b d sh k 0 w 4 (by decide) g (λf i=>lI c b d sh k 0 4 f (g.pure i) a (lU a).2.2.2.2.1.1 (.inl ⟨tS h,T⟩))
theorem DF(c:Cn)(b:Option Addr)(d:N)(sh:List Sh)(k n:V)(w:Y)(v:Value)(bs:List Bool)(h:dm w w.heap.size (Z b sh.length d) sh)(a:bk c sh=0)(o:mI sh k=some ⟨false,v,bs⟩):C 8 #[hI c (Z b sh.length d),Bb 1 k 0] w λe i=>e=O (.tuple #[J (nE c sh k n).1,J (nE c sh k n).2])/\ae w i:=by
 have p:(gC sh k n).n=0:=by simp[gC,o]
 have f:=(lU a).2.2.2.2.1.1;have g:nE c sh k n=if 0<=bM false bs.length 0/\bM false bs.length 0<=c.ag/\cE false bs.length 0<=c.al then(bM false bs.length 0,cE false bs.length 0)else(0,0):=by
  simp only[nE,o,p]
 obtain⟨j,rfl,m⟩:=nJ o;by_cases s:bM false bs.length 0<0
 ·rw[g,aa (by omega)];exact jF c b d sh j 0 w 5 (by decide) h (λi l=>lI c b d sh j 0 5 i (h.pure l) a f (.inr ⟨j,v,bs,T,m,.inl ⟨s,T⟩⟩))
 ·by_cases q:c.ag<bM false bs.length 0
  ·rw[g,aa (by omega)];exact jF c b d sh j 0 w 7 (by decide) h (λi l=>lI c b d sh j 0 7 i (h.pure l) a f (.inr ⟨j,v,bs,T,m,.inr ⟨by omega,.inl ⟨q,T⟩⟩⟩))
  ·by_cases r:c.al<cE false bs.length 0
   ·rw[g,aa (by omega)];exact jF c b d sh j 0 w 7 (by decide) h (λi l=>lI c b d sh j 0 7 i (h.pure l) a f (.inr ⟨j,v,bs,T,m,.inr ⟨by omega,.inr (.inl ⟨by omega,r,T⟩)⟩⟩))
   ·rw[g,af (by omega)];exact vc c b d sh j v bs 0 w h a f m (by omega) (by omega) (by omega)
theorem DG(c:Cn)(b:Option Addr)(d:N)(sh:List Sh)(k n:V)(w:Y)(v:Value)(bs:List Bool)(h:dm w w.heap.size (Z b sh.length d) sh)(a:bk c sh=0)(o:mI sh k=some ⟨true,v,bs⟩):C 8 #[hI c (Z b sh.length d),Bb 2 k n] w λe i=>e=O (.tuple #[J (nE c sh k n).1,J (nE c sh k n).2])/\ae w i:=by
 have p:(gC sh k n).n=n:=by simp[gC,o]
 have f:=(lU a).2.2.2.2.1.1;have g:nE c sh k n=if 0<=bM true bs.length n/\bM true bs.length n<=c.ag/\cE true bs.length n<=c.al then(bM true bs.length n,cE true bs.length n)else(0,0):=by
  simp only[nE,o,p]
 obtain⟨j,rfl,m⟩:=nJ o;by_cases s:bM true bs.length n<0
 ·rw[g,aa (by omega)];exact ls c b d sh j n w 5 (by decide) h (λi l=>nH c b d sh j n 5 i (h.pure l) a f (.inr ⟨j,v,bs,T,m,.inl ⟨s,T⟩⟩))
 ·by_cases q:c.ag<bM true bs.length n
  ·rw[g,aa (by omega)];exact ls c b d sh j n w 7 (by decide) h (λi l=>nH c b d sh j n 7 i (h.pure l) a f (.inr ⟨j,v,bs,T,m,.inr ⟨by omega,.inl ⟨q,T⟩⟩⟩))
  ·by_cases r:c.al<cE true bs.length n
   ·rw[g,aa (by omega)];exact ls c b d sh j n w 7 (by decide) h (λi l=>nH c b d sh j n 7 i (h.pure l) a f (.inr ⟨j,v,bs,T,m,.inr ⟨by omega,.inr (.inl ⟨by omega,r,T⟩)⟩⟩))
   ·rw[g,af (by omega)];exact vd c b d sh j v bs n w h a f m (by omega) (by omega) (by omega)
def oJ(sh:List Sh)(k:V):Bool:=match mI sh k with
 | none=>false
 | some s=>s.a
theorem Gx{k:V}(n:V)(h:oJ sh k=false):gC sh k n=⟨1,0,k,0,0,0,0⟩:=by
 unfold oJ at h;unfold gC;split at h
 ·next e=>rw[e]
 ·next s e=>rw[e];simp[h]
theorem Gw{k:V}(n:V)(h:oJ sh k=true):gC sh k n=⟨2,0,k,0,n,0,0⟩:=by
 unfold oJ at h;unfold gC;split at h
 ·cases h
 ·next s e=>rw[e];simp[h]
theorem DH(c:Cn)(d:Option Addr)(f:N)(sh:List Sh)(k n:V)(w:Y)(h:dm w w.heap.size (Z d sh.length f) sh)(b:bk c sh=0)(j:oJ sh k=false):C 8 #[hI c (Z d sh.length f),Bb 1 k 0] w λe l=>e=O (.tuple #[J (nE c sh k n).1,J (nE c sh k n).2])/\ae w l:=by
 cases g:mI sh k with
 | none =>
  rw[show nE c sh k n=(0,0)from by simp only[nE,g]];exact Gr c d f sh k w h b g
 | some s =>
  obtain⟨a,v,i⟩:=s;obtain rfl:a=false:=by simpa[oJ,g]using j
  exact DF c d f sh k n w v i h b g
theorem DE(c:Cn)(b:Option Addr)(d:N)(sh:List Sh)(k n:V)(w:Y)(j:dm w w.heap.size (Z b sh.length d) sh)(f:bk c sh=0)(h:oJ sh k=true):C 8 #[hI c (Z b sh.length d),Bb 2 k n] w λe l=>e=O (.tuple #[J (nE c sh k n).1,J (nE c sh k n).2])/\ae w l:=by
 cases g:mI sh k with
 | none=>simp[oJ,g]at h
 | some s =>
  obtain⟨a,v,i⟩:=s;obtain rfl:a=true:=by simpa[oJ,g]using h
  exact DG c b d sh k n w v i j f g
end topChurn
namespace topChurn
open fG
open Ac (Vl dx CT aA jb dj)
open jH
def Bd(dn:N):N:=33320*(dn+1)+2
def Fit(i dn:N)(G:Gh)(l:N):Prop :=
 (i%2=0->i+2*pk G.p G.t G.ib G.nt G.gr l<=Bd dn) /\
 (i%2=1->(vH G.t G.ib G.gr=true->i+2*qd G.p G.t G.ib G.nt G.gr l<=Bd dn+1)/\(vH G.t G.ib G.gr=false->i+2*qd G.p G.t G.ib G.nt G.gr l+1<=Bd dn))
theorem Fit.lt{i b l:N}{G:Gh}(h:Fit i b G l)(f:b<60):i<2000000:=by
 obtain⟨c,a⟩:=h;unfold Bd at c a;rcases Nat.mod_two_eq_zero_or_one i with e|e
 ·have:=c e;omega
 ·cases d:vH G.t G.ib G.gr with
  | true=>have:=(a e).1 d;omega
  | false=>have:=(a e).2 d;omega
theorem Fit.gi{i b l:N}{G a:Gh}(h:Fit i b G l)(d:i%2=0)(f:ue G a l):Fit (i+1) b a l:=by
 obtain⟨j,c⟩:=f;have g:=h.1 d;refine⟨λe=>by omega,λ_=>⟨λe=>?_,λe=>?_⟩⟩
 ·omega
 ·have:=c e;omega
theorem Fit.bj{i c l f:N}{G b:Gh}(h:Fit i c G l)(d:i%2=1)(j:kC G b l f):Fit (i+1) c b f:=by
 obtain⟨k,g⟩:=j;refine⟨λ_=>?_,λe=>by omega⟩;cases a:vH G.t G.ib G.gr with
 | true=>have:=(h.2 d).1 a;have:=g a;omega
 | false=>have:=(h.2 d).2 a;omega
theorem Fit.done{i b l:N}{G a:Gh}(h:Fit i b G l)(g:i%2=1)(d:qd G.p G.t G.ib G.nt G.gr l=1/\vH G.t G.ib G.gr=true)(j:∀l,pk a.p a.t a.ib a.nt a.gr l<=14945)(f:N):Fit (i+1) (b+1) a f:=by
 refine⟨λ_=>?_,λe=>by omega⟩;have c:=(h.2 g).1 d.2;have k:=j f;rw[d.1]at c;unfold Bd at c ⊢;omega
variable{E:gb}{K:aW.Q}{b:Ac.B}{hb lg yb i dn:N}{w0 w a:Y}
structure Lp(w0:Y)(E:gb)(K:aW.Q)(b:Ac.B)(hb lg yb i dn:N)(wr:Y):Prop where
 pu:ae w0 wr
 st:∃κ m s y o,Mt wr E.c K κ m b s yb y hb lg o/\(∀k,CM (κ k)->w0.heap.size<=k) /\
  ((i=0/\dn=0/\m=ja E.c/\s=lT E.n/\y=oU)\/(i=1/\dn=0/\m=ja E.c/\s=lT E.n/\y=oU/\o=.no)\/(2<=i/\s.next=dn/\∃Nq G,Nq+2<=i/\dR E Nq m s y o G/\Fit i dn G s.bz.length))
 le:dn<=E.Lq.length
theorem Lp.pure(h:Lp w0 E K b hb lg yb i dn w)(c:ae w a):Lp w0 E K b hb lg yb i dn a:=by
 obtain⟨g,m,s,y,o,d,e,f⟩:=h.st;exact⟨h.pu.MD c,⟨g,m,s,y,o,d.pure c,e,f⟩,h.le⟩
theorem Lp.lt(d:E.Ok)(h:Lp w0 E K b hb lg yb i dn w)(k:dn<E.Lq.length):i<2000000:=by
 have:=d.Lu;obtain⟨l,m,s,y,o,g,j,c⟩:=h.st;rcases c with⟨rfl,_⟩|⟨rfl,_⟩|⟨_,_,f,G,_,_,e⟩
 ·omega
 ·omega
 ·exact e.lt (by omega)
theorem Lp.step(u:E.Ok)(Q:qU E K b)(h:Lp w0 E K b hb lg yb i dn w)(hd:dn<E.Lq.length)(j:N)(hj:i%2=j):C 10 #[I hb 0,J j] w λe a=>∃d H P v,e=O (nX (j:V) d H P 0 v)/\Lp w0 E K b hb lg yb (i+1) (dn+if d=true then 1 else 0) a:=by
 have hi:=h.lt u hd;have n:=h.le;have a3:=u.Lu;obtain⟨κ,m,s,y,o,B,l,h3⟩:=h.st;rcases h3 with⟨rfl,rfl,rfl,rfl,rfl⟩|⟨rfl,rfl,rfl,rfl,rfl,rfl⟩|⟨h2,z,F,G,hN,hinv,S⟩
 ·obtain rfl:j=0:=by omega
  refine(Ft u B).mono ?_;rintro e a⟨rfl,f,q,c⟩;have k:=aG.out h.pu l q;exact⟨false,0,0,(false,0,0),T,k.1,⟨f,_,_,_,_,c,k.2,.inr (.inl ⟨T,T,T,T,T,T⟩)⟩,by simpa using n⟩
 ·obtain rfl:j=1:=by omega
  refine(Fu u Q B).mono ?_;rintro e a⟨rfl,f,W,X,q,c,p,r,g,t⟩;have k:=aG.out h.pu l q;refine⟨false,0,0,aA,T,k.1,⟨f,_,_,_,_,c,k.2,.inr (.inr ⟨by omega,by simpa using p,0,r,by omega,g,?_⟩)⟩,by simpa using n⟩;refine⟨λ_=>?_,λe=>by omega⟩;have:=t X.bz.length;simp only[Bd];omega
 ·rcases Nat.mod_two_eq_zero_or_one i with A|A
  ·obtain rfl:j=0:=by omega
   refine(Bs u Q (by omega) B hinv).mono ?_;rintro e a⟨rfl,f,W,y',o',q,c,r,g,x⟩;have k:=aG.out h.pu l q;exact⟨false,0,0,(false,0,0),T,k.1,⟨f,_,_,_,_,c,k.2,.inr (.inr ⟨by omega,by simpa using z,F+1,r,by omega,g,by simpa using S.gi A x⟩)⟩,by simpa using n⟩
  ·obtain rfl:j=1:=by omega
   rcases EB u Q (by omega) (by omega) B hinv with R|⟨⟨H,P,v,R⟩,t⟩
   ·refine R.mono ?_;rintro e a⟨rfl,f,W,X,q,c,p,r,g,x⟩;have k:=aG.out h.pu l q;exact⟨false,0,0,aA,T,k.1,⟨f,_,_,_,_,c,k.2,.inr (.inr ⟨by omega,by simpa using p.trans z,F+1,r,by omega,g,by simpa using S.bj A x⟩)⟩,by simpa using n⟩
   ·refine R.mono ?_;rintro e a⟨rfl,f,W,X,q,c,p,r,g,x⟩;have k:=aG.out h.pu l q;exact⟨true,H,P,v,T,k.1,⟨f,_,_,_,_,c,k.2,.inr (.inr ⟨by omega,by simp;omega,F+1,r,by omega,g,by simpa using S.done A (t _) x _⟩)⟩,by simp;omega⟩
theorem Lp.sound(c:E.Ok)(d:K.ba=E.ba)(h:Lp w0 E K b hb lg yb i dn w):C 11 #[I hb 0] w λe a=>e=O (J 0)/\ae w a:=by
 obtain⟨r,m,s,y,o,f,j,g⟩:=h.st;rcases g with⟨rfl,rfl,rfl,rfl,rfl⟩|⟨rfl,rfl,rfl,rfl,rfl,rfl⟩|⟨n,k,l,G,p,hinv,q⟩
 ·exact vj c d f.Fa (I3 c)
 ·exact vj c d f.Fa (I3 c)
 ·exact vj c d f.Fa hinv.fin
