/- Part 20 of the proof of spotop.TopChurn. -/
import Derived.Test.YtpgdiceeimehiaaGreatR17
set_option maxRecDepth 100000
set_option maxHeartbeats 16000000
set_option linter.all false
open Go.Proofs.Tryz
namespace Go.Proofs.YtpgdiceeimehiaaGreat
open RowKit
namespace Fd
theorem iU{w:Y}{X:N}{a b:Value}(h:w.heap[X]?=some (D #[a,b] 35 (0,0))):w.cell? (I X 0)=some a/\w.cell? (I X 1)=some b:=by
 refine⟨?_,?_⟩<;>(rw[bK h];rfl)
structure St where
 head:N
 k:N
 pc:V
 aM:V
 DZ:Bool
 e:V
def cs(c:Cn)(v:Value)(s:St)(n:V):Array Value:=#[J c.ag,J c.al,J c.ap,J c.ao,J c.ak,J c.aB,J c.be,J c.di,v,J s.head,J s.k,L false,J s.pc,J s.head,J 0,J 0,J 0,J 0,J 0,J s.aM,L s.DZ,J s.e,J n]
structure At(w:Y)(fb:N)(c:Cn)(v:Value)(sh:List Sh)(s:St):Prop where
 me:∃n:V,w.heap[fb]?=some (D (cs c v s n) 295 (0,0))
 cH:dm w w.heap.size v sh
 ok:bk c sh=0
 ro:∀k,mK v sh k->k≠fb
section
variable{w w':Y}{a:N}{c:Cn}{v:Value}{sh:List Sh}{s:St}
theorem At.p0(h:At w a c v sh s):w.cell? (I a 0)=some (J c.ag):=by
 obtain⟨n,b⟩:=h.me;rw[bK b];rfl
theorem At.p1(h:At w a c v sh s):w.cell? (I a 1)=some (J c.al):=by
 obtain⟨n,b⟩:=h.me;rw[bK b];rfl
theorem At.p2(h:At w a c v sh s):w.cell? (I a 2)=some (J c.ap):=by
 obtain⟨n,b⟩:=h.me;rw[bK b];rfl
theorem At.p3(h:At w a c v sh s):w.cell? (I a 3)=some (J c.ao):=by
 obtain⟨n,b⟩:=h.me;rw[bK b];rfl
theorem At.p4(h:At w a c v sh s):w.cell? (I a 4)=some (J c.ak):=by
 obtain⟨n,b⟩:=h.me;rw[bK b];rfl
theorem At.p5(h:At w a c v sh s):w.cell? (I a 5)=some (J c.aB):=by
 obtain⟨n,b⟩:=h.me;rw[bK b];rfl
theorem At.p6(h:At w a c v sh s):w.cell? (I a 6)=some (J c.be):=by
 obtain⟨n,b⟩:=h.me;rw[bK b];rfl
theorem At.p7(h:At w a c v sh s):w.cell? (I a 7)=some (J c.di):=by
 obtain⟨n,b⟩:=h.me;rw[bK b];rfl
theorem At.p8(h:At w a c v sh s):w.cell? (I a 8)=some (v):=by
 obtain⟨n,b⟩:=h.me;rw[bK b];rfl
theorem At.p9(h:At w a c v sh s):w.cell? (I a 9)=some (J s.head):=by
 obtain⟨n,b⟩:=h.me;rw[bK b];rfl
theorem At.sq(h:At w a c v sh s):w.cell? (I a 10)=some (J s.k):=by
 obtain⟨n,b⟩:=h.me;rw[bK b];rfl
theorem At.kv(h:At w a c v sh s):w.cell? (I a 11)=some (L false):=by
 obtain⟨n,b⟩:=h.me;rw[bK b];rfl
theorem At.jc(h:At w a c v sh s):w.cell? (I a 12)=some (J s.pc):=by
 obtain⟨n,b⟩:=h.me;rw[bK b];rfl
theorem At.pt(h:At w a c v sh s):w.cell? (I a 13)=some (J s.head):=by
 obtain⟨n,b⟩:=h.me;rw[bK b];rfl
theorem At.rf(h:At w a c v sh s):w.cell? (I a 14)=some (J 0):=by
 obtain⟨n,b⟩:=h.me;rw[bK b];rfl
theorem At.qC(h:At w a c v sh s):w.cell? (I a 15)=some (J 0):=by
 obtain⟨n,b⟩:=h.me;rw[bK b];rfl
theorem At.tP(h:At w a c v sh s):w.cell? (I a 16)=some (J 0):=by
 obtain⟨n,b⟩:=h.me;rw[bK b];rfl
theorem At.vG(h:At w a c v sh s):w.cell? (I a 17)=some (J 0):=by
 obtain⟨n,b⟩:=h.me;rw[bK b];rfl
theorem At.rh(h:At w a c v sh s):w.cell? (I a 18)=some (J 0):=by
 obtain⟨n,b⟩:=h.me;rw[bK b];rfl
theorem At.xJ(h:At w a c v sh s):w.cell? (I a 19)=some (J s.aM):=by
 obtain⟨n,b⟩:=h.me;rw[bK b];rfl
theorem At.Fc(h:At w a c v sh s):w.cell? (I a 20)=some (L s.DZ):=by
 obtain⟨n,b⟩:=h.me;rw[bK b];rfl
theorem At.Lm(h:At w a c v sh s):w.cell? (I a 21)=some (J s.e):=by
 obtain⟨n,b⟩:=h.me;rw[bK b];rfl
theorem At.LZ(h:At w a c v sh s):∃n:V,w.cell? (I a 22)=some (J n):=by
 obtain⟨n,b⟩:=h.me;exact⟨n,by rw[bK b];rfl⟩
theorem At.fz(h:At w a c v sh s)(k:N):w.frozen? (I a k)=false:=by
 obtain⟨n,b⟩:=h.me;exact ey k b
theorem At.lt(h:At w a c v sh s):a<w.heap.size:=by
 obtain⟨n,b⟩:=h.me;exact(bR.1 b).1
theorem At.MC{Tq:N->Prop}(h:At w a c v sh s)(b:ac Tq w w')(d:¬Tq a)(f:∀k,mK v sh k->¬Tq k):At w' a c v sh s:=by
 obtain⟨n,e⟩:=h.me;exact⟨⟨n,b.bF e d⟩,h.cH.MC b f,h.ok,h.ro⟩
theorem At.pure(h:At w a c v sh s)(b:ae w w'):At w' a c v sh s:=h.MC b (λf=>f) (λ_ _ f=>f)
theorem At.put(h:At w a c v sh s)(i:N)(u:Value)(s':St)(e:∀n,∃d,(cs c v s n).setIfInBounds i u=cs c v s' d):At (w.setCell (I a i) u) a c v sh s':=by
 obtain⟨n,j⟩:=h.me;obtain⟨d,b⟩:=e n;have f:=az (i:=i) (u:=u) j;rw[b]at f;have l:ac (λk=>k=a) w (w.setCell (I a i) u):=(ac.refl (λk=>k=a) w).setCell (p:=⟨a,i,none⟩) (λ_=>T) _;exact⟨⟨d,f⟩,h.cH.MC l (λk g e=>h.ro k g e),h.ok,h.ro⟩
end
section
variable{w w':Y}{fb:N}{c:Cn}{v:Value}{sh:List Sh}{s:St}
theorem eY(i j b q:N)(am:List (Nat × Nat))(z:Nat × Nat)(w:Y)(h:At w fb c v sh s)(u:Mm.At w b q am)(F:(i:V)<c.ag)(hj:j<8)(hz:am[8*i+j]?=some z):C 297 #[I fb 0,I b 0,J i,J j] w λe w'=>e=O (.tuple #[U z.1 z.2,L true])/\ac (λk=>k=b) w w'/\Mm.At w' b q am:=by
 obtain⟨A,m,G⟩:∃A m,v=Z A sh.length m:=by
  obtain⟨⟨A,m,e,_⟩,_⟩:=h.cH;exact⟨A,m,e⟩
 subst G;have H:=M h;have y:=M u;have r:=M hz;have K:=H.p0;have P:=H.p1;have Q:=H.p2;have R:=H.p3;have S:=H.p4;have W:=H.p5;have X:=H.p6;have p7:=H.p7;have p8:=H.p8;clear h u hz;go_enter func297,ntmps297;go_wp2_with fail;refine(lZ c _ sh i j w H.cH H.ok (by omega) F (by omega) (by omega)).mono ?_;rintro e x⟨rfl,a⟩;have n:=M (y.MC a (λf=>f) (λf=>f));have B:Hid (ac (λk=>k=b) w x):=M (a.mono (λ_ _ f=>f.elim));have t:(8*(i:V)+(j:V))=((8*i+j:N):V):=by omega
 rw[t];obtain⟨p,d⟩:∃p:N,8*i+j=p:=⟨_,T⟩;rw[d]at r ⊢;clear K P Q R S W X p7 p8 t a d;go_wp2_with fail;refine(Mm.eY b q am p z x n r).mono ?_;rintro e w3⟨rfl,l,g⟩;have o:=M g;have E:=M (B.trans l (λ_ _ h=>h));clear l g;go_wp2_with fail;go_ret2;exact⟨T,E,o⟩
end
end Fd
namespace Tr
open Go.Proofs.YtpgdiceeimehiaaGreat.Fd (iU)
structure St where
 head:N
 ah:Bool
 pc:V
 jY:Bool
 rv:Value
 bs:List Bool
 fP:N
 j:N
 wv:Value
 am:List Int
 n:N
 mode:N
 aC:N
def cs(c:Cn)(v:Value)(s:St)(n:V):Array Value:=#[J c.ag,J c.al,J c.ap,J c.ao,J c.ak,J c.aB,J c.be,J c.di,v,J s.head,L s.ah,J s.pc,L s.jY,s.rv,J s.fP,J s.j,s.wv,J 0,J s.n,J s.mode,J s.aC,J 0,J n]
def Ro(v:Value)(sh:List Sh)(s:St)(k:N):Prop:=mK v sh k\/s.rv.ownBlock=some k\/s.wv.ownBlock=some k
structure At(w:Y)(xb:N)(c:Cn)(v:Value)(sh:List Sh)(s:St):Prop where
 me:∃n:V,w.heap[xb]?=some (D (cs c v s n) 224 (0,0))
 cH:dm w w.heap.size v sh
 ok:bk c sh=0
 refs:mE w w.heap.size s.rv (da s.bs)
 wr:ez w 0 s.wv s.am
 ro:∀k,Ro v sh s k->k≠xb/\k<w.heap.size
section
variable{w w':Y}{b:N}{c:Cn}{v:Value}{sh:List Sh}{s:St}
theorem At.p0(h:At w b c v sh s):w.cell? (I b 0)=some (J c.ag):=by
 obtain⟨n,a⟩:=h.me;rw[bK a];rfl
theorem At.p1(h:At w b c v sh s):w.cell? (I b 1)=some (J c.al):=by
 obtain⟨n,a⟩:=h.me;rw[bK a];rfl
theorem At.p2(h:At w b c v sh s):w.cell? (I b 2)=some (J c.ap):=by
 obtain⟨n,a⟩:=h.me;rw[bK a];rfl
theorem At.p3(h:At w b c v sh s):w.cell? (I b 3)=some (J c.ao):=by
 obtain⟨n,a⟩:=h.me;rw[bK a];rfl
theorem At.p4(h:At w b c v sh s):w.cell? (I b 4)=some (J c.ak):=by
 obtain⟨n,a⟩:=h.me;rw[bK a];rfl
theorem At.p5(h:At w b c v sh s):w.cell? (I b 5)=some (J c.aB):=by
 obtain⟨n,a⟩:=h.me;rw[bK a];rfl
theorem At.p6(h:At w b c v sh s):w.cell? (I b 6)=some (J c.be):=by
 obtain⟨n,a⟩:=h.me;rw[bK a];rfl
theorem At.p7(h:At w b c v sh s):w.cell? (I b 7)=some (J c.di):=by
 obtain⟨n,a⟩:=h.me;rw[bK a];rfl
theorem At.p8(h:At w b c v sh s):w.cell? (I b 8)=some (v):=by
 obtain⟨n,a⟩:=h.me;rw[bK a];rfl
theorem At.p9(h:At w b c v sh s):w.cell? (I b 9)=some (J s.head):=by
 obtain⟨n,a⟩:=h.me;rw[bK a];rfl
theorem At.sq(h:At w b c v sh s):w.cell? (I b 10)=some (L s.ah):=by
 obtain⟨n,a⟩:=h.me;rw[bK a];rfl
theorem At.kv(h:At w b c v sh s):w.cell? (I b 11)=some (J s.pc):=by
 obtain⟨n,a⟩:=h.me;rw[bK a];rfl
theorem At.jc(h:At w b c v sh s):w.cell? (I b 12)=some (L s.jY):=by
 obtain⟨n,a⟩:=h.me;rw[bK a];rfl
theorem At.pt(h:At w b c v sh s):w.cell? (I b 13)=some (s.rv):=by
 obtain⟨n,a⟩:=h.me;rw[bK a];rfl
theorem At.rf(h:At w b c v sh s):w.cell? (I b 14)=some (J s.fP):=by
 obtain⟨n,a⟩:=h.me;rw[bK a];rfl
theorem At.qC(h:At w b c v sh s):w.cell? (I b 15)=some (J s.j):=by
 obtain⟨n,a⟩:=h.me;rw[bK a];rfl
theorem At.tP(h:At w b c v sh s):w.cell? (I b 16)=some (s.wv):=by
 obtain⟨n,a⟩:=h.me;rw[bK a];rfl
theorem At.vG(h:At w b c v sh s):w.cell? (I b 17)=some (J 0):=by
 obtain⟨n,a⟩:=h.me;rw[bK a];rfl
theorem At.rh(h:At w b c v sh s):w.cell? (I b 18)=some (J s.n):=by
 obtain⟨n,a⟩:=h.me;rw[bK a];rfl
theorem At.xJ(h:At w b c v sh s):w.cell? (I b 19)=some (J s.mode):=by
 obtain⟨n,a⟩:=h.me;rw[bK a];rfl
theorem At.Fc(h:At w b c v sh s):w.cell? (I b 20)=some (J s.aC):=by
 obtain⟨n,a⟩:=h.me;rw[bK a];rfl
theorem At.Lm(h:At w b c v sh s):w.cell? (I b 21)=some (J 0):=by
 obtain⟨n,a⟩:=h.me;rw[bK a];rfl
theorem At.LZ(h:At w b c v sh s):∃n:V,w.cell? (I b 22)=some (J n):=by
 obtain⟨n,a⟩:=h.me;exact⟨n,by rw[bK a];rfl⟩
theorem At.fz(h:At w b c v sh s)(k:N):w.frozen? (I b k)=false:=by
 obtain⟨n,a⟩:=h.me;exact ey k a
theorem At.lt(h:At w b c v sh s):b<w.heap.size:=by
 obtain⟨n,a⟩:=h.me;exact(bR.1 a).1
theorem At.MC{Tq:N->Prop}(h:At w b c v sh s)(d:ac Tq w w')(f:¬Tq b)(e:∀k,Ro v sh s k->¬Tq k):At w' b c v sh s:=by
 obtain⟨n,g⟩:=h.me;exact⟨⟨n,d.bF g f⟩,h.cH.MC d (λk a=>e k (.inl a)),h.ok,h.refs.MC d (λk a=>e k (.inr (.inl a))),h.wr.MC d (λk a=>e k (js a)),λk a=>⟨(h.ro k a).1,eR (h.ro k a).2 d.size⟩⟩
theorem At.pure(h:At w b c v sh s)(a:ae w w'):At w' b c v sh s:=h.MC a (λf=>f) (λ_ _ f=>f)
theorem At.Bk(h:At w b c v sh s)(i:N)(u:Value)(s':St)(e:∀n,∃j,(cs c v s n).setIfInBounds i u=cs c v s' j)(o:mE w w.heap.size s'.rv (da s'.bs))(q:ez w 0 s'.wv s'.am)(a:∀k,Ro v sh s' k->k≠b/\k<w.heap.size):At (w.setCell (I b i) u) b c v sh s':=by
 obtain⟨n,m⟩:=h.me;obtain⟨j,g⟩:=e n;have l:=az (i:=i) (u:=u) m;rw[g]at l;have f:ac (λk=>k=b) w (w.setCell (I b i) u):=(ac.refl (λk=>k=b) w).setCell (p:=⟨b,i,none⟩) (λ_=>T) _;exact⟨⟨j,l⟩,h.cH.MC f (λk d e=>(h.ro k (.inl d)).1 e),h.ok,o.MC f (λk d e=>(a k (.inr (.inl d))).1 e),q.MC f (λk d e=>(a k (js d)).1 e),λk d=>⟨(a k d).1,eR (a k d).2 f.size⟩⟩
theorem At.put(h:At w b c v sh s)(i:N)(u:Value)(s':St)(e:∀n,∃m,(cs c v s n).setIfInBounds i u=cs c v s' m)(l:s'.rv=s.rv/\s'.bs=s.bs/\s'.wv=s.wv/\s'.am=s.am):At (w.setCell (I b i) u) b c v sh s':=by
 obtain⟨d,g,f,j⟩:=l;refine h.Bk i u s' e (by rw[d,g];exact h.refs) (by rw[f,j];exact h.wr) (λk a=>h.ro k ?_);unfold Ro at a ⊢;rw[d,f]at a;exact a
theorem At.drew(h:At w b c v sh s):At w.drew b c v sh s:=h.pure ((bo w).drewN 1)
theorem dQ{a:Y}(h:ac (λk=>k=b) a w)(i:N)(u:Value):ac (λk=>k=b) a (w.setCell (I b i) u):=h.setCell (p:=⟨b,i,none⟩) (λ_=>T) _
end
def jx(s:St):V:=if s.jY then bX s.n else bM false s.bs.length 0
def jV(s:St):St:=if s.mode=2 then{s with fP:=s.aC+s.j,pc:=4}else{s with pc:=8}
def oD(s:St):St:=if s.am≠[]then{s with pc:=1}else if jx s<=(s.j:V)+1 then{s with pc:=9}else if s.jY=false then{s with pc:=3}else jV {s with j:=s.j+1}
def gu(bs:List Bool)(j:N):N->List Int
 | 0=>[]
 | k+1=>if bs.getD k false=true/\fe (k:V)=(j:V)then gu bs j k++[eh (k:V)]else gu bs j k
def ou(b:Bool)(n j:N):List Int:=if b then(List.range (min n ((j+1)*8)-j*8)).map Int.ofNat else[]
def jW(s:St):List Int:=if s.jY then ou (s.bs.getD 0 false) s.n s.j else gu s.bs s.j s.bs.length
section
variable{w b:Y}{a:N}{c:Cn}{v:Value}{sh:List Sh}{s:St}
theorem eY(i j g t:N)(am:List (Nat × Nat))(z:Nat × Nat)(w:Y)(h:At w a c v sh s)(y:Mm.At w g t am)(K:(i:V)<c.ag)(hj:j<8)(hz:am[8*i+j]?=some z):C 276 #[I a 0,I g 0,J i,J j] w λe b=>e=O (.tuple #[U z.1 z.2,L true])/\ac (λk=>k=g) w b/\Mm.At b g t am:=by
 obtain⟨A,o,P⟩:∃A o,v=Z A sh.length o:=by
  obtain⟨⟨A,o,e,_⟩,_⟩:=h.cH;exact⟨A,o,e⟩
 subst P;have H:=M h;have E:=M y;have u:=M hz;have Q:=H.p0;have R:=H.p1;have S:=H.p2;have W:=H.p3;have X:=H.p4;have p5:=H.p5;have p6:=H.p6;have p7:=H.p7;have p8:=H.p8;clear h y hz;go_enter func276,ntmps276;go_wp2_with fail;refine(lZ c _ sh i j w H.cH H.ok (by omega) K (by omega) (by omega)).mono ?_;rintro e B⟨rfl,d⟩;have p:=M (E.MC d (λf=>f) (λf=>f));have F:Hid (ac (λk=>k=g) w B):=M (d.mono (λ_ _ f=>f.elim));have x:(8*(i:V)+(j:V))=((8*i+j:N):V):=by omega
 rw[x];obtain⟨r,l⟩:∃r:N,8*i+j=r:=⟨_,T⟩;rw[l]at u ⊢;clear Q R S W X p5 p6 p7 p8 x d l;go_wp2_with fail;refine(Mm.eY g t am r z B p u).mono ?_;rintro e w3⟨rfl,n,m⟩;have q:=M m;have G:=M (F.trans n (λ_ _ h=>h));clear n m;go_wp2_with fail;go_ret2;exact⟨T,G,q⟩
theorem lp(w:Y)(h:At w a c v sh s)(t:s.bs.length<=1000000):C 310 #[I a 0] w λe b=>e=O (J (jx s))/\ae w b:=by
 obtain⟨A,d,i,-⟩:=h.refs;rw[bV]at i;have n:=h.jc;have o:=h.pt;have q:=h.rh;rw[i]at o;obtain⟨f,m⟩:∃f,jx s=f:=⟨_,T⟩;rw[m];have p:=M m;obtain⟨l,g⟩:∃l,s.jY=l:=⟨_,T⟩;have j:=M g;rw[g]at n;clear h i m g;cases l
 ·go_enter func310,ntmps310;go_wp2_with fail;refine(lL false A s.bs.length d 0 w (by omega)).mono ?_;rintro e r⟨rfl,k⟩;have HP:=M k;clear k;go_wp2_with fail;go_ret;exact⟨by rw[<-p.out,jx,j.out];rfl,HP⟩
 ·go_enter func310,ntmps310;go_wp2_with fail;refine(gH (s.n:V) w).mono ?_;rintro e r⟨rfl,rfl⟩;go_wp2_with fail;go_ret;exact⟨by rw[<-p.out,jx,j.out];rfl,bo _⟩
theorem lX(w:Y)(h:At w a c v sh s)(o:s.aC+s.j<=1000000):C 308 #[I a 0] w λe b=>e=O (J (jV s).pc)/\ac (λk=>k=a) w b/\At b a c v sh {jV s with pc:=s.pc}:=by
 have H:=M h;have E:=h.rf;have r:=h.qC;have t:=h.xJ;have u:=h.Fc;have F:=h.fz;obtain⟨m,l⟩:∃m,s.mode=m:=⟨_,T⟩;obtain⟨f,d⟩:∃f,s.aC=f:=⟨_,T⟩;obtain⟨g,j⟩:∃g,s.j=g:=⟨_,T⟩;rw[l]at t;rw[d]at u o;rw[j]at r o;have i:=M (aq l (aq d j));clear h l d j;by_cases p:m=2
 ·have A:((m:V)==2)=true:=by simp;omega
  have B:((m:V) !=2)=false:=by simp;omega
  have q:Hid (jV s={s with fP:=f+g,pc:=4}):=M (by rw[jV,i.out.1,af p,i.out.2.1,i.out.2.2]);rw[q.out];clear p;go_enter func308,ntmps308;go_wp2_with fail;have G:IntKind.i64.wrap ((f:V)+(g:V))=(f:V)+(g:V):=by rw[aP];omega
  go_region_with fail
  all_goals
   have x:At (w.setCell (I a 14) (J ((f:V)+(g:V)))).drew a c v sh {s with fP:=f+g}:=by
    exact(H.put 14 (J ((f:V)+(g:V))) {s with fP:=f+g} (λn=>⟨n,rfl⟩) ⟨rfl,rfl,rfl,rfl⟩).drew
   have y:ac (λk=>k=a) w (w.setCell (I a 14) (J ((f:V)+(g:V)))).drew:=(dQ (ac.refl (λk=>k=a) w) 14 _).drewN 1;have z:=M (aq y x);clear x y;go_wp2_with fail;go_ret;exact⟨T,z⟩
 ·have A:((m:V)==2)=false:=by simp;omega
  have B:((m:V) !=2)=true:=by simp;omega
  have q:Hid (jV s={s with pc:=8}):=M (by rw[jV,i.out.1,aa p]);rw[q.out];clear p;go_enter func308,ntmps308;go_wp2_with fail;go_ret;exact⟨T,bo _,H⟩
end
end Tr
namespace Tr
open Go.Proofs.YtpgdiceeimehiaaGreat.Fd (iU)
section
variable{w a:Y}{l:N}{c:Cn}{v:Value}{sh:List Sh}{s:St}
theorem ot(k:N):0<=eh (k:V)/\eh (k:V)<8:=by
 unfold eh;split<;>omega
theorem sy(bs:List Bool)(j:N):∀k,(gu bs j k).length<=k
 | 0=>ci _
 | k+1=>by
  have:=sy bs j k;unfold gu;split
  ·rw[iB];simp;omega
  ·omega
theorem py(bs:List Bool)(j:N):∀k,JX (gu bs j k)
 | 0=>λx b=>by simp[gu]at b
 | k+1=>λx b=>by
  unfold gu at b;split at b
  ·rcases iE.1 b with b|b
   ·exact py bs j k x b
   ·simp only[dr,gd,or_false]at b;have:=ot k;omega
  ·exact py bs j k x b
theorem Eb(b:Bool)(n j:N):JX (ou b n j):=λx d=>by
 unfold ou at d;split at d
 ·simp only[aX,List.mem_range]at d;obtain⟨k,e,rfl⟩:=d;simp only[Int.ofNat_eq_natCast];omega
 ·simp at d
theorem Ec(s:St):JX (jW s):=by
 unfold jW;split
 ·exact Eb _ _ _
 ·exact py _ _ _
theorem wY(w:Y)(h:At w l c v sh s)(K:s.jY=false)(hb:s.bs.length<=40):C 306 #[I l 0] w λe a=>∃u,e=O u/\ae w a/\a.ownsRow w.heap.size 3 1 u (gu s.bs s.j s.bs.length).length (bI (gu s.bs s.j s.bs.length)):=by
 obtain⟨i0,b4,b9,c2,c3⟩:=aR Po.eu;obtain⟨A,d,F,b3,c5,R⟩:=h.refs;rw[bV]at F b3 R;have b1:=M R;have H:=M h;have b0:=M F;have x:=h.jc;rw[K]at x;have a6:=M K;have y:=h.pt;rw[F]at y;obtain⟨o,P⟩:∃o,s.j=o:=⟨_,T⟩;have a8:=M P;rw[P];clear h F R K P;go_enter func306,ntmps306;go_wp2_with fail;clear x y;go_loopw [3,56] (λu i wr=>∃k:N,k<=s.bs.length/\i=J k/\ae w wr/\wr.ownsRow w.heap.size 3 1 u (gu s.bs o k).length (bI (gu s.bs o k))) (λ_ i _=>s.bs.length-(intOf i).toNat)
 case atStart=>exact⟨0,aw _,T,bo _,jD _ _ _ _⟩
 case round =>
  obtain⟨k,hk,rfl,hp,ho⟩:=hrel;obtain⟨A8,c8,rfl⟩:=aD ho;have G:=sy s.bs o k;generalize a4:(gu s.bs o k).length=rl at ho G ⊢;have b8:rl<=40:=by omega
  have m:=M a4;have HP:=M hp;have HO:=M ho;clear hp ho a4 G;by_cases b5:k<s.bs.length
  ·obtain⟨g,off,hA,hg,hx⟩:=b1 (by omega);obtain⟨b,hb⟩:∃b,s.bs[k]?=some b:=⟨_,cR b5⟩;have d0:wr.cell? (I g (off+k))=some (L b):=HP.aj (hx k _ (by simp[da,hb]));subst hA;have x:=(H.pure HP).jc;rw[a6.out]at x;have y:=(H.pure HP).pt;rw[b0.out]at y;have b2:s.bs.length<=9223372036854775807:=by omega
   have a2:lj false s.bs.length (k:V)=true:=by simp[lj,gZ];omega
   obtain⟨pf,a3⟩:∃pf,fe (k:V)=pf:=⟨_,T⟩;obtain⟨S,E⟩:∃S,eh (k:V)=S:=⟨_,T⟩;have n:=M (aq a2 (aq a3 E));have W:Hid (s.bs.getD k false=b):=M (by simp[List.getD,hb]);have i1:(k:V)<(s.bs.length:V):=by omega
   have i2:0<=S:=by rw[<-E];exact(ot k).1
   have i3:S<8:=by rw[<-E];exact(ot k).2
   clear a2 a3 E hx hb hg;go_wp2_with fail;refine(qh false _ s.bs.length d (k:V) wr b2 n.1).mono ?_;rw[n.out.2.1,n.out.2.2];rintro e w5⟨rfl,Q⟩;have p:=M (HP.MD Q);have z:=M ((Q.own HO (λ_ _ f=>f)));have c4:=(H.pure p).qC;rw[a8.out]at c4;clear Q x y d0;have a5:Hid (w.heap.size<=w5.heap.size):=M p.size;have c6:k<=40:=by omega
   by_cases r:b=true/\pf=(o:V)
   ·obtain⟨rfl,rfl⟩:=r;have t:gu s.bs o (k+1)=gu s.bs o k++[S]:=by
     rw[gu,af ⟨W.out,n.out.2.1⟩,n.out.2.2]
    have B:=M t;clear t;go_wp2_with (at_builtin;refine bT _ T (.tmp 80) (.tmp 82) _ T w.heap.size 3 i0 _ 1 8 underlying25 b4 b9 c2 c3 T (by omega) (Z A8 rl c8) rl _ T (aH z _) _ 1 1 [J S] T (jd.cI _ _ #[J S] 1 1 _ T T) (by simp[Value.oneCell']) (by simp only[maxLen];omega) (by omega) (by have:=a5.out;simp;omega) ?_;intro v9 w9 j a1 X;obtain⟨A9,n9,rfl⟩:=aD j;have a9:=M j;have a7:=M a1;clear j a1 X;go_frame);go_roundw
    case rel =>
     refine⟨k+1,by omega,by first|rfl|simp,?_,?_⟩
     ·have b6:ac (λq=>(Z A8 rl c8).ownBlock=some q) w5 w9:=((bo w5).alloc _).grown a7 (λq _ hq=>hq);exact p.trans b6 (λq hq b7=>by have:=(z.lt q b7).1;omega)
     ·rw[B.out,iB,m.out];simpa[bI]using a9.out
    case measure=>simp[intOf];omega
   ·have t:gu s.bs o (k+1)=gu s.bs o k:=by
     rw[gu,aa (by rw[W.out,n.out.2.1];exact r)]
    have B:=M t;clear t;cases b
    ·clear r;go_wp2_with fail;go_roundw
     case rel=>exact⟨k+1,by omega,by first|rfl|simp,p,by rw[B.out,m.out];exact z⟩
     case measure=>simp[intOf];omega
    ·have c7:(pf==(o:V))=false:=by simp;intro e;exact r ⟨T,e⟩
     clear r;go_wp2_with fail;go_roundw
     case rel=>exact⟨k+1,by omega,by first|rfl|simp,p,by rw[B.out,m.out];exact z⟩
     case measure=>simp[intOf];omega
  ·obtain rfl:k=s.bs.length:=by omega
   go_wp2_with fail;go_ret;exact⟨_,T,HP,by rw[m.out];exact HO⟩
theorem Ef(b:Bool)(w:Y)(h:At w l c v sh s)(a5:s.jY=true)(a6:s.bs=[b])(hn:s.n<=512)(hj:s.j<=64):C 306 #[I l 0] w λe a=>∃u,e=O u/\ae w a/\a.ownsRow w.heap.size 3 1 u (ou b s.n s.j).length (bI (ou b s.n s.j)):=by
 obtain⟨i0,a7,b1,b2,b3⟩:=aR Po.eu;obtain⟨A,d,P,b4,b8,a3⟩:=h.refs;rw[bV,a6]at P b4 a3;obtain⟨g,off,hA,hg,hx⟩:=a3 (by simp);have X:w.cell? (I g off)=some (L b):=by
  have:=hx 0 (L b) (by simp[da]);simpa using this
 subst hA;simp only[bu,dJ]at P;have H:=M h;have Q:=h.jc;rw[a5]at Q;have p:=h.pt;rw[P]at p;have r:=h.qC;have t:=h.rh;obtain⟨m,a8⟩:∃m,s.j=m:=⟨_,T⟩;obtain⟨K,b0⟩:∃K,s.n=K:=⟨_,T⟩;rw[a8]at r hj ⊢;rw[b0]at t hn ⊢;have HD:=M (aq X (aq Q (aq p (aq r t))));clear h P a3 a5 a8 b0 a6 hx;cases b
 ·go_enter func306,ntmps306;go_wp2_with fail;clear Q p r t X;go_loopw [3,4] (λu i wr=>i=J ((m:V)*8)/\u=Z none 0 0/\ae w wr) (λ_ _ _=>0)
  case atStart=>exact⟨by first|rfl|go_num,T,bo _⟩
  case round =>
   obtain⟨rfl,rfl,B⟩:=hrel;have HP:=M B;have p:=B.aj HD.2.2.1;have X:=B.aj HD.1;clear B;go_wp2_with fail;go_quiet (fail);have n:=M (HP.MD ((ck wr).drewN nq));go_wp2_with fail;go_ret;exact⟨_,T,n,jD _ _ _ _⟩
 ·have hT:ou true K m=(List.range (min K ((m+1)*8)-m*8)).map Int.ofNat:=rfl;have HT:=M hT;rw[hT];clear hT;obtain⟨x,a9⟩:∃x,min K ((m+1)*8)=x:=⟨_,T⟩;have a4:Hid (min (K:V) (((m:V)+1)*8)=(x:V)):=M (by omega);rw[a9];have b9:x<=m*8+8:=by omega
  clear a9;have F:IntKind.i64.wrap ((m:V)+1)=(m:V)+1:=by rw[aP];omega
  have G:IntKind.i64.wrap (((m:V)+1)*8)=((m:V)+1)*8:=by rw[aP];omega
  have HW:=M (aq F G);clear F G;go_enter func306,ntmps306;go_wp2_with fail;clear Q p r t X;go_loopw [3,4] (λu i wr=>∃k:N,i=J ((m:V)*8+(k:V))/\k<=x-m*8/\ae w wr/\wr.ownsRow w.heap.size 3 1 u k (bI ((List.range k).map Int.ofNat))) (λ_ i _=>x-(intOf i).toNat)
  case atStart=>exact⟨0,by first|rfl|go_num,aw _,bo _,jD _ _ _ _⟩
  case round =>
   obtain⟨k,rfl,hk,B,ho⟩:=hrel;obtain⟨A8,c8,rfl⟩:=aD ho;have HP:=M B;have HO:=M ho;have p:=B.aj HD.2.2.1;have r:=B.aj HD.2.2.2.1;have t:=B.aj HD.2.2.2.2;have X:=B.aj HD.1;have F:=HW.1;have G:=HW.2;clear B ho;by_cases R:((m:V)+1)*8<(K:V)
   ·have b6:(x:V)=((m:V)+1)*8:=by have:=a4.out;omega
    by_cases b5:k<x-m*8
    ·have hd:decide ((m:V)*8+(k:V)<((m:V)+1)*8)=true:=fN (by omega);go_wp2_with fail;go_quiet (fail);have n:=M (HP.MD ((ck wr).drewN nq));have o:=M (((ck wr).drewN nq).own HO (λ_ _ f=>f));have b7:((m:V)*8+(k:V)).tmod 8=(k:V):=by rw[Int.tmod_eq_emod_of_nonneg (by omega)];omega
     have i9:k<8:=by omega
     clear p r t X F G hd R;generalize wr.drewN nq=w5 at *;have E:Hid (w.heap.size<=w5.heap.size):=M n.size;go_wp2_with (at_builtin;refine bT _ T (.tmp 44) (.tmp 47) _ T w.heap.size 3 i0 _ 1 8 underlying25 a7 b1 b2 b3 T (by omega) (Z A8 k c8) k _ T (aH o _) _ 1 1 [J k] T (jd.cI _ _ #[J k] 1 1 _ T T) (by simp[Value.oneCell']) (by simp only[maxLen];omega) (by omega) (by have:=E.out;simp;omega) ?_;intro v9 w9 j z y;obtain⟨A9,n9,rfl⟩:=aD j;have W:=M j;have S:=M z;clear j z y;go_frame);go_roundw
     case rel =>
      refine⟨k+1,by first|rfl|(simp;omega),by omega,?_,?_⟩
      ·have a1:ac (λq=>(Z A8 k c8).ownBlock=some q) w5 w9:=((bo w5).alloc _).grown S (λq _ R=>R);exact n.trans a1 (λq R a2=>by have:=(o.lt q a2).1;omega)
      ·rw[dK,cV];simpa[bI]using W.out
     case measure=>simp[intOf];omega
    ·have hd:decide ((m:V)*8+(k:V)<((m:V)+1)*8)=false:=dT (by omega);go_wp2_with fail;go_quiet (fail);have n:=M (HP.MD ((ck wr).drewN nq));have o:=M (((ck wr).drewN nq).own HO (λ_ _ f=>f));obtain rfl:k=x-m*8:=by omega
     go_wp2_with fail;go_ret;exact⟨_,T,n,by simpa using o.out⟩
   ·have b6:(x:V)=(K:V):=by have:=a4.out;omega
    by_cases b5:k<x-m*8
    ·have hd:decide ((m:V)*8+(k:V)<(K:V))=true:=fN (by omega);go_wp2_with fail;go_quiet (fail);have n:=M (HP.MD ((ck wr).drewN nq));have o:=M (((ck wr).drewN nq).own HO (λ_ _ f=>f));have b7:((m:V)*8+(k:V)).tmod 8=(k:V):=by rw[Int.tmod_eq_emod_of_nonneg (by omega)];omega
     have i9:k<8:=by omega
     clear p r t X F G hd R;generalize wr.drewN nq=w5 at *;have E:Hid (w.heap.size<=w5.heap.size):=M n.size;go_wp2_with (at_builtin;refine bT _ T (.tmp 44) (.tmp 47) _ T w.heap.size 3 i0 _ 1 8 underlying25 a7 b1 b2 b3 T (by omega) (Z A8 k c8) k _ T (aH o _) _ 1 1 [J k] T (jd.cI _ _ #[J k] 1 1 _ T T) (by simp[Value.oneCell']) (by simp only[maxLen];omega) (by omega) (by have:=E.out;simp;omega) ?_;intro v9 w9 j z y;obtain⟨A9,n9,rfl⟩:=aD j;have W:=M j;have S:=M z;clear j z y;go_frame);go_roundw
     case rel =>
      refine⟨k+1,by first|rfl|(simp;omega),by omega,?_,?_⟩
      ·have a1:ac (λq=>(Z A8 k c8).ownBlock=some q) w5 w9:=((bo w5).alloc _).grown S (λq _ R=>R);exact n.trans a1 (λq R a2=>by have:=(o.lt q a2).1;omega)
      ·rw[dK,cV];simpa[bI]using W.out
     case measure=>simp[intOf];omega
    ·have hd:decide ((m:V)*8+(k:V)<(K:V))=false:=dT (by omega);go_wp2_with fail;go_quiet (fail);have n:=M (HP.MD ((ck wr).drewN nq));have o:=M (((ck wr).drewN nq).own HO (λ_ _ f=>f));obtain rfl:k=x-m*8:=by omega
     go_wp2_with fail;go_ret;exact⟨_,T,n,by simpa using o.out⟩
def Hd(s:St):Prop:=(s.jY=false/\s.bs.length<=40)\/(s.jY=true/\∃b,s.bs=[b]/\s.n<=512/\s.j<=64)
theorem Ee(w:Y)(h:At w l c v sh s)(j:Hd s):C 306 #[I l 0] w λe a=>∃u,e=O u/\ae w a/\a.ownsRow w.heap.size 3 1 u (jW s).length (bI (jW s)):=by
 rcases j with⟨d,f⟩|⟨d,b,f,i,g⟩
 ·rw[show jW s=gu s.bs s.j s.bs.length by rw[jW,d];rfl];exact wY w h d f
 ·rw[show jW s=ou b s.n s.j by rw[jW,d,f];rfl];exact Ef b w h d f i g
theorem rJ(w:Y)(h:At w l c v sh s)(hb:s.bs.length<=1000000)(hj:s.j<=1000)(t:s.aC<=10000):C 307 #[I l 0] w λe a=>e=O (J (oD s).pc)/\ac (λk=>k=l) w a/\At a l c v sh {oD s with pc:=s.pc}:=by
 obtain⟨A,d,F,-,-⟩:=h.wr.form;have q:=h.tP;rw[F]at q;have H:=M h;have HB:=M hb;by_cases P:s.am=[]
 ·rw[P]at q;simp only[dJ]at q;have i:oD s=if jx s<=(s.j:V)+1 then{s with pc:=9}else if s.jY=false then{s with pc:=3}else jV {s with j:=s.j+1}:=by rw[oD,aa (by simpa using P)]
  obtain⟨m,x⟩:∃m,s.j=m:=⟨_,T⟩;obtain⟨R,E⟩:∃R,jx s=R:=⟨_,T⟩;obtain⟨ar,S⟩:∃ar,s.jY=ar:=⟨_,T⟩;have G:=h.qC;rw[x]at G hj;rw[E,show(s.j:V)=(m:V)by rw[x]]at i;have r:=M (aq x (aq x (aq E S)));have a1:=M t;clear h F P hb x E S t;by_cases B:R<=(m:V)+1
  ·have a2:decide (R<=(m:V)+1)=true:=fN B;rw[i,af B];clear i B;go_enter func307,ntmps307;go_wp2_with fail;clear q;have X:IntKind.i64.wrap ((m:V)+1)=(m:V)+1:=by rw[aP];omega
   go_region_held3 (λa=>a.cell? (I l 15)=some (J m)) (go_keep) (first|(go_at_call 310;refine(lp _ (H.pure ((ck w).drewN 1)) HB).mono ?_;rw[r.out.2.2.1];rintro e Q⟨rfl,p⟩;have g:=ae.MD (b:=w.drew) ((ck w).drewN 1) p;have o:=M g;have t0:=(H.pure g).qC;rw[r.out.2.1]at t0;clear p g))
   all_goals
    have y:=M (H.pure o);have K:Hid (ac (λk=>k=l) w Q):=M (o.mono (λ_ _ f=>f.elim));go_wp2_with fail;go_ret;exact⟨T,K,y⟩
  ·have a2:decide (R<=(m:V)+1)=false:=dT B;rw[aa B]at i;cases ar
   ·rw[af r.out.2.2.2]at i;rw[i];clear i B;go_enter func307,ntmps307;go_wp2_with fail;clear q;have X:IntKind.i64.wrap ((m:V)+1)=(m:V)+1:=by rw[aP];omega
    go_region_held3 (λa=>a.cell? (I l 15)=some (J m)) (go_keep) (first|(go_at_call 310;refine(lp _ (H.pure ((ck w).drewN 1)) HB).mono ?_;rw[r.out.2.2.1];rintro e Q⟨rfl,p⟩;have g:=ae.MD (b:=w.drew) ((ck w).drewN 1) p;have o:=M g;have t0:=(H.pure g).qC;rw[r.out.2.1]at t0;clear p g))
    all_goals
     have y:=M (H.pure o);have K:Hid (ac (λk=>k=l) w Q):=M (o.mono (λ_ _ f=>f.elim));have z:=y.jc;rw[r.out.2.2.2]at z;go_wp2_with fail;go_ret;exact⟨T,K,y⟩
   ·rw[aa (by rw[r.out.2.2.2];simp)]at i;rw[i];clear i B;obtain⟨gs,u⟩:∃gs,jV {s with j:=s.j+1}=gs:=⟨_,rfl⟩;rw[u];have HG:=M u;clear u;go_enter func307,ntmps307;go_wp2_with fail;clear q;have X:IntKind.i64.wrap ((m:V)+1)=(m:V)+1:=by rw[aP];omega
    go_region_held3 (λa=>a.cell? (I l 15)=some (J m)) (go_keep) (first|(go_at_call 310;refine(lp _ (H.pure ((ck w).drewN 1)) HB).mono ?_;rw[r.out.2.2.1];rintro e Q⟨rfl,p⟩;have g:=ae.MD (b:=w.drew) ((ck w).drewN 1) p;have o:=M g;have t0:=(H.pure g).qC;rw[r.out.2.1]at t0;clear p g))
    all_goals
     have y:=M (H.pure o);have K:Hid (ac (λk=>k=l) w Q):=M (o.mono (λ_ _ f=>f.elim));have z:=y.jc;rw[r.out.2.2.2]at z;have fz:=y.fz;have G:=t0;go_upto_region 8 with fail;have h3:=y.put 15 (J ((m:V)+1)) {s with j:=s.j+1} (λn=>⟨n,by rw[<-r.out.2.1];rfl⟩) ⟨T,T,T,T⟩;have o3:=dQ K 15 (J ((m:V)+1));have H3:=M h3;have O3:=M o3;clear h3 o3 z G fz t0 y K;generalize Q.setCell _ _=w3 at *;go_wp2_with fail;refine(lX w3 H3 (by have:=a1.out;have:=r.2.1;show s.aC+(s.j+1)<=_;omega)).mono ?_;rw[HG.out];rintro e w4⟨rfl,W,h4⟩;have H4:=M (aq (O3.trans W (λ_ _ h=>h)) h4);clear W h4;go_wp2_with fail;go_ret;exact⟨T,H4⟩
 ·have i:oD s={s with pc:=1}:=by rw[oD,af P]
  rw[i];have h0:decide (0<s.am.length)=true:=fN (List.length_pos_iff.2 P);clear h F P hb i;go_enter func307,ntmps307;go_wp2_with fail;go_ret;exact⟨T,bo _,H⟩
end
end Tr
namespace Tr
open Go.Proofs.YtpgdiceeimehiaaGreat.Fd (iU)
section
variable{w b:Y}{a:N}{c:Cn}{v:Value}{sh:List Sh}{s:St}
theorem AD(kd:N)(s0:Sh)(w:Y)(h:At w a c v sh s)(E:sh[kd]?=some s0)(ha:s0.a=true)(a4:kd<=1000)(hb:s0.bs.length<=1000000):C 277 #[I a 0,U (cQ kd 0).1 (cQ kd 0).2] w λe b=>e=O (L true)/\ac (λk=>k=a) w b/\∃K,At b a c v sh {s with jY:=true,rv:=K,bs:=s0.bs,pc:=5}/\∀k,K.ownBlock=some k->w.heap.size<=k:=by
 obtain⟨A,P,hv⟩:∃A P,v=Z A sh.length P:=by
  obtain⟨⟨A,P,e,_⟩,_⟩:=h.cH;exact⟨A,P,e⟩
 subst hv;have H:=M h;have HH:=M (aq E ha);have a5:s0.bs.length<=1000000:=by omega
 have p0:=H.p0;have p1:=H.p1;have p2:=H.p2;have p3:=H.p3;have p4:=H.p4;have p5:=H.p5;have p6:=H.p6;have p7:=H.p7;have p8:=H.p8;clear h E ha;go_enter func277,ntmps277;go_wp2_with fail;refine(sQ kd 0 w (by omega) (by omega)).mono ?_;rintro e w1⟨rfl,rfl⟩;go_wp2_with fail;refine(iy c _ sh kd s0 w H.cH HH.1 (by omega)).mono ?_;rw[HH.out.2];rintro e t⟨g,i,rfl,r,F,B⟩;have Q:=M (H.pure r);have O2:Hid (ac (λk=>k=a) w t):=M (r.mono (λ_ _ f=>f.elim));have z:=M F;have o:=M B;have x:=M H.lt;clear p0 p1 p2 p3 p4 p5 p6 p7 p8 r F B;go_upto_region 3 with fail;obtain⟨l,-,G⟩:=Ac.aO t #[L true,Z g s0.bs.length i] 35;have u:=M (Q.pure l);have O3:=M (O2.trans (l.mono (Tq:=λk=>k=a) (λ_ _ f=>f.elim)) (λ_ _ h=>h));have S:=M (z.pure l);have q:=M G;have m:Hid (∀k,(Z g s0.bs.length i).ownBlock=some k->w.heap.size<=k/\k<(t.alloc (D #[L true,Z g s0.bs.length i] 35)).heap.size):=M (λk d=>⟨(o k d).1,eR (o k d).2 l.size⟩);have y:Hid (t.heap.size≠a):=M (λe=>by have:=Q.lt;omega);clear l G Q O2 z o;generalize t.alloc _=w3 at *;generalize t.heap.size=X3 at *;obtain⟨y0,y1⟩:=iU q;have a2:=u.jc;have a3:=u.pt;have X:=u.fz;go_upto_region 6 with fail;have j:=u.put 12 (L true) {s with jY:=true} (λn=>⟨n,rfl⟩) ⟨rfl,rfl,rfl,rfl⟩;have h4:=j.Bk 13 (Z g s0.bs.length i) {s with jY:=true,rv:=Z g s0.bs.length i,bs:=s0.bs} (λn=>⟨n,rfl⟩) (S.MC ((ac.refl (λk=>k=a) w3).setCell (p:=⟨a,12,none⟩) (λ_=>rfl) _) (λk d e=>by have:=(m k d).1;have:=x.out;omega)) j.wr (λk d=>by
  rcases d with d|d|d
  ·exact j.ro k (.inl d)
  ·exact⟨λe=>by have:=(m k d).1;have:=x.out;omega,by simpa[World.setCell]using(m k d).2⟩
  ·exact j.ro k (js d))
 have R:=M h4;have O4:=M (dQ (dQ O3 12 (L true)) 13 (Z g s0.bs.length i));clear h4 j a2 a3 X u O3;have W:Hid (((w3.setCell (I a 12) (L true)).setCell (I a 13) (Z g s0.bs.length i)).heap[X3]?=some (D #[L true,Z g s0.bs.length i] 35 (0,0))):=M (aK (aK q y) y);clear y0 y1 q;generalize(w3.setCell _ _).setCell _ _=w4 at *;have a1:=R.kv;have X:=R.fz;obtain⟨y0,y1⟩:=iU W;go_upto_region 8 with fail;have h5:=R.put 11 (J 5) {s with jY:=true,rv:=Z g s0.bs.length i,bs:=s0.bs,pc:=5} (λn=>⟨n,rfl⟩) ⟨rfl,rfl,rfl,rfl⟩;have H5:=M h5;have O5:=M (dQ O4 11 (J 5));clear h5 a1 X;go_wp2_with fail;go_ret;exact⟨T,O5,_,H5,λk d=>(m k d).1⟩
theorem AE(kd G:N)(s0:Sh)(w:Y)(h:At w a c v sh s)(a1:sh[kd]?=some s0)(ha:s0.a=false)(b6:G<=1)(b5:kd<=1000)(hb:s0.bs.length<=40)(hj:s.j<=1000)(y:s.aC<=10000):C 277 #[I a 0,U (cQ kd G).1 (cQ kd G).2] w λe b=>e=O (L true)/\ac (λk=>k=a) w b/\∃a5 wv',At b a c v sh (oD {s with jY:=false,rv:=a5,bs:=s0.bs,wv:=wv',am:=gu s0.bs s.j s0.bs.length})/\∀k,a5.ownBlock=some k\/wv'.ownBlock=some k->w.heap.size<=k:=by
 obtain⟨A,cc,hv⟩:∃A cc,v=Z A sh.length cc:=by
  obtain⟨⟨A,cc,e,_⟩,_⟩:=h.cH;exact⟨A,cc,e⟩
 subst hv;have H:=M h;have HH:=M (aq a1 ha);have b0:s0.bs.length<=1000000:=by omega
 have p0:=H.p0;have p1:=H.p1;have p2:=H.p2;have p3:=H.p3;have p4:=H.p4;have p5:=H.p5;have p6:=H.p6;have p7:=H.p7;have p8:=H.p8;clear h a1 ha;go_enter func277,ntmps277;go_wp2_with fail;refine(sQ kd G w (by omega) (by omega)).mono ?_;rintro e w1⟨rfl,rfl⟩;go_wp2_with fail;refine(iy c _ sh kd s0 w H.cH HH.1 (by omega)).mono ?_;rw[HH.out.2];rintro e w2⟨g,i,rfl,E,a3,X⟩;have H2:=M (H.pure E);have O2:Hid (ac (λk=>k=a) w w2):=M (E.mono (λ_ _ f=>f.elim));have R:=M a3;have r:=M X;have Q:=M H.lt;clear p0 p1 p2 p3 p4 p5 p6 p7 p8 E a3 X;go_upto_region 3 with fail;obtain⟨l,-,a4⟩:=Ac.aO w2 #[L false,Z g s0.bs.length i] 35;have K:=M (H2.pure l);have O3:=M (O2.trans (l.mono (Tq:=λk=>k=a) (λ_ _ f=>f.elim)) (λ_ _ h=>h));have a8:=M (R.pure l);have a9:=M a4;have m:Hid (∀k,(Z g s0.bs.length i).ownBlock=some k->w.heap.size<=k/\k<(w2.alloc (D #[L false,Z g s0.bs.length i] 35)).heap.size):=M (λk d=>⟨(r k d).1,eR (r k d).2 l.size⟩);clear l a4 H2 O2 R r;generalize w2.alloc _=w3 at *;generalize w2.heap.size=X3 at *;obtain⟨y0,y1⟩:=iU a9;have b2:=K.jc;have b3:=K.pt;have S:=K.fz;rcases(by omega:G=0\/G=1)with rfl|rfl
 all_goals
  go_upto_region 9 with fail;have j:=K.put 12 (L false) {s with jY:=false} (λn=>⟨n,rfl⟩) ⟨rfl,rfl,rfl,rfl⟩;have h4:=j.Bk 13 (Z g s0.bs.length i) {s with jY:=false,rv:=Z g s0.bs.length i,bs:=s0.bs} (λn=>⟨n,rfl⟩) (a8.MC ((ac.refl (λk=>k=a) w3).setCell (p:=⟨a,12,none⟩) (λ_=>rfl) _) (λk d e=>by have:=(m k d).1;have:=Q.out;omega)) j.wr (λk d=>by
   rcases d with d|d|d
   ·exact j.ro k (.inl d)
   ·exact⟨λe=>by have:=(m k d).1;have:=Q.out;omega,by simpa[World.setCell]using(m k d).2⟩
   ·exact j.ro k (js d))
  have H4:=M h4;have O4:=M (dQ (dQ O3 12 (L false)) 13 (Z g s0.bs.length i));clear h4 j b2 b3 S K O3;generalize(w3.setCell _ _).setCell _ _=w4 at *;clear y0 y1;go_wp2_with fail;refine(wY w4 H4 T (by show s0.bs.length<=40;omega)).mono ?_;rintro e w5⟨u,rfl,F,B⟩;obtain⟨q,x,rfl⟩:=aD B;have hT:=ez.fQ (aC:=w4.heap.size) (xs:=gu s0.bs s.j s0.bs.length) B (py _ _ _);have h5:=H4.pure F;have P:=M h5;have o:=M hT;have O5:=M (O4.trans (F.mono (Tq:=λk=>k=a) (λ_ _ f=>f.elim)) (λ_ _ h=>h));have t:Hid (a<w4.heap.size/\w.heap.size<=w4.heap.size):=M ⟨H4.lt,O4.size⟩;have b4:=h5.tP;have S:=h5.fz;clear F B hT h5;go_upto_region 10 with fail;have h6:=P.Bk 16 (Z q (gu s0.bs s.j s0.bs.length).length x) {s with jY:=false,rv:=Z g s0.bs.length i,bs:=s0.bs,wv:=Z q (gu s0.bs s.j s0.bs.length).length x,am:=gu s0.bs s.j s0.bs.length} (λn=>⟨n,rfl⟩) P.refs (o.mono (aw _)) (λk d=>by
   rcases d with d|d|d
   ·exact P.ro k (.inl d)
   ·exact P.ro k (.inr (.inl d))
   ·have:=o.lt k d;exact⟨λe=>by have:=t.out;omega,this.2⟩)
  have H6:=M h6;have O6:=M (dQ O5 16 (Z q (gu s0.bs s.j s0.bs.length).length x));have a6:Hid (∀k,(Z q (gu s0.bs s.j s0.bs.length).length x).ownBlock=some k->w.heap.size<=k):=M (λk d=>by have:=o.lt k d;have:=t.out;omega);clear h6 b4 S P O5 o H4 O4 t;generalize w5.setCell _ _=w6 at *;go_wp2_with fail;refine(rJ w6 H6 b0 hj y).mono ?_;obtain⟨W,z⟩:∃W,oD {s with jY:=false,rv:=Z g s0.bs.length i,bs:=s0.bs,wv:=Z q (gu s0.bs s.j s0.bs.length).length x,am:=gu s0.bs s.j s0.bs.length}=W:=⟨_,rfl⟩;rw[z];have a7:=M z;clear z;rintro e w7⟨rfl,a2,h7⟩;have H7:=M h7;have O7:=M (O6.trans a2 (λ_ _ h=>h));clear a2 h7;have b1:=H7.kv;have S:=H7.fz;go_upto_region 11 with fail;have h8:=H7.put 11 (J W.pc) W (λn=>⟨n,T⟩) ⟨T,T,T,T⟩;have H8:=M h8;have O8:=M (dQ O7 11 (J W.pc));clear h8 b1 S;go_wp2_with fail;go_ret;refine⟨T,O8,Z g s0.bs.length i,Z q (gu s0.bs s.j s0.bs.length).length x,by rw[a7.out];exact H8,λk d=>?_⟩;rcases d with d|d
  ·exact(m k d).1
  ·exact a6 k d
def ml(head:N)(se:Bool):St:=⟨head,se,0,false,Z none 0 0,[],head,0,Z none 0 0,[],0,0,0⟩
theorem gS(head:N)(se:Bool)(w:Y)(E:dm w w.heap.size v sh)(o:bk c sh=0)(G:∀s∈sh,s.bs.length<=1000000):C 100 #[hI c v,J head,L se] w λe b=>∃a K m,e=O (I a 0)/\ae w b/\w.heap.size<=a/\(∀k,mK K m k->w.heap.size<=k)/\alike sh m/\At b a c K m (ml head se):=by
 obtain⟨A,f,rfl⟩:∃A f,v=Z A sh.length f:=by
  obtain⟨⟨A,f,e,_⟩,_⟩:=E;exact⟨A,f,e⟩
 have F:=Row.new w c (Z A sh.length f);have x:=M F;have P:=M (λ(b:Y) (r:ae w b)=>E.pure r);have Q:=M G;have i:=M o;clear F E G o;go_enter func100,ntmps100;go_upto_region 1 with fail;have z:Hid ((w.alloc (D #[J c.ag,J c.al,J c.ap,J c.ao,J c.ak,J c.aB,J c.be,J c.di,Z A sh.length f] 24)).heap.size=w.heap.size+1):=M (by simp);generalize w.alloc _=W at *;obtain⟨S,X,k2,k3,k4,k5,k6,k7,k8,kf⟩:=x.cells;go_wp2_with fail;refine(lV c _ sh W (P W x.2.2) i Q).mono ?_;rintro e t⟨u,B,H,rfl,p,q,n,l⟩;have j:=M (x.2.2.MD p);have y:=M q;have h:Hid (∀k,mK (Z u sh.length B) H k->w.heap.size<=k/\k<t.heap.size):=M (λk d=>by have:=n k d;have:=z.out;omega);have g:=M l;clear p q n l S X k2 k3 k4 k5 k6 k7 k8 kf;go_wp2_with fail;go_ret;have R:=ai t (D (cs c (Z u sh.length B) (ml head se) 0) 224);have r:=(ck t).alloc (D (cs c (Z u sh.length B) (ml head se) 0) 224);refine⟨t.heap.size,_,H,T,j.MD r,j.size,λk d=>(h k d).1,g,⟨0,R⟩,y.pure r,by rw[<-g.out.check];exact i,mE.nil _ _,ez.nil _ _,λk d=>?_⟩;rcases d with d|d|d
 ·have:=h k d;exact⟨by omega,by simp;omega⟩
 ·simp[ml,Value.ownBlock]at d
 ·simp[ml,Value.ownBlock]at d
