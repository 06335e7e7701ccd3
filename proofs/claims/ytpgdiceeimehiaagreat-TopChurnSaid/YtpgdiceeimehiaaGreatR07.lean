/- Part 7 of the proof of spotop.TopChurn. -/
import Derived.Test.YtpgdiceeimehiaaGreatR05
import Derived.Test.YtpgdiceeimehiaaGreatR06
set_option maxRecDepth 100000
set_option maxHeartbeats 16000000
set_option linter.all false
open Go.Proofs.Tryz
namespace Go.Proofs.YtpgdiceeimehiaaGreat
open RowKit
namespace Co
structure At(w:Y)(b:N)(size:V)(an:N)(u:N->V)(kept:V):Prop where
 me:w.heap[b]?=some (D #[J size,J an,J (u 0),J (u 1),J kept] 214 (0,0))
 an:an<2
 sz:0<=size/\size<=2048
 ub:∀k,0<=u k/\u k<=2048
 kb:0<=kept/\kept<=2048
section
variable{w w':Y}{b:N}{size:V}{an:N}{u:N->V}{kept:V}
theorem At.cs(h:At w b size an u kept):w.cell? (I b 0)=some (J size)/\w.cell? (I b 1)=some (J an)/\w.cell? (I b 4)=some (J kept):=by
 refine⟨?_,?_,?_⟩<;>(rw[bK h.me];rfl)
theorem At.cu(h:At w b size an u kept)(k:N)(a:k<2):w.cell? (I b (2+k))=some (J (u k)):=by
 rw[bK h.me];rcases(by omega:k=0\/k=1)with rfl|rfl<;>rfl
theorem At.fb(h:At w b size an u kept)(k:N):w.frozen? (I b k)=false:=ey k h.me
theorem At.lb(h:At w b size an u kept):b<w.heap.size:=(bR.1 h.me).1
theorem At.MC{S:N->Prop}(h:At w b size an u kept)(c:ac S w w')(a:¬S b):At w' b size an u kept:=⟨(c.block b h.lb a).trans h.me,h.an,h.sz,h.ub,h.kb⟩
end
theorem gS(m:V)(w:Y)(b:0<=m)(c:m<=2048):C 85 #[J m] w λe a=>e=O (.tuple #[I w.heap.size 0,J 0])/\ae w a/\a.heap.size=w.heap.size+1/\At a w.heap.size m 0 (λ_=>0) 0:=by
 have d:decide (m<0)=false:=by simp;omega
 have f:decide (2048<m)=false:=by simp;omega
 go_enter func85,ntmps85;go_wp2_with fail;go_ret2;exact⟨T,(bo _).alloc _,by simp,⟨ai w _,by omega,⟨b,c⟩,λ_=>by simp,by simp⟩⟩
theorem lc(b:N)(size:V)(an:N)(u:N->V)(kept:V)(w:Y)(h:At w b size an u kept):C 107 #[I b 0] w λe a=>e=O (J an)/\w=a:=by
 obtain⟨c,c1,d⟩:=h.cs;go_enter func107,ntmps107;go_wp2_with fail;go_ret;exact⟨T,T⟩
theorem rt(b:N)(size:V)(an:N)(u:N->V)(kept:V)(k:N)(w:Y)(h:At w b size an u kept)(a:k<2):C 109 #[I b 0,J k] w λe c=>e=O (J (u k))/\w=c:=by
 have d:=h.cu k a;rcases(by omega:k=0\/k=1)with rfl|rfl
 all_goals
  go_enter func109,ntmps109;go_wp2_with fail;go_ret;exact⟨T,T⟩
theorem nf(b:N)(size:V)(an:N)(u:N->V)(kept:V)(w:Y)(h:At w b size an u kept):C 231 #[I b 0] w λe f=>e=O (J (size-u an-kept))/\ae w f:=by
 obtain⟨g,c1,i⟩:=h.cs;have a:=h.cu an h.an;have j:(0:V)<=(an:V):=by omega
 have k:(an:V)<2:=by have:=h.an;omega
 obtain⟨v,d⟩:∃v,u an=v:=⟨_,T⟩;have c:=h.ub an;rw[d]at a c ⊢;have s0:=h.sz;have l:=h.kb;go_enter func231,ntmps231;go_wp2_with fail;go_quiet (fail);go_wp2_with fail;go_ret;exact⟨T,(bo _).drewN _⟩
theorem vp(b:N)(size:V)(an:N)(u:N->V)(kept:V)(w:Y)(h:At w b size an u kept)(f:u (1-an)=0):C 161 #[I b 0] w λe a=>e=O (L true)/\ac (λk=>k=b) w a/\At a b size (1-an) u (u an):=by
 obtain⟨g,c1,j⟩:=h.cs;have l:=h.cu an h.an;have c:=h.cu (1-an) (by omega);rw[f]at c;have m:=h.fb;have H:=M h;rcases(by have:=h.an;omega:an=0\/an=1)with rfl|rfl
 all_goals
  clear h;go_enter func161,ntmps161;go_wp2_with fail;go_quiet (fail);go_wp2_with fail;go_region;go_wp2_with fail;go_ret;have d:(w.drewN (nq+1)).heap[b]?=_:=H.me;exact⟨T,(((ac.refl (λk=>k=b) w).drewN _).setCell (p:=⟨b,4,none⟩) (λ_=>T) _).setCell (p:=⟨b,1,none⟩) (λ_=>T) _,⟨by simpa using az (i:=1) (az (i:=4) d),by omega,H.sz,H.ub,H.ub _⟩⟩
theorem uw(b:N)(size:V)(an:N)(u:N->V)(w:Y)(h:At w b size an u 0):C 163 #[I b 0] w λe c=>e=O (L true)/\ac (λk=>k=b) w c/\At c b size an (λk=>if k=1-an then 0 else u k) 0:=by
 obtain⟨d,c1,f⟩:=h.cs;have g:=h.cu (1-an) (by omega);have j:=h.fb;have H:=M h;rcases(by have:=h.an;omega:an=0\/an=1)with rfl|rfl
 all_goals
  clear h;go_enter func163,ntmps163;go_wp2_with fail;go_region;go_wp2_with fail;go_ret;have a:=H.me;refine⟨T,?_,⟨?_,by omega,H.sz,λk=>?_,by omega⟩⟩
  ·first|exact((ac.refl (λk=>k=b) w).setCell (p:=⟨b,3,none⟩) (λ_=>T) _).drewN 1|exact((ac.refl (λk=>k=b) w).setCell (p:=⟨b,2,none⟩) (λ_=>T) _).drewN 1
  ·first|exact az (w:=w) (i:=3) (u:=J 0) a|exact az (w:=w) (i:=2) (u:=J 0) a
  ·have:=H.ub k;split<;>omega
namespace Pi
structure At(w:Y)(b:N)(v:Value)(bp:N)(cb:Bool)(xs:List Int):Prop where
 me:w.heap[b]?=some (D #[v,J bp,L cb] 209 (0,0))
 own:w.ownsRow 0 3 1 v xs.length (bI xs)
 eT:xs.length<=bp
 bp:bp<=256
def S(b:N)(v:Value)(k:N):Prop:=k=b\/v.ownBlock=some k
section
variable{w w':Y}{b:N}{v:Value}{bp:N}{cb:Bool}{xs:List Int}
theorem At.cs(h:At w b v bp cb xs):w.cell? (I b 0)=some v/\w.cell? (I b 1)=some (J bp)/\w.cell? (I b 2)=some (L cb):=by
 refine⟨?_,?_,?_⟩<;>(rw[bK h.me];rfl)
theorem At.fb(h:At w b v bp cb xs)(k:N):w.frozen? (I b k)=false:=ey k h.me
theorem At.lb(h:At w b v bp cb xs):b<w.heap.size:=(bR.1 h.me).1
theorem At.MC{Tq:N->Prop}(h:At w b v bp cb xs)(c:ac Tq w w')(a:∀k,S b v k->¬Tq k):At w' b v bp cb xs:=⟨(c.block b h.lb (a b (.inl T))).trans h.me,c.own h.own (λk d=>a k (.inr d)),h.eT,h.bp⟩
theorem At.ne(h:At w b v bp cb xs):v.ownBlock≠some b:=λe=>by
 rcases h.own.2 with⟨rfl,_⟩|⟨g,a,c,rfl,_,d,_⟩
 ·cases e
 ·injection e with e;subst e;have:=d.symm.trans h.me;simp at this
end
theorem gS(m:N)(w:Y)(f:1<=m)(b:m<=256):C 82 #[J m] w λe a=>e=O (.tuple #[I w.heap.size 0,J 0])/\ae w a/\a.heap.size=w.heap.size+1/\At a w.heap.size (Z none 0 0) m false []:=by
 have c:decide ((m:V)<1)=false:=by simp;omega
 have d:decide ((256:V)<(m:V))=false:=by simp;omega
 go_enter func82,ntmps82;go_wp2_with fail;go_ret2;exact⟨T,(bo _).alloc _,by simp,⟨ai w _,jD _ _ _ _,by simp,b⟩⟩
theorem rX(b:N)(v:Value)(bp:N)(cb:Bool)(xs:List Int)(w:Y)(h:At w b v bp cb xs):C 157 #[I b 0] w λe a=>e=O (L cb)/\w=a:=by
 obtain⟨c,c1,d⟩:=h.cs;go_enter func157,ntmps157;go_wp2_with fail;go_ret;exact⟨T,T⟩
theorem AF(b:N)(v:Value)(bp:N)(cb:Bool)(xs:List Int)(w:Y)(h:At w b v bp cb xs):C 158 #[I b 0] w λe a=>e=O (.tuple #[])/\ac (S b v) w a/\At a b v bp false xs:=by
 obtain⟨f,c1,g⟩:=h.cs;have i:=h.fb;go_enter func158,ntmps158;go_wp2_with fail;go_end0;have d:ac (S b v) w (w.setCell (I b 2) (L false)):=(ac.refl (S b v) w).setCell (p:=⟨b,2,none⟩) (λ_=>.inl T) _;exact⟨T,d,⟨by have:=h.me;simp[World.setCell,gV,this],((ac.refl (λk=>k=b) w).setCell (p:=⟨b,2,none⟩) (λ_=>T) _).own h.own (λk c e=>h.ne (e▸c)),h.eT,h.bp⟩⟩
theorem Jv(b:N)(v:Value)(bp:N)(cb:Bool)(w:Y)(h:At w b v bp cb []):C 154 #[I b 0] w λe a=>e=O (.tuple #[J 0,L false])/\w=a:=by
 obtain⟨A,c,rfl⟩:=aD h.own;obtain⟨d,c1,f⟩:=h.cs;go_enter func154,ntmps154;go_wp2_with fail;go_ret2;exact⟨T,T⟩
theorem Ju(b:N)(v:Value)(bp:N)(cb:Bool)(xs:List Int)(x:V)(w:Y)(h:At w b v bp cb (xs++[x])):C 154 #[I b 0] w λe y=>e=O (.tuple #[J x,L true])/\ac (S b v) w y/\∃t,t.ownBlock=v.ownBlock/\At y b t bp cb xs:=by
 have H:=M h;obtain⟨F,c1,G⟩:=h.cs;have K:=h.fb;have j:=h.ne;have a:=h.own;rw[iB,List.length_singleton]at a;rcases a.2 with⟨-,P⟩|⟨g,c,B,rfl,-,E,r,l,n,o⟩
 ·omega
 have f:=h.eT;have d:=h.bp;simp only[iB,List.length_singleton]at f;have Q:w.cell? (I g xs.length)=some (J x):=by
  have:=a.cellAt xs.length (by simp[bI]);rw[this];simp[bI]
 have A:=M a;have z:=M j;simp only[maxLen]at l;clear h a j o n E;go_enter func154,ntmps154;go_wp2_with fail;go_ret2;have s:ac (λk=>k=b) w (w.setCell (I b 0) (Z (some (I g 0)) xs.length c)):=(ac.refl (λk=>k=b) w).setCell (p:=⟨b,0,none⟩) (λ_=>T) _;refine⟨T,s.mono (λk _ m=>.inl m),Z (some (I g 0)) xs.length c,T,⟨by simpa using az (i:=0) (u:=Z (some (I g 0)) xs.length c) H.me,?_,by omega,d⟩⟩;have q:=s.own A (λk m e=>z (e▸m));rw[qu]at q;exact ownsRow_pop (by simp[bI]) q
theorem GH(b:N)(v:Value)(bp:N)(cb:Bool)(xs:List Int)(x:V)(w:Y)(h:At w b v bp cb xs)(hl:xs.length<bp):C 150 #[I b 0,J x] w λe w'=>e=O (L true)/\ac (S b v) w w'/\∃R,(R.ownBlock=v.ownBlock\/∃q,R.ownBlock=some q/\w.heap.size<=q)/\At w' b R bp cb (xs++[x]):=by
 obtain⟨i0,B,K,P,Q⟩:=aR eu;obtain⟨A,c,rfl⟩:=aD h.own;have H:=M h;obtain⟨c0,c1,c2⟩:=h.cs;have fb:=h.fb;have m:=h.bp;have a3:((xs.length:V)==(bp:V))=false:=by simp;omega
 clear h c2;go_enter func150,ntmps150;go_wp2_with fail;go_quiet (fail);have j:Hid (At (w.drewN nq) b (Z A xs.length c) bp cb xs):=M (H.MC ((ck w).drewN nq) (λ_ _ f=>f));have X:Hid (ac (S b (Z A xs.length c)) w (w.drewN nq)):=M ((bo w).drewN nq);generalize w.drewN nq=W at *;have d0:=j.cs.1;have a1:=j.fb;have a2:=j.lb;clear c0 c1 fb;go_wp2_with (at_builtin;refine bT _ T (.tmp 22) (.tmp 24) _ T 0 3 i0 _ 1 8 underlying25 B K P Q T (by omega) (Z A xs.length c) xs.length _ T (aH j.own _) _ 1 1 [J x] T (jd.cI _ _ #[J x] 1 1 _ T T) (by simp[Value.oneCell']) (by simp only[maxLen];omega) (by omega) (by omega) ?_;intro v9 s a l g;obtain⟨o,r,rfl⟩:=aD a;have z:=M a;have t:=M l;have n:=M g;have d:=((ac.grown (S:=λk=>(Z A xs.length c).ownBlock=some k) ((bo W).alloc _) l (λk _ e=>e)).bF j.me (λe=>j.ne e));have y:=M d;have d9:=fq 0 d;have f9:=ey 0 d;clear a l g d;go_frame);go_ret;have G:ac (S b (Z A xs.length c)) W s:=ac.grown (S:=S b (Z A xs.length c)) ((bo W).alloc _) t (λk _ e=>.inr e);have F:(Z o (xs.length+1) r).ownBlock≠some b:=by
  rcases n.out with h|h
  ·rw[h];exact j.ne
  ·rw[h];intro e;injection e with e;simp at e;omega
 have ho:ac (λk=>k=b) s (s.setCell (I b 0) (Z o (xs.length+1) r)):=(ac.refl (λk=>k=b) s).setCell (p:=⟨b,0,none⟩) (λ_=>T) _;refine⟨T,(X.trans G (λ_ _ h=>h)).trans (ho.mono (Tq:=S b (Z A xs.length c)) (λk _ E=>.inl E)) (λ_ _ h=>h),Z o (xs.length+1) r,?_,⟨by simpa using az (i:=0) (u:=Z o (xs.length+1) r) y,?_,by simp;omega,m⟩⟩
 ·rcases n.out with h|h
  ·exact .inl h
  ·refine .inr ⟨_,h,?_⟩;have:=X.size;simp;omega
 ·have:=ho.own z (λk E e=>F (e▸E));simpa[bI]using this
end Pi
end Co
section
def mK(v:Value)(l:List Sh)(k:N):Prop:=v.ownBlock=some k\/∃s∈l,s.v.ownBlock=some k
theorem dm.MC{S:N->Prop}{w f:Y}{v:Value}{l:List Sh}(h:dm w w.heap.size v l)(a:ac S w f)(e:∀k,mK v l k->¬S k):dm f f.heap.size v l:=by
 obtain⟨⟨A,c,rfl,m,n,o⟩,q⟩:=h;refine⟨⟨A,c,T,m,n,λx=>?_⟩,λs g=>(q s g).MC a (λk u=>e k (.inr ⟨s,g,u⟩))⟩;obtain⟨b,off,rfl,d,r⟩:=o x;refine⟨b,off,T,eR d a.size,λj s t=>?_⟩;obtain⟨c1,i⟩:=r j s t;exact⟨(a.cell (p:=⟨b,_,none⟩) d (e b (.inl T))).trans c1,(a.cell (p:=⟨b,_,none⟩) d (e b (.inl T))).trans i⟩
namespace Sp
structure Q where
 sp:N
 tb:N
 tg:N
 po:N
 pg:N
 co:N
 li:N
 s0:N
 K7:Value
 ns:N
 cv:Value
structure St where
 l:List dq.dy
 fr:List Bool
 size:V
 an:N
 u:N->V
 kept:V
 lv:Value
 en:List Ln.En
 sv:Value
 sx:List Int
 cm:Bool
def F(q:Q)(s:St)(k:N):Prop:=k=q.sp\/k=q.tb\/k=q.tg\/k=q.po\/k=q.pg\/k=q.co\/Ln.eU q.li s.lv k\/Sk.og q.s0 s.sv k
def R(q:Q)(sh:List Sh)(k:N):Prop:=mK q.cv sh k\/q.K7.ownBlock=some k
structure At(w:Y)(c:Cn)(sh:List Sh)(q:Q)(s:St):Prop where
 me:∃n:V,w.heap[q.sp]?=some (D #[I q.tb 0,q.K7,L s.cm,J n,J c.ag,J c.al,J c.ap,J c.ao,J c.ak,J c.aB,J c.be,J c.di,q.cv,I q.po 0,I q.co 0,I q.li 0] 168 (0,0))
 im:dq.At w q.tb q.tg s.l
 fL:Po.At w q.po q.pg s.fr
 gA:Co.At w q.co s.size s.an s.u s.kept
 eM:Ln.bO w q.li s.lv s.en
 kz:Sk.iO w q.s0 c.aB s.sv s.sx
 vk:∃gT:List Value,w.ownsRow 0 169 1 q.K7 q.ns (I q.s0 0::gT)
 cH:dm w w.heap.size q.cv sh
 ok:bk c sh=0
 ns:(q.ns:V)=c.ao
 ro:∀k,R q sh k->¬F q s k/\k<w.heap.size
 gv:∀e∈s.en,∀k,e.gv.ownBlock=some k->¬F q s k
section
variable{w b:Y}{c:Cn}{sh:List Sh}{q:Q}{s:St}
theorem At.sf(h:At w c sh q s):q.sp≠q.tb/\q.sp≠q.tg/\q.sp≠q.po/\q.sp≠q.pg/\q.sp≠q.co/\¬Ln.eU q.li s.lv q.sp/\¬Sk.og q.s0 s.sv q.sp:=by
 obtain⟨n,d⟩:=h.me;refine⟨aV d h.im.eA.me (by decide),aV d h.im.eA.cI (by decide),aV d h.fL.eA.me (by decide),aV d h.fL.eA.cI (by decide),aV d h.gA.me (by decide),λa=>?_,λa=>?_⟩
 ·rcases a with a|a
  ·exact aV d h.eM.aM (by decide) a
  ·exact ca h.eM.own d (by decide) a
 ·rcases a with a|a
  ·exact aV d h.kz.aM (by decide) a
  ·exact ca h.kz.own d (by decide) a
theorem At.lt(h:At w c sh q s)(k:N)(a:F q s k):k<w.heap.size:=by
 obtain⟨n,d⟩:=h.me;rcases a with rfl|rfl|rfl|rfl|rfl|rfl|a|a
 ·exact(bR.1 d).1
 ·exact h.im.eA.lb
 ·exact h.im.eA.lg
 ·exact h.fL.eA.lb
 ·exact h.fL.eA.lg
 ·exact h.gA.lb
 ·exact h.eM.lt k a
 ·rcases a with rfl|a
  ·exact h.kz.aM.lt
  ·exact(h.kz.own.lt k a).2
theorem At.MC{Tq:N->Prop}(h:At w c sh q s)(d:ac Tq w b)(f:∀k,F q s k->¬Tq k)(j:∀k,R q sh k->¬Tq k)(l:∀e∈s.en,∀k,e.gv.ownBlock=some k->¬Tq k):At b c sh q s:=by
 obtain⟨n,m⟩:=h.me;obtain⟨g,i⟩:=h.vk;exact⟨⟨n,d.bF m (f _ (.inl T))⟩,h.im.MC d (f _ (.inr (.inl T))) (f _ (js (.inl T))),h.fL.MC d (f _ (pN (.inl T))) (f _ (tw (.inl T))),h.gA.MC d (f _ (xL (.inl T))),
  h.eM.MC d (λk a=>f k (vC (.inl a))) l,h.kz.MC d (λk a=>f k (xH a)),⟨g,d.own i (λk a=>j k (.inr a))⟩,h.cH.MC d (λk a=>j k (.inl a)),h.ok,h.ns,λk a=>⟨(h.ro k a).1,eR (h.ro k a).2 d.size⟩,h.gv⟩
theorem At.pure(h:At w c sh q s)(a:ae w b):At b c sh q s:=h.MC a (λ_ _ f=>f) (λ_ _ f=>f) (λ_ _ _ _ f=>f)
theorem At.dN{i:N}{v:Value}(h:At w c sh q s)(l:Bool)(r:∃n:V,(w.setCell (I q.sp i) v).heap[q.sp]?=some (D #[I q.tb 0,q.K7,L l,J n,J c.ag,J c.al,J c.ap,J c.ao,J c.ak,J c.aB,J c.be,J c.di,q.cv,I q.po 0,I q.co 0,I q.li 0] 168 (0,0))):At (w.setCell (I q.sp i) v) c sh q {s with cm:=l}:=by
 obtain⟨t,u,x,y,z,A,B⟩:=h.sf;obtain⟨f,j⟩:=h.vk;have d:ac (λk=>k=q.sp) w (w.setCell (I q.sp i) v):=(ac.refl (λk=>k=q.sp) w).setCell (p:=⟨q.sp,i,none⟩) (λ_=>T) _;have g:F q s q.sp:=.inl T;exact⟨r,h.im.MC d (bC t) (bC u),h.fL.MC d (bC x) (bC y),h.gA.MC d (bC z),h.eM.MC d (λk a e=>A (e▸a)) (λe o k a m=>h.gv e o k a (m▸g)),
  h.kz.MC d (λk a e=>B (e▸a)),⟨f,d.own j (λk a e=>(h.ro k (.inr a)).1 (e▸g))⟩,h.cH.MC d (λk a e=>(h.ro k (.inl a)).1 (e▸g)),h.ok,h.ns,λk a=>⟨(h.ro k a).1,eR (h.ro k a).2 d.size⟩,h.gv⟩
theorem At.count(h:At w c sh q s)(v:V):At (w.setCell (I q.sp 3) (J v)) c sh q s:=by
 obtain⟨n,a⟩:=h.me;exact h.dN s.cm ⟨v,by simpa using az (i:=3) (u:=J v) a⟩
theorem At.KD(h:At w c sh q s)(f:Bool):At (w.setCell (I q.sp 2) (L f)) c sh q {s with cm:=f}:=by
 obtain⟨n,a⟩:=h.me;exact h.dN f ⟨n,by simpa using az (i:=2) (u:=L f) a⟩
theorem eX{a:Y}(h:ac (F q s) a w)(i:N)(v:Value):ac (F q s) a (w.setCell (I q.sp i) v):=h.setCell (p:=⟨q.sp,i,none⟩) (λ_=>.inl T) v
theorem At.cs(h:At w c sh q s):w.cell? (I q.sp 0)=some (.pointer (some (I q.tb 0)))/\w.cell? (I q.sp 1)=some q.K7/\w.cell? (I q.sp 2)=some (L s.cm)/\(∃n:V,w.cell? (I q.sp 3)=some (J n))/\w.cell? (I q.sp 11)=some (J c.di)/\w.cell? (I q.sp 13)=some (.pointer (some (I q.po 0)))/\w.cell? (I q.sp 14)=some (.pointer (some (I q.co 0)))/\w.cell? (I q.sp 15)=some (.pointer (some (I q.li 0))):=by
 obtain⟨n,a⟩:=h.me;refine⟨?_,?_,?_,⟨n,?_⟩,?_,?_,?_,?_⟩<;>(rw[bK a];rfl)
theorem At.cc(h:At w c sh q s):w.cell? (I q.sp 4)=some (J c.ag)/\w.cell? (I q.sp 5)=some (J c.al)/\w.cell? (I q.sp 6)=some (J c.ap)/\w.cell? (I q.sp 7)=some (J c.ao)/\w.cell? (I q.sp 8)=some (J c.ak)/\w.cell? (I q.sp 9)=some (J c.aB)/\w.cell? (I q.sp 10)=some (J c.be)/\w.cell? (I q.sp 11)=some (J c.di)/\w.cell? (I q.sp 12)=some q.cv:=by
 obtain⟨n,a⟩:=h.me;refine⟨?_,?_,?_,?_,?_,?_,?_,?_,?_⟩<;>(rw[bK a];rfl)
theorem At.fb(h:At w c sh q s)(k:N):w.frozen? (I q.sp k)=false:=by
 obtain⟨n,a⟩:=h.me;exact ey k a
theorem At.qm{o:List dq.dy}(h:At w c sh q s)(d:ac (λk=>k=q.tb\/k=q.tg) w b)(u:dq.At b q.tb q.tg o):At b c sh q {s with l:=o}:=by
 obtain⟨n,t⟩:=h.me;obtain⟨i,m⟩:=h.vk;obtain⟨v,x,-⟩:=h.sf;have f:=h.im.eA.me;have g:=h.im.eA.cI;have j:∀k,(k=q.tb\/k=q.tg)->F q s k:=λk a=>by rcases a with a|a;exact .inr (.inl a);exact js (.inl a)
 refine⟨⟨n,d.bF t (λe=>by rcases e with e|e;exact v e;exact x e)⟩,u,h.fL.MC d ?_ ?_,h.gA.MC d ?_,h.eM.MC d ?_ (λe r k a p=>h.gv e r k a (j k p)),h.kz.MC d ?_,⟨i,d.own m (λk a e=>(h.ro k (.inr a)).1 (j k e))⟩,h.cH.MC d (λk a e=>(h.ro k (.inl a)).1 (j k e)),h.ok,h.ns,λk a=>⟨(h.ro k a).1,eR (h.ro k a).2 d.size⟩,h.gv⟩
 ·rintro(e|e);exact aV h.fL.eA.me f (by decide) e;exact aV h.fL.eA.me g (by decide) e
 ·rintro(e|e);exact aV h.fL.eA.cI f (by decide) e;exact aV h.fL.eA.cI g (by decide) e
 ·rintro(e|e);exact aV h.gA.me f (by decide) e;exact aV h.gA.me g (by decide) e
 ·rintro k (rfl|a) (e|e)
  ·exact aV h.eM.aM f (by decide) e
  ·exact aV h.eM.aM g (by decide) e
  ·exact ca h.eM.own f (by decide) (e▸a)
  ·exact ca h.eM.own g (by decide) (e▸a)
 ·rintro k (rfl|a) (e|e)
  ·exact aV h.kz.aM f (by decide) e
  ·exact aV h.kz.aM g (by decide) e
  ·exact ca h.kz.own f (by decide) (e▸a)
  ·exact ca h.kz.own g (by decide) (e▸a)
theorem At.uZ{i:List Bool}(h:At w c sh q s)(d:ac (λk=>k=q.po\/k=q.pg) w b)(t:Po.At b q.po q.pg i):At b c sh q {s with fr:=i}:=by
 obtain⟨n,r⟩:=h.me;obtain⟨j,m⟩:=h.vk;obtain⟨-,-,u,v,-⟩:=h.sf;have f:=h.fL.eA.me;have g:=h.fL.eA.cI;have l:∀k,(k=q.po\/k=q.pg)->F q s k:=λk a=>by rcases a with a|a;exact pN (.inl a);exact tw (.inl a)
 refine⟨⟨n,d.bF r (λe=>by rcases e with e|e;exact u e;exact v e)⟩,h.im.MC d ?_ ?_,t,h.gA.MC d ?_,h.eM.MC d ?_ (λe p k a o=>h.gv e p k a (l k o)),h.kz.MC d ?_,⟨j,d.own m (λk a e=>(h.ro k (.inr a)).1 (l k e))⟩,h.cH.MC d (λk a e=>(h.ro k (.inl a)).1 (l k e)),h.ok,h.ns,λk a=>⟨(h.ro k a).1,eR (h.ro k a).2 d.size⟩,h.gv⟩
 ·rintro(e|e);exact aV h.im.eA.me f (by decide) e;exact aV h.im.eA.me g (by decide) e
 ·rintro(e|e);exact aV h.im.eA.cI f (by decide) e;exact aV h.im.eA.cI g (by decide) e
 ·rintro(e|e);exact aV h.gA.me f (by decide) e;exact aV h.gA.me g (by decide) e
 ·rintro k (rfl|a) (e|e)
  ·exact aV h.eM.aM f (by decide) e
  ·exact aV h.eM.aM g (by decide) e
  ·exact ca h.eM.own f (by decide) (e▸a)
  ·exact ca h.eM.own g (by decide) (e▸a)
 ·rintro k (rfl|a) (e|e)
  ·exact aV h.kz.aM f (by decide) e
  ·exact aV h.kz.aM g (by decide) e
  ·exact ca h.kz.own f (by decide) (e▸a)
  ·exact ca h.kz.own g (by decide) (e▸a)
theorem At.oh{cur':N}{m:N->V}{d:V}(h:At w c sh q s)(f:ac (λk=>k=q.co) w b)(t:Co.At b q.co s.size cur' m d):At b c sh q {s with an:=cur',u:=m,kept:=d}:=by
 obtain⟨n,r⟩:=h.me;obtain⟨i,l⟩:=h.vk;obtain⟨-,-,-,-,v,-⟩:=h.sf;have g:=h.gA.me;have j:∀k,k=q.co->F q s k:=λk a=>xL (.inl a);refine⟨⟨n,f.bF r v⟩,h.im.MC f (aV h.im.eA.me g (by decide)) (aV h.im.eA.cI g (by decide)),h.fL.MC f (aV h.fL.eA.me g (by decide)) (aV h.fL.eA.cI g (by decide)),t,h.eM.MC f ?_ (λe p k a o=>h.gv e p k a (j k o)),h.kz.MC f ?_,⟨i,f.own l (λk a e=>(h.ro k (.inr a)).1 (j k e))⟩,h.cH.MC f (λk a e=>(h.ro k (.inl a)).1 (j k e)),h.ok,h.ns,λk a=>⟨(h.ro k a).1,eR (h.ro k a).2 f.size⟩,h.gv⟩
 ·rintro k (rfl|a) e
  ·exact aV h.eM.aM g (by decide) e
  ·exact ca h.eM.own g (by decide) (e▸a)
 ·rintro k (rfl|a) e
  ·exact aV h.kz.aM g (by decide) e
  ·exact ca h.kz.own g (by decide) (e▸a)
end
end Sp
end
namespace Sp
section
variable(c:Cn)(sh:List Sh)(q:Q)(s:St)
theorem EH{q:Q}{s:St}{a w:Y}(h:ac (λk=>k=q.tb\/k=q.tg) a w):ac (F q s) a w:=h.mono λ_ _ b=>by rcases b with b|b;exact .inr (.inl b);exact js (.inl b)
theorem uY{q:Q}{s:St}{a w:Y}(h:ac (λk=>k=q.po\/k=q.pg) a w):ac (F q s) a w:=h.mono λ_ _ b=>by rcases b with b|b;exact pN (.inl b);exact tw (.inl b)
theorem ur{q:Q}{s:St}{a w:Y}(h:ac (λk=>k=q.co) a w):ac (F q s) a w:=h.mono λ_ _ b=>xL (.inl b)
theorem oi{q:Q}{s:St}{a w:Y}(h:ac (Ln.eU q.li s.lv) a w):ac (F q s) a w:=h.mono λ_ _ b=>vC (.inl b)
theorem dD{q:Q}{s:St}{a w:Y}(h:ae a w):ac (F q s) a w:=h.mono λ_ _ b=>b.elim
theorem un(j:N)(o:dq.dy)(w:Y)(h:At w c sh q s)(t:s.l[j]?=some o)(d:o.st=2)(a:o.head=false):C 193 #[I q.sp 0,J j] w λe i=>e=O (L true)/\ac (F q s) w i/\At i c sh q {s with l:=s.l.set j {o with head:=true}}:=by
 obtain⟨-,-,-,⟨n,y⟩,-⟩:=h.cs;have z:=h.fb;have b:=M (h.count (wrap64 (n+1)));have p:=M (eX (ac.refl (F q s) w) 3 (J (wrap64 (n+1))));have m:=M a;clear h a;go_enter func193,ntmps193;go_upto_region 2 with fail;generalize w.setCell _ _=u at *;obtain⟨x,-⟩:=b.cs;go_wp2_with fail;refine(dq.un q.tb q.tg s.l j o u b.im t d m).mono ?_;rintro e v⟨rfl,f,g⟩;have k:=M (b.qm f g);have r:Hid (ac (F q s) w v):=M (p.trans (EH f) (λ_ _ h=>h));clear f g;go_wp2_with fail;go_ret;exact⟨T,r,k⟩
theorem CK(j:N)(o:dq.dy)(w:Y)(h:At w c sh q s)(v:s.l[j]?=some o)(u:s.fr[j]?=some false):C 164 #[I q.sp 0,J j] w λe m=>e=O (.tuple #[])/\ac (F q s) w m/\At m c sh q {s with l:=s.l.set j ⟨0,false,false⟩,fr:=s.fr.set j true}:=by
 obtain⟨g,-,-,-,-,a,-⟩:=h.cs;have H:=M h;clear h;go_enter func164,ntmps164;go_wp2_with fail;refine(dq.oA q.tb q.tg s.l j o w H.im v 0 (by omega) false false).mono ?_;rintro e n⟨rfl,d,i⟩;have b:=M (H.qm d i);have r:Hid (ac (F q s) w n):=M (EH d);clear d i g a;obtain⟨g,-,-,-,-,a,-⟩:=b.cs;go_wp2_with fail;refine(Po.FK q.po q.pg s.fr j n b.fL u).mono ?_;rintro e x⟨rfl,f,k⟩;have p:=M (b.uZ f k);have t:Hid (ac (F q s) w x):=M (r.trans (uY f) (λ_ _ h=>h));clear f k;go_wp2_with fail;go_end0;exact⟨T,t,p⟩
theorem vp(w:Y)(h:At w c sh q s)(f:s.u (1-s.an)=0):C 105 #[I q.sp 0] w λe g=>e=O (L true)/\ac (F q s) w g/\At g c sh q {s with an:=1-s.an,kept:=s.u s.an}:=by
 obtain⟨-,-,-,⟨n,r⟩,-⟩:=h.cs;have t:=h.fb;have a:=M (h.count (wrap64 (n+1)));have k:=M (eX (ac.refl (F q s) w) 3 (J (wrap64 (n+1))));have j:=M f;clear h f;go_enter func105,ntmps105;go_upto_region 2 with fail;generalize w.setCell _ _=o at *;obtain⟨-,-,-,-,-,-,m,-⟩:=a.cs;go_wp2_with fail;refine(Co.vp q.co s.size s.an s.u s.kept o a.gA j).mono ?_;rintro e p⟨rfl,b,d⟩;have i:=M (a.oh b d);have l:Hid (ac (F q s) w p):=M (k.trans (ur b) (λ_ _ h=>h));clear b d;go_wp2_with fail;go_ret;exact⟨T,l,i⟩
theorem uw(w:Y)(h:At w c sh q s)(f:s.kept=0):C 113 #[I q.sp 0] w λe g=>e=O (L true)/\ac (F q s) w g/\At g c sh q {s with u:=λk=>if k=1-s.an then 0 else s.u k,kept:=0}:=by
 obtain⟨-,-,-,⟨n,t⟩,-⟩:=h.cs;have v:=h.fb;have a:=M (h.count (wrap64 (n+1)));have l:=M (eX (ac.refl (F q s) w) 3 (J (wrap64 (n+1))));have j:=M f;clear h f;go_enter func113,ntmps113;go_upto_region 2 with fail;generalize w.setCell _ _=p at *;obtain⟨-,-,-,-,-,-,o,-⟩:=a.cs;go_wp2_with fail;refine(Co.uw q.co s.size s.an s.u p (j▸a.gA)).mono ?_;rintro e r⟨rfl,b,d⟩;have i:=M (a.oh b d);have m:Hid (ac (F q s) w r):=M (l.trans (ur b) (λ_ _ h=>h));clear b d;go_wp2_with fail;go_ret;exact⟨T,m,i⟩
theorem sN(j:N)(o:dq.dy)(se:Bool)(w:Y)(h:At w c sh q s)(i:s.l[j]?=some o)(k:o.st=2->o.ah=se):C 114 #[I q.sp 0,J j,L se] w λe m=>e=O (L false)/\ac (F q s) w m/\At m c sh q s:=by
 obtain⟨-,-,-,⟨n,x⟩,-⟩:=h.cs;have y:=h.fb;have a:=M (h.count (wrap64 (n+1)));have g:=M (eX (ac.refl (F q s) w) 3 (J (wrap64 (n+1))));have t:=M k;have d:=M i;clear h k i;go_enter func114,ntmps114;go_upto_region 2 with fail;generalize w.setCell _ _=f at *;obtain⟨v,-⟩:=a.cs;by_cases b:o.st=2
 ·have l:=t b;have u:((o.st:V) !=2)=false:=by simp;omega
  have r:Hid ((decide (o.st=2)&&o.ah==se)=true):=M (by simp[b,l]);clear b l;go_wp2_with fail;refine(dq.iz q.tb q.tg s.l j o f a.im d).mono ?_;rintro e p⟨rfl,rfl⟩;go_wp2_with fail;refine(dq.jK q.tb q.tg s.l j o se f a.im d).mono ?_;rw[r.out];rintro e p⟨rfl,rfl⟩;go_wp2_with fail;go_ret;exact⟨T,g,a⟩
 ·have u:((o.st:V) !=2)=true:=by simp;omega
  clear b;go_wp2_with fail;refine(dq.iz q.tb q.tg s.l j o f a.im d).mono ?_;rintro e p⟨rfl,rfl⟩;go_wp2_with fail;go_ret;exact⟨T,g,a⟩
theorem ql(j:N)(o:dq.dy)(se:Bool)(w:Y)(h:At w c sh q s)(k:s.l[j]?=some o)(b:o.st=2)(m:o.ah≠se)(i:s.fr[j]?=some false):C 114 #[I q.sp 0,J j,L se] w λe r=>e=O (L true)/\ac (F q s) w r/\At r c sh q {s with l:=s.l.set j ⟨0,false,false⟩,fr:=s.fr.set j true}:=by
 obtain⟨-,-,-,⟨n,A⟩,-⟩:=h.cs;have B:=h.fb;have a:=M (h.count (wrap64 (n+1)));have x:=M (eX (ac.refl (F q s) w) 3 (J (wrap64 (n+1))));have E:((o.st:V) !=2)=false:=by simp;omega
 have u:Hid ((decide (o.st=2)&&o.ah==se)=false):=M (by simp[m]);have d:=M k;have v:=M i;clear h k b m i;go_enter func114,ntmps114;go_upto_region 2 with fail;generalize w.setCell _ _=f at *;obtain⟨z,-⟩:=a.cs;go_wp2_with fail;refine(dq.iz q.tb q.tg s.l j o f a.im d).mono ?_;rintro e g⟨rfl,rfl⟩;go_wp2_with fail;refine(dq.jK q.tb q.tg s.l j o se f a.im d).mono ?_;rw[u.out];rintro e g⟨rfl,rfl⟩;go_wp2_with fail;refine(CK c sh q s j o f a d v).mono ?_;rintro e g⟨rfl,p,b⟩;have t:=M b;have y:Hid (ac (F q s) w g):=M (x.trans p (λ_ _ h=>h));clear p b;go_wp2_with fail;go_ret;exact⟨T,y,t⟩
abbrev nP(c:Cn)(q:Q):Value:=.agg #[J c.ag,J c.al,J c.ap,J c.ao,J c.ak,J c.aB,J c.be,J c.di,q.cv,I q.po 0,I q.co 0,I q.li 0]
def pD(c:Cn)(q:Q):Obj:=D #[J c.ag,J c.al,J c.ap,J c.ao,J c.ak,J c.aB,J c.be,J c.di,q.cv,I q.po 0,I q.co 0,I q.li 0] 165
theorem dG(c:Cn)(q:Q)(w:Y):(w.alloc (pD c q)).cell? (I w.heap.size 9)=some (.pointer (some (I q.po 0)))/\(w.alloc (pD c q)).cell? (I w.heap.size 10)=some (.pointer (some (I q.co 0)))/\(w.alloc (pD c q)).cell? (I w.heap.size 11)=some (.pointer (some (I q.li 0))):=by
 have a:=ai w (pD c q);refine⟨?_,?_,?_⟩<;>(rw[bK a];rfl)
theorem lN(w:Y)(h:At w c sh q s):C 91 #[nP c q] w λe i=>e=O (J (s.en.countP Ln.kU))/\ae w i:=by
 obtain⟨g,b,d⟩:=dG c q w;have a:=(ck w).alloc (pD c q);have H:=M (h.pure a);have HP:=M a;clear h a;have e:pD c q=D #[J c.ag,J c.al,J c.ap,J c.ao,J c.ak,J c.aB,J c.be,J c.di,q.cv,I q.po 0,I q.co 0,I q.li 0] 165:=rfl;rw[e]at g b d H HP;clear e;go_enter func91,ntmps91;go_wp2_with fail;refine(Ln.lN q.li s.lv s.en _ H.eM).mono ?_;rintro e j⟨rfl,a⟩;have f:=M (ae.MD HP a);clear a g b d;go_wp2_with fail;go_ret;exact⟨T,f⟩
theorem kJ(w:Y)(h:At w c sh q s):C 92 #[nP c q] w λe g=>e=O (J (Po.cY s.fr))/\ae w g:=by
 obtain⟨f,a,b⟩:=dG c q w;have d:=(ck w).alloc (pD c q);have H:=M (h.pure d);have HP:=M d;clear h d;have e:pD c q=D #[J c.ag,J c.al,J c.ap,J c.ao,J c.ak,J c.aB,J c.be,J c.di,q.cv,I q.po 0,I q.co 0,I q.li 0] 165:=rfl;rw[e]at f a b H HP;clear e;go_enter func92,ntmps92;go_wp2_with fail;refine(Po.kJ q.po q.pg s.fr _ H.fL).mono ?_;rintro e i⟨rfl,rfl⟩;clear f a b;go_wp2_with fail;go_ret;exact⟨T,HP⟩
theorem iv(w:Y):C 106 #[nP c q] w λe g=>e=O (I q.co 0)/\ae w g:=by
 obtain⟨f,a,b⟩:=dG c q w;have d:=(ck w).alloc (pD c q);have HP:=M d;clear d;have e:pD c q=D #[J c.ag,J c.al,J c.ap,J c.ao,J c.ak,J c.aB,J c.be,J c.di,q.cv,I q.po 0,I q.co 0,I q.li 0] 165:=rfl;rw[e]at f a b HP;clear e;go_enter func106,ntmps106;go_wp2_with fail;go_ret;exact⟨T,HP⟩
theorem I5(k:N)(w:Y)(h:At w c sh q s)(o:1<=k)(g:k<=2000):C 167 #[nP c q,J k,J 0] w λe p=>e=O (L (decide (k<=Po.cY s.fr)))/\ae w p:=by
 obtain⟨l,d,f⟩:=dG c q w;have i:=(ck w).alloc (pD c q);have H:=M (h.pure i);have HP:=M i;clear h i;have e:pD c q=D #[J c.ag,J c.al,J c.ap,J c.ao,J c.ak,J c.aB,J c.be,J c.di,q.cv,I q.po 0,I q.co 0,I q.li 0] 165:=rfl;rw[e]at l d f H HP;clear e;by_cases a:k<=Po.cY s.fr
 ·have m:decide ((Po.cY s.fr:V)<(k:V))=false:=by simp;omega
  have n:decide (Po.cY s.fr<k)=false:=by simp;omega
  have b:=M a;clear a;go_enter func167,ntmps167;go_wp2_with fail;refine(Po.kJ q.po q.pg s.fr _ H.fL).mono ?_;rintro e j⟨rfl,rfl⟩;go_wp2_with fail;refine(Po.ve q.po q.pg s.fr k _ H.fL o g).mono ?_;rintro e j⟨rfl,rfl⟩;cases Po.run s.fr k
  all_goals
   simp only[Po.Bn];go_wp2_with fail;go_ret;exact⟨eH (by simp[b.out]),HP⟩
 ·have m:decide ((Po.cY s.fr:V)<(k:V))=true:=by simp;omega
  have n:decide (Po.cY s.fr<k)=true:=by simp;omega
  have b:=M a;clear a;go_enter func167,ntmps167;go_wp2_with fail;refine(Po.kJ q.po q.pg s.fr _ H.fL).mono ?_;rintro e j⟨rfl,rfl⟩;go_wp2_with fail;go_ret;exact⟨eH (by simp[b.out]),HP⟩
theorem GR(k:N)(w:Y)(h:At w c sh q s)(m:1<=k)(f:k<=Po.cY s.fr):C 168 #[nP c q,J k,J 0] w λe i=>∃v,e=O (.tuple #[v,J (-1)])/\ac (F q s) w i/\i.ownsRow w.heap.size 3 1 v (Po.take s.fr k).length (bI (Po.aI (Po.take s.fr k)))/\At i c sh q {s with fr:=Po.off s.fr (Po.take s.fr k)}:=by
 obtain⟨j,a,b⟩:=dG c q w;have g:=(ck w).alloc (pD c q);have H:=M (h.pure g);have HP:=M g;clear h g;have e:pD c q=D #[J c.ag,J c.al,J c.ap,J c.ao,J c.ak,J c.aB,J c.be,J c.di,q.cv,I q.po 0,I q.co 0,I q.li 0] 165:=rfl;rw[e]at j a b H HP;clear e;go_enter func168,ntmps168;go_wp2_with fail;refine(Po.rq q.po q.pg s.fr k _ H.fL m f).mono ?_;rintro e n⟨v,rfl,l⟩;have d:=M l;clear l j a b;go_wp2_with fail;go_ret2;exact⟨v,T,(dD HP).trans (uY d.MC) (λ_ _ h=>h),dA d.own (by simp),H.uZ d.MC d.aM⟩
end
end Sp
namespace Sp
def de(l:List dq.dy)(xs:List Nat)(st:N)(se:Bool):List dq.dy:=xs.foldl (λl j=>l.set j ⟨st,false,se⟩) l
theorem oz(l:List dq.dy)(xs:List Nat)(st:N)(se:Bool):(de l xs st se).length=l.length:=by
 induction xs generalizing l with
 | nil=>rfl
 | cons j xs a=>show(de (l.set j _) xs st se).length=_;rw[a,iC]
theorem xc(l:List dq.dy)(xs:List Nat)(st:N)(se:Bool)(m j:N)(h:xs[m]?=some j):de l (xs.take (m+1)) st se=(de l (xs.take m) st se).set j ⟨st,false,se⟩:=by
 rw[cD,h];simp[de,List.foldl_append]
section
variable{w a:Y}{c:Cn}{sh:List Sh}{q:Q}{s:St}
theorem At.sM{sv':Value}{sx':List Int}(h:At w c sh q s)(d:ac (Sk.og q.s0 s.sv) w a)(A:Sk.iO a q.s0 c.aB sv' sx')(r:∀k,sv'.ownBlock=some k->s.sv.ownBlock=some k\/w.heap.size<=k):At a c sh q {s with sv:=sv',sx:=sx'}:=by
 obtain⟨n,z⟩:=h.me;obtain⟨m,u⟩:=h.vk;obtain⟨-,-,-,-,-,-,B⟩:=h.sf;have g:=h.kz.aM;have i:=h.kz.own;have p:∀k,Sk.og q.s0 s.sv k->F q s k:=λk b=>xH b;have l:∀k,F q {s with sv:=sv',sx:=sx'} k->F q s k\/w.heap.size<=k:=λk b=>by
  rcases b with b|b|b|b|b|b|b|b|b
  ·exact .inl (.inl b)
  ·exact .inl (.inr (.inl b))
  ·exact .inl (js (.inl b))
  ·exact .inl (pN (.inl b))
  ·exact .inl (tw (.inl b))
  ·exact .inl (xL (.inl b))
  ·exact .inl (vC (.inl b))
  ·exact .inl (xH (.inl b))
  ·rcases r k b with r|t
   ·exact .inl (LN r)
   ·exact .inr t
 refine⟨⟨n,d.bF z B⟩,h.im.MC d ?_ ?_,h.fL.MC d ?_ ?_,h.gA.MC d ?_,h.eM.MC d ?_ (λe o k b x=>h.gv e o k b (p k x)),A,⟨m,d.own u (λk b e=>(h.ro k (.inr b)).1 (p k e))⟩,h.cH.MC d (λk b e=>(h.ro k (.inl b)).1 (p k e)),h.ok,h.ns,λk b=>⟨λf=>?_,eR (h.ro k b).2 d.size⟩,λe o k b f=>?_⟩
 ·rintro(e|e);exact aV h.im.eA.me g (by decide) e;exact ca i h.im.eA.me (by decide) e
 ·rintro(e|e);exact aV h.im.eA.cI g (by decide) e;exact ca i h.im.eA.cI (by decide) e
 ·rintro(e|e);exact aV h.fL.eA.me g (by decide) e;exact ca i h.fL.eA.me (by decide) e
 ·rintro(e|e);exact aV h.fL.eA.cI g (by decide) e;exact ca i h.fL.eA.cI (by decide) e
 ·rintro(e|e);exact aV h.gA.me g (by decide) e;exact ca i h.gA.me (by decide) e
 ·rintro k (rfl|b) (e|e)
  ·exact aV h.eM.aM g (by decide) e
  ·exact ca i h.eM.aM (by decide) e
  ·exact ca h.eM.own g (by decide) (e▸b)
  ·obtain⟨v,y⟩:=nG h.eM.own b;exact ca i y (by decide) e
 ·rcases l k f with j|j
  ·exact(h.ro k b).1 j
  ·have:=(h.ro k b).2;omega
 ·rcases l k f with j|j
  ·exact h.gv e o k b j
  ·have:=((h.eM.cG e o).2 k b).2;omega
theorem At.GP{sv':Value}{sx':List Int}(h:At w c sh q s)(f:ac (Sk.og q.s0 s.sv) w a)(g:Sk.iO a q.s0 c.aB sv' sx')(b:sv'.ownBlock=s.sv.ownBlock\/∃k,sv'.ownBlock=some k/\w.heap.size<=k):At a c sh q {s with sv:=sv',sx:=sx'} :=
 h.sM f g (λk d=>by
  rcases b with b|⟨i,b,e⟩
  ·exact .inl (b▸d)
  ·rw[b]at d;injection d with d;exact .inr (d▸e))
theorem At.rU{lv':Value}{f:List Ln.En}(h:At w c sh q s)(g:ac (Ln.eU q.li s.lv) w a)(B:Ln.bO a q.li lv' f)(o:lv'.ownBlock=s.lv.ownBlock\/∃k,lv'.ownBlock=some k/\w.heap.size<=k)(v:∀e∈f,∀k,e.gv.ownBlock=some k->¬F q s k/\lv'.ownBlock≠some k):At a c sh q {s with lv:=lv',en:=f}:=by
 obtain⟨n,A⟩:=h.me;obtain⟨p,t⟩:=h.vk;obtain⟨-,-,-,-,-,E,-⟩:=h.sf;have j:=h.eM.aM;have l:=h.eM.own;have r:∀k,Ln.eU q.li s.lv k->F q s k:=λk b=>vC (.inl b);have m:∀k,F q {s with lv:=lv',en:=f} k->F q s k\/lv'.ownBlock=some k:=λk b=>by
  rcases b with b|b|b|b|b|b|(b|b)|b
  ·exact .inl (.inl b)
  ·exact .inl (.inr (.inl b))
  ·exact .inl (js (.inl b))
  ·exact .inl (pN (.inl b))
  ·exact .inl (tw (.inl b))
  ·exact .inl (xL (.inl b))
  ·exact .inl (vC (.inl (.inl b)))
  ·exact .inr b
  ·exact .inl (xH b)
 refine⟨⟨n,g.bF A E⟩,h.im.MC g ?_ ?_,h.fL.MC g ?_ ?_,h.gA.MC g ?_,B,h.kz.MC g ?_,⟨p,g.own t (λk b e=>(h.ro k (.inr b)).1 (r k e))⟩,h.cH.MC g (λk b e=>(h.ro k (.inl b)).1 (r k e)),h.ok,h.ns,λk b=>⟨λi=>?_,eR (h.ro k b).2 g.size⟩,λe u k b i=>?_⟩
 ·rintro(e|e);exact aV h.im.eA.me j (by decide) e;exact ca l h.im.eA.me (by decide) e
 ·rintro(e|e);exact aV h.im.eA.cI j (by decide) e;exact ca l h.im.eA.cI (by decide) e
 ·rintro(e|e);exact aV h.fL.eA.me j (by decide) e;exact ca l h.fL.eA.me (by decide) e
 ·rintro(e|e);exact aV h.fL.eA.cI j (by decide) e;exact ca l h.fL.eA.cI (by decide) e
 ·rintro(e|e);exact aV h.gA.me j (by decide) e;exact ca l h.gA.me (by decide) e
 ·rintro k (rfl|b) (e|e)
  ·exact aV h.kz.aM j (by decide) e
  ·exact ca l h.kz.aM (by decide) e
  ·exact ca h.kz.own j (by decide) (e▸b)
  ·obtain⟨x,y⟩:=nG h.kz.own b;exact ca l y (by decide) e
 ·rcases m k i with d|d
  ·exact(h.ro k b).1 d
  ·rcases o with o|⟨G,o,z⟩
   ·exact(h.ro k b).1 (r k (.inr (o▸d)))
   ·rw[o]at d;injection d with d;have:=(h.ro k b).2;omega
 ·rcases m k i with d|d
  ·exact(v e u k b).1 d
  ·exact(v e u k b).2 d
end
section
variable(c:Cn)(sh:List Sh)(q:Q)(s:St)
theorem oA(v:Value)(xs:List Nat)(st:N)(E:st<3)(se:Bool)(w:Y)(h:At w c sh q s)(u:eO w w.heap.size v (Po.aI xs))(hn:∀k,v.ownBlock=some k->¬F q s k)(hx:∀x∈xs,x<s.l.length):C 169 #[I q.sp 0,v,J st,L se] w λe w'=>e=O (.tuple #[])/\ac (F q s) w w'/\At w' c sh q {s with l:=de s.l xs st se}:=by
 have G:∃A f,v=Z A xs.length f:=by
  obtain⟨A,f,e,-⟩:=u;exact⟨A,f,by rw[e];simp[Po.aI]⟩
 obtain⟨A,f,rfl⟩:=G;have H:=M h;have HV:=M u;have HN:=M hn;have HX:=M hx;have W:xs.length<=9223372036854775807:=by obtain⟨A,f,e,h1,r,-⟩:=u;injection e with _ p e2;simp only[maxLen]at r;simp[Po.aI]at h1;omega
 clear h u hn hx;go_enter func169,ntmps169;go_wp2_with fail;go_loopw [12] (λi wr=>∃m:N,i=J m/\m<=xs.length/\ac (F q s) w wr/\At wr c sh q {s with l:=de s.l (xs.take m) st se}) (λi _=>(xs.length-(intOf i).toNat))
 case atStart=>exact⟨0,T,by omega,bo _,H⟩
 case round =>
  obtain⟨m,rfl,hm,ho,S⟩:=hrel;have y:=M ho;have n:=M S;clear ho S;by_cases d:m<xs.length
  ·obtain⟨j,t⟩:∃j,xs[m]?=some j:=⟨_,cR d⟩;have B:=HX j (cZ t);obtain⟨A',a1,p,-,-,-,R⟩:=HV.MC y HN;injection p with p e2 e3;subst p;obtain⟨bv,off,rfl,-,a⟩:=R (by simp[Po.aI];omega);have P:=a m (by simpa[Po.aI]using d);rw[show(Po.aI xs).getD m 0=(j:V)from by simp[Po.aI,List.getD,t]]at P;obtain⟨o,g⟩:∃o,(de s.l (xs.take m) st se)[j]?=some o:=⟨_,cR (by rw[oz];exact B)⟩;have b:=xc s.l xs st se m j t;have HS:=M b;have z:=M g;obtain⟨c0,-⟩:=n.cs;have i2:(m:V)<(xs.length:V):=by omega
   have X:decide (m<xs.length)=true:=by simpa using d
   clear b g e2 e3 a R t;go_wp2_with fail;refine(dq.oA q.tb q.tg _ j o wr n.im z st E false se).mono ?_;rintro e w2⟨rfl,K,r⟩;have H2:=M (n.qm K r);have O2:Hid (ac (F q s) w w2):=M (y.trans (EH K) (λ_ _ h=>h));clear K r c0 P;go_wp2_with fail;go_roundw
   case rel=>exact⟨m+1,by go_num,by omega,O2,by have:=H2.out;simp only[Bool.false_and]at this;rw[HS.out];exact this⟩
   case measure=>simp[intOf];omega
  ·obtain rfl:m=xs.length:=by omega
   go_wp2_with fail;go_end0;exact⟨T,y,by have:=n.out;rwa [eF]at this⟩
theorem gw{w:Y}{X:N}{a b d:Value}(h:w.heap[X]?=some (D #[a,b,d] 191 (0,0))):w.cell? (I X 0)=some a/\w.cell? (I X 1)=some b/\w.cell? (I X 2)=some d:=by
 refine⟨?_,?_,?_⟩<;>(rw[bK h];rfl)
theorem jO(st:V)(w:Y):C 198 #[J st] w λe f=>e=O (.agg #[J st,Z none 0 0,J (-1)])/\ae w f:=by
 obtain⟨a,b,d⟩:=gw (ai w (D #[J st,Z none 0 0,J (-1)] 191));go_enter func198,ntmps198;go_wp2_with fail;exact au (v:=.agg #[J st,Z none 0 0,J (-1)]) (by simp[results,results198,go_sem,a,b,d]) T ⟨T,(bo _).alloc _⟩
theorem rk(w:Y)(h:At w c sh q s)(u:0<q.ns):C 174 #[I q.sp 0,J 0] w λe p=>e=O (I q.s0 0)/\w=p:=by
 obtain⟨l,a⟩:=h.vk;obtain⟨-,c1,-⟩:=h.cs;rcases a.2 with⟨-,r⟩|⟨g,m,d,k,-,j,i,o,f,b⟩
 ·omega
 have t:w.cell? (I g 0)=some (.pointer (some (I q.s0 0))):=by
  rw[fq 0 j,<-ga];have n:(d.toList.take (q.ns*1))[0]?=some (.pointer (some (I q.s0 0))):=by rw[b];rfl
  rwa [List.getElem?_take_of_lt (by omega)]at n
 rw[k]at c1;have v:(0:V)<(q.ns:V):=by omega
 have x:decide (q.ns<=0)=false:=by simp;omega
 clear a k j b f h;go_enter func174,ntmps174;go_wp2_with fail;go_ret;exact⟨T,T⟩
theorem pP(w:Y)(h:At w c sh q s):C 93 #[I q.sp 0] w λe l=>e=O (.tuple #[])/\ac (F q s) w l/\At l c sh q {s with cm:=false,en:=s.en.map Ln.sg}:=by
 obtain⟨-,-,-,⟨n,x⟩,-⟩:=h.cs;have A:=h.fb;have a:=M ((h.count (wrap64 (n+1))).KD false);have o:=M (eX (eX (ac.refl (F q s) w) 3 (J (wrap64 (n+1)))) 2 (L false));have z:=(h.count (wrap64 (n+1))).fb;obtain⟨-,-,y,-⟩:=(h.count (wrap64 (n+1))).cs;clear h;go_enter func93,ntmps93;go_upto_region 2 with fail;generalize(w.setCell _ _).setCell _ _=u at *;obtain⟨-,-,-,-,-,-,-,r⟩:=a.cs;go_wp2_with fail;refine(Ln.pP q.li s.lv s.en u a.eM).mono ?_;rintro e v⟨rfl,i,f⟩;have m:=M (a.rU f i (.inl T) (λe t k j=>by
  obtain⟨g,b,rfl⟩:=aX.1 t;exact⟨a.gv g b k j,λd=>((a.eM.cG g b).2 k j).1 (.inr d)⟩))
 have p:Hid (ac (F q s) w v):=M (o.trans (oi f) (λ_ _ h=>h));clear f i;go_wp2_with fail;go_end0;exact⟨T,p,m⟩
theorem uz(w:Y)(h:At w c sh q s)(b:∀e∈s.en,0<=e.bh/\e.bh<=100000):C 115 #[I q.sp 0] w λe m=>e=O (.tuple #[])/\ac (F q s) w m/\At m c sh q {s with en:=s.en.map Ln.jX}:=by
 obtain⟨-,-,-,⟨n,A⟩,-⟩:=h.cs;have B:=h.fb;have a:=M (h.count (wrap64 (n+1)));have r:=M (eX (ac.refl (F q s) w) 3 (J (wrap64 (n+1))));have p:=M b;clear h b;go_enter func115,ntmps115;go_upto_region 1 with fail;generalize w.setCell _ _=y at *;obtain⟨-,-,-,-,-,-,-,u⟩:=a.cs;go_wp2_with fail;refine(Ln.uz q.li s.lv s.en y a.eM p).mono ?_;rintro e z⟨rfl,l,j⟩;have o:=M (a.rU j l (.inl T) (λe v k g=>by
  obtain⟨f,d,rfl⟩:=aX.1 v;have x:(Ln.jX f).gv=f.gv:=by unfold Ln.jX;split<;>rfl
  rw[x]at g;exact⟨a.gv f d k g,λi=>((a.eM.cG f d).2 k g).1 (.inr i)⟩))
 have t:Hid (ac (F q s) w z):=M (r.trans (oi j) (λ_ _ h=>h));clear j l;go_wp2_with fail;go_end0;exact⟨T,t,o⟩
theorem BC(w:Y)(h:At w c sh q s):C 55 #[I q.sp 0] w λe z=>e=O (L (decide (0<s.en.countP Ln.kU)||decide ((Po.cY s.fr:V)<c.di)||s.cm))/\ac (F q s) w z/\At z c sh q s:=by
 obtain⟨-,-,-,⟨n,c3⟩,-⟩:=h.cs;have fb:=h.fb;have H1:=M (h.count (wrap64 (n+1)));have O1:=M (eX (ac.refl (F q s) w) 3 (J (wrap64 (n+1))));clear h;obtain⟨m,hm⟩:∃m,s.en.countP Ln.kU=m:=⟨_,T⟩;obtain⟨k,hk⟩:∃k,Po.cY s.fr=k:=⟨_,T⟩;obtain⟨b,hb⟩:∃b,s.cm=b:=⟨_,T⟩;have P:=M hm;have K:=M hk;have H:=M hb;rw[hm,hk,hb];clear hm hk hb;go_enter func55,ntmps55;go_upto_region 2 with fail;generalize w.setCell _ _=w1 at *;go_wp2_with fail;refine bB (λW=>At W c sh q s/\ac (F q s) w W) ⟨H1.pure ((bo _).drewN 1),O1.drewN 1⟩ (by kernel_rfl) (by kernel_rfl) ?_;intro S f hS i E;have X:∀a,(f a).cell? (I q.sp 2)=some (L b):=λa=>by rw[<-H.out];exact(i a).1.cs.2.2.1
 have t:=λa=>(i a).1.cs.2.2.2.2.2.1;have u:=λa=>(i a).1.cs.2.2.2.2.2.2.1;have v:=λa=>(i a).1.cs.2.2.2.2.2.2.2;have d0:=λa=>(i a).1.cc.1;have d1:=λa=>(i a).1.cc.2.1;have d2:=λa=>(i a).1.cc.2.2.1;have d3:=λa=>(i a).1.cc.2.2.2.1;have d4:=λa=>(i a).1.cc.2.2.2.2.1;have d5:=λa=>(i a).1.cc.2.2.2.2.2.1;have d6:=λa=>(i a).1.cc.2.2.2.2.2.2.1;have d7:=λa=>(i a).1.cc.2.2.2.2.2.2.2.1;have d8:=λa=>(i a).1.cc.2.2.2.2.2.2.2.2;have o:=M i;have y:=M E;clear i E;have x:∀a,C 91 #[nP c q] (f a) λe z=>e=O (J m)/\ae (f a) z:=λa=>by have:=lN c sh q s _ (o a).1;rwa [P.out]at this
 have B:∀a,C 92 #[nP c q] (f a) λe z=>e=O (J k)/\ae (f a) z:=λa=>by have:=kJ c sh q s _ (o a).1;rwa [K.out]at this
 have R:=M x;have r:=M B;clear x B;by_cases x:0<m
 ·have e2:decide ((0:V)<(m:V))=true:=by simp;omega
  have e3:decide (0<m)=true:=by simpa using x
  have A:Hid ((decide (0<m)||decide ((k:V)<c.di)||b)=true):=M (by rw[e3];rfl);clear x
  repeat(go_big_quiet_step ((first|(go_at_call 91;exact aN y (o _) (λ_ d g=>⟨d.1.pure g,d.2.trans (dD g) (λ_ _ h=>h)⟩) (R _))|(go_at_call 92;exact aN y (o _) (λ_ d g=>⟨d.1.pure g,d.2.trans (dD g) (λ_ _ h=>h)⟩) (r _)))))
  clear X t u v d0 d1 d2 d3 d4 d5 d6 d7 d8;refine wpQuiet_nil ?_;rintro w9⟨G,p⟩;have l:=M (o G);rw[<-p]at l;clear p;go_wp2_with fail;go_ret;exact⟨eH A,l.2,l.1⟩
 ·have e2:decide ((0:V)<(m:V))=false:=by simp;omega
  have e3:decide (0<m)=false:=by simpa using x
  obtain rfl:m=0:=by omega
  clear x;by_cases j:(k:V)<c.di
  ·have e4:decide ((k:V)<c.di)=true:=by simpa using j
   have A:Hid ((decide (0<0)||decide ((k:V)<c.di)||b)=true):=M (by rw[e4];simp);clear j
   repeat(go_big_quiet_step ((first|(go_at_call 91;exact aN y (o _) (λ_ d g=>⟨d.1.pure g,d.2.trans (dD g) (λ_ _ h=>h)⟩) (R _))|(go_at_call 92;exact aN y (o _) (λ_ d g=>⟨d.1.pure g,d.2.trans (dD g) (λ_ _ h=>h)⟩) (r _)))))
   clear X t u v d0 d1 d2 d3 d4 d5 d6 d7 d8;refine wpQuiet_nil ?_;rintro w9⟨G,p⟩;have l:=M (o G);rw[<-p]at l;clear p;go_wp2_with fail;go_ret;exact⟨eH A,l.2,l.1⟩
  ·have e4:decide ((k:V)<c.di)=false:=by simpa using j
   have A:Hid ((decide (0<0)||decide ((k:V)<c.di)||b)=b):=M (by rw[e4];simp);clear j
   repeat(go_big_quiet_step ((first|(go_at_call 91;exact aN y (o _) (λ_ d g=>⟨d.1.pure g,d.2.trans (dD g) (λ_ _ h=>h)⟩) (R _))|(go_at_call 92;exact aN y (o _) (λ_ d g=>⟨d.1.pure g,d.2.trans (dD g) (λ_ _ h=>h)⟩) (r _)))))
   clear X t u v d0 d1 d2 d3 d4 d5 d6 d7 d8;refine wpQuiet_nil ?_;rintro w9⟨G,p⟩;have l:=M (o G);rw[<-p]at l;clear p;go_wp2_with fail;go_ret;exact⟨eH A,l.2,l.1⟩
end
end Sp
section
open Go.ChangeMaps (setBlock)
theorem kd:Maps.Keyed prog 3:=Maps.int_keyed underlying3
def ke(w:Y)(Mq:N)(ks:List Nat):Prop:=∃es clock,w.heap[Mq]?=some (.map es clock)/\es.toList.map (λe=>(e.key,e.val))=ks.map (λ(k:N)=>(J k,L true))/\∀k∈ks,k<=1000000
theorem ke.MC{w d:Y}{S:N->Prop}{b:N}{c:List Nat}(h:ke w b c)(j:ac S w d)(i:¬S b):ke d b c:=by
 obtain⟨e,a,f,g⟩:=h;exact⟨e,a,j.bF f i,g⟩
theorem yo(k:N)(c:k<=1000000):keyOf prog 3 (.int .i64 (k:V))=some (.int .i64 (k:V)):=Maps.keyOf_int_mk underlying3 (by
 have a:IntKind.i64.min=-9223372036854775808:=by decide
 have b:IntKind.i64.max=9223372036854775807:=by decide
 simp only[Lit.wf,a,b,bt,aQ];omega)
theorem qX{es:Array MapEntry}{b:List Nat}(h:es.toList.map (λe=>(e.key,e.val))=b.map (λ(k:N)=>(J k,L true))){e:MapEntry}(c:e∈es.toList):∃k∈b,e.key=J k/\e.val=L true:=by
 have:(e.key,e.val)∈es.toList.map (λe=>(e.key,e.val)):=aX.2 ⟨e,c,T⟩;rw[h]at this;obtain⟨k,d,a⟩:=aX.1 this;injection a with a e2;exact⟨k,d,a.symm,e2.symm⟩
theorem Dz{es:Array MapEntry}{b:List Nat}(h:es.toList.map (λe=>(e.key,e.val))=b.map (λ(k:N)=>(J k,L true))){k:N}(d:k∈b):∃e∈es.toList,e.key=J k:=by
 have:(J k,L true)∈es.toList.map (λe=>(e.key,e.val)):=by rw[h];exact aX.2 ⟨k,d,T⟩
 obtain⟨e,c,a⟩:=aX.1 this;injection a with a e2;exact⟨e,c,a⟩
theorem tL{Tq:TypeId}(u:prog.underlying Tq=some (.map 3 4)){w:Y}{r k:N}{q:List Nat}(h:ke w r q)(n:k<=1000000):(Instr.lookup Tq (.map (some r)) (J k) false).run prog w=.ok (L (decide (k∈q))) w:=by
 obtain⟨s,d,v,p,o⟩:=h;have a:∀e∈s.toList,∃l,keyOf prog 3 e.key=some l:=λe g=>by
  obtain⟨j,z,b,-⟩:=qX p g;exact⟨_,by rw[b];exact yo j (o j z)⟩
 rcases kd.find w (yo k n) s.toList a with⟨f,c⟩|⟨j,B,f,c,t⟩
 ·have A:k∉q:=λm=>by
   obtain⟨e,g,b⟩:=Dz p m;exact c e g b
  have hz:(zeroValue 4).run prog w=.ok (L false) w:=by kernel_rfl
  simp[Instr.lookup,dC u,fR v,kd.check w _ (yo k n),f,hz,Result.andThen,A]
 ·obtain⟨i,y,b,x⟩:=qX p (cZ c);rw[t]at b;injection b with b e3;have:k=i:=by omega
  subst this;clear c t a;simp[Instr.lookup,dC u,fR v,kd.check w _ (yo k n),f,Result.andThen,y,x]
theorem Dy{w:Y}{a k:N}{b:List Nat}(h:ke w a b)(c:k<=1000000):(Instr.lookup 82 (.map (some a)) (J k) false).run prog w=.ok (L (decide (k∈b))) w:=tL underlying82 h c
theorem wH{Tq:TypeId}(t:prog.underlying Tq=some (.map 3 4)){w:Y}{c k:N}{o:List Nat}(h:ke w c o)(r:k<=1000000)(x:k∉o):∃es clock,(Instr.mapUpdate Tq (.map (some c)) (J k) (L true)).run prog w=.ok () (setBlock w c (.map es clock))/\ke (setBlock w c (.map es clock)) c (o++[k]):=by
 obtain⟨es,clock,g,n,f⟩:=h;have b:∀e∈es.toList,∃l,keyOf prog 3 e.key=some l:=λe u=>by
  obtain⟨j,a,d,-⟩:=qX n u;exact⟨_,by rw[d];exact yo j (f j a)⟩
 have m:=(bR.1 g).1;rcases kd.find w (yo k r) es.toList b with⟨p,q⟩|⟨j,y,p,q,s⟩
 ·refine⟨es.push ⟨J k,L true,clock⟩,clock+1,?_,es.push ⟨J k,L true,clock⟩,clock+1,by simp[setBlock,m],by simp[n],λj a=>?_⟩
  ·simp[Instr.mapUpdate,dC t,fR g,kd.check w false (yo k r),p,MapKept.run_setObj_map _ g,Result.andThen,setBlock]
  ·rcases iE.1 a with a|a
   ·exact f j a
   ·simp at a;omega
 ·obtain⟨i,v,d,z⟩:=qX n (cZ q);rw[s]at d;injection d with d e3;have:k=i:=by omega
  subst this;exact absurd v x
theorem zC{w:Y}{a k:N}{b:List Nat}(h:ke w a b)(c:k<=1000000)(d:k∉b):∃es clock,(Instr.mapUpdate 82 (.map (some a)) (J k) (L true)).run prog w=.ok () (setBlock w a (.map es clock))/\ke (setBlock w a (.map es clock)) a (b++[k]):=wH underlying82 h c d
theorem qY(w:Y):ke (w.alloc (.map #[] 0)) w.heap.size []:=⟨#[],0,ai w _,T,λ_ h=>by simp at h⟩
theorem Gn{w:Y}{c:N}{b:List Nat}(h:ke w c b)(i:TypeId):(Builtin.len_ #[82] i #[.map (some c)]).run prog w=.ok (J b.length) w:=by
 obtain⟨d,a,e,g,-⟩:=h;have f:d.size=b.length:=by
  have:=ay List.length g;simpa using this
 rw[<-f];simp[Builtin.len_,dC underlying82,fR e,goInt,Result.andThen]
theorem sE(w:Y)(a:N)(o:Obj):ac (λk=>k=a) w (setBlock w a o):=by
 refine⟨T,T,T,by simp[setBlock],λk c b=>?_⟩;simp[setBlock,bC b]
end
namespace fG
inductive BH where
 | ml|wF|rm|yR|uI|uJ|uK|rn
 | clear (j:N)|Mw|aE
 deriving DecidableEq
structure A where
 cY:N
 nx:N->Option Nat
 g:Option Nat
 l0:Option (Option Nat)
 l1:Option (Option Nat)
 l2:Option (Option Nat)
def pH(f:N->Option Nat)(i:N)(v:Option Nat):N->Option Nat:=λk=>if k=i then v else f k
theorem vq(f:N->Option Nat)(i:N)(v:Option Nat):pH f i v i=v:=af T
theorem sS{f:N->Option Nat}{i k:N}{v:Option Nat}(h:k≠i):pH f i v k=f k:=aa h
inductive Ex:A->BH->A->Prop where
 | ml {a:A} (h:a.cY<44):Ex a .ml {a with cY:=a.cY+1,nx:=pH a.nx (43-a.cY) none,l0:=some (some (43-a.cY))}
 | wF {a:A}:Ex a .wF {a with l1:=some a.g}
 | rm {a:A} {i:N} {v:Option Nat} (h:a.l0=some (some i)) (h2:a.l1=some v):Ex a .rm {a with nx:=pH a.nx i v}
 | yR {a:A} {v:Option Nat} (h:a.l0=some v):Ex a .yR {a with g:=v}
 | uI {a:A} {i:N} (h:a.l1=some (some i)):Ex a .uI {a with l1:=some (a.nx i)}
 | uJ {a:A} {i:N} (h:a.l1=some (some i)):Ex a .uJ {a with l2:=some (a.nx i)}
 | uK {a:A} {i:N} (h:a.l2=some (some i)):Ex a .uK {a with l2:=some (a.nx i)}
 | rn {a:A} {i:N} {v:Option Nat} (h:a.l1=some (some i)) (h2:a.l2=some v):Ex a .rn {a with nx:=pH a.nx i v}
 | II {a:A}:Ex a (.clear 0) {a with l0:=some none}
 | IJ {a:A}:Ex a (.clear 1) {a with l1:=some none}
 | IK {a:A}:Ex a (.clear 2) {a with l2:=some none}
inductive Fh:A->List BH->A->Prop where
 | nil {a:A}:Fh a [] a
 | cons {a b c:A} {o:BH} {r:List BH} (h:Ex a o b) (t:Fh b r c):Fh a (o::r) c
theorem Fh.append{a b c:A}{r s:List BH}(h:Fh a r b)(t:Fh b s c):Fh a (r++s) c:=by
 induction h with
 | nil=>exact t
 | cons h _ d=>exact .cons h (d t)
theorem Fh.one{a b:A}{o:BH}(h:Ex a o b):Fh a [o] b:=.cons h .nil
inductive Ch(nx:N->Option Nat):Option Nat->List Nat->Prop where
 | nil:Ch nx none []
 | cons {i:N} {l:List Nat} (h:Ch nx (nx i) l):Ch nx (some i) (i::l)
theorem Ch.pH{nx:N->Option Nat}{i:N}{v g:Option Nat}{l:List Nat}(h:Ch nx g l)(a:i∉l):Ch (pH nx i v) g l:=by
 induction h with
 | nil=>exact .nil
 | cons h d =>
  rename_i j l;have b:j≠i:=λe=>a (by simp[e]);have c:i∉l:=λe=>a (by simp[e]);exact .cons (by rw[sS b];exact d c)
theorem Ch.mem{nx:N->Option Nat}{g:Option Nat}{l:List Nat}(h:Ch nx g l):∀i,g=some i->i∈l:=by
 intro i e;cases h with
 | nil=>cases e
 | cons h=>injection e with e;simp[e]
theorem Ch.next{nx:N->Option Nat}{g:Option Nat}{l:List Nat}(h:Ch nx g l):∀i∈l,∀j,nx i=some j->j∈l:=by
 induction h with
 | nil=>intro i a;cases a
 | cons h c =>
  rename_i k l;intro i a j b;rcases dr.1 a with rfl|a
  ·exact eZ _ (h.mem j b)
  ·exact eZ _ (c i a j b)
theorem Ch.drop{nx:N->Option Nat}:∀{l:List Nat} {g:Option Nat} {k x:N},Ch nx g l->l[k]?=some x->Ch nx (some x) (l.drop k):=by
 intro l
 induction l with
 | nil=>intro g k x _ h;simp at h
 | cons y l b =>
  intro g k x h a;cases h with
  | cons h =>
   cases k with
   | zero=>simp at a;subst a;exact .cons h
   | succ k=>simp at a;simpa using b h a
theorem Ch.JO{nx:N->Option Nat}{x:N}{l:List Nat}(h:Ch nx (some x) (x::l)):Ch nx (nx x) l:=by
 cases h with
 | cons h=>exact h
theorem Ch.Gd{nx:N->Option Nat}{g:Option Nat}{l:List Nat}{k x y:N}(h:Ch nx g l)(e:l[k]?=some x)(j:l[k+1]?=some y):nx x=some y:=by
 have d:=h.drop e;obtain⟨i,f⟩:=dH.1 e;rw[cd i,f]at d;have b:=d.JO;obtain⟨c,a⟩:=dH.1 j;rw[cd c,a]at b;generalize nx x=z at b;cases b with
 | cons _=>rfl
theorem Ch.skip{nx:N->Option Nat}:∀{l:List Nat} {g:Option Nat} {k x y:N},Ch nx g l->l.Nodup->l[k]?=some x->l[k+1]?=some y->Ch (fG.pH nx x (nx y)) g (l.eraseIdx (k+1)):=by
 intro l
 induction l with
 | nil=>intro g k x y _ _ h;simp at h
 | cons z l m =>
  intro g k x y h j c b;have a:=List.nodup_cons.1 j;cases h with
  | cons h =>
   cases k with
   | zero =>
    simp at c b;subst c;cases l with
    | nil=>simp at b
    | cons n l =>
     simp at b;subst b;have f:=h;generalize nx z=q at f;cases f with
     | cons i =>
      refine .cons ?_;rw[vq];exact i.pH (λe=>a.1 (by simp[e]))
   | succ k =>
    simp at c b;have d:z≠x:=λe=>a.1 (e▸cZ c);exact .cons (by rw[sS d];exact m h a.2 c b)
def Fb(cY:N)(v:Option Nat):Prop:=∀i,v=some i->44-cY<=i/\i<44
def J2(cY:N)(v:Option (Option Nat)):Prop:=∀x,v=some x->Fb cY x
structure Ok(a:A):Prop where
 c:a.cY<=44
 nx:∀i,Fb a.cY (a.nx i)
 g:Fb a.cY a.g
 l0:J2 a.cY a.l0
 l1:J2 a.cY a.l1
 l2:J2 a.cY a.l2
theorem yA{n:N}{v:Option Nat}(h:Fb n v):Fb (n+1) v:=λi e=>by have:=h i e;omega
theorem DN{n:N}{v:Option (Option Nat)}(h:J2 n v):J2 (n+1) v:=λx e=>yA (h x e)
theorem pq(n:N):Fb n none:=λi e=>by cases e
theorem jP{n:N}{v:Option Nat}(h:Fb n v):J2 n (some v):=λx e=>by injection e with e;subst e;exact h
theorem yz{n i:N}{f:N->Option Nat}{v:Option Nat}(h:∀i,Fb n (f i))(a:Fb n v):∀k,Fb n (pH f i v k):=λk=>by
 by_cases e:k=i
 ·rw[e,vq];exact a
 ·rw[sS e];exact h k
theorem Ex.ok{a b:A}{o:BH}(h:Ex a o b)(k:Ok a):Ok b:=by
 cases h with
 | ml h =>
  refine⟨by simp;omega,yz (λi=>yA (k.nx i)) (pq _),yA k.g,jP ?_,DN k.l1,DN k.l2⟩;intro i e;injection e with e;subst e;simp;omega
 | wF=>exact⟨k.c,k.nx,k.g,k.l0,jP k.g,k.l2⟩
 | rm h c=>exact⟨k.c,yz k.nx (k.l1 _ c),k.g,k.l0,k.l1,k.l2⟩
 | yR h=>exact⟨k.c,k.nx,k.l0 _ h,k.l0,k.l1,k.l2⟩
 | uI h=>exact⟨k.c,k.nx,k.g,k.l0,jP (k.nx _),k.l2⟩
 | uJ h=>exact⟨k.c,k.nx,k.g,k.l0,k.l1,jP (k.nx _)⟩
 | uK h=>exact⟨k.c,k.nx,k.g,k.l0,k.l1,jP (k.nx _)⟩
 | rn h c=>exact⟨k.c,yz k.nx (k.l2 _ c),k.g,k.l0,k.l1,k.l2⟩
 | II=>exact⟨k.c,k.nx,k.g,jP (pq _),k.l1,k.l2⟩
 | IJ=>exact⟨k.c,k.nx,k.g,k.l0,jP (pq _),k.l2⟩
 | IK=>exact⟨k.c,k.nx,k.g,k.l0,k.l1,jP (pq _)⟩
structure Li(a:A)(n:N)(l:List Nat):Prop where
 ok:Ok a
 cn:a.cY=n
 ch:Ch a.nx a.g l
 nd:l.Nodup
 My:∀i∈l,44-n<=i/\i<44
 e2:a.l2=none\/a.l2=some none
def a0:A:=⟨0,λ_=>none,none,none,none,none⟩
def KF:List BH:=[.ml,.wF,.rm,.yR]
def build:N->List BH
 | 0=>[]
 | n+1=>build n++KF
def Kv(k:N):List BH:=.wF::(List.replicate k .uI++[.uJ,.uK,.rn,.clear 2])
inductive BP:N->List BH->N->Prop where
 | nil {m:N}:BP m [] m
 | snoc {m q k:N} {r:List BH} (h:BP m r q) (hk:k+1<q):BP m (r++Kv k) (q-1)
end fG
namespace fG
def tb{α:Type}(n:N)(f:N->α):List α:=(List.range n).map f
def up{α:Type}(f:N->α)(j:N)(v:α):N->α:=λk=>if k=j then v else f k
section
variable{a:Type}{n:N}{f g:N->a}
theorem iK:(tb n f).length=n:=by simp[tb]
theorem iq{j:N}(h:j<n):(tb n f)[j]?=some (f j):=by simp[tb,h]
theorem GU{j:N}(d:a)(h:j<n):(tb n f).getD j d=f j:=by simp[List.getD,iq h]
theorem zW{j:N}{v:a}(h:(tb n f)[j]?=some v):j<n/\f j=v:=by
 obtain⟨b,c⟩:=dH.1 h;rw[iK]at b;rw[iq b]at h;exact⟨b,by injection h⟩
theorem sP(j:N)(v:a):(tb n f).set j v=tb n (up f j v):=by
 apply List.ext_getElem?;intro k;by_cases b:k<n
 ·rw[List.getElem?_set,iK,iq b,iq b];unfold up;by_cases e:j=k
  ·subst e;simp[b]
  ·rw[aa e,aa (λh=>e h.symm)]
 ·rw[cT (by simp[tb];omega),cT (by simp[tb];omega)]
theorem kR(h:∀j,j<n->f j=g j):tb n f=tb n g:=by
 apply List.ext_getElem?;intro k;by_cases b:k<n
 ·rw[iq b,iq b,h k b]
 ·rw[cT (by simp[tb];omega),cT (by simp[tb];omega)]
theorem EK(v:a):tb n (λ_=>v)=List.replicate n v:=by
 apply List.ext_getElem?;intro k;by_cases b:k<n
 ·rw[iq b];simp[b]
 ·rw[cT (by simp[tb];omega),cT (by simp;omega)]
theorem xw(f:N->a)(j:N)(v:a):up f j v j=v:=af T
theorem xx{j k:N}{v:a}(h:k≠j):up f j v k=f k:=aa h
theorem pG(xs:List Nat)(v:a):xs.foldl (λl j=>l.set j v) (tb n f)=tb n (λk=>if k∈xs then v else f k):=by
 induction xs generalizing f with
 | nil=>exact kR (λj _=>by simp)
 | cons x xs c =>
  rw[List.foldl_cons,sP,c];refine kR (λj _=>?_);unfold up;by_cases b:j∈xs
  ·simp[b]
  ·by_cases e:j=x
   ·simp[e]
   ·simp[b,e]
end
open Po (cY di lE off run pB take)
theorem sj{n:N}(f:N->Bool)(xs:List Nat):off (tb n f) xs=tb n (λk=>if k∈xs then false else f k):=pG xs false
theorem lK{n:N}(f:N->dq.dy)(xs:List Nat)(st:N)(se:Bool):Sp.de (tb n f) xs st se=tb n (λk=>if k∈xs then⟨st,false,se⟩else f k):=pG xs (⟨st,false,se⟩:dq.dy)
theorem AV(l:List Bool)(k:N):∀(q p:N) (c:List Nat),q+p=l.length->c.length<=k->c.Nodup->(∀x∈c,x<p/\l[x]?=some true) ->
  (lE l k q p c).Nodup/\(∀x∈lE l k q p c,l[x]?=some true)/\(lE l k q p c).length=min k (c.length+cY (l.drop p)):=by
 intro q
 induction q with
 | zero =>
  intro p c A y n g;rw[lE];have:l.drop p=[]:=List.drop_eq_nil_of_le (by omega);rw[this];exact⟨n,λx d=>(g x d).2,by simp[cY];omega⟩
 | succ q z =>
  intro p c A y n g;rw[lE];have i:p<l.length:=by omega
  have v:l.drop p=l[p]::l.drop (p+1):=cd i;by_cases f:c.length<k
  ·rw[af f];have w:l.getD p false=l[p]:=by simp[List.getD,i]
   cases j:l[p]with
   | true =>
    rw[w,j,af rfl];have o:p∉c:=λh=>by have:=(g p h).1;omega
    obtain⟨r,s,t⟩:=z (p+1) (c++[p]) (by omega) (by simp;omega) (by
     rw[ew];exact⟨n,by simp,λa u b m=>by simp at m;subst m;intro e;subst e;exact o u⟩) (λx d=>by
     rcases iE.1 d with d|d
     ·exact⟨by have:=(g x d).1;omega,(g x d).2⟩
     ·simp at d;subst d;exact⟨by omega,by rw[cR i,j]⟩)
    refine⟨r,s,?_⟩;rw[t,v,j];simp[cY];omega
   | false =>
    rw[w,j,aa (by simp)];obtain⟨r,s,t⟩:=z (p+1) c (by omega) y n (λx d=>⟨by have:=(g x d).1;omega,(g x d).2⟩);refine⟨r,s,?_⟩;rw[t,v,j];simp[cY]
  ·rw[aa f];exact⟨n,λx d=>(g x d).2,by omega⟩
theorem rY(l:List Bool)(k:N):(di l k).Nodup/\(∀x∈di l k,l[x]?=some true)/\(di l k).length=min k (cY l):=by
 have:=AV l k l.length 0 [] (by omega) (by simp) List.nodup_nil (by simp);simpa[di]using this
theorem Du(l:List Bool):di l 0=[]:=mD (by have:=(rY l 0).2.2;omega)
theorem Bx{l:List Bool}{k:N}(a:1<=k)(d:k<=cY l):(take l k).Nodup/\(∀x∈take l k,l[x]?=some true)/\(take l k).length=k:=by
 unfold take;split
 ·rename_i i h;have b:=Po.pC a h;refine⟨List.nodup_range',λx c=>?_,List.length_range'⟩;rw[List.mem_range'_1]at c;have:=b (x-i) (by omega)
  rwa [show i+(x-i)=x from by omega]at this
 ·have:=rY l k;exact⟨this.1,this.2.1,by rw[this.2.2];omega⟩
theorem Em{n q k:N}(d:k<=q):∀(i m:N),i<=n->m<k->(i<=q->i+m=q)->(q<i->m=0)->pB (tb n λi=>decide (i<q)) k i m=some (q-k):=by
 intro i
 induction i with
 | zero=>intro m _ f b _;have:=b (by omega);omega
 | succ i c =>
  intro m j f b g;rw[pB,GU _ (by omega)];by_cases e:i<q
  ·rw[af (by simp[e])];have:=b (by omega);by_cases a:m+1=k
   ·rw[af a];congr 1;omega
   ·rw[aa a];exact c (m+1) (by omega) (by omega) (λ_=>by omega) (λh=>by omega)
  ·rw[aa (by simp[e])];exact c 0 (by omega) (by omega) (λ_=>by omega) (λ_=>T)
theorem EJ{n q k:N}(c:q<=n)(b:1<=k)(a:k<=q):take (tb n λi=>decide (i<q)) k=List.range' (q-k) k:=by
 have h:run (tb n λi=>decide (i<q)) k=some (q-k):=by
  rw[run,iK];exact Em a n 0 (ci _) (by omega) (λ_=>by omega) (λ_=>T)
 rw[take,h]
theorem take_one{n q:N}(b:q<=n)(a:1<=q):take (tb n λi=>decide (i<q)) 1=[q-1]:=by rw[EJ b (by omega) a];rfl
theorem IQ{n:N}(f:N->Bool):cY (tb n f)=(List.range n).countP f:=by
 simp[cY,tb,List.countP_map,Function.comp_def]
