/- Part 12 of the proof of spotop.TopChurn. -/
import Derived.Test.YtpgdiceeimehiaaGreatR07
import Derived.Test.YtpgdiceeimehiaaGreatR08
set_option maxRecDepth 100000
set_option maxHeartbeats 16000000
set_option linter.all false
open Go.Proofs.Tryz
namespace Go.Proofs.YtpgdiceeimehiaaGreat
open RowKit
namespace Co
section
variable{w:Y}{b:N}{size:V}{an:N}{u:N->V}{kept:V}
def eG(u:N->V)(an:N)(n:V):N->V:=λk=>if k=an then u an+n else u k
theorem zx(n:N)(w:Y)(h:At w b size an u kept)(m:u an+n<=2048):C 290 #[I b 0,J n] w λe j=>e=O (J (u an))/\ac (λk=>k=b) w j/\At j b size an (eG u an n) kept:=by
 obtain⟨o,c1,q⟩:=h.cs;have l:=h.cu an h.an;have c:=h.ub an;have r:=h.fb;have H:=M h;have t:(0:V)<=(an:V):=by omega
 have x:(an:V)<2:=by have:=h.an;omega
 have g:=h.an;obtain⟨v,d⟩:∃v,u an=v:=⟨_,T⟩;have HV:=M d;rw[d]at l c m ⊢;clear h d;have s:IntKind.i64.wrap (v+(n:V))=v+(n:V):=by rw[aP];omega
 rcases(by omega:an=0\/an=1)with rfl|rfl
 all_goals
  go_enter func290,ntmps290;go_wp2_with fail;go_quiet (fail);go_wp2_with fail;go_region;go_wp2_with fail;go_ret;refine⟨T,?_,⟨?_,H.an,H.sz,λk=>?_,H.kb⟩⟩
  ·first|exact((ac.refl (λk=>k=b) w).drewN _).setCell (p:=⟨b,2,none⟩) (λ_=>T) _|exact((ac.refl (λk=>k=b) w).drewN _).setCell (p:=⟨b,3,none⟩) (λ_=>T) _
  ·have f:(w.drewN (nq+1)).heap[b]?=_:=H.me
   first
   | (have a:=az (i:=2) (u:=J (v+(n:V))) f;rw[a,<-HV.out];rfl)
   | (have a:=az (i:=3) (u:=J (v+(n:V))) f;rw[a,<-HV.out];rfl)
  ·unfold eG;have:=H.ub k;split
   ·rw[HV.out];omega
   ·exact this
theorem zP(n:N)(w:Y)(h:At w b size an u kept)(o:1<=n)(m:(n:V)<=kept):C 282 #[I b 0,J n] w λe a=>e=O (L true)/\ac (λk=>k=b) w a/\At a b size an u (kept-n):=by
 obtain⟨d,c1,f⟩:=h.cs;have l:=h.fb;have c:=h.kb;have H:=M h;have g:decide ((n:V)<1)=false:=by simp;omega
 have j:decide (kept<(n:V))=false:=by simp;omega
 have q:IntKind.i64.wrap (kept-(n:V))=kept-(n:V):=by rw[aP];omega
 clear h;go_enter func282,ntmps282;go_wp2_with fail;go_ret;exact⟨T,(ac.refl (λk=>k=b) w).setCell (p:=⟨b,4,none⟩) (λ_=>T) _,⟨az (w:=w) (i:=4) (u:=J (kept-(n:V))) H.me,H.an,H.sz,H.ub,by omega⟩⟩
theorem rq(n:N)(w:Y)(h:At w b size an u kept)(z:1<=n)(t:(n:V)<=size-u an-kept):C 234 #[I b 0,J n] w λe p=>e=O (.tuple #[J (u an),L true])/\ac (λk=>k=b) w p/\At p b size an (eG u an n) kept:=by
 have H:=M h;have y:decide ((n:V)<1)=false:=by simp;omega
 have r:decide (size-u an-kept<(n:V))=false:=by simp;omega
 have v:=h.sz;have s:=h.kb;have c:u an+n<=2048:=by omega
 have g:=M c;obtain⟨o,a⟩:∃o,size-u an-kept=o:=⟨_,T⟩;rw[a]at r;have d:=M a;clear h c t a;go_enter func234,ntmps234;go_wp2_with fail;refine(nf b size an u kept w H).mono ?_;rw[d.out];rintro e x⟨rfl,i⟩;have q:=M (H.MC i (λf=>f));have HP:=M i;clear i;go_wp2_with fail;refine(zx n x q g).mono ?_;rintro e A⟨rfl,m,l⟩;have j:=M (aq m l);clear m l;go_wp2_with fail;go_ret2;exact⟨T,(HP.mono (λ_ _ f=>f.elim)).trans j.1 (λ_ _ h=>h),j.2⟩
theorem lV(n:N)(w:Y)(h:At w b size an u kept)(m:1<=n)(l:(n:V)<=kept)(d:u an+n<=2048):C 284 #[I b 0,J n] w λe p=>e=O (.tuple #[J (u an),L true])/\ac (λk=>k=b) w p/\At p b size an (eG u an n) (kept-n):=by
 have H:=M h;have a:=M (aq d (aq m l));clear h d m l;go_enter func284,ntmps284;go_wp2_with fail;refine(zP n w H a.2.1 a.2.2).mono ?_;rintro e q⟨rfl,c,i⟩;have f:=M (aq c i);clear c i;go_wp2_with fail;refine(zx n q f.2 a.1).mono ?_;rintro e r⟨rfl,o,j⟩;have g:=M (aq o j);clear o j;go_wp2_with fail;go_ret2;exact⟨T,f.1.trans g.1 (λ_ _ h=>h),g.2⟩
end
end Co
section
namespace Po
theorem Gg(l:List Bool)(k:N):∀(q p:N) (a:List Nat),(∀x∈a,x<p)->∀x∈lE l k q p a,x<p+q:=by
 intro q
 induction q with
 | zero=>intro p a h x c;exact h x c
 | succ q d =>
  intro p a h x c;unfold lE at c;split at c
  ·have:=d (p+1) _ (by
    intro y b;split at b
    ·rcases iE.1 b with b|b
     ·have:=h y b;omega
     ·simp at b;omega
    ·have:=h y b;omega) x c
   omega
  ·have:=h x c;omega
theorem Dt(l:List Bool)(k:N):∀x∈di l k,x<l.length:=λx a=>by
 have:=Gg l k l.length 0 [] (by simp) x a;omega
theorem rr(l:List Bool)(k:N)(c:1<=k):∀x∈take l k,x<l.length:=λx a=>by
 unfold take at a;split at a
 ·rename_i i b;have d:=List.mem_range'_1.1 a;have:=pC c b (x-i) (by omega);rw[show i+(x-i)=x from by omega]at this;exact(dH.1 this).1
 ·exact Dt l k x a
theorem Dr(l:List Bool)(k:N):∀(q p:N) (a:List Nat),a.length<=k->(lE l k q p a).length<=k:=by
 intro q
 induction q with
 | zero=>intro p a h;exact h
 | succ q b =>
  intro p a h;unfold lE;split
  ·refine b _ _ ?_;split
   ·simp;omega
   ·exact h
  ·exact h
theorem Gi(l:List Bool)(k:N):(di l k).length<=k:=Dr l k _ _ _ (by simp)
theorem jA(xs:List Nat)(h:∀x∈xs,x<1000000):∀x∈aI xs,-9223372036854775808<=x/\x<=9223372036854775807:=by
 intro x a;obtain⟨y,b,rfl⟩:=aX.1 a;have:=h y b;omega
theorem AR(l:List Bool)(k:N):∀(q p:N) (a:List Nat),p+q=l.length->a.length<=k->k<=a.length+cY (l.drop p)->(lE l k q p a).length=k:=by
 intro q
 induction q with
 | zero =>
  intro p a i e b;rw[List.drop_of_length_le (by omega)]at b;simp only[cY,List.countP_nil]at b;show a.length=k;omega
 | succ q f =>
  intro p a i e b;have c:p<l.length:=by omega
  have g:l.drop p=l[p]::l.drop (p+1):=cd c;have h:l.getD p false=l[p]:=by simp[List.getD,cR c]
  unfold lE;split
  ·rw[g]at b;rw[h];by_cases d:l[p]=true
   ·rw[af d];refine f (p+1) _ (by omega) (by simp;omega) ?_;simp only[cY,ds,d,id,bP]at b ⊢;simp;omega
   ·rw[aa d];refine f (p+1) _ (by omega) e ?_;simp only[cY,ds,id,d]at b ⊢;simpa using b
  ·omega
theorem take_len(l:List Bool)(k:N)(a:k<=cY l):(take l k).length=k:=by
 unfold take;split
 ·simp
 ·exact AR l k l.length 0 [] (by omega) (by simp) (by simpa using a)
theorem EI(l:List Bool)(k:N)(b:1<=k)(a:k<=cY l):0<(take l k).length:=by
 rw[take_len l k a];omega
end Po
namespace Sp
section
variable{c:Cn}{sh:List Sh}{q:Q}{s:St}
def room(s:St):V:=s.size-s.u s.an-s.kept
def gY(s:St)(k sp:N):Bool:=decide (k<=Po.cY s.fr)&&(decide (sp=0)||((Po.run s.fr k).isSome||decide ((sp:V)<=room s)))
def flat(s:St)(k sp:N):Bool:=decide (sp=0)||Sk.eP (Po.aI (Po.take s.fr k))
def vF(c:Cn)(s:St)(k sp:N):V:=if flat s k sp=true then -1 else 8*c.ag+(s.an:V)*c.al+s.u s.an
def uX(s:St)(k sp:N):N->V:=if flat s k sp=true then s.u else Co.eG s.u s.an sp
theorem yd(s:St)(k:N):gY s k 0=decide (k<=Po.cY s.fr):=by simp[gY]
theorem I6(k sp:N)(w:Y)(h:At w c sh q s)(B:1<=k)(t:k<=2000)(F:1<=sp):C 167 #[nP c q,J k,J sp] w λe G=>e=O (L (gY s k sp))/\ae w G:=by
 obtain⟨x,o,p⟩:=dG c q w;have u:=(ck w).alloc (pD c q);have H:=M (h.pure u);have HP:=M u;clear h u;have e:pD c q=D #[J c.ag,J c.al,J c.ap,J c.ao,J c.ak,J c.aB,J c.be,J c.di,q.cv,I q.po 0,I q.co 0,I q.li 0] 165:=rfl;rw[e]at x o p H HP;clear e;have E:((sp:V)==0)=false:=by simp;omega
 by_cases m:k<=Po.cY s.fr
 ·have y:decide ((Po.cY s.fr:V)<(k:V))=false:=by simp;omega
  have z:decide (Po.cY s.fr<k)=false:=by simp;omega
  have b:=M m;clear m;go_enter func167,ntmps167;go_wp2_with fail;refine(Po.kJ q.po q.pg s.fr _ H.fL).mono ?_;rintro e v⟨rfl,rfl⟩;go_wp2_with fail;refine(Po.ve q.po q.pg s.fr k _ H.fL B t).mono ?_;rintro e v⟨rfl,rfl⟩;cases n:Po.run s.fr k with
  | some r =>
   have j:=M n;clear n;simp only[Po.Bn];go_wp2_with fail;go_ret;exact⟨eH (by simp[gY,b.out,j.out]),HP⟩
  | none =>
   have j:=M n;clear n;simp only[Po.Bn];go_wp2_with fail;refine(Co.nf q.co s.size s.an s.u s.kept _ H.gA).mono ?_;rintro e K⟨rfl,g⟩;have d:=M (ae.MD HP g);obtain⟨i,a⟩:∃i,s.size-s.u s.an-s.kept=i:=⟨_,T⟩;have f:=M a;rw[a];clear g a;by_cases l:(sp:V)<=i
   ·have A:decide ((sp:V)<=i)=true:=by simpa using l
    go_wp2_with fail;go_ret;exact⟨eH (by simp[gY,b.out,j.out,room,f.out,l,show ¬sp=0 by omega]),d⟩
   ·have A:decide ((sp:V)<=i)=false:=by simpa using l
    go_wp2_with fail;go_ret;exact⟨eH (by simp[gY,b.out,j.out,room,f.out,l,show ¬sp=0 by omega]),d⟩
 ·have y:decide ((Po.cY s.fr:V)<(k:V))=true:=by simp;omega
  have z:decide (Po.cY s.fr<k)=true:=by simp;omega
  have b:=M m;clear m;go_enter func167,ntmps167;go_wp2_with fail;refine(Po.kJ q.po q.pg s.fr _ H.fL).mono ?_;rintro e v⟨rfl,rfl⟩;go_wp2_with fail;go_ret;exact⟨eH (by simp[gY,b.out]),HP⟩
theorem mV(k sp:N)(w:Y)(h:At w c sh q s)(d:1<=k)(a:k<=2000):C 167 #[nP c q,J k,J sp] w λe f=>e=O (L (gY s k sp))/\ae w f:=by
 rcases kc sp with rfl|b
 ·rw[yd];exact I5 c sh q s k w h d a
 ·exact I6 k sp w h d a b
theorem qP{w:Y}{X:N}(h:w.heap[X]?=some (pD c q)):(w.cell? (I X 0)=some (J c.ag)/\w.cell? (I X 1)=some (J c.al)/\w.cell? (I X 2)=some (J c.ap)/\w.cell? (I X 3)=some (J c.ao)/\w.cell? (I X 4)=some (J c.ak)/\w.cell? (I X 5)=some (J c.aB)/\w.cell? (I X 6)=some (J c.be)/\w.cell? (I X 7)=some (J c.di)/\w.cell? (I X 8)=some q.cv)/\w.cell? (I X 9)=some (.pointer (some (I q.po 0)))/\w.cell? (I X 10)=some (.pointer (some (I q.co 0))):=by
 unfold pD at h;refine⟨⟨?_,?_,?_,?_,?_,?_,?_,?_,?_⟩,?_,?_⟩<;>(rw[bK h];rfl)
theorem Lt{w:Y}(h:At w c sh q s):q.po<w.heap.size/\q.pg<w.heap.size/\q.co<w.heap.size:=⟨h.lt _ (pN (.inl T)),h.lt _ (tw (.inl T)),h.lt _ (xL (.inl T))⟩
theorem xf{l:List Bool}{k:N}(e:1<=k)(n:l.length<=1024)(h:(Po.run l k).isSome=true):Sk.eP (Po.aI (Po.take l k))=true:=by
 obtain⟨r,a⟩:=Option.isSome_iff_exists.1 h;have f:=Po.pC e a;have m:=(dH.1 (f (k-1) (by omega))).1;unfold Po.take;rw[a];unfold Sk.eP Po.aI;apply fN;intro i b;simp only[fH,List.length_range']at b;have g:∀j,j<k->((List.range' r k).map λ(j:N)=>(j:V)).getD j 0=((r+j:N):V):=λj d=>by
  rw[ko,fV,List.getElem?_range' d];simp
 rw[g i (by omega),g (i+1) (by omega)];omega
theorem GS(k sp:N)(w:Y)(h:At w c sh q s)(hk:1<=k)(A:1<=sp)(j:s.fr.length<=1024)(c2:s.size=c.al)(g:gY s k sp=true):C 168 #[nP c q,J k,J sp] w λe E=>∃v,e=O (.tuple #[v,J (vF c s k sp)])/\ac (F q s) w E/\E.ownsRow w.heap.size 3 1 v (Po.take s.fr k).length (bI (Po.aI (Po.take s.fr k)))/\At E c sh q {s with fr:=Po.off s.fr (Po.take s.fr k),u:=uX s k sp}:=by
 have c7:((sp:V)==0)=false:=by simp;omega
 have c6:k<=Po.cY s.fr:=by simp only[gY,bt,aQ]at g;exact g.1
 have d:=M (aq g (aq c2 A));have b5:=Lt h;obtain⟨-,c9,n⟩:=qP (ai w (pD c q));have b4:(w.alloc (pD c q)).heap[w.heap.size]?=some (pD c q):=ai w (pD c q);have c5:=M b4;have a1:=M b5;have l:=(ck w).alloc (pD c q);have H:=M (h.pure l);have HP:=M l;have HX:Hid (w.heap.size<(w.alloc (pD c q)).heap.size):=M (by simp);clear h l b4 b5 g c2 A;have e:pD c q=D #[J c.ag,J c.al,J c.ap,J c.ao,J c.ak,J c.aB,J c.be,J c.di,q.cv,I q.po 0,I q.co 0,I q.li 0] 165:=rfl;go_enter func168,ntmps168;go_upto_region 1 with fail;rw[<-e];generalize c8:w.alloc _=w1 at *;generalize hX:w.heap.size=X at *;have b0:=M hX;go_wp2_with fail;refine(Po.rq q.po q.pg s.fr k _ H.fL hk c6).mono ?_;rintro e w2⟨v,rfl,ht⟩;have HT:=M ht;have b9:eO w2 w2.heap.size v (Po.aI (Po.take s.fr k)):=eO.fQ (by have:=ht.own;simpa[Po.aI]using this) (Po.jA _ (λx hx=>by have:=Po.rr s.fr k hk x hx;omega));have a9:=M b9;clear ht b9 c9 n e;go_wp2_with fail;refine(Sk.sI v _ w2 _ a9).mono ?_;obtain⟨sd,a4⟩:∃b,Sk.eP (Po.aI (Po.take s.fr k))=b:=⟨_,T⟩;have a3:=M a4;rw[a4];rintro e w3⟨rfl,nd,rfl⟩;have R:Hid ((w2.drewN nd).heap[X]?=some (pD c q)):=M (HT.MC.bF c5 (by have:=a1.out;omega));have G:=M ((H.uZ HT.MC HT.aM).pure ((bo w2).drewN nd));have a2:=M (((dD (s:=s) (q:=q) HP).trans (uY HT.MC) (λ_ _ h=>h)).drewN nd);have y:=M (dA (((ck w2).drewN nd).own HT.own (λ_ _ f=>f)) (show X<=w1.heap.size from Nat.le_of_lt HX));obtain⟨-,-,n⟩:=qP R;generalize w2.drewN nd=w3 at *;clear a4;cases sd with
 | true =>
  have j:flat s k sp=true:=by simp[flat,a3.out]
  go_wp2_with fail;go_ret2;exact⟨v,by rw[vF,af j];rfl,a2,by rw[b0.out];exact y,by rw[uX,af j];exact G⟩
 | false =>
  have j:flat s k sp=false:=by have:=d.2.2;simp[flat,a3.out];omega
  have b7:(sp:V)<=room s:=by
   have h1:=d.1;have h2:=d.2.2;simp only[gY,bt,Bool.or_eq_true,aQ]at h1;rcases h1.2 with h3|h3|h3
   ·omega
   ·have:=xf hk (by omega) h3;rw[a3.out]at this;cases this
   ·exact h3
  have i:At w3 c sh q {s with fr:=Po.off s.fr (Po.take s.fr k)}:=G;have A:=d.2.2;have a8:=M b7;have a7:=M j;clear b7 j;go_wp2_with fail;refine(Co.rq sp w3 i.gA A a8).mono ?_;rintro e w4⟨rfl,o,b1⟩;have t:Hid (At w4 c sh q {s with fr:=Po.off s.fr (Po.take s.fr k),u:=Co.eG s.u s.an sp}/\ac (F q s) w w4/\w4.heap[X]?=some (pD c q)/\w4.ownsRow X 3 1 v (Po.take s.fr k).length (bI (Po.aI (Po.take s.fr k)))):=M ⟨i.oh o b1,a2.trans (ur o) (λ_ _ h=>h),o.bF R (by have:=a1.out;omega),o.own y (λk hk e=>by have:=(y.lt k hk).1;have:=a1.out;omega)⟩;have c3:=(i.gA.ub s.an).1;have B:=i.gA.an;have p:s.u s.an<c.al:=by have h1:=a8.out;have h2:0<=s.kept:=i.gA.kb.1;have h3:=d.2.1;unfold room at h1;omega
  have r:=M (aq c3 (aq B p));obtain⟨uc,a5⟩:∃uc,s.u s.an=uc:=⟨_,T⟩;have b2:vF c s k sp=8*c.ag+(s.an:V)*c.al+uc:=by rw[vF,a7.out,<-a5];rfl
  have c4:uX s k sp=Co.eG s.u s.an sp:=by rw[uX,a7.out];rfl
  rw[a5]at r ⊢;have a6:=M (aq b2 c4);clear i o b1 c3 B p n G a2 R y a9 a5 b2 c4;go_wp2_with fail;refine bB (λW=>At W c sh q {s with fr:=Po.off s.fr (Po.take s.fr k),u:=Co.eG s.u s.an sp}/\ac (F q s) w W/\W.heap[X]?=some (pD c q)/\W.ownsRow X 3 1 v (Po.take s.fr k).length (bI (Po.aI (Po.take s.fr k)))) ⟨t.1.pure ((bo _).drewN 1),t.2.1.drewN 1,t.2.2.1,((ck w4).drewN 1).own t.2.2.2 (λ_ _ f=>f)⟩ (by kernel_rfl) (by kernel_rfl) ?_;intro S f hS m b6;have d0:=λa=>(qP (m a).2.2.1).1.1;have d1:=λa=>(qP (m a).2.2.1).1.2.1;have d2:=λa=>(qP (m a).2.2.1).1.2.2.1;have d3:=λa=>(qP (m a).2.2.1).1.2.2.2.1;have d4:=λa=>(qP (m a).2.2.1).1.2.2.2.2.1;have d5:=λa=>(qP (m a).2.2.1).1.2.2.2.2.2.1;have d6:=λa=>(qP (m a).2.2.1).1.2.2.2.2.2.2.1;have d7:=λa=>(qP (m a).2.2.1).1.2.2.2.2.2.2.2.1;have d8:=λa=>(qP (m a).2.2.1).1.2.2.2.2.2.2.2.2;have n:=λa=>(qP (m a).2.2.1).2.2;have P:=M m;have HM:=M b6;clear m b6;have b3:∀a,C 107 #[I q.co 0] (f a) λe E=>e=O (J s.an)/\ae (f a) E:=λa=>(Co.lc _ _ _ _ _ _ (P a).1.gA).mono (by rintro e E⟨rfl,rfl⟩;exact⟨T,bo _⟩);have b8:∀a,C 235 #[hI c q.cv,J s.an,J uc] (f a) λe E=>e=O (.tuple #[J (8*c.ag+(s.an:V)*c.al+uc),J 0])/\ae (f a) E:=λa=>ni c q.cv sh s.an uc _ (P a).1.cH (P a).1.ok (by have:=r.2.1;omega) r.1 r.2.2;have K:=M (aq b3 b8);clear b3 b8
  repeat(go_big_quiet_step (first|(go_at_call 107;exact aN HM (P _) (λ_ z l=>⟨z.1.pure l,z.2.1.trans (dD l) (λ_ _ h=>h),ae.bF l z.2.2.1,l.own z.2.2.2 (λ_ _ f=>f)⟩) (K.1 _))|(go_at_call 235;exact aN HM (P _) (λ_ z l=>⟨z.1.pure l,z.2.1.trans (dD l) (λ_ _ h=>h),ae.bF l z.2.2.1,l.own z.2.2.2 (λ_ _ f=>f)⟩) (K.2 _))))
  clear d0 d1 d2 d3 d4 d5 d6 d7 d8 n;refine wpQuiet_nil ?_;rintro w5⟨s5,e5⟩;have D5:=P s5;rw[<-e5]at D5;have H5:=M D5;clear e5 D5 P HM K;go_wp2_with fail;go_ret2;exact⟨v,by rw[a6.out.1];rfl,H5.2.1,by rw[b0.out];exact H5.2.2.2,by rw[a6.out.2];exact H5.1⟩
theorem kA(k sp:N)(w:Y)(h:At w c sh q s)(i:1<=k)(b:s.fr.length<=1024)(f:s.size=c.al)(a:gY s k sp=true):C 168 #[nP c q,J k,J sp] w λe g=>∃v,e=O (.tuple #[v,J (vF c s k sp)])/\ac (F q s) w g/\g.ownsRow w.heap.size 3 1 v (Po.take s.fr k).length (bI (Po.aI (Po.take s.fr k)))/\At g c sh q {s with fr:=Po.off s.fr (Po.take s.fr k),u:=uX s k sp}:=by
 rcases kc sp with rfl|d
 ·rw[yd,aQ]at a;exact GR c sh q s k w h i a
 ·exact GS k sp w h i d b f a
end
end Sp
end
namespace Sd
open Co (Pi.At Pi.S)
theorem Ep{b:Type}{l:List b}{j:N}{a:b}(h:l[j]?=some a):l.set j a=l:=by
 apply List.ext_getElem?;intro i;rw[List.getElem?_set];split
 ·rename_i e;subst e;split
  ·exact h.symm
  ·rename_i c;rw[cT (by omega)]
 ·rfl
structure At(w:Y)(b tb tg pb:N)(pv:Value)(l:List dq.dy)(bp:N)(cb:Bool)(xs:List Int):Prop where
 me:∃c:V,w.heap[b]?=some (D #[I tb 0,I pb 0,J c] 113 (0,0))
 im:dq.At w tb tg l
 mZ:Co.Pi.At w pb pv bp cb xs
def S(b tb tg pb:N)(pv:Value)(k:N):Prop:=k=b\/k=tb\/k=tg\/k=pb\/pv.ownBlock=some k
section
variable{w g:Y}{b tb tg d:N}{pv:Value}{l:List dq.dy}{bp:N}{cb:Bool}{xs:List Int}
theorem At.cs(h:At w b tb tg d pv l bp cb xs):w.cell? (I b 0)=some (.pointer (some (I tb 0)))/\w.cell? (I b 1)=some (.pointer (some (I d 0)))/\∃c:V,w.cell? (I b 2)=some (J c):=by
 obtain⟨c,a⟩:=h.me;refine⟨?_,?_,c,?_⟩<;>(rw[bK a];rfl)
theorem At.fb(h:At w b tb tg d pv l bp cb xs)(k:N):w.frozen? (I b k)=false:=by
 obtain⟨c,a⟩:=h.me;exact ey k a
theorem At.lb(h:At w b tb tg d pv l bp cb xs):b<w.heap.size:=by
 obtain⟨c,a⟩:=h.me;exact(bR.1 a).1
theorem At.lt(h:At w b tb tg d pv l bp cb xs)(k:N)(a:S b tb tg d pv k):k<w.heap.size:=by
 rcases a with rfl|rfl|rfl|rfl|a
 ·exact h.lb
 ·exact h.im.eA.lb
 ·exact h.im.eA.lg
 ·exact h.mZ.lb
 ·obtain⟨c,e⟩:=nG h.mZ.own a;exact(bR.1 e).1
theorem At.MC{Tq:N->Prop}(h:At w b tb tg d pv l bp cb xs)(f:ac Tq w g)(a:∀k,S b tb tg d pv k->¬Tq k):At g b tb tg d pv l bp cb xs:=by
 obtain⟨c,i⟩:=h.me;exact⟨⟨c,f.bF i (a b (.inl T))⟩,h.im.MC f (a tb (.inr (.inl T))) (a tg (js (.inl T))),h.mZ.MC f (λk e=>a k (by rcases e with rfl|e;exact pN (.inl T);exact tw e))⟩
theorem At.pure(h:At w b tb tg d pv l bp cb xs)(a:ae w g):At g b tb tg d pv l bp cb xs:=h.MC a (λ_ _ f=>f)
theorem At.LF(h:At w b tb tg d pv l bp cb xs):b≠tb/\b≠tg/\b≠d/\pv.ownBlock≠some b/\tb≠d/\tg≠d/\pv.ownBlock≠some tb/\pv.ownBlock≠some tg:=by
 obtain⟨c,a⟩:=h.me;exact⟨aV a h.im.eA.me (by decide),aV a h.im.eA.cI (by decide),aV a h.mZ.me (by decide),ca h.mZ.own a (by decide),aV h.im.eA.me h.mZ.me (by decide),aV h.im.eA.cI h.mZ.me (by decide),ca h.mZ.own h.im.eA.me (by decide),ca h.mZ.own h.im.eA.cI (by decide)⟩
theorem At.count(h:At w b tb tg d pv l bp cb xs)(v:V):At (w.setCell (I b 2) (J v)) b tb tg d pv l bp cb xs:=by
 obtain⟨c,j⟩:=h.me;obtain⟨m,n,o,q,-⟩:=h.LF;have f:ac (λk=>k=b) w (w.setCell (I b 2) (J v)):=(ac.refl (λk=>k=b) w).setCell (p:=⟨b,2,none⟩) (λ_=>T) _;refine⟨⟨v,by simpa using az (i:=2) (u:=J v) j⟩,h.im.MC f (bC m) (bC n),h.mZ.MC f (λk a e=>?_)⟩;rcases a with rfl|a
 ·exact o e.symm
 ·subst e;exact q a
theorem io{a:Y}(h:ac (S b tb tg d pv) a w)(v:Value):ac (S b tb tg d pv) a (w.setCell (I b 2) v):=h.setCell (p:=⟨b,2,none⟩) (λ_=>.inl T) v
theorem At.qm{i:List dq.dy}(h:At w b tb tg d pv l bp cb xs)(f:ac (λk=>k=tb\/k=tg) w g)(m:dq.At g tb tg i):At g b tb tg d pv i bp cb xs:=by
 obtain⟨c,j⟩:=h.me;obtain⟨n,o,t,u,p,q,r,s⟩:=h.LF;refine⟨⟨c,f.bF j (λe=>by rcases e with e|e;exact n e;exact o e)⟩,m,h.mZ.MC f (λk a e=>?_)⟩;rcases a with rfl|a<;>rcases e with e|e
 ·exact p e.symm
 ·exact q e.symm
 ·subst e;exact r a
 ·subst e;exact s a
theorem Hw{a:Y}(h:ac (λk=>k=tb\/k=tg) a w):ac (S b tb tg d pv) a w:=h.mono λk _ c=>by rcases c with c|c;exact .inr (.inl c);exact js (.inl c)
theorem At.DW{pv':Value}{a:Bool}{f:List Int}(h:At w b tb tg d pv l bp cb xs)(i:ac (Co.Pi.S d pv) w g)(k:Co.Pi.At g d pv' bp a f):At g b tb tg d pv' l bp a f:=by
 obtain⟨c,j⟩:=h.me;obtain⟨s,t,m,n,o,p,q,r⟩:=h.LF;exact⟨⟨c,i.bF j (λe=>by rcases e with e|e;exact m e;exact n e)⟩,h.im.MC i (λe=>by rcases e with e|e;exact o e;exact q e) (λe=>by rcases e with e|e;exact p e;exact r e),k⟩
theorem yE{a:Y}(h:ac (Co.Pi.S d pv) a w):ac (S b tb tg d pv) a w:=h.mono λk _ c=>by rcases c with c|c;exact pN (.inl c);exact tw c
end
section
variable(b tb tg a:N)(pv:Value)(l:List dq.dy)(bp:N)(cb:Bool)(xs:List Int)
theorem jK(j:N)(o:dq.dy)(s:Bool)(w:Y)(h:At w b tb tg a pv l bp cb xs)(n:l[j]?=some o):C 104 #[I b 0,J j,L s] w λe p=>e=O (L (o.head&&(decide (o.st=2)&&o.ah==s)))/\ac (S b tb tg a pv) w p/\At p b tb tg a pv l bp cb xs:=by
 obtain⟨-,-,c,u⟩:=h.cs;have v:=h.fb;have f:=M (h.count (wrap64 (c+1)));have m:=M (io (ac.refl (S b tb tg a pv) w) (J (wrap64 (c+1))));have k:=M n;clear n h;go_enter func104,ntmps104;go_upto_region 2 with fail;generalize w.setCell _ _=q at *;obtain⟨t,c1,-⟩:=f.cs;go_wp2_with fail;refine(dq.pa tb tg l j o q f.im k).mono ?_;rintro e r⟨rfl,rfl⟩;obtain⟨g,d⟩:∃g,o.head=g:=⟨_,T⟩;have i:=M d;rw[d];clear d;cases g
 ·go_wp2_with fail;go_ret;exact⟨eH (by rw[i.out];rfl),m,f⟩
 ·go_wp2_with fail;refine(dq.jK tb tg l j o s q f.im k).mono ?_;rintro e r⟨rfl,rfl⟩;go_wp2_with fail;go_ret;exact⟨eH (by rw[i.out];simp),m,f⟩
theorem GC(j:N)(o:dq.dy)(s:Bool)(w:Y)(h:At w b tb tg a pv l bp cb xs)(q:l[j]?=some o)(g:o.st=2):C 309 #[I b 0,J j,L s] w λe t=>e=O (L (!(o.ah==s)))/\ac (S b tb tg a pv) w t/\At t b tb tg a pv (l.set j {o with ah:=s}) bp cb xs:=by
 obtain⟨-,-,c,z⟩:=h.cs;have A:=h.fb;have f:=M (h.count (wrap64 (c+1)));have n:=M (io (ac.refl (S b tb tg a pv) w) (J (wrap64 (c+1))));have m:=M q;have k:=M g;clear q h g;go_enter func309,ntmps309;go_upto_region 2 with fail;generalize w.setCell _ _=u at *;obtain⟨y,c1,-⟩:=f.cs;go_wp2_with fail;by_cases d:o.ah=s
 ·refine(dq.Gm tb tg l j o s u f.im m (λ_=>d)).mono ?_;have i:=M d;clear d;rintro e x⟨rfl,rfl⟩;go_wp2_with fail;go_ret;refine⟨eH (by rw[i.out];simp),n,?_⟩;have:l.set j {o with ah:=s}=l:=by
   rw[<-i.out];exact Ep m
  rw[this];exact f
 ·refine(dq.wG tb tg l j o s u f.im m k d).mono ?_;have i:=M d;clear d;rintro e x⟨rfl,r,g⟩;have p:=M r;have v:=M g;clear r g;go_wp2_with fail;go_ret;exact⟨eH (by simp[i.out]),n.trans (Hw p) (λ_ _ h=>h),f.qm p v⟩
theorem xB(j:N)(o:dq.dy)(s:Bool)(w:Y)(h:dq.At w tb tg l)(r:l[j]?=some o):C 148 #[.agg #[I tb 0],J j,L s] w λe v=>e=O (L (o.head&&!(decide (o.st=2)&&o.ah==s)))/\ae w v:=by
 have q:=ai w (D #[I tb 0] 110);have i:=(ck w).alloc (D #[I tb 0] 110);have n:=M (h.MC i (λf=>f) (λf=>f));have HP:=M i;have y:(w.alloc (D #[I tb 0] 110)).cell? (I w.heap.size 0)=some (.pointer (some (I tb 0))):=by rw[bK q];rfl
 have m:=M r;clear r h i q;go_enter func148,ntmps148;go_wp2_with fail;generalize w.alloc _=t at *;refine(dq.pa tb tg l j o t n m).mono ?_;rintro e x⟨rfl,rfl⟩;obtain⟨g,d⟩:∃g,o.head=g:=⟨_,T⟩;have k:=M d;rw[d];clear d;cases g
 ·go_wp2_with fail;go_ret;exact⟨eH (by rw[k.out];rfl),HP⟩
 ·go_wp2_with fail;refine(dq.jK tb tg l j o s t n m).mono ?_;rintro e x⟨rfl,rfl⟩;obtain⟨p,c⟩:∃p,(decide (o.st=2)&&o.ah==s)=p:=⟨_,T⟩;have u:=M c;rw[c];clear c;go_wp2_with fail;go_ret;exact⟨eH (by rw[k.out,u.out];simp),HP⟩
def nZ(o:dq.dy)(s:Bool):Bool:=o.head&&!(decide (o.st=2)&&o.ah==s)
theorem zp(j:N)(o:dq.dy)(s:Bool)(w:Y)(h:At w b tb tg a pv l bp cb xs)(g:l[j]?=some o)(k:nZ o s=false):C 96 #[I b 0,J j,L s] w λe m=>e=O (L false)/\ac (S b tb tg a pv) w m/\At m b tb tg a pv l bp cb xs:=by
 obtain⟨-,-,c,u⟩:=h.cs;have v:=h.fb;have d:=M (h.count (wrap64 (c+1)));have q:=M (io (ac.refl (S b tb tg a pv) w) (J (wrap64 (c+1))));have n:=M g;have p:=M k;clear g h k;go_enter func96,ntmps96;go_upto_region 2 with fail;generalize w.setCell _ _=t at *;obtain⟨r,c1,-⟩:=d.cs;go_wp2_with fail;refine(xB tb tg l j o s t d.im n).mono ?_;rw[show(o.head&&!(decide (o.st=2)&&o.ah==s))=false from p.out];rintro e x⟨rfl,i⟩;have HP:=M i;clear i r c1;go_wp2_with fail;go_ret;exact⟨T,q.trans (HP.mono (λ_ _ f=>f.elim)) (λ_ _ h=>h),d.pure HP⟩
theorem rK(j:N)(o:dq.dy)(s:Bool)(w:Y)(h:At w b tb tg a pv l bp cb xs)(F:l[j]?=some o)(G:nZ o s=true)(A:o.st=2)(hl:xs.length<bp):C 96 #[I b 0,J j,L s] w λe H=>e=O (L true)/\ac (S b tb tg a pv) w H/\∃pv',(pv'.ownBlock=pv.ownBlock\/∃q,pv'.ownBlock=some q/\w.heap.size<=q)/\At H b tb tg a pv' (l.set j {o with ah:=s}) bp cb (xs++[(j:V)]):=by
 obtain⟨-,-,c,c2⟩:=h.cs;have fb:=h.fb;have k:=M (h.count (wrap64 (c+1)));have R:=M (io (ac.refl (S b tb tg a pv) w) (J (wrap64 (c+1))));have x:=M F;have y:=M G;have d:=M A;clear F h G A;go_enter func96,ntmps96;go_upto_region 2 with fail;generalize w.setCell _ _=w1 at *;obtain⟨g,c1,-⟩:=k.cs;go_wp2_with fail;refine(xB tb tg l j o s w1 k.im x).mono ?_;rw[show(o.head&&!(decide (o.st=2)&&o.ah==s))=true from y.out];rintro e K⟨rfl,r⟩;have W:Hid (ac (S b tb tg a pv) w K):=M (R.trans (r.mono (λ_ _ f=>f.elim)) (λ_ _ h=>h));have m:=M (k.pure r);clear r g c1;obtain⟨g,c1,-⟩:=m.cs;go_wp2_with fail;refine(dq.wG tb tg l j o s K m.im x d (λe=>by have:=y.out;rw[nZ,e,d.out]at this;simp at this)).mono ?_;rintro e P⟨rfl,u,B⟩;have n:=M (m.qm u B);have z:Hid (ac (S b tb tg a pv) w P):=M (W.trans (Hw u) (λ_ _ h=>h));clear u B g c1;obtain⟨g,c1,-⟩:=n.cs;go_wp2_with fail;refine(Co.Pi.GH a pv bp cb xs (j:V) P n.mZ hl).mono ?_;rintro e w4⟨rfl,v,pv',i,E⟩;have Q:=M (n.DW v E);have X:Hid (ac (S b tb tg a pv) w w4):=M (z.trans (yE v) (λ_ _ h=>h));have p:=M i;clear v E g c1 i;go_wp2_with fail;go_ret;refine⟨T,X,pv',?_,Q⟩;rcases p.out with h|⟨q,hq,t⟩
 ·exact .inl h
 ·exact .inr ⟨q,hq,aF z.size t⟩
theorem uQ(w:Y)(h:At w b tb tg a pv l bp cb []):C 99 #[I b 0] w λe f=>e=O (.tuple #[J 0,L false])/\ac (S b tb tg a pv) w f/\At f b tb tg a pv l bp cb []:=by
 obtain⟨-,-,c,k⟩:=h.cs;have m:=h.fb;have d:=M (h.count (wrap64 (c+1)));have g:=M (io (ac.refl (S b tb tg a pv) w) (J (wrap64 (c+1))));clear h;go_enter func99,ntmps99;go_upto_region 2 with fail;generalize w.setCell _ _=i at *;obtain⟨j,c1,-⟩:=d.cs;go_wp2_with fail;refine(Co.Pi.Jv a pv bp cb i d.mZ).mono ?_;rintro e n⟨rfl,rfl⟩;go_wp2_with fail;go_ret2;exact⟨T,g,d⟩
theorem uP(x:V)(w:Y)(h:At w b tb tg a pv l bp cb (xs++[x])):C 99 #[I b 0] w λe k=>e=O (.tuple #[J x,L true])/\ac (S b tb tg a pv) w k/\∃pv',pv'.ownBlock=pv.ownBlock/\At k b tb tg a pv' l bp cb xs:=by
 obtain⟨-,-,c,s⟩:=h.cs;have t:=h.fb;have f:=M (h.count (wrap64 (c+1)));have n:=M (io (ac.refl (S b tb tg a pv) w) (J (wrap64 (c+1))));clear h;go_enter func99,ntmps99;go_upto_region 2 with fail;generalize w.setCell _ _=p at *;obtain⟨r,c1,-⟩:=f.cs;go_wp2_with fail;refine(Co.Pi.Ju a pv bp cb xs x p f.mZ).mono ?_;rintro e q⟨rfl,i,pv',d,j⟩;have m:=M (f.DW i j);have o:Hid (ac (S b tb tg a pv) w q):=M (n.trans (yE i) (λ_ _ h=>h));have g:=M d;clear i j d;go_wp2_with fail;go_ret2;exact⟨T,o,pv',g,m⟩
theorem rX(w:Y)(h:At w b tb tg a pv l bp cb xs):C 103 #[I b 0] w λe i=>e=O (L cb)/\ac (S b tb tg a pv) w i/\At i b tb tg a pv l bp false xs:=by
 obtain⟨-,-,c,q⟩:=h.cs;have r:=h.fb;have d:=M (h.count (wrap64 (c+1)));have n:=M (io (ac.refl (S b tb tg a pv) w) (J (wrap64 (c+1))));clear h;go_enter func103,ntmps103;go_upto_region 2 with fail;generalize w.setCell _ _=j at *;obtain⟨p,c1,-⟩:=d.cs;go_wp2_with fail;refine(Co.Pi.rX a pv bp cb xs j d.mZ).mono ?_;rintro e k⟨rfl,rfl⟩;go_wp2_with fail;refine(Co.Pi.AF a pv bp cb xs j d.mZ).mono ?_;rintro e k⟨rfl,f,g⟩;have m:=M (d.DW f g);have o:Hid (ac (S b tb tg a pv) w k):=M (n.trans (yE f) (λ_ _ h=>h));clear f g;go_wp2_with fail;go_ret;exact⟨T,o,m⟩
end
end Sd
section
namespace dq
theorem DP:(prog.info? 207).map (λi=>(i.zero,i.size,i.bytes))=some (some (.agg #[J 0,L false,L false]),3,16):=by kernel_rfl
theorem Dw(m:N)(r:m<=1024)(w:Y):(Instr.makeSlice 195 (J m) (J m)).run prog w=.ok (Z (some (I w.heap.size 0)) m m) (w.alloc (D (cI (List.replicate m ⟨0,false,false⟩)).toArray 207)):=by
 obtain⟨l,d,g,j,k⟩:=aR DP;rw[run_make w 195 207 l _ underlying195 d g .i64 .i64 m m (by omega) (by omega) (by rw[k];omega) (by omega)];have e:madeCells (Value.agg #[J 0,L false,L false]).cells ((m:V).toNat*l.size)=(cI (List.replicate m ⟨0,false,false⟩)).toArray:=by
  have o:(Value.agg #[J 0,L false,L false]).cells=#[J 0,L false,L false]:=by kernel_rfl
  rw[j,iY,o];apply Array.ext
  ·rw[fc];simp only[List.size_toArray,yJ,lm]
  ·intro i n q;rw[fc]at n;have p:(List.replicate m (⟨0,false,false⟩:dy))[i/3]?=some ⟨0,false,false⟩:=by rw[dI,af (by omega)]
   obtain⟨a,b,c⟩:=kl _ _ _ p;have f:(cI (List.replicate m (⟨0,false,false⟩:dy)))[i]?=some ((cI (List.replicate m (⟨0,false,false⟩:dy))).toArray[i]):=by simp
   rcases(by omega:i%3=0\/i%3=1\/i%3=2)with h|h|h
   ·rw[show i/3*3=i from by omega,f]at a;have a:=et a;refine Eq.trans ?_ a.symm;simp[madeCells,h]
   ·rw[show i/3*3+1=i from by omega,f]at b;have b:=et b;refine Eq.trans ?_ b.symm;simp[madeCells,h]
   ·rw[show i/3*3+2=i from by omega,f]at c;have c:=et c;refine Eq.trans ?_ c.symm;simp[madeCells,h]
 rw[e];simp
theorem uo(m k:N):cY (List.replicate m ⟨0,false,false⟩) k=if k=0 then m else 0:=by
 simp[cY,List.countP_replicate];by_cases h:k=0
 ·simp[h]
 ·simp[h,bC h]
theorem gS(m:N)(w:Y)(c:m<=1024):C 81 #[J m] w λe a=>e=O (.tuple #[I (w.heap.size+1) 0,J 0])/\ae w a/\a.heap.size=w.heap.size+2/\At a (w.heap.size+1) w.heap.size (List.replicate m ⟨0,false,false⟩):=by
 have i:=λw=>Dw m c w;have j:decide ((m:V)<0)=false:=by simp
 have k:decide ((1024:V)<(m:V))=false:=by simp;omega
 have b:=ai w (D (cI (List.replicate m ⟨0,false,false⟩)).toArray 207);have f:=(ck w).alloc (D (cI (List.replicate m ⟨0,false,false⟩)).toArray 207);have hz:(w.alloc (D (cI (List.replicate m ⟨0,false,false⟩)).toArray 207)).heap.size=w.heap.size+1:=by simp
 have g:=M b;have HP:=M f;have h:=M hz;clear b f hz;go_enter func81,ntmps81;go_wp2_with fail;go_ret2;refine⟨T,HP.alloc _,by simp,⟨?_,?_,by simpa using c,λo d=>by rw[List.mem_replicate]at d;rw[d.2];decide⟩⟩
 ·rw[<-h.out,lm,uo,uo,uo];exact ai _ _
 ·exact ae.bF ((ck _).alloc _) g
end dq
namespace Sd
theorem gS(m k:N)(w:Y)(y:m<=1024)(v:1<=k)(x:k<=256):C 46 #[J m,J k] w λe o=>e=O (.tuple #[I (w.heap.size+3) 0,J 0])/\ae w o/\o.heap.size=w.heap.size+4/\At o (w.heap.size+3) (w.heap.size+1) w.heap.size (w.heap.size+2) (Z none 0 0) (List.replicate m ⟨0,false,false⟩) k false []:=by
 have t:=M (dq.gS m w y);have u:=M (λw=>Co.Pi.gS k w v x);go_enter func46,ntmps46;go_wp2_with fail;refine t.mono ?_;rintro e z⟨rfl,d,h,c⟩;have i:=M d;have j:=M h;have r:=M c;clear d h c;go_wp2_with fail;refine(u z).mono ?_;rw[j.out];rintro e q⟨rfl,g,n,p⟩;have b:=M g;have a:Hid (q.heap.size=w.heap.size+3):=M (by omega);have s:=M p;clear g n p;go_wp2_with fail;rw[a.out];go_ret2;have l:=(ck q).alloc (D #[I (w.heap.size+1) 0,I (w.heap.size+2) 0,J 0] 113);refine⟨T,ae.MD (ae.MD i b) l,by simp[a.out],⟨⟨0,?_⟩,(r.MC (ae.MD b l) (λf=>f) (λf=>f)),s.MC l (λ_ _ f=>f)⟩⟩;rw[<-a.out];exact ai _ _
