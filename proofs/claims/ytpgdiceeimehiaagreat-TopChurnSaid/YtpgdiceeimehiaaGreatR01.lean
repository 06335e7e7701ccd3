/- Part 1 of the proof of spotop.TopChurn. -/
import Derived.Test.YtpgdiceeimehiaaGreatRows
import Derived.BigQuiet
import Derived.Lib.Hide
import Derived.Deep.AppendLies
import Derived.Deep.RegionHeld3
import Derived.Lib.SmallJoins
import Derived.WalkSpells
import Derived.WalkLawsBesides
import Derived.Handy
set_option maxRecDepth 100000
set_option maxHeartbeats 16000000
set_option linter.all false
namespace Go.Proofs.YtpgdiceeimehiaaGreat
open RowKit
section
structure Kt(n:Nat):Type
structure Ka(b i:Nat):Type
def J:Kt 0:=⟨⟩
def I(b i:Nat):Ka b i:=⟨⟩
def C:Kt 1:=⟨⟩
def Z:Kt 2:=⟨⟩
def U:Kt 3:=⟨⟩
def L:Kt 4:=⟨⟩
def D:Kt 5:=⟨⟩
def O:Kt 6:=⟨⟩
def N:Kt 7:=⟨⟩
def V:Kt 8:=⟨⟩
def Y:Kt 9:=⟨⟩
instance:CoeFun (Kt 0) λ_=>Int->Value:=⟨λ_=>Value.int .i64⟩
instance{b i:Nat}:CoeOut (Ka b i) Addr:=⟨λ_=>⟨b,i,none⟩⟩
instance{b i:Nat}:CoeOut (Ka b i) Value:=⟨λ_=>.pointer (some ⟨b,i,none⟩)⟩
instance:CoeFun (Kt 1) λ_=>FuncId->Array Value->World->(Ending->World->Prop)->Prop:=⟨λ_=>Calls Tryz.prog⟩
instance:CoeFun (Kt 2) λ_=>Option Addr->Nat->Nat->Value:=⟨λ_=>Value.slice⟩
instance:CoeFun (Kt 3) λ_=>Nat->Nat->Value:=⟨λ_=>Value.complex .f64⟩
instance:CoeFun (Kt 4) λ_=>Bool->Value:=⟨λ_=>Value.bool⟩
instance:CoeFun (Kt 5) λ_=>Array Value->TypeId->(Nat×Nat)->Obj:=⟨λ_=>@Obj.cells⟩
instance:CoeFun (Kt 6) λ_=>Value->Ending:=⟨λ_=>Ending.returned⟩
instance:CoeSort (Kt 7) Type:=⟨λ_=>Nat⟩
instance:CoeSort (Kt 8) Type:=⟨λ_=>Int⟩
instance:CoeSort (Kt 9) Type:=⟨λ_=>World⟩
theorem M{p:Prop}(h:p):Go.RowKit.Hid p:=h
theorem T.{u}{α:Sort u}{a:α}:a=a:=rfl
theorem bK{w:World}{g j:Nat}{c:Array Value}{t:TypeId}{f:Nat×Nat}(h:w.heap[g]?=some (.cells c t f)):w.cell? ⟨g,j,none⟩=c[j]?:=cell_of_row w g j c t f h
theorem fq{w:World}{g:Nat}(j:Nat){c:Array Value}{t:TypeId}{f:Nat×Nat}(h:w.heap[g]?=some (.cells c t f)):w.cell? ⟨g,j,none⟩=c[j]?:=cell_of_row w g j c t f h
theorem ey{w:World}{g:Nat}(j:Nat){c:Array Value}{t:TypeId}(h:w.heap[g]?=some (.cells c t)):w.frozen? ⟨g,j,none⟩=false:=frozen_of_row w g j c t h
theorem js{a b c:Prop}(z:c):a\/b\/c:=.inr (.inr z)
theorem pN{a b c d:Prop}(z:d):a\/b\/c\/d:=.inr (.inr (.inr z))
theorem tw{a b c d e:Prop}(z:e):a\/b\/c\/d\/e:=.inr (.inr (.inr (.inr z)))
theorem xL{a b c d e f:Prop}(z:f):a\/b\/c\/d\/e\/f:=.inr (.inr (.inr (.inr (.inr z))))
theorem vC{a b c d e f g:Prop}(z:g):a\/b\/c\/d\/e\/f\/g:=.inr (.inr (.inr (.inr (.inr (.inr z)))))
theorem xH{a b c d e f g h:Prop}(z:h):a\/b\/c\/d\/e\/f\/g\/h:=.inr (.inr (.inr (.inr (.inr (.inr (.inr z))))))
theorem LN{a b c d e f g h i:Prop}(z:i):a\/b\/c\/d\/e\/f\/g\/h\/i:=.inr (.inr (.inr (.inr (.inr (.inr (.inr (.inr z)))))))
theorem MB{a b c d e f g h i j:Prop}(z:j):a\/b\/c\/d\/e\/f\/g\/h\/i\/j:=.inr (.inr (.inr (.inr (.inr (.inr (.inr (.inr (.inr z))))))))
def bR:=@Array.getElem?_eq_some_iff
def dH:=@List.getElem?_eq_some_iff
def cR:=@List.getElem?_eq_getElem
def cZ:=@List.mem_of_getElem?
def aq:=@And.intro
def eR:=@Nat.lt_of_lt_of_le
def gV:=@Array.getElem?_modify
def ko:=@List.getD_eq_getElem?_getD
def ci:=Nat.le_refl
def jD:=@World.ownsRow_nil
def iB:=@List.length_append
def gx:=Bool.false_eq_true
def mD:=@List.eq_nil_of_length_eq_zero
def iY:=Int.toNat_natCast
def kS:=@List.getElem?_set_self
def kT:=@List.getElem?_set_ne
def iC:=@List.length_set
def lm:=@List.length_replicate
def iE:=@List.mem_append
def oc:=@List.getElem?_append_right
def pL:=@List.getElem?_append_left
def pM:=@List.setIfInBounds_toArray
def jq:=@List.length_take
def lP:=@List.length_drop
def jr:=@List.mem_singleton
def kc:=Nat.eq_zero_or_pos
def lQ:=@World.cell?_of_block
def dT:=@decide_eq_false
def fN:=@decide_eq_true
def ga:=@Array.getElem?_toList
def cN:=@Go.RowKit.Below.heap_alloc
def bt:=@Bool.and_eq_true
def eC:=@Go.DataW.trod_int
def eD:=@Go.WideShapes.add_plain
def dg:=@Int.eq_ofNat_of_zero_le
def fO:=@Int.mul_le_mul_of_nonneg_right
def dl:=@Int.tdiv_eq_ediv_of_nonneg
def fh:=@Int.zero_add
def aP:=@Go.IntKind.wrap_i64
def cS:=@List.append_assoc
def fi:=@List.append_eq_append_iff
def bJ:=@List.append_nil
def dV:=@List.cons_append
def ds:=@List.countP_cons
def cd:=@List.drop_eq_getElem_cons
def eS:=@List.exists_cons_of_ne_nil
def bN:=@List.flatMap_cons
def cT:=@List.getElem?_eq_none
def fV:=@List.getElem?_map
def dI:=@List.getElem?_replicate
def du:=@List.getElem?_take
def bu:=@List.length_cons
def eE:=@List.length_eq_zero_iff
def fH:=@List.length_map
def dJ:=@List.length_nil
def cV:=@List.map_append
def ev:=@List.map_cons
def dr:=@List.mem_cons
def eZ:=@List.mem_cons_of_mem
def fa:=@List.mem_iff_getElem
def aX:=@List.mem_map
def dh:=@List.mem_of_mem_take
def eo:=@List.mem_or_eq_of_mem_set
def cW:=@List.nil_append
def ew:=@List.nodup_append
def gd:=@List.not_mem_nil
def dK:=@List.range_succ
def fy:=@List.replicate_succ
def cX:=@List.set_append_right
def fI:=@List.set_cons_succ
def dv:=@List.set_cons_zero
def cD:=@List.take_add_one
def eF:=@List.take_length
def fR:=@Go.MapKept.run_getObj_map
def aF:=@Nat.le_trans
def eL:=@Nat.min_eq_left
def ei:=@Nat.mul_one
def bq:=@Nat.ne_of_lt
def dW:=@Nat.shiftLeft_eq
def fj:=@Nat.sub_self
def er:=@Nat.two_pow_pos
def br:=@Nat.zero_add
def aw:=@Nat.zero_le
def fT:=@Nat.zero_mul
def bC:=@Ne.symm
def dL:=@Option.map_some
def et:=@Option.some.inj
def dM:=@Go.World.block_lt_of_cell?
def aH:=@Go.World.ownsRow.alloc
def fJ:=@Go.World.ownsRow_made
def gh:=@beq_self_eq_true
def au:=@Go.bodyPost_ret
def ay:=@congrArg
def cL:=@decide_eq_false_iff_not
def aQ:=@decide_eq_true_eq
def ai:=@Go.heap_alloc_new
def bG:=@if_false
def aa:=@if_neg
def af:=@if_pos
def bP:=@if_true
def aR:=@Go.info_parts
def dC:=@Go.run_underlying
def fc:=@Go.size_madeCells
end
open Go.Proofs.Tryz
section
open Go.ChangeShapes Go.WideShapes Go.ChangeAt Go.RowKit
theorem own:ownKnob prog.godebug=none:=by kernel_rfl
theorem FZ:laidOutB prog=true:=by kernel_rfl
section
variable{H:Type}{enc:TypeId × Value->H}{P:Program}
theorem nY(j:laidOutB P=true){W g:Y}(i:Below W.heap.size W g):∀{ts:List TypeId} {f:List Value} {a:List (DataW H)} {ps:List MemPlace},
  (ts.all λt=>P.readableRec t&&decide (t<P.types.size))=true->(∀x∈ps,x.block<W.heap.size) ->
  DataW.TrodAll enc P W 0 (λ_=>true) true ts f a ps->DataW.TrodAll enc P g 0 (λb=>decide (b<W.heap.size)) true ts f a ps
 | [],[],[],_,_,_,h=>h
 | [],[],_::_,_,_,_,h=>h.elim
 | [],_::_,_,_,_,_,h=>h.elim
 | _::_,[],_,_,_,_,h=>h.elim
 | _::_,_::_,[],_,_,_,h=>h.elim
 | t::ts,v::f,d::a,ps,hr,hlt,⟨p,q,h1,h2,e⟩=>by
  simp only[List.all_cons,bt,aQ]at hr;exact⟨p,q,Below.trod j hr.1.1 hr.1.2 h1 i (λx c=>hlt x (by rw[e];exact List.mem_append_left _ c)),
   nY j i hr.2 (λx c=>hlt x (by rw[e];exact List.mem_append_right _ c)) h2,e⟩
theorem Dm{Cq:Checked}{os:Os}{f:FuncId}{n:Func}{s:ChangeSpec}{g:List PathCond}{tb:TypeId}
  (z:ownKnob Cq.prog.godebug=none) (ek:os.Started) (o:Cq.prog.inits.idxOf? f=none) (Q:Cq.prog.funcs[f]?=some n)
  (hl:laidOutB Cq.prog=true) (hr:(n.params.toList.all λt=>Cq.prog.readableRec t&&decide (t<Cq.prog.types.size))=true)
  (l:s.vars=[]) (A:n.resultTypes=#[tb]) (R:Cq.prog.underlying tb=some .bool)
  (b:∀a:List (DataW H),a.length=n.params.size->s.fn H a={results:=[.lit (.bool true)],args:=a})
  (m:∃(w:Y) (c:Tape) (i:Input),w.os=os/\(w.forCall c i).Shaped Cq.prog/\i.vars=[]/\Input.okWide Cq.prog (w.forCall c i) .any w.heap.size f i /\
   s.pre6 enc Cq.prog n g false (w.forCall c i).memory i.args/\({}:Assume).holds Cq.prog (lone (Frame.enter Cq.prog f i.args .normal) [] (w.forCall c i)))
  (JS:∀(W:Y) (d:N) (args:Array Value) (a:List (DataW H)) (r:List MemPlace),
   (∀(j:N) t v,n.params[j]?=some t->args[j]?=some v->Value.okWide Cq.prog W .any d t v) ->
   DataW.TrodAll enc Cq.prog W 0 (λ_=>true) true n.params.toList args.toList a r->(∀x∈r,x.block<W.heap.size) ->
   Calls Cq.prog f args W λe S=>e=O (L true)/\Below W.heap.size W S) :
  ReturnsInHanded {} Cq os f .any (s.pre6 enc Cq.prog n g false) (s.post enc Cq.prog n false true false false):=by
 refine returnsInHanded_of_change z ek o Q m ?_;intro W d args a gs G B hW _ _;have u:=hW;obtain⟨p,q,K,X,rfl,a1,a2⟩:=hW;rw[l]at X;obtain⟨rfl,rfl⟩:=trodVars_none X;have y:∀x∈p,x.block<W.heap.size:=λx hx=>u.lt x (by simpa using hx);have k:a.length=n.params.size:=by
  have:∀{E:List TypeId} {F:List Value} {a:List (DataW H)} {r:List MemPlace},DataW.TrodAll enc Cq.prog W 0 (λ_=>true) true E F a r->a.length=E.length:=by
   intro E
   induction E with
   | nil=>intro F a r h;cases F<;>cases a<;>first|rfl|exact h.elim
   | cons t E ih =>
    intro F a r h;cases F<;>cases a<;>first|exact h.elim|skip
    obtain⟨_,_,_,h2,_⟩:=h;simpa using ih h2
  simpa using this K
 refine(JS W d args a p B K y).mono λe S ⟨he,hb⟩=>⟨L true,he,a,[],p++[],[],p,[],u,?_,?_,?_,hb.frame _,λh=>by cases h⟩
 ·rw[bJ,b a k,A];exact trodAll_cons_mk (shut_bool R true) trodAll_mk0
 ·rw[bJ,b a k];exact nY hl hb hr y K
 ·rw[l,bJ,b a k];rfl
end
end
section
structure ac(S:N->Prop)(w w':Y):Prop where
 os:w'.os=w.os
 tape:w'.tape=w.tape
 output:w'.output=w.output
 size:w.heap.size<=w'.heap.size
 block:∀k,k<w.heap.size->¬S k->w'.heap[k]?=w.heap[k]?
section
variable{S Tq:N->Prop}{a b c w w':Y}
theorem ac.refl(S:N->Prop)(w:Y):ac S w w:=⟨T,T,T,ci _,λ_ _ _=>T⟩
theorem ac.mono(h:ac S a b)(g:∀k,k<a.heap.size->S k->Tq k):ac Tq a b:=⟨h.os,h.tape,h.output,h.size,λk e f=>h.block k e (λd=>f (g k e d))⟩
theorem ac.trans(h:ac S a b)(k:ac Tq b c)(f:∀i,i<a.heap.size->Tq i->S i):ac S a c :=
 ⟨k.os.trans h.os,k.tape.trans h.tape,k.output.trans h.output,aF h.size k.size,
  λi d e=>(k.block i (eR d h.size) (λg=>e (f i d g))).trans (h.block i d e)⟩
theorem ac.drewN(h:ac S a w)(n:N):ac S a (w.drewN n):=⟨h.os,h.tape,h.output,h.size,h.block⟩
theorem ac.alloc(h:ac S a w)(o:Obj):ac S a (w.alloc o):=⟨h.os,h.tape,h.output,aF h.size (by simp),λk d e=>(cN w o k (eR d h.size)).trans (h.block k d e)⟩
theorem ac.setCell(h:ac S a w){p:Addr}(g:p.block<a.heap.size->S p.block)(u:Value):ac S a (w.setCell p u):=⟨h.os,h.tape,h.output,by simpa[World.setCell]using h.size,λk d f=>(Below.heap_setCell w p u k (λe=>f (by subst e;exact g d))).trans (h.block k d f)⟩
theorem ac.grown(h:ac S a w){cI:Option Nat}(d:w.grownBy w' cI)(i:∀k,k<a.heap.size->cI=some k->S k):ac S a w' :=
 ⟨d.os.trans h.os,d.tape.trans h.tape,d.output.trans h.output,aF h.size d.size,
  λk f g=>(d.block k (eR f h.size) (λe=>g (i k f e.symm))).trans (h.block k f g)⟩
theorem ac.below(h:ac S a w){B:N}(f:B<=a.heap.size)(e:∀k,k<a.heap.size->S k->B<=k):Below B a w:=⟨h.os,h.tape,h.output,h.size,λk g=>h.block k (by omega) (λd=>by have:=e k (by omega) d;omega)⟩
theorem ac.cell(h:ac S a w){p:Addr}(e:p.block<a.heap.size)(d:¬S p.block):w.cell? p=a.cell? p:=lQ (w:=a) (h.block p.block e d)
theorem ac.own(h:ac S a w){aC:N}{e:TypeId}{size n:N}{v:Value}{xs:List Value}(l:a.ownsRow aC e size v n xs)(p:∀k,v.ownBlock=some k->¬S k):w.ownsRow aC e size v n xs:=by
 refine⟨l.1,?_⟩;rcases l.2 with m|⟨g,f,i,rfl,o,j,d⟩
 ·exact .inl m
 ·exact .inr ⟨g,f,i,T,o,by rw[h.block g (bR.1 j).1 (p g rfl)];exact j,d⟩
end
theorem aD{w:Y}{aC:N}{e:TypeId}{size n:N}{v:Value}{xs:List Value}(h:w.ownsRow aC e size v n xs):∃A c,v=Z A n c:=by
 rcases h.2 with⟨rfl,rfl⟩|⟨g,a,b,rfl,_⟩
 ·exact⟨_,_,T⟩
 ·exact⟨_,_,T⟩
abbrev ae(w w':Y):Prop:=ac (λ_=>False) w w'
theorem ae.MD{a b c:Y}(h:ae a b)(k:ae b c):ae a c:=h.trans k (λ_ _ f=>f)
theorem ae.below{w a:Y}(h:ae w a):Below w.heap.size w a:=ac.below h (ci _) (λ_ _ f=>f.elim)
def eO(w:Y)(B:N)(v:Value)(xs:List Int):Prop :=
 ∃(A:Option Addr) (c:N),v=Z A xs.length c/\xs.length<=c/\c<=maxLen/\(∀x∈xs,-9223372036854775808<=x/\x<=9223372036854775807) /\
  (0<xs.length->∃b off,A=some ⟨b,off,none⟩/\b<B/\∀j,j<xs.length->w.cell? (I b (off+j))=some (J (xs.getD j 0)))
theorem eO.aj{w d:Y}{B:N}{v:Value}{xs:List Int}(h:eO w B v xs)(k:∀b o,b<B->v.ownBlock=some b->d.cell? (I b o)=w.cell? (I b o)):eO d B v xs:=by
 obtain⟨A,c,rfl,e,f,g,i⟩:=h;refine⟨A,c,T,e,f,g,λn=>?_⟩;obtain⟨b,off,rfl,a,l⟩:=i n;exact⟨b,off,T,a,λj m=>(k b (off+j) a T).trans (l j m)⟩
theorem eO.below{w c:Y}{B:N}{v:Value}{xs:List Int}(h:eO w B v xs)(d:Below B w c):eO c B v xs:=h.aj λb _ a _=>d.cell (p:=⟨b,_,none⟩) a
theorem eO.MC{w d:Y}{S:N->Prop}{v:Value}{xs:List Int}(h:eO w w.heap.size v xs)(g:ac S w d)(n:∀k,v.ownBlock=some k->¬S k):eO d d.heap.size v xs:=by
 have f:eO d w.heap.size v xs:=h.aj λb _ a q=>g.cell (p:=⟨b,_,none⟩) a (n b q);obtain⟨A,c,rfl,i,f,j,l⟩:=f;refine⟨A,c,T,i,f,j,λo=>?_⟩;obtain⟨b,off,e,a,m⟩:=l o;exact⟨b,off,e,eR a g.size,m⟩
theorem eO.mono{w:Y}{B a:N}{v:Value}{xs:List Int}(h:eO w B v xs)(m:B<=a):eO w a v xs:=by
 obtain⟨A,c,rfl,d,f,g,i⟩:=h;refine⟨A,c,T,d,f,g,λl=>?_⟩;obtain⟨b,off,e,k,j⟩:=i l;exact⟨b,off,e,by omega,j⟩
theorem eO.nil(w:Y)(B:N):eO w B (Z none 0 0) []:=⟨none,0,T,ci _,by simp[maxLen],by simp,by simp⟩
theorem eO.len{w:Y}{B:N}{v:Value}{xs:List Int}(h:eO w B v xs):∃A c,v=Z A xs.length c/\xs.length<=c/\c<=9223372036854775807:=by
 obtain⟨A,c,h,a,b,_⟩:=h;exact⟨A,c,h,a,by simpa[maxLen]using b⟩
def bI(xs:List Int):List Value:=xs.map (Value.int .i64)
theorem qu(xs a:List Int):bI (xs++a)=bI xs++bI a:=by simp[bI]
theorem lh(xs:List Int):(bI xs).length=xs.length:=by simp[bI]
theorem ints_set(xs:List Int)(j:N)(x:V):(bI xs).set j (J x)=bI (xs.set j x):=by simp[bI,List.map_set]
theorem rT(xs:List Int):∀u∈bI xs,u.oneCell'=true:=by
 intro u a;simp only[bI,aX]at a;obtain⟨x,_,rfl⟩:=a;rfl
theorem wA(xs:List Int)(j:N)(u:Value)(h:(bI xs)[j]?=some u):j<xs.length/\u=J (xs.getD j 0):=by
 simp only[bI,fV,Option.map_eq_some_iff]at h;obtain⟨x,a,rfl⟩:=h;exact⟨(dH.1 a).1,by simp[ko,a]⟩
theorem jM(xs:List Int)(i:N)(h:i<xs.length):xs.getD i 0∈xs:=by
 rw[ko,cR h];exact List.getElem_mem h
theorem eO.fQ{w:Y}{aC:N}{e:TypeId}{n:N}{v:Value}{xs:List Int}(h:w.ownsRow aC e 1 v n (bI xs))(o:∀x∈xs,-9223372036854775808<=x/\x<=9223372036854775807):eO w w.heap.size v xs:=by
 have i:xs.length=n:=by have:=h.1;rw[lh]at this;omega
 rcases h.2 with⟨rfl,rfl⟩|⟨g,b,a,rfl,p,f,d,c,k,m⟩
 ·obtain rfl:xs=[]:=mD i;exact eO.nil _ _
 ·subst i;refine⟨_,b,T,d,c,o,λq=>⟨g,0,T,(bR.1 f).1,λj l=>?_⟩⟩;rw[br,cell_of_row w g j a e (0,0) f];have:(a.toList.take (xs.length*1))[j]?=(bI xs)[j]?:=by rw[m]
  rw[du,af (by omega),ga]at this;rw[this];simp[bI,cR l]
section
variable{P:Program}(w:Y)
def jd(w:Y)(size:N)(A:Option Addr)(m:N)(news:List Value):Prop:=news.length=m*size/\(0<m->∃b off,A=some ⟨b,off,none⟩/\∀j u,news[j]?=some u->w.cell? (I b (off+j))=some u)
theorem jd.aj{w e:Y}{size m:N}{A:Option Addr}{a:List Value}(h:jd w size A m a)(g:∀c:Addr,A=some c->0<m->∀o,e.cell? (I c.block o)=w.cell? (I c.block o)):jd e size A m a :=
 ⟨h.1,λd=>by
  obtain⟨b,off,rfl,f⟩:=h.2 d;exact⟨b,off,T,λj u i=>(g _ T d _).trans (f j u i)⟩⟩
theorem jd.below{w d:Y}{B size m:N}{A:Option Addr}{a:List Value}(h:jd w size A m a)(f:Below B w d)(c:∀b:Addr,0<m->A=some b->b.block<B):jd d size A m a:=h.aj λb e g o=>f.cell (p:=⟨b.block,o,none⟩) (c b g e)
theorem zN(aC:N)(t S e:TypeId)(i:TypeInfo)(z:Value)(size bytes:N)(H:P.underlying t=some (.slice e))(B:P.info? e=some i)(hz:i.zero=some z)
  (l:i.size=size) (x:i.bytes=bytes) (K:z.cells.size=size) (G:0<size)
  (v:Value) (n:N) (xs:List Value) (d:w.ownsRow aC e size v n xs)
  (A:Option Addr) (m c:N) (a:List Value) (p:jd w size A m a) (h1:∀u∈a,u.oneCell'=true)
  (s:n+m<=maxLen) (f:(n+m)*bytes<=140737488355328) (k:aC<=w.heap.size) :
  ∃o q,(Builtin.append_ #[t,t] S #[v,Z A m c]).run P w=.ok o q/\q.ownsRow aC e size o (n+m) (xs++a)/\w.grownBy q v.ownBlock /\
   (o.ownBlock=v.ownBlock\/o.ownBlock=some w.heap.size):=by
 rcases A with _|Q
 ·have E:m=0:=by
   rcases kc m with r|r
   ·exact r
   ·obtain⟨b,off,h,_⟩:=p.2 r;cases h
  subst E;obtain rfl:a=[]:=mD (by have:=p.1;omega);refine⟨v,w,?_,by simpa using d,World.grownBy.refl w _,.inl T⟩;rcases d.2 with⟨rfl,rfl⟩|⟨g,W,X,rfl,_,_,F,_⟩
  ·simp[Builtin.append_,dC H,sizeOf,typeInfo,B,Builtin.lenOf,Builtin.firstCells]
  ·simp[Builtin.append_,dC H,sizeOf,typeInfo,B,Builtin.lenOf,Builtin.firstCells,F,storeCells]
 ·have y:∀j u,a[j]?=some u->w.cell? (Q.add j)=some u:=by
   intro j u R;rcases kc m with rfl|E
   ·obtain rfl:a=[]:=mD (by have:=p.1;omega);simp at R
   ·obtain⟨b,off,h,y⟩:=p.2 E;injection h with h;subst h;rw[eD];exact y j u R
  obtain⟨o,q,hr,h2,h3,_,h5⟩:=run_append_own_at (P:=P) w aC t S e i z size bytes H B hz l x K G v n xs d Q m c a p.1 y h1 s f k;exact⟨o,q,hr,h2,h3,h5⟩
theorem bT{y:Array Oper}{j:List Oper}{o:Oper}{a:Act}{Q:Exit->Act->Y->Prop}(G:o.guard=none)(s x:Operand)(t:TypeId)
  (ho:o.op=.call {callee:=.builtin .append,args:=#[s,x],argTypes:=#[t,t]})
  (d:N) (e:TypeId) (i:TypeInfo) (z:Value) (b bytes:N) (ht:P.underlying t=some (.slice e)) (hi:P.info? e=some i) (hz:i.zero=some z)
  (l:i.size=b) (F:i.bytes=bytes) (K:z.cells.size=b) (H:0<b)
  (v:Value) (n:N) (R:List Value) (hs:a.eval s=v) (q:w.ownsRow d e b v n R)
  (A:Option Addr) (m c:N) (f:List Value) (hx:a.eval x=Z A m c) (r:jd w b A m f) (S:∀u∈f,u.oneCell'=true)
  (E:n+m<=maxLen) (g:(n+m)*bytes<=140737488355328) (k:d<=w.heap.size)
  (h:∀p B,B.ownsRow d e b p (n+m) (R++f)->w.grownBy B v.ownBlock->(p.ownBlock=v.ownBlock\/p.ownBlock=some w.heap.size)->wpList P y Q j (a.put o.dst p) B):wpList P y Q (o::j) a w :=
 wpList_plain G λ_ hK=>by
  obtain⟨p,B,hr,W,X,h4⟩:=zN (P:=P) w d t o.type e i z b bytes ht hi hz l F K H v n R q A m c f r S E g k;unfold Oper.wp execOp;simp only[ho,resolve,invoke,builtin,Sem.run_bind,Sem.run_pure,Result.andThen_ok,List.map_toArray,ev,List.map_nil,hs,hx,hr];exact hK _ _ (h p B W X h4)
theorem eO.src{B:N}{A:Option Addr}{m c:N}{xs:List Int}{w:Y}(h:eO w B (Z A m c) xs):m=xs.length/\jd w 1 A m (bI xs):=by
 obtain⟨k,l,e,n,o,p,a⟩:=h;injection e with e1 e2 e3;subst e1;subst e2;refine⟨T,by simp[lh],λg=>?_⟩;obtain⟨b,off,e,_,d⟩:=a g;refine⟨b,off,e,λj u i=>?_⟩;obtain⟨f,rfl⟩:=wA xs j u i;exact d j f
end
theorem jd.one(w:Y)(e:TypeId)(x:V)(B:N)(a:w.heap.size=B):jd (w.alloc (D #[J x] e)) 1 (some ⟨B,0,none⟩) 1 (bI [x]):=by
 subst a;refine⟨T,λ_=>⟨_,0,T,λj u c=>?_⟩⟩;obtain⟨b,rfl⟩:=wA [x] j u c;obtain rfl:j=0:=by simpa using b
 rw[cell_of_row _ w.heap.size _ #[J x] e (0,0) (ai w _)];rfl
def mE(w:Y)(B:N)(v:Value)(vs:List Value):Prop :=
 ∃(A:Option Addr) (c:N),v=Z A vs.length c/\vs.length<=c/\c<=9223372036854775807 /\
  (0<vs.length->∃b off,A=some ⟨b,off,none⟩/\b<B/\∀j u,vs[j]?=some u->w.cell? (I b (off+j))=some u)
def da(bs:List Bool):List Value:=bs.map Value.bool
theorem bV(bs:List Bool):(da bs).length=bs.length:=by simp[da]
theorem mE.MC{w d:Y}{S:N->Prop}{v:Value}{f:List Value}(h:mE w w.heap.size v f)(e:ac S w d)(n:∀k,v.ownBlock=some k->¬S k):mE d d.heap.size v f:=by
 obtain⟨A,c,rfl,g,i,l⟩:=h;refine⟨A,c,T,g,i,λo=>?_⟩;obtain⟨b,off,rfl,a,m⟩:=l o;exact⟨b,off,T,eR a e.size,λj u q=>(e.cell (p:=⟨b,off+j,none⟩) a (n b T)).trans (m j u q)⟩
theorem mE.pure{w a:Y}{v:Value}{b:List Value}(h:mE w w.heap.size v b)(c:ae w a):mE a a.heap.size v b:=h.MC c (λ_ _ f=>f)
section
open Go.ChangeShapes Go.WideShapes Go.ChangeAt
variable{H:Type}{enc:TypeId × Value->H}{P:Program}
theorem zI{W:Y}{y aC:N}{t e:TypeId}{v:Value}{d:DataW H}{ps:List MemPlace}{r:Reach}(w:P.underlying t=some (.slice e))(A:P.underlying e=some (.int .i64))(z:P.cellsOf e=1)
  (n:Value.okWide P W r y t v) (h:DataW.Trod enc P W aC (λ_=>true) true t v d ps):∃xs,eO W W.heap.size v xs:=by
 obtain⟨a0,o,l,rfl⟩:=okWide_slice w n;obtain⟨u,B⟩:=h;rcases open_ints w A z B with⟨k,_⟩|⟨a,f,g,s,k,_,R,E,hz,_,i,q⟩
 ·have c:[Z a0 o l]=[Z none 0 0]:=k;injection c with c;rw[c];exact⟨[],eO.nil _ _⟩
 ·have c:[Z a0 o l]=[Z (some a) f g]:=k;injection c with c;rw[c];have K:s.length=g:=by simpa using hz
  have p:(s.take f).length=f:=by rw[jq];omega
  refine⟨s.take f,some a,g,by rw[p],by omega,E,λx G=>?_,λS=>?_⟩
  ·have F:=q x (dh G);simp[Lit.wf,IntKind.max,IntKind.min,IntKind.signed,IntKind.bits]at F;omega
  ·obtain⟨b,off,rfl,m⟩:=ints_at i (by omega);refine⟨b,off,T,dM W ⟨b,off+0,none⟩ (m 0 (by omega)),λj Q=>?_⟩;rw[m j (by omega)];simp only[ko,du];rw[af (by omega)]
theorem yC{W:Y}{t e:TypeId}{v:Value}{l:N}{x:DataW H × List MemPlace}{aC:N}(S:P.underlying t=some (.slice e))(G:P.underlying e=some .bool)(F:P.cellsOf e=1)
  (h:DataW.trod enc P W aC (λ_=>true) true l t [v]=some x):∃bs:List Bool,mE W W.heap.size v (da bs):=by
 rcases Go.Deep.open_slice1 S F h with⟨c,_⟩|⟨a,d,k,m,n,B,X,Pl,c,_,hl,Q,r,_,w⟩
 ·injection c with c;rw[c];exact⟨[],none,0,T,ci _,by omega,λh=>by simp[da]at h⟩
 ·injection c with c;subst c;have R:m=k:=by simpa using r
  have q:∀i,i<d->∃b:Bool,B i=L b:=by
   intro i hi;obtain⟨_,E⟩:=w i (by omega);obtain⟨b,q,_⟩:=DataW.trod_bool G E;exact⟨b,by injection q⟩
  obtain⟨f,K⟩:=Go.Deep.choose_lt q;have o:(da ((List.range d).map f)).length=d:=by simp[da]
  refine⟨(List.range d).map f,some a,k,by rw[o],by omega,by simpa[maxLen]using Q,λhp=>?_⟩;have y:=(w 0 (by omega)).1;obtain⟨b,off,p⟩:=a;have g:p=none:=by simpa[Addr.add]using World.cell?_spot y
  subst g;refine⟨b,off,T,?_,λj u s=>?_⟩
  ·have:=dM W _ y
   rwa [eD]at this
  ·have A:j<d:=by
    have:=(dH.1 s).1;omega
   have z:=(w j (by omega)).1;rw[eD]at z;rw[z];simp[da,A]at s;rw[<-s,K j A]
end
theorem Lf{P:Program}{f:FuncId}{args:Array Value}{w:Y}{v:Value}{S:Y->Prop}(d:S w)(i:∀a b:Y,S a->ae a b->S b)
  (h:Calls P f args w λe c=>e=O v/\ae w c):Calls P f args w λe c=>e=O v/\S c:=h.mono λ_ _ ⟨g,j⟩=>⟨g,i _ _ d j⟩
theorem fS{P:Program}{f:FuncId}{args:Array Value}{w:Y}{v:Value}(h:Calls P f args w λe a=>e=O v/\w=a):Calls P f args w λe a=>e=O v/\ae w a:=h.mono λ_ _ ⟨b,c⟩=>⟨b,c▸ac.refl _ _⟩
theorem ae.aj{w b:Y}{p:Addr}{v:Value}(h:ae w b)(a:w.cell? p=some v):b.cell? p=some v:=(h.cell (dM w p a) (λf=>f)).trans a
theorem eH{x y:Bool}(h:y=x):O (L x)=O (L y):=by rw[h]
theorem dP{k:IntKind}{x y:V}(h:y=x):O (.int k x)=O (.int k y):=by rw[h]
theorem ck(w:World):ac (λ_=>False) w w:=ac.refl _ w
theorem bo{S:Nat->Prop}(w:World):ac S w w:=ac.refl _ w
end
section
def gZ(a:Bool)(n:N):Bool:=decide (n<=40)&&(!a||n==1)
abbrev nP(a:Bool)(A:Option Addr)(n c:N):Value:=.agg #[L a,Z A n c]
theorem gW(a:Bool)(A:Option Addr)(n c:N)(w:Y)(h:n<=9223372036854775807):C 17 #[nP a A n c] w λe g=>e=O (L (gZ a n))/\ae w g:=by
 by_cases b:n<=40
 ·cases a
  ·go_enter func17,ntmps17;go_wp2;go_ret;exact⟨eH (by simp[gZ,b]),(bo _).alloc _⟩
  ·by_cases d:n=1
   ·subst d;go_enter func17,ntmps17;go_wp2;go_ret;exact⟨eH (by simp[gZ]),(bo _).alloc _⟩
   ·have f:((n:V)==1)=false:=by simp;omega
    go_enter func17,ntmps17;go_wp2;go_ret;exact⟨eH (by simp[gZ,d]),(bo _).alloc _⟩
 ·go_enter func17,ntmps17;go_wp2;go_ret;exact⟨eH (by simp[gZ,b]),(bo _).alloc _⟩
theorem uL{a:Bool}{n:N}(h:gZ a n=true):n<=40:=by
 simp only[gZ,bt,aQ]at h;exact h.1
end
section
structure Sh where
 a:Bool
 v:Value
 bs:List Bool
def dm(w:Y)(B:N)(v:Value)(l:List Sh):Prop :=
 (∃(A:Option Addr) (c:N),v=Z A l.length c/\l.length<=c/\c<=9223372036854775807 /\
  (0<l.length->∃b off,A=some ⟨b,off,none⟩/\b<B/\∀j s,l[j]?=some s->w.cell? (I b (off+j*2))=some (L s.a)/\w.cell? (I b (off+j*2+1))=some s.v)) /\
 ∀s∈l,mE w B s.v (da s.bs)
theorem dm.pure{w d:Y}{v:Value}{l:List Sh}(h:dm w w.heap.size v l)(a:ae w d):dm d d.heap.size v l:=by
 obtain⟨⟨A,c,e,g,i,k⟩,m⟩:=h;refine⟨⟨A,c,e,g,i,λq=>?_⟩,λs r=>(m s r).pure a⟩;obtain⟨b,off,rfl,n,o⟩:=k q;refine⟨b,off,T,eR n a.size,λj s p=>?_⟩;obtain⟨c1,f⟩:=o j s p;exact⟨a.aj c1,a.aj f⟩
structure Cn where
 ag:V
 al:V
 ap:V
 ao:V
 ak:V
 aB:V
 be:V
 di:V
abbrev hI(c:Cn)(v:Value):Value:=.agg #[J c.ag,J c.al,J c.ap,J c.ao,J c.ak,J c.aB,J c.be,J c.di,v]
def bl(n a b:V):Bool:=decide (a<=n)&&decide (n<=b)
def gq(c:Cn):List Bool:=[bl c.ag 4 1024,bl c.al 0 2048,bl c.ap 0 8,bl c.ao 1 16,bl c.ak 1 8,bl c.aB 0 8,bl c.be 1 256,bl c.di 0 c.ag]
def ia(l:List Sh):Bool:=l.all λs=>gZ s.a s.bs.length
def bk(c:Cn)(l:List Sh):V:=if(gq c).all id=false then 1 else if c.ag<c.ao*c.aB then 1 else if(bl l.length 1 8&&ia l)=false then 4 else 0
theorem sW(n a b:V)(w:Y):C 14 #[J n,J a,J b] w λe c=>e=O (L (bl n a b))/\w=c:=by
 by_cases h:a<=n
 ·go_enter func14,ntmps14;go_wp2;go_ret;exact⟨eH (by simp[bl,h]),T⟩
 ·go_enter func14,ntmps14;go_wp2;go_ret;exact⟨eH (by rw[bl,dT (show ¬a<=n by omega)];rfl),T⟩
theorem qq(a:Bool)(A:Option Addr)(n c:N)(w:Y)(f:n<=9223372036854775807):C 16 #[nP a A n c] w λe g=>e=O (L (!gZ a n))/\ae w g:=by
 go_enter func16,ntmps16;go_wp2_with fail;refine(gW a A n c _ f).mono ?_;rintro e h⟨rfl,b⟩;have d:=M (ae.MD ((ck w).alloc (D #[L a,Z A n c] 35)) b);clear b;go_wp2;go_ret;exact⟨T,d⟩
theorem AK(v:Value)(l:List Sh)(w:Y)(F:dm w w.heap.size v l):C 39 #[v,.func (.func 16) #[] #[]] w λe w'=>(∃r:V,e=O (J r)/\decide (0<=r)=!ia l)/\ae w w':=by
 have HL:=M F;obtain⟨⟨A,cc,rfl,h1,h2,y⟩,z⟩:=F;have K:=M y;have P:=M z;clear y z;go_enter func39,ntmps39;go_wp2_with fail;go_loopw [8] (λi wr=>∃k:N,k<=l.length/\i=J k/\(∀j,j<k->∀s,l[j]?=some s->gZ s.a s.bs.length=true)/\ae w wr) (λi _=>l.length-(intOf i).toNat)
 case atStart=>exact⟨0,aw _,T,(by omega),bo _⟩
 case round =>
  obtain⟨k,hk,rfl,f,G⟩:=hrel;have c:=M f;have HP:=M G;clear f G;by_cases u:k<l.length
  ·obtain⟨b,off,S,hb,E⟩:=K (by omega);subst S;obtain⟨s,h⟩:∃s,l[k]?=some s:=⟨l[k],cR u⟩;obtain⟨c1,m⟩:=E k s h;obtain⟨B,d,H,q,W,_⟩:=P s (cZ h);rw[H]at m;rw[bV]at m q;have Q:=HP.aj c1;have R:=HP.aj m;have x:=M h;clear E c1 m H h;cases n:gZ s.a s.bs.length with
   | false =>
    have o:=M n;go_wp2_with fail;refine(qq s.a B s.bs.length d _ (by omega)).mono ?_;rw[n];rintro e w1⟨rfl,a⟩;have p:=M (HP.MD a);clear a;go_wp2;go_ret;refine⟨⟨k,T,?_⟩,p⟩;have:ia l=false:=by
     simp only[ia,List.all_eq_false];exact⟨s,cZ x,by rw[o.out];simp⟩
    rw[this];simp
   | true =>
    have o:=M n;go_wp2_with fail;refine(qq s.a B s.bs.length d _ (by omega)).mono ?_;rw[n];rintro e w1⟨rfl,a⟩;have p:=M (HP.MD a);clear a;go_wp2;go_roundw
    case rel =>
     refine⟨k+1,by omega,by first|rfl|simp,?_,p⟩;intro j t X g;by_cases e:j<k
     ·exact c j e X g
     ·obtain rfl:j=k:=by omega
      rw[x.out]at g;cases g;exact o
    case measure=>simp[intOf];omega
  ·obtain rfl:k=l.length:=by omega
   go_wp2;go_ret;refine⟨⟨-1,T,?_⟩,HP⟩;have:ia l=true:=by
    simp only[ia,List.all_eq_true];intro s h;obtain⟨j,t,e⟩:=fa.1 h;exact c j t s (by rw[cR t,e])
   rw[this];rfl
theorem ut(v:Value)(l:List Sh)(w:Y)(b:dm w w.heap.size v l):C 15 #[v,.func (.func 16) #[] #[]] w λe h=>e=O (L (!ia l))/\ae w h:=by
 have d:=M b;clear b;go_enter func15,ntmps15;go_wp2_with fail;refine(AK v l _ d).mono ?_;rintro e i⟨⟨r,rfl,c⟩,a⟩;have g:=M a;have f:=M c;clear a c;go_wp2;go_ret;refine⟨eH ?_,g⟩;rw[<-f.out]
end
section
def L1(xs ys:List Int):Bool:=decide (xs=ys)
end
namespace Ln
structure En where
 bx:V
 ag:V
 al:V
 bE:V
 bh:V
 aM:V
 gv:Value
 cG:List Int
 ka:Bool
instance:Inhabited En:=⟨⟨0,0,0,0,0,0,Z none 0 0,[],false⟩⟩
abbrev LS(e:En)(g:Value):Value:=.agg #[J e.bx,J e.ag,J e.al,J e.bE,J e.bh,J e.aM,g,L e.ka]
abbrev qi(e:En)(g:Value):Value:=.agg #[J e.bx,J e.ag,J e.al,J e.bE,J e.bh,J e.aM,g]
def eV(e:En):List Value:=[J e.bx,J e.ag,J e.al,J e.bE,J e.bh,J e.aM,e.gv,L e.ka]
def kt(l:List En):List Value:=l.flatMap eV
theorem kI(l:List En):(kt l).length=l.length*8:=by
 induction l with
 | nil=>rfl
 | cons e l a=>simp[kt,eV]at a ⊢;omega
theorem rE(l m:List En):kt (l++m)=kt l++kt m:=by simp[kt]
theorem FG(l:List En)(j i:N)(e:En)(h:l[j]?=some e)(c:i<8):(kt l)[j*8+i]?=(eV e)[i]?:=by
 induction l generalizing j with
 | nil=>simp at h
 | cons t l b =>
  cases j with
  | zero =>
   simp at h;subst h;have a:(eV t).length=8:=rfl;simp only[kt,bN,fT,br];rw[pL (by omega)]
  | succ j =>
   have:=b j (by simpa using h);have a:(eV t).length=8:=rfl;simp only[kt,bN]at this ⊢;rw[oc (by omega),a,show(j+1)*8+i-8=j*8+i from by omega];exact this
theorem CF(l:List En)(k:N):(kt l).take (k*8)=kt (l.take k):=by
 induction l generalizing k with
 | nil=>simp[kt]
 | cons t l b =>
  cases k with
  | zero=>simp[kt]
  | succ k =>
   have a:(eV t).length=8:=rfl;have:=b k;simp only[kt,bN,List.take_succ_cons]at this ⊢;rw[List.take_append,a,show(k+1)*8-8=k*8 from by omega,this,List.take_of_length_le (by omega)]
theorem vZ(l:List En)(k:N):(kt l).drop (k*8)=kt (l.drop k):=by
 induction l generalizing k with
 | nil=>simp[kt]
 | cons t l b =>
  cases k with
  | zero=>simp[kt]
  | succ k =>
   have a:(eV t).length=8:=rfl;have:=b k;simp only[kt,bN,List.drop_succ_cons]at this ⊢;rw[List.drop_append,a,show(k+1)*8-8=k*8 from by omega,this,List.drop_of_length_le (by omega),cW]
def eU(P:N)(v:Value)(k:N):Prop:=k=P\/v.ownBlock=some k
structure bO(w:Y)(P:N)(v:Value)(l:List En):Prop where
 aM:w.heap[P]?=some (D #[v] 217 (0,0))
 own:w.ownsRow 0 271 8 v l.length (kt l)
 cG:∀e∈l,eO w w.heap.size e.gv e.cG/\∀q,e.gv.ownBlock=some q->¬eU P v q/\q<w.heap.size
 eT:l.length<=1000
 short:∀e∈l,e.cG.length<=100000
section
variable{w w':Y}{P:N}{v:Value}{l:List En}
theorem bO.lt(h:bO w P v l):∀k,eU P v k->k<w.heap.size:=λk a=>by
 rcases a with rfl|a
 ·exact(bR.1 h.aM).1
 ·exact(h.own.lt k a).2
theorem bO.c0(h:bO w P v l):w.cell? (I P 0)=some v:=by rw[fq 0 h.aM];rfl
theorem bO.f0(h:bO w P v l):w.frozen? (I P 0)=false:=ey 0 h.aM
theorem bO.form(h:bO w P v l):∃A c,v=Z A l.length c:=aD h.own
theorem bO.MC{S:N->Prop}(h:bO w P v l)(b:ac S w w')(c:∀k,eU P v k->¬S k)(f:∀e∈l,∀q,e.gv.ownBlock=some q->¬S q):bO w' P v l :=
 ⟨(b.block P (bR.1 h.aM).1 (c P (.inl T))).trans h.aM,b.own h.own (λk g=>c k (.inr g)),
  λe a=>⟨(h.cG e a).1.MC b (f e a),λq d=>⟨((h.cG e a).2 q d).1,eR ((h.cG e a).2 q d).2 b.size⟩⟩,h.eT,h.short⟩
theorem bO.pure(h:bO w P v l)(a:ae w w'):bO w' P v l:=h.MC a (λ_ _ f=>f) (λ_ _ _ _ f=>f)
theorem bO.cells(h:bO w P v l){j:N}{e:En}(b:l[j]?=some e):∃g c,v=Z (some (I g 0)) l.length c/\w.cell? (I g (j*8))=some (J e.bx)/\w.cell? (I g (j*8+1))=some (J e.ag)/\w.cell? (I g (j*8+2))=some (J e.al) /\
  w.cell? (I g (j*8+3))=some (J e.bE)/\w.cell? (I g (j*8+4))=some (J e.bh)/\w.cell? (I g (j*8+5))=some (J e.aM)/\w.cell? (I g (j*8+6))=some e.gv/\w.cell? (I g (j*8+7))=some (L e.ka)/\∀q,w.frozen? (I g q)=false:=by
 have k:=(dH.1 b).1;obtain⟨g,c,f,_,_⟩:=h.own.form (n:=l.length) (by omega);subst f;have a:∀i,i<8->w.cell? (I g (j*8+i))=(eV e)[i]?:=λi d=>(h.own.cellAt (j*8+i) (by omega)).trans (FG l j i e b d);exact⟨g,c,T,a 0 (by omega),a 1 (by omega),a 2 (by omega),a 3 (by omega),a 4 (by omega),a 5 (by omega),a 6 (by omega),a 7 (by omega),λq=>h.own.frozenAt q⟩
end
def te(p:En->Bool)(l:List En):V:=if l.findIdx p<l.length then(l.findIdx p:V)else -1
theorem yn{p:En->Bool}{l:List En}{k:N}{e:En}(d:l[k]?=some e)(g:p e=true)(a:∀j,j<k->∀t,l[j]?=some t->p t=false):te p l=k:=by
 obtain⟨c,b⟩:=dH.1 d;have:l.findIdx p=k:=by
  rw[List.findIdx_eq c];refine⟨by rw[b];exact g,λj f=>a j f _ (cR _)⟩
 rw[te,this,af c]
theorem wB{p:En->Bool}{l:List En}(a:∀(j:N) (t:En),l[j]?=some t->p t=false):te p l=-1:=by
 rw[te,aa];intro h;have:=List.findIdx_getElem (w:=h);rw[a _ _ (cR h)]at this;cases this
def zs(t:V)(e:En):Bool:=e.bx==t
def kU(e:En):Bool:=e.bE==0
theorem zD(e:En)(A:Option Addr)(n c:N)(b:N)(t:V)(w:Y)(d:w.cell? (I b 0)=some (J t)):C 302 #[LS e (Z A n c),I b 0] w λa g=>a=O (L (zs t e))/\ae w g:=by
 have f:=ae.aj ((ck w).alloc (D #[J e.bx,J e.ag,J e.al,J e.bE,J e.bh,J e.aM,Z A n c,L e.ka] 271)) d;go_enter func302,ntmps302;go_wp2_with fail;go_ret;exact⟨T,(bo _).alloc _⟩
theorem rH(e:En)(A:Option Addr)(n c:N)(w:Y):C 287 #[LS e (Z A n c)] w λa b=>a=O (L (kU e))/\ae w b:=by
 go_enter func287,ntmps287;go_wp2_with fail;go_ret;exact⟨T,(bo _).alloc _⟩
theorem Dc(P:N)(v:Value)(l:List En)(b:N)(t:V)(w:Y)(n:bO w P v l)(E:w.cell? (I b 0)=some (J t)):C 286 #[v,.func (.func 302) #[] #[I b 0]] w λe z=>e=O (J (te (zs t) l))/\ae w z:=by
 have B:=M (λ(z:Y) (p:ae w z)=>n.pure p);obtain⟨A,c,rfl⟩:=n.form;have F:=n.eT;clear n;go_enter func286,ntmps286;go_wp2_with fail;go_loopw [8] (λi wr=>∃k:N,k<=l.length/\i=J k/\(∀j,j<k->∀u,l[j]?=some u->(zs t) u=false)/\ae w wr) (λi _=>l.length-(intOf i).toNat)
 case atStart=>exact⟨0,aw _,T,(by omega),bo _⟩
 case round =>
  obtain⟨k,hk,rfl,f,p⟩:=hrel;have a:=M f;have HP:=M p;clear f p;by_cases x:k<l.length
  ·obtain⟨e,s⟩:∃e,l[k]?=some e:=⟨l[k],cR x⟩;obtain⟨g,cg,W,d0,d1,d2,d3,d4,d5,Q,d7,_⟩:=(B _ HP).cells s;injection W with hv1 hv2 hv3;subst hv1;have q:=M s;clear s hv2 hv3;obtain⟨G,gc,h,_⟩:=((B _ HP).cG e (cZ q)).1;rw[h]at Q;have K:=M h;clear h;cases o:(zs t) e with
   | true =>
    have m:=M o;go_wp2_with fail;refine(zD e _ _ _ b t _ (HP.aj E)).mono ?_;rw[m.out];rintro S X⟨rfl,d⟩;have r:=M (HP.MD d);clear d o;go_wp2_with fail;go_ret;exact⟨dP (yn q m a),r⟩
   | false =>
    have m:=M o;go_wp2_with fail;refine(zD e _ _ _ b t _ (HP.aj E)).mono ?_;rw[m.out];rintro S X⟨rfl,d⟩;have r:=M (HP.MD d);clear d o;go_wp2_with fail;go_roundw
    case rel =>
     refine⟨k+1,by omega,by first|rfl|simp,?_,r⟩;intro j hj u y;by_cases R:j<k
     ·exact a j R u y
     ·obtain rfl:j=k:=by omega
      rw[q.out]at y;cases y;exact m
    case measure=>simp[intOf];omega
  ·obtain rfl:k=l.length:=by omega
   go_wp2_with fail;go_ret;refine⟨dP (wB λj t H=>a j (dH.1 H).1 t H),HP⟩
theorem index_first(P:N)(v:Value)(l:List En)(w:Y)(m:bO w P v l):C 286 #[v,.func (.func 287) #[] #[]] w λe y=>e=O (J (te kU l))/\ae w y:=by
 have z:=M (λ(y:Y) (o:ae w y)=>m.pure o);obtain⟨A,c,rfl⟩:=m.form;have B:=m.eT;clear m;go_enter func286,ntmps286;go_wp2_with fail;go_loopw [8] (λi wr=>∃k:N,k<=l.length/\i=J k/\(∀j,j<k->∀u,l[j]?=some u->kU u=false)/\ae w wr) (λi _=>l.length-(intOf i).toNat)
 case atStart=>exact⟨0,aw _,T,(by omega),bo _⟩
 case round =>
  obtain⟨k,hk,rfl,d,o⟩:=hrel;have a:=M d;have HP:=M o;clear d o;by_cases s:k<l.length
  ·obtain⟨e,r⟩:∃e,l[k]?=some e:=⟨l[k],cR s⟩;obtain⟨g,W,R,X,d1,d2,d3,d4,d5,H,d7,_⟩:=(z _ HP).cells r;injection R with hv1 hv2 hv3;subst hv1;have p:=M r;clear r hv2 hv3;obtain⟨G,gc,f,_⟩:=((z _ HP).cG e (cZ p)).1;rw[f]at H;have F:=M f;clear f;cases n:kU e with
   | true =>
    have h:=M n;go_wp2_with fail;refine(rH e _ _ _ _).mono ?_;rw[h.out];rintro Q S⟨rfl,b⟩;have q:=M (HP.MD b);clear b n;go_wp2_with fail;go_ret;exact⟨dP (yn p h a),q⟩
   | false =>
    have h:=M n;go_wp2_with fail;refine(rH e _ _ _ _).mono ?_;rw[h.out];rintro Q S⟨rfl,b⟩;have q:=M (HP.MD b);clear b n;go_wp2_with fail;go_roundw
    case rel =>
     refine⟨k+1,by omega,by first|rfl|simp,?_,q⟩;intro j hj u x;by_cases K:j<k
     ·exact a j K u x
     ·obtain rfl:j=k:=by omega
      rw[p.out]at x;cases x;exact h
    case measure=>simp[intOf];omega
  ·obtain rfl:k=l.length:=by omega
   go_wp2_with fail;go_ret;refine⟨dP (wB λj t E=>a j (dH.1 E).1 t E),HP⟩
