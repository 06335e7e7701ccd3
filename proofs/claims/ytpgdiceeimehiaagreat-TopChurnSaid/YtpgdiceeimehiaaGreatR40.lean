/- Part 40 of the proof of spotop.TopChurn. -/
import Derived.Test.YtpgdiceeimehiaaGreatR33
import Derived.Test.YtpgdiceeimehiaaGreatR34
set_option maxRecDepth 100000
set_option maxHeartbeats 16000000
set_option linter.all false
open Go.Proofs.Tryz
namespace Go.Proofs.YtpgdiceeimehiaaGreat
open RowKit
section
open Ac (Vl fY vu dx dj BK aA)
theorem Gl(m:N)(p:m<=1000)(w:Y):(Instr.makeSlice 61 (J m) (J m)).run prog w=.ok (Z (some (I w.heap.size 0)) m m) (w.alloc (D (fY (List.replicate m aA)).toArray 44)):=by
 obtain⟨n,a,b,c,d⟩:=aR xA;rw[run_make w 61 44 n _ underlying61 a b .i64 .i64 m m (by omega) (by omega) (by rw[d];omega) (by omega)];have e:∀m:N,madeCells (Value.agg #[L false,U 0 0]).cells (m*2)=(fY (List.replicate m aA)).toArray:=by
  intro m;have j:(Value.agg #[L false,U 0 0]).cells=#[L false,U 0 0]:=by kernel_rfl
  rw[j];apply Array.ext
  ·rw[fc];simp only[List.size_toArray,Ac.vv,lm]
  ·intro i f o;rw[fc]at f;have k:(List.replicate m aA)[i/2]?=some aA:=by rw[dI,af (by omega)]
   have g:=Ac.mq k (i%2) (by omega);rw[show i/2*2+i%2=i from by omega]at g;have l:(fY (List.replicate m aA))[i]?=some ((fY (List.replicate m aA)).toArray[i]):=by simp
   rw[l]at g;rcases(by omega:i%2=0\/i%2=1)with h|h
   ·rw[h]at g;have g:=et g;refine Eq.trans ?_ g.symm;simp[madeCells,h]
   ·rw[h]at g;have g:=et g;refine Eq.trans ?_ g.symm;simp[madeCells,h]
 rw[c,iY,e]
def lT(n:N):Ac.St:=⟨List.replicate n aA,0,0,false,0,0,0,Z none 0 0,0,0,.pointer none,0,false,(0,0),(0,0),Z none 0 0,Z none 0 0,[],[],[]⟩
structure tY(w:Y)(t n:N)(ops:List dx)(ab lg:N)(v:Value)(w':Y):Prop where
 pu:ae w w'
 Mi:w.heap.size<=ab
 Mk:w.heap.size<=lg
 me:w'.heap[ab]?=some (D (Ac.cs ⟨t,ab,lg,v,ops⟩ (lT n)) 134 (0,0))
 loc:w'.heap[lg]?=some (D (fY (List.replicate n aA)).toArray 44 (0,0))
 own:w'.ownsRow w.heap.size 32 6 v ops.length (dj ops)
abbrev xR(t n:N)(v:Value)(lg:N):Array Value:=#[J t,v,Z (some (I lg 0)) n n,J 0,J 0,L false,J 0,J 0,J 0,Z none 0 0,J 0,J 0,.pointer none,J 0,L false,U 0 0,U 0 0,Z none 0 0,Z none 0 0]
theorem zf(t n c b:N)(v:Value)(a:List dx):Ac.cs ⟨t,c,b,v,a⟩ (lT n)=xR t n v b:=by simp[Ac.cs,lT]
theorem Cf{w w2:Y}{t n:N}{a:List dx}{v:Value}(d:ae w w2)(h:w2.ownsRow w.heap.size 32 6 v a.length (dj a)):tY w t n a (w2.heap.size+1) w2.heap.size v ((w2.alloc (D (fY (List.replicate n aA)).toArray 44)).alloc (D (xR t n v w2.heap.size) 134)):=by
 have g:=ai w2 (D (fY (List.replicate n aA)).toArray 44);have c:=ai (w2.alloc (D (fY (List.replicate n aA)).toArray 44)) (D (xR t n v w2.heap.size) 134);have i:(w2.alloc (D (fY (List.replicate n aA)).toArray 44)).heap.size=w2.heap.size+1:=by simp
 have hz:=d.size;have e:ae w2 (w2.alloc (D (fY (List.replicate n aA)).toArray 44)):=(bo _).alloc _;have b:ae (w2.alloc (D (fY (List.replicate n aA)).toArray 44)) ((w2.alloc (D (fY (List.replicate n aA)).toArray 44)).alloc (D (xR t n v w2.heap.size) 134)):=(bo _).alloc _;rw[i]at c;exact⟨(d.MD e).MD b,by omega,hz,by rw[zf];exact c,b.bF g,(e.MD b).own h (λ_ _ f=>f)⟩
theorem Cg{w w1 w2:Y}{t n:N}{a:List dx}{v:Value}(b:ae w w1)(c:ae (w1.alloc (D (fY (List.replicate n aA)).toArray 44)) w2)(i:w2.ownsRow w.heap.size 32 6 v a.length (dj a)):tY w t n a w2.heap.size w1.heap.size v (w2.alloc (D (xR t n v w1.heap.size) 134)):=by
 have g:=ai w1 (D (fY (List.replicate n aA)).toArray 44);have h:=ai w2 (D (xR t n v w1.heap.size) 134);have e:ae w1 (w1.alloc (D (fY (List.replicate n aA)).toArray 44)):=(bo _).alloc _;have d:ae w2 (w2.alloc (D (xR t n v w1.heap.size) 134)):=(bo _).alloc _;have hz:=((b.MD e).MD c).size;exact⟨((b.MD e).MD c).MD d,hz,b.size,by rw[zf];exact h,(c.MD d).bF g,d.own i (λ_ _ f=>f)⟩
def ly(w:Y)(A:Option Addr)(cc:N)(ops:List dx):Prop:=∀W:Y,ae w W->C 54 #[Z A ops.length cc] W λe w'=>∃v',e=O v'/\ae W w'/\w'.ownsRow W.heap.size 32 6 v' ops.length (dj ops)
theorem ly.of{w:Y}{g cc:N}{a:List dx}(c:g<w.heap.size)(d:jd w 6 (some ⟨g,0,none⟩) a.length (dj a))(h:a.length<=1000000):ly w (some ⟨g,0,none⟩) cc a:=λW b=>IL a g a.length cc W (eR c b.size) (d.aj (λi e _ o=>by injection e with e;subst e;exact b.cell (p:=⟨g,o,none⟩) c (λf=>f))) h
theorem ly.nil(w:Y):ly w none 0 []:=λW _=>by
 have a:=Lib.run_eql_slice_nil (P:=prog) W 29 32 none 0 0 0 0 underlying29;go_enter func54,ntmps54;go_wp2_with fail;go_ret;exact⟨_,T,bo _,jD _ _ _ _⟩
theorem Fp(t n:N)(m:Option Addr)(cc:N)(a:List dx)(w:Y)(F:n<=8)(f:ly w m cc a)(G:a.length<=1000000):C 23 #[J t,J n,Z m a.length cc] w λe B=>∃c j k,e=O (I c 0)/\tY w t n a c j k B:=by
 have l:=M f;have v:=Gl n (by omega);have x:max (n:V) 0=(n:V):=by omega
 have p:(if(n:V)<0 then(0:V)else(n:V))=(n:V):=aa (by omega);obtain⟨q,y⟩:∃q,dj a=q:=⟨_,T⟩;clear f;go_enter func23,ntmps23;go_upto_region 1 with fail;go_cut [6] (λz E=>∃c j k,z=I c 0/\tY w t n a c j k E)
 case first =>
  have o:=l.out;have g:ae w w.drew:=(ck w).drewN 1;have i:ae w (w.drew.alloc (D (fY (List.replicate n aA)).toArray 44)):=g.alloc _;go_region_with (first|(go_at_call 54;first|(refine(o w.drew g).mono ?_;rintro e w2⟨A,rfl,d,b⟩;obtain⟨r,u,rfl⟩:=aD b)|(refine(o (w.drew.alloc (D (fY (List.replicate n aA)).toArray 44)) i).mono ?_;rintro e w2⟨A,rfl,d,b⟩;obtain⟨r,u,rfl⟩:=aD b)))
  all_goals
   go_wp2_with fail;go_meet
   first
    | exact⟨_,_,_,T,Cf (g.MD d) (dA b g.size)⟩
    | exact⟨_,_,_,T,Cg (w1:=w.drew) (w2:=w2) g d (dA b i.size)⟩
 case rest =>
  obtain⟨c,j,k,rfl,h⟩:=hcut;have s:=M h;clear h;go_wp2_with fail;go_ret;exact⟨c,j,k,T,s⟩
end
section
open Ac (Vl fY vu dx dj BK aA)
theorem Bg:(prog.info? 73).map (λi=>(i.zero,i.size,i.bytes))=some (some (.pointer none),1,8):=by kernel_rfl
theorem FC(w:Y):C 22 #[] w λe a=>e=O (I w.heap.size 0)/\a=w.alloc (D (dw.cs ⟨0,0,0,0,.pointer none,.pointer none,false,0,0⟩ 0 0 0) 127):=by
 go_enter func22,ntmps22;go_wp2_with fail;go_ret;exact⟨T,T⟩
def ja(c:Cn):aW.St:=⟨aW.iu (8*c.ag+2*c.al).toNat c.ap.toNat c.ap.toNat,Z none 0 0,false,[],⟨List.replicate c.ag.toNat ⟨0,false,false⟩,List.replicate c.ag.toNat true,c.al,0,λ_=>0,0,Z none 0 0,[],Z none 0 0,[],false⟩,0,false,List.replicate c.ao.toNat (-1)⟩
def oU:dw.St:=⟨0,0,0,0,.pointer none,.pointer none,false,0,0⟩
theorem aW.At.JE{w:Y}{c:Cn}{K:aW.Q}{κ κ':N->N}{m:aW.St}(h:aW.At w c K κ m)(d:∀k,κ k<=5->κ' k=κ k):aW.At w c K κ' m:=by
 have e:∀k x,κ k=x->x<=5->κ' k=x:=λk x b f=>(d k (by omega)).trans b;exact⟨h.me,h.mem,h.fB,h.dB,h.hand,h.cH,h.ok,h.mf,λk a=>⟨e k 0 (h.k0 k a).1 (by omega),(h.k0 k a).2⟩,⟨e _ 1 h.k1.1 (by omega),e _ 1 h.k1.2 (by omega)⟩,⟨e _ 2 h.k2.1 (by omega),e _ 2 h.k2.2 (by omega)⟩,λk a=>e k 3 (h.k3 k a) (by omega),λk a=>e k 4 (h.k4 k a) (by omega),⟨e _ 5 h.k5.1 (by omega),e _ 5 h.k5.2 (by omega)⟩⟩
structure LQ(w:Y)(c:Cn)(K:aW.Q)(κ:N->N)(hb yb:N)(w':Y):Prop where
 pu:ae w w'
 bm:∃w1,aW.At w1 c K κ (ja c)/\w1.heap.size=yb/\ae w1 w'
 bL:dw.At w' yb oU
 me:w'.heap[hb]?=some (D #[I K.kb 0,I yb 0,Z none 0 0,J 0] 59 (0,0))
 Mj:w.heap.size<=hb
 Mx:w.heap.size<=yb
 Mn:yb<hb
structure J7(w3:Y)(K:aW.Q)(n:N)(ops:List dx)(hb yb ab alg lgr cl:N)(ov:Value)(wr:Y):Prop where
 MC:ac (λk=>k=hb) w3 wr
 me:wr.heap[ab]?=some (D (Ac.cs ⟨0,ab,alg,ov,ops⟩ (lT n)) 134 (0,0))
 loc:wr.heap[alg]?=some (D (fY (List.replicate n aA)).toArray 44 (0,0))
 own:wr.ownsRow w3.heap.size 32 6 ov ops.length (dj ops)
 Ml:wr.heap[hb]?=some (D #[I K.kb 0,I yb 0,Z (some (I lgr 0)) 1 cl,J 0] 59 (0,0))
 cI:wr.cell? (I lgr 0)=some (.pointer (some (I ab 0)))
 Md:w3.heap.size<=ab
 Mf:w3.heap.size<=alg
 Mg:w3.heap.size<=lgr/\lgr<wr.heap.size
def mG(κ:N->N)(yb hb ab alg:N)(k:N):N:=if k<yb then κ k else if k=yb then 10 else if k=hb then 12 else if k=ab then 6 else if k=alg then 7 else 8
theorem Gj{w v wr:Y}{c:Cn}{K:aW.Q}{κ:N->N}{n g h f a i P:N}{j:List dx}{t:Value}(l:LQ w c K κ g h v)(b:J7 v K n j g h f a i P t wr)(hn:1<=n)(x:n<=8):ae w wr/\jS wr c K (mG κ h g f a) (ja c) ⟨0,f,a,t,j⟩ (lT n) h oU g i:=by
 obtain⟨w1,X,hy,z⟩:=l.bm;have h3:g<v.heap.size:=(bR.1 l.me).1;have a1:=l.Mn;have R:=b.Md;have S:=b.Mf;have m:=b.Mg;have A:mG κ h g f a f=6:=by unfold mG;rw[aa (by omega),aa (by omega),aa (by omega),af rfl]
 have y:a≠f:=aV b.loc b.me (by decide);have B:mG κ h g f a a=7:=by unfold mG;rw[aa (by omega),aa (by omega),aa (by omega),aa y,af rfl]
 have s:mG κ h g f a g=12:=by unfold mG;rw[aa (by omega),aa (by omega),af rfl]
 have F:mG κ h g f a h=10:=by unfold mG;rw[aa (by omega),af rfl]
 have Q:∀k,v.heap.size<=k->k≠f->k≠a->mG κ h g f a k=8:=λk d o W=>by unfold mG;rw[aa (by omega),aa (by omega),aa (by omega),aa o,aa W]
 have u:=b.cI;have G:i≠f:=λe=>by
  have o:wr.cell? (I f 0)=some (J (0:N)):=by rw[bK b.me];rfl
  rw[e,o]at u;cases u
 have H:i≠a:=λe=>by
  have o:wr.cell? (I a 0)=some (L false):=by
   rw[bK b.loc];obtain⟨q,rfl⟩:∃q,n=q+1:=⟨n-1,by omega⟩;simp[fy,fY,vu,aA]
  rw[e,o]at u;cases u
 have E:∀k,t.ownBlock=some k->mG κ h g f a k=8:=λk d=>Q k (b.own.lt k d).1 (λe=>ca b.own b.me (by decide) (e▸d)) (λe=>ca b.own b.loc (by decide) (e▸d));have r:aW.At wr c K (mG κ h g f a) (ja c):=((X.nc (λk d=>by unfold mG;rw[af (by omega)])).pure z).MC b.MC (λk (d:k=g)=>by rw[d,s];omega);have p:Ac.At wr (mG κ h g f a) ⟨0,f,a,t,j⟩ (lT n):=⟨b.me,b.loc,by simp[lT];exact x,⟨dA b.own (aw _),ez.nil _ _,Ac.ud.nil _,Ac.jJ.nil _,λk d=>by
  rcases d with d|d|d|d
  ·exact E k d
  ·simp[lT,Value.ownBlock]at d
  ·simp[lT,Value.ownBlock]at d
  ·simp[lT,Value.ownBlock]at d⟩,A,B⟩
 refine⟨?_,⟨⟨⟨r,p⟩,l.bL.MC b.MC (λ(e:h=g)=>by omega),F⟩,⟨⟨0,P,b.Ml⟩,b.cI,m.2⟩,s,Q _ m.1 G H⟩⟩;exact l.pu.trans b.MC (λk d (e:k=g)=>by have:=l.Mj;omega)
theorem GB{w:Y}{aC:N}{e:TypeId}{v x:Value}(h:w.ownsRow aC e 1 v 1 [x]):∃g c,v=Z (some (I g 0)) 1 c/\(aC<=g/\g<w.heap.size)/\w.cell? (I g 0)=some x:=by
 have b:=h;rcases h.2 with⟨_,f⟩|⟨g,a,d,rfl,i,j,l,k,m,n⟩
 ·cases f
 ·refine⟨g,a,T,b.lt g T,?_⟩;have:=b.cellAt 0 (by omega);rw[this];rfl
theorem wu(c:Cn)(v:Value)(sh:List Sh)(g:List dx)(n G gc:N)(A0:Option Addr)(B:N)(w:Y)(hc:dm w w.heap.size v sh)(F:bk c sh=0)(hn:c.ak=(n:V))(hx:∀s∈sh,s.bs.length<=1000000)
  (hG:G<w.heap.size) (b8:w.cell? (I G 0)=some (Z A0 g.length B)) (c4:ly w A0 B g) (j1:g.length<=1000) :
  C 9 #[hI c v,Z (some (I G 0)) 1 gc] w λe w'=>∃K κ' d lg t b,e=O (.tuple #[I d 0,J 0])/\ae w w'/\jS w' c K κ' (ja c) b (lT n) t oU d lg/\b.t=0/\b.ops=g/\K.bp=c.be.toNat/\(K.q.ns:V)=c.ao/\alike sh K.ba/\∀k,CM (κ' k)->w.heap.size<=k:=by
 obtain⟨A,cc,rfl⟩:∃A cc,v=Z A sh.length cc:=by
  obtain⟨⟨A,cc,rfl,_⟩,_⟩:=hc;exact⟨A,cc,T⟩
 have hr:=Row.new w c (Z A sh.length cc);have HL:=M (λ(w':Y) (hp:ae w w')=>hc.pure hp);have HX:=M hx;have e8:=M F;have j2:decide (c.ao<1)=false:=by have:=kD F;simp;omega
 have HN:=M hn;have HR:=M hr;have b4:=M (aq hG (aq b8 c4));have e3:n<=8:=by have:=kD F;omega
 have g6:1<=n:=by have:=kD F;omega
 clear hc hx hr F hn hG b8 c4;go_enter func9,ntmps9;go_upto_region 1 with fail;have g0:Hid ((w.alloc (D #[J c.ag,J c.al,J c.ap,J c.ao,J c.ak,J c.aB,J c.be,J c.di,Z A sh.length cc] 24)).heap.size=w.heap.size+1):=M (by simp);generalize w.alloc _=W at *;obtain⟨k0,k1,k2,k3,k4,k5,k6,k7,k8,kf⟩:=HR.cells;go_wp2_with fail;refine(aW.pn c _ sh W (HL W HR.2.2) e8 HX).mono ?_;rintro e o⟨K,h4,rfl,e4,c5,e0,a4,a1,a6⟩;obtain⟨κ,c3,a5⟩:∃κ,aW.At o c K κ (ja c)/\∀k,k<w.heap.size->κ k=13:=⟨λk=>if k<w.heap.size then 13 else h4 k,aW.At.JE c5 (λk r=>aa (by have:=a6 k r;have:=g0.out;omega)),λk r=>af r⟩;clear c5 a6;have b9:=HR.aj e4;have R1:=M b9;have x:=M (aq c3 (aq e0 (aq a4 (aq a1 a5))));clear k0 k1 k2 k3 k4 k5 k6 k7 k8 kf b9 e4 c3 e0 a4 a1 a5;obtain⟨k0,k1,k2,k3,k4,k5,k6,k7,k8,kf⟩:=R1.cells;go_wp2_with fail;refine(FC o).mono ?_;rintro e w2⟨rfl,rfl⟩;have b0:ae o (o.alloc (D (dw.cs ⟨0,0,0,0,.pointer none,.pointer none,false,0,0⟩ 0 0 0) 127)):=(bo _).alloc _;have c6:dw.At (o.alloc (D (dw.cs ⟨0,0,0,0,.pointer none,.pointer none,false,0,0⟩ 0 0 0) 127)) o.heap.size oU:=⟨0,0,0,ai o _⟩;have R:=M (aq c6 (aq (rfl:o.heap.size=o.heap.size) (aq b0 (show o.heap.size<(o.alloc (D (dw.cs ⟨0,0,0,0,.pointer none,.pointer none,false,0,0⟩ 0 0 0) 127)).heap.size by simp))));have b6:=R1.aj b0;have R2:=M b6;have a8:Hid (w.heap.size<=o.heap.size):=M (R1.2.2).size;clear b0 c6 b6 k0 k1 k2 k3 k4 k5 k6 k7 k8 kf;generalize o.alloc _=w2 at *;obtain⟨t,b1⟩:∃t,o.heap.size=t:=⟨_,T⟩;have e9:=M b1;rw[b1]at R a8 ⊢;clear b1;obtain⟨S,-,c7⟩:=Ac.aO w2 #[I K.kb 0,I t 0,Z none 0 0,J 0] 59;have a7:=R2.aj S;have R3:=M a7;have a:Hid (LQ w c K κ w2.heap.size t (w2.alloc (D #[I K.kb 0,I t 0,Z none 0 0,J 0] 59))):=M ⟨a7.2.2,⟨_,x.1,e9,R.2.2.1.MD S⟩,R.1.MC S (λf=>f),c7,R2.2.2.size,a8,R.2.2.2⟩;clear S c7 a7;go_wp2_with fail;generalize w2.alloc _=w3 at *;generalize w2.heap.size=d at *;go_loopw [31] (λi wr=>(i=J 0/\wr=w3)\/(i=J 1/\∃z m l cl ov,J7 w3 K n g d t z m l cl ov wr)) (λi _=>2-(intOf i).toNat)
 case atStart=>exact .inl ⟨T,T⟩
 case round =>
  rcases hrel with⟨rfl,rfl⟩|⟨rfl,z,m,l,cl,ov,hf⟩
  ·obtain⟨i0,g3,g7,h2,h3⟩:=aR Bg;have gG:wr.cell? (I G 0)=some (Z A0 g.length B):=a.pu.aj b4.2.1;obtain⟨k0,k1,k2,k3,k4,k5,k6,k7,k8,kf⟩:=R3.cells;rw[HN.out]at k4;have g2:wr.cell? (I d 2)=some (Z none 0 0):=by rw[bK a.out.me];rfl
   have j0:decide ((1000:V)<(g.length:V))=false:=by simp;omega
   have gf:∀k,wr.frozen? (I d k)=false:=λk=>ey k a.me;have HD:Hid (ae wr wr.drew):=M ((ck wr).drewN 1);have b3:Hid (ly wr.drew A0 B g):=M (λW hW=>b4.2.2 W ((a.pu.MD HD).MD hW));have c8:w.heap.size<=wr.heap.size:=a.pu.size;have a2:d<wr.heap.size:=(bR.1 a.me).1;have e7:=M (aq c8 a2);clear c8 a2 k0 k1 k2 k3 k5 k6 k7 k8 kf;have E:=Fp 0 n A0 B g wr.drew e3 b3 (by omega);rw[show(((0:N):V))=0 from rfl]at E;have b2:=M E;clear E;go_upto_region 12 with fail;go_region_law ((first|(go_simp;go_at_call 23;refine b2.mono ?_;rintro e w8⟨z,m,v8,rfl,h8⟩;have q:=M h8;have P8:ae wr w8:=ae.MD HD h8.pu;have b5:=M P8;have t2:=P8.aj g2;have t4:=P8.aj k4;have j3:=ae.aj (P8.alloc (D #[I z 0] 73)) g2;clear P8 h8)|(refine Ln.xm T (.tmp 43) (.tmp 49) _ T wr.heap.size 73 i0 _ 1 8 underlying57 g3 g7 h2 h3 T (by omega) (Z none 0 0) 0 [] T (jD _ _ _ _) _ 1 1 [I z 0] T (jd.cI w8 _ #[I z 0] 1 1 _ T T) (by simp[Value.oneCell']) (by simp only[maxLen];omega) (by omega) (by have:=b5.size;simp;omega) ?_;intro v9 w9 j a9 c2;simp only[br,cW]at j;obtain⟨l,c9,rfl,a3,P⟩:=GB j;have y:=M (aq a3 P);clear a3 P;have h5:=M j;have e6:=M a9;have X:ae wr w9:=((b5).alloc _).grown a9 (λk _ r=>by simp[Value.ownBlock]at r);have b7:=M X;have g9:=X.aj g2;have h6:∀k,w9.frozen? (I d k)=false:=λk=>ey k (X.bF a.me);clear j a9 c2 X)))
   all_goals
    go_wp2_with fail;go_roundw
    case rel =>
     refine .inr ⟨by first|rfl|simp,z,m,l,c9,v8,?_⟩;have H:ae w8 w9:=((bo w8).alloc _).grown e6 (λk _ r=>by simp[Value.ownBlock]at r);have Q:ac (λk=>k=d) w9 (w9.setCell (I d 2) (Z (some (I l 0)) 1 c9)):=(ac.refl (λk=>k=d) w9).setCell (p:=⟨d,2,none⟩) (λ_=>T) _;have g1:=q.Mi;have g4:=q.Mk;have h7:d<wr.drew.heap.size:=e7.2;have g5:=az (i:=2) (u:=Z (some (I l 0)) 1 c9) (b7.bF a.me);refine⟨((b7.mono (Tq:=λk=>k=d) (λ_ _ f=>f.elim)).trans Q (λ_ _ h=>h)),Q.bF (H.bF q.me) (λ(e:z=d)=>by omega),Q.bF (H.bF q.loc) (λ(e:m=d)=>by omega),?_,by simpa using g5,?_,g1,g4,y.1.1,by simpa[World.setCell]using y.out.1.2⟩
     ·exact Q.own (H.own q.own (λ_ _ f=>f)) (λk r (e:k=d)=>by have:=(q.own.lt k r).1;omega)
     ·exact(Q.cell (p:=⟨l,0,none⟩) y.1.2 (λ(e:l=d)=>by have:=y.1.1;have:wr.drew.heap.size=wr.heap.size:=rfl;omega)).trans y.2
    case measure=>simp[intOf]
  ·have e5:=M hf;clear hf;go_wp2_with fail;have e1:=Gj a e5 g6 e3;go_ret2;refine⟨K,mG κ t d z m,d,l,t,⟨0,z,m,ov,g⟩,T,e1.1,e1.2,T,T,x.2.1,x.2.2.1,x.2.2.2.1,λk r=>Decidable.byContradiction λh9=>?_⟩;have h1:mG κ t d z m k=13:=by unfold mG;rw[af (by have:=a8.out;omega)];exact x.2.2.2.2 k (by omega)
   rw[h1]at r;unfold CM at r;omega
end
section
open Ac (jm dx jb gC av Vl Wr iJ gm aA bc aJ nT aO cC ed dZ dY CT)
section
variable{w w':Y}{c:Cn}{K:aW.Q}{κ:N->N}{m:aW.St}{b:Ac.B}{s:Ac.St}
open Ac (av GW vu)
open tx (oF Made kn pm)
theorem xj(o:dx)(i j jo kd md:N)(s0:Sh)(w:Y)(h:dt w c K κ m b s)(hk:o.aE=11)(e0:∀x∈kn o.aE,oF c o x)(ho:o.a=(jo:V))(c2:o.b=(j:V))(hj:s.ak[j]?=some (true,bi i))(b5:jo<s.ak.length)(hi:i<=1000000)(c7:s.bn≠4)(b9:s.next<=100000)(hz:m.am[8*i+1]?=some (cQ kd md))(b6:K.ba[kd]?=some s0)(c9:s0.a=false)(b8:md<=1)(hb:s0.bs.length<=1000000)(hh:(i:V)<c.ag)(b7:kd<=1000):C 121 #[I b.ab 0,I K.kb 0,jb o] w λr w'=>r=O (.tuple #[iJ s.next s.own 0 (false,bH kd),L true])/\∃κ',aG CT w κ w' κ'/\dt w' c K κ' m b {s with next:=s.next+1,bn:=1,pc:=0,ak:=s.ak.set jo (false,bH kd)}:=by
 obtain⟨hp,-,hv,c8⟩:=cC w #[J o.aE,J o.a,J o.b,J o.c,J o.n,U o.x o.y] #[J 0,J 0,J 0,L false,U 0 0] 32 46;have H1:=M (h.bS hp);have HR:=M c8;have HV:=M hv;have a8:Hid (aL w.heap.size κ 9 w.heap.size=9):=M (aU (by omega));have a7:Hid (aL w.heap.size κ 9 (w.heap.size+1)=9):=M (aU (by omega));have l:Hid (w.heap.size<=w.heap.size+1):=M (by omega);have g:=M hk;have h9:=M e0;have HO:=M (aq ho c2);have HJ:=M (aq hj (aq b5 hi));have HP:=M (aq c7 b9);have HZ:=M (aq hz (aq b6 (aq c9 b8)));have HB:=M (aq hb (aq hh b7));clear hp c8 h hv hk e0 ho c2 hj b5 hi c7 b9 hz b6 c9 b8 hb hh b7;go_enter func121,ntmps121;go_upto_region 1 with fail;generalize(w.alloc _).alloc _=W at *;generalize aL w.heap.size κ 9=e9 at *;generalize w.heap.size+1=X at *;obtain⟨E1,S1⟩:=H1.out;have a1:=M E1;have p:=M S1;clear E1 S1 H1;obtain⟨Av,cv,z⟩:∃A cc,K.cv=Z A K.ba.length cc:=by
  obtain⟨⟨A,cc,h,_⟩,_⟩:=p.bm.cH;exact⟨A,cc,h⟩
 have g0:=M z;obtain⟨k0,k1,k2,k3,k4,k5,k6,k7,k8⟩:=p.bm.qc;rw[z]at k8;obtain⟨B,E,F,G,H,P⟩:=av HV;clear z;go_still_tail 5,(by kernel_rfl);change wpList _ _ _ _ _ W.drew;have q:=M p.drew;have g7:=M (show W.drew.heap[X]?=_ from HR);have a5:=M (show W.drew.heap[w.heap.size]?=_ from HV);have g1:Hid (aG CT w κ W.drew e9):=M (a1.trans (aG.pure ((ck W).drewN 1)));have j0:=a7;have a9:=a8;clear p HR HV a1 a7 a8 k0 k1 k2 k3 k4 k5 k6 k7 k8 B E F G H P;generalize W.drew=w2 at *;go_wp2_with fail;refine(g0▸tx.mR c _ K.ba o w2 q.bm.cH q.bm.ok (by rw[g.out];decide) (by rw[g.out];decide) h9 (λh=>absurd h (by rw[g.out];decide))).mono ?_;rintro r w3⟨rfl,c3⟩;obtain⟨Q,S3⟩:=q.bS c3;have a3:=M S3;have g2:=M (g1.trans Q);obtain⟨a,e⟩:=aJ Q j0 nT g7;have g9:=M a;have j1:=M e;have d:=(Q).bF a5 (by rw[a9.out];exact nT);have f:=((Q).ft (bR.1 a5).1).trans a9;have t:=M d;have b0:=M f;clear Q S3 a e d f c3;generalize aL w2.heap.size e9 9=j5 at *;obtain⟨B,E,F,G,H,P⟩:=av t;go_wp2_with fail;refine(tm o j (true,bi i) w3 a3.bj g HO.2 HJ.1 T (Ba i HJ.2.2)).mono ?_;rintro r w4⟨rfl,c4⟩;obtain⟨R,S4⟩:=a3.bS c4;have a4:=M S4;have g3:=M (g2.trans R);obtain⟨a,e⟩:=aJ R j1 nT g9;have h2:=M a;have j2:=M e;have d:=(R).bF t (by rw[b0.out];exact nT);have f:=((R).ft (bR.1 t).1).trans b0;have u:=M d;have b1:=M f;clear R S4 a e d f c4 B E F G H P;generalize aL w3.heap.size j5 9=j6 at *;obtain⟨B,E,F,G,H,P⟩:=av u;go_wp2_with fail;refine(yG o w4 a4.bj g).mono ?_;rintro r w5⟨rfl,c5⟩;obtain⟨S,S5⟩:=a4.bS c5;have h5:=M S5;have g4:=M (g3.trans S);obtain⟨a,e⟩:=aJ S j2 nT h2;have h3:=M a;have j3:=M e;have d:=(S).bF u (by rw[b1.out];exact nT);have f:=((S).ft (bR.1 u).1).trans b1;have a6:=M d;have b2:=M f;clear S S5 a e d f c5 B E F G H P;generalize aL w4.heap.size j6 9=j7 at *;go_upto_region 7 with fail;obtain⟨c6,-,b4⟩:=aO w5 #[L false,U 0 0] 44;obtain⟨e6,S6⟩:=h5.bS c6;have h6:=M S6;have g5:=M (g4.trans e6);obtain⟨a,e⟩:=aJ e6 j3 nT h3;have h4:=M a;have j4:=M e;have d:=(e6).bF a6 (by rw[b2.out];exact nT);have f:=((e6).ft (bR.1 a6).1).trans b2;have y:=M d;have b3:=M f;have j8:=M b4;clear e6 S6 a e d f c6 b4;generalize w5.alloc _=w6 at *;generalize aL w5.heap.size j7 9=l6 at *;generalize w5.heap.size=X6 at *;obtain⟨B,E,F,G,H,P⟩:=av y;have e1:((o.aE:V)==1)=false:=by rw[g.out];rfl
 have e2:((o.aE:V)==2)=false:=by rw[g.out];rfl
 have Q:((o.aE:V)==3)=false:=by rw[g.out];rfl
 have R:((o.aE:V)==4)=false:=by rw[g.out];rfl
 have S:((o.aE:V)==5)=false:=by rw[g.out];rfl
 have e6:((o.aE:V)==6)=false:=by rw[g.out];rfl
 have e7:((o.aE:V)==7)=false:=by rw[g.out];rfl
 have e8:((o.aE:V)==8)=false:=by rw[g.out];rfl
 have l3:((o.aE:V)==10)=false:=by rw[g.out];rfl
 have l4:((o.aE:V)==11)=true:=by rw[g.out];rfl
 have l5:((o.aE:V)==17)=false:=by rw[g.out];rfl
 go_wp2_with fail;refine(yW o i j jo kd md s0 w6 h6 g HO.1 HO.2 HJ.1 HJ.2.1 HJ.2.2 HP.1 HP.2 HZ.1 HZ.2.1 HZ.2.2.1 HZ.2.2.2 HB.1 HB.2.1 HB.2.2).mono ?_;rintro r w7⟨rfl,l7,e7,S7⟩;have h7:=M S7;have g6:=M (g5.trans e7);obtain⟨a,e⟩:=aJ e7 j4 nT h4;have a2:=M a;have n:=M e;have d:=(e7).bF y (by rw[b3.out];exact nT);have f:=((e7).ft (bR.1 y).1).trans b3;have j9:=M d;have k9:=M f;clear e7 S7 a e d f B E F G H P;obtain⟨z0,z1,z2,z3,z4⟩:=bc a2;have f1:=λk=>ey k a2;go_wp2_with fail;refine au (v:=.tuple #[.agg #[J s.next,J s.own,J 0,L false,U (bH kd).1 (bH kd).2],L true]) (by simp[results,results121,go_sem,z0,z1,z2,z3,z4]) T ⟨T,_,(((((g6.new l _ _).new l _ _).new l _ _).new l _ _).new l _ _),(((((h7.aZ n _ _).aZ n _ _).aZ n _ _).aZ n _ _).aZ n _ _)⟩
end
end
section
open Ac (jm dx jb gC av Vl Wr iJ gm aA bc aJ nT aO cC ed dZ dY CT)
section
variable{w d:Y}{c:Cn}{K:aW.Q}{κ:N->N}{m:aW.St}{b:Ac.B}{s:Ac.St}
theorem yZ:(prog.info? 44).map (λi=>(i.zero,i.size,i.bytes))=some (some (.agg #[L false,U 0 0]),2,24):=by kernel_rfl
theorem yK(w:Y)(g:N)(a x:Value)(i:w.cell? (I g 0)=some a)(j:w.cell? (I g 1)=some x)(h:∀k,w.frozen? (I g k)=false):(Builtin.clear_ #[61] 0 #[Z (some (I g 0)) 1 1]).run prog w=.ok (.tuple #[]) ((w.setCell (I g 0) (L false)).setCell (I g 1) (U 0 0)):=by
 obtain⟨q,l,n,o,p⟩:=aR yZ;simp[Builtin.clear_,dC underlying61,Result.andThen];rw[show(Builtin.zeroCells (Value.agg #[L false,Value.complex FloatKind.f64 0 0]).cells 1).toList=[L false,U 0 0]from by kernel_rfl];have f:(w.setCell (I g 0) (L false)).frozen? (I g 1)=false:=by simp[go_sem,h]
 have e:(w.setCell (I g 0) (L false)).cell? (I g 1)=some x:=by simp[go_sem,j]
 simp[storeCells,go_sem,i,h,f,e,Result.andThen]
theorem CO(v:Vl)(z:V)(w:Y)(h:dt w c K κ m b s)(hl:s.ak=[v])(hz:m.bA[b.t]?=some z)(o:z≠-1):C 120 #[I b.ab 0,I K.kb 0] w λr d=>r=O (.tuple #[])/\∃κ',aG CT w κ d κ'/\dt d c K κ' {m with bA:=m.bA.set b.t (-1)} b {s with bn:=4,ak:=[aA]}:=by
 have g:=M h;have f:=M (aq hz (aq o hl));have E:=h.bm.xK;have c0:=h.bj.p0;clear h hz o hl;go_enter func120,ntmps120;go_wp2_with fail;go_still_tail 8,(by kernel_rfl);change wpList _ _ _ _ _ w.drew;have i:=M g.drew;have t:Hid (aG CT w κ w.drew κ):=M (aG.pure ((ck w).drewN 1));clear E c0 g;generalize w.drew=w2 at *;go_wp2_with fail;refine(aW.zy b.t z w2 i.bm f.1 f.2.1).mono ?_;rintro r F⟨rfl,n,l⟩;obtain⟨Q,G⟩:=i.cJ n l;have e:=M G;have u:=M (t.trans Q);clear n l Q G;have c3:=e.bj.p3;have fz:=e.bj.fb;go_upto_region 2 with fail;have X:=e.bj.put 3 (J 4) {s with bn:=4} rfl rfl ⟨rfl,rfl,rfl,rfl,rfl,rfl⟩;have o4:ac (λk=>k=b.ab) F (F.setCell (I b.ab 3) (J 4)):=Ac.ac.me (bo _) _ _;obtain⟨R,H⟩:=e.fk (Ac.ec e.bj.k6 o4) X;have a:=M H;have x:=M (u.trans R);clear X o4 R H c3 fz;generalize F.setCell _ _=q at *;have c2:q.cell? (I b.ab 2)=some (Z (some (I b.lg 0)) 1 1):=by
  have:=a.bj.p2;rw[show s.ak.length=1 from by rw[f.out.2.2];rfl]at this;exact this
 obtain⟨l0,l1⟩:=a.bj.oj (j:=0) (v:=v) (by show s.ak[0]?=some v;rw[f.out.2.2];rfl);have fl:=a.bj.fl;have a1:=yK q b.lg _ _ l0 l1 fl;have B:=a.bj.LV 0 (false,0,0) (by show 0<s.ak.length;rw[f.out.2.2];simp);have S:({s with bn:=4}:Ac.St).ak.set 0 (false,0,0)=[aA]:=by show s.ak.set 0 (false,0,0)=[aA];rw[f.out.2.2];rfl
 rw[S]at B;have o5:ac (λk=>k=b.lg) q ((q.setCell (I b.lg 0) (L false)).setCell (I b.lg 1) (U 0 0)):=((ac.refl (λk=>k=b.lg) q).setCell (p:=⟨b.lg,0,none⟩) (λ_=>T) _).setCell (p:=⟨b.lg,1,none⟩) (λ_=>T) _;obtain⟨W,P⟩:=a.fk (Ac.CH a.bj.k7 o5) B;have A:=M P;have y:=M (x.trans W);clear B S o5 W P;go_wp2_with fail;go_end0;exact⟨T,_,y,A⟩
theorem uj(w:Y)(h:dt w c K κ m b s)(l:s.pc=3)(g:b.t=0)(G:0<K.q.ns)(n:m.s.sx=[]):C 67 #[I b.ab 0,I K.kb 0] w λr d=>r=O (.tuple #[])/\∃κ',aG CT w κ d κ'/\dt d c K κ' {m with s:={m.s with sv:=Z none 0 0,sx:=[]}} b {s with pc:=4}:=by
 have e:=M h;have x:=M (aq G n);have v:=h.bm.lH;have A:=h.bj.p0;rw[g]at A;have u:=h.bj.p7;rw[l]at u;clear h G n l g;go_enter func67,ntmps67;go_wp2_with fail;go_still_tail 8,(by kernel_rfl);change wpList _ _ _ _ _ w.drew;have f:=M e.drew;have o:Hid (aG CT w κ w.drew κ):=M (aG.pure ((ck w).drewN 1));clear v A u e;generalize w.drew=Q at *;go_wp2_with fail;refine(aW.drain Q f.bm x.1 x.2).mono ?_;rintro r P⟨rfl,R,j,i⟩;obtain⟨B,y⟩:=f.cJ j i;have a:=M y;have p:=M (o.trans B);clear j i B y;have u:=a.bj.p7;have S:=a.bj.fb;have F:=a.bj.put 7 (J 4) {s with pc:=4} rfl rfl ⟨rfl,rfl,rfl,rfl,rfl,rfl⟩;have H:ac (λk=>k=b.ab) P (P.setCell (I b.ab 7) (J 4)):=Ac.ac.me (bo _) _ _;obtain⟨E,z⟩:=a.fk (Ac.ec a.bj.k6 H) F;have t:=M z;have q:=M (p.trans E);clear F H E z;go_wp2_with fail;go_end0;exact⟨T,_,q,t⟩
theorem ul(v:Vl)(z:V)(w:Y)(h:dt w c K κ m b s)(a:s.pc=4)(l:s.ak=[v])(hz:m.bA[b.t]?=some z)(e:z≠-1):C 67 #[I b.ab 0,I K.kb 0] w λr d=>r=O (.tuple #[])/\∃κ',aG CT w κ d κ'/\dt d c K κ' {m with bA:=m.bA.set b.t (-1)} b {s with bn:=4,ak:=[aA]}:=by
 have f:=M h;have i:=M (aq l (aq hz e));have n:=h.bj.p7;rw[a]at n;clear h l hz e a;go_enter func67,ntmps67;go_wp2_with fail;refine(CO v z w f i.1 i.2.1 i.2.2).mono ?_;rintro r p⟨rfl,o,k,j⟩;have g:=M (aq k j);clear k j;go_wp2_with fail;go_end0;exact⟨T,_,g⟩
