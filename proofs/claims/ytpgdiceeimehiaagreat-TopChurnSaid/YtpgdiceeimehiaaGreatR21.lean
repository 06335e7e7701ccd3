/- Part 21 of the proof of spotop.TopChurn. -/
import Derived.Test.YtpgdiceeimehiaaGreatR11
import Derived.Test.YtpgdiceeimehiaaGreatR17
set_option maxRecDepth 100000
set_option maxHeartbeats 16000000
set_option linter.all false
open Go.Proofs.Tryz
namespace Go.Proofs.YtpgdiceeimehiaaGreat
open RowKit
namespace tx
open Go.ChangeMaps (setBlock)
def str(l:List UInt8):ByteArray:=⟨l.toArray⟩
theorem jl(l:List UInt8):(str l).size=l.length:=by simp[str,ByteArray.size]
theorem JJ(l:List UInt8)(k:N)(b:UInt8)(h:l[k]?=some b)(a:k<(str l).size):(str l)[k]=b:=by
 have c:=(dH.1 h).1;have:=(dH.1 h).2;rw[<-this];rfl
theorem xr(bs:ByteArray):∀(n i:N) (r:List UInt8),bs.size-i=n->ByteArray.toList.loop bs i r=r.reverse++bs.data.toList.drop i:=by
 intro n
 induction n with
 | zero =>
  intro i r h;unfold ByteArray.toList.loop;rw[aa (by omega),List.drop_eq_nil_of_le (by have:bs.data.size-i=0:=h;simp;omega),bJ]
 | succ n b =>
  intro i r h;unfold ByteArray.toList.loop;have a:i<bs.data.toList.length:=by have:bs.data.size-i=n+1:=h;simp;omega
  rw[af (by omega),b (i+1) _ (by omega),cd a,List.reverse_cons,cS];congr 2;simp only[ByteArray.get!,dV,cW,List.cons.injEq,and_true];rw[getElem!_pos bs.data i (by simpa using a)];simp
theorem yT(l:List UInt8):(str l).toList=l:=by
 unfold ByteArray.toList;rw[xr _ _ _ _ rfl];simp[str]
def wl:List (ByteArray × ByteArray):=[(⟨#[]⟩,⟨#[]⟩),(⟨#[110,101,119]⟩,⟨#[97,107]⟩),(⟨#[97,114,114,97,121]⟩,⟨#[97,107,110]⟩),(⟨#[108,111,97,100]⟩,⟨#[97,98,110]⟩),(⟨#[115,116,111,114,101]⟩,⟨#[97,110,98]⟩),(⟨#[103,101,116]⟩,⟨#[97,98,110]⟩),(⟨#[112,117,116]⟩,⟨#[97,110,98]⟩),(⟨#[108,111,111,107]⟩,⟨#[97,103]⟩),(⟨#[115,101,116]⟩,⟨#[103,98]⟩),(⟨#[115,97,109,101]⟩,⟨#[97,98,99]⟩),(⟨#[108,101,110,103,116,104]⟩,⟨#[97,98]⟩),(⟨#[107,105,110,100]⟩,⟨#[97,98]⟩),(⟨#[110,117,109,98,101,114]⟩,⟨#[97,122]⟩),(⟨#[99,108,101,97,114]⟩,⟨#[97]⟩),(⟨#[99,111,112,121]⟩,⟨#[97,98]⟩),(⟨#[97,100,100]⟩,⟨#[97,98,99]⟩),(⟨#[109,117,108]⟩,⟨#[97,98,99]⟩),(⟨#[99,111,108,108,101,99,116]⟩,⟨#[]⟩),(⟨#[108,101,97,118,101]⟩,⟨#[]⟩)]
def Le(k:N):ByteArray:=(wl.getD k (⟨#[]⟩,⟨#[]⟩)).1
def Ld(k:N):ByteArray:=(wl.getD k (⟨#[]⟩,⟨#[]⟩)).2
def JT:Array Value:=#[.string ⟨#[]⟩,.string ⟨#[]⟩,.string ⟨#[110,101,119]⟩,.string ⟨#[97,107]⟩,.string ⟨#[97,114,114,97,121]⟩,.string ⟨#[97,107,110]⟩,.string ⟨#[108,111,97,100]⟩,.string ⟨#[97,98,110]⟩,.string ⟨#[115,116,111,114,101]⟩,.string ⟨#[97,110,98]⟩,.string ⟨#[103,101,116]⟩,.string ⟨#[97,98,110]⟩,.string ⟨#[112,117,116]⟩,.string ⟨#[97,110,98]⟩,.string ⟨#[108,111,111,107]⟩,.string ⟨#[97,103]⟩,.string ⟨#[115,101,116]⟩,.string ⟨#[103,98]⟩,.string ⟨#[115,97,109,101]⟩,.string ⟨#[97,98,99]⟩,.string ⟨#[108,101,110,103,116,104]⟩,.string ⟨#[97,98]⟩,.string ⟨#[107,105,110,100]⟩,.string ⟨#[97,98]⟩,.string ⟨#[110,117,109,98,101,114]⟩,.string ⟨#[97,122]⟩,.string ⟨#[99,108,101,97,114]⟩,.string ⟨#[97]⟩,.string ⟨#[99,111,112,121]⟩,.string ⟨#[97,98]⟩,.string ⟨#[97,100,100]⟩,.string ⟨#[97,98,99]⟩,.string ⟨#[109,117,108]⟩,.string ⟨#[97,98,99]⟩,.string ⟨#[99,111,108,108,101,99,116]⟩,.string ⟨#[]⟩,.string ⟨#[108,101,97,118,101]⟩,.string ⟨#[]⟩]
theorem EU(k:N)(a:k<19):JT[k*2]?=some (.string (Le k))/\JT[k*2+1]?=some (.string (Ld k)):=by
 rcases(by omega:k=0\/k=1\/k=2\/k=3\/k=4\/k=5\/k=6\/k=7\/k=8\/k=9\/k=10\/k=11\/k=12\/k=13\/k=14\/k=15\/k=16\/k=17\/k=18)with rfl|rfl|rfl|rfl|rfl|rfl|rfl|rfl|rfl|rfl|rfl|rfl|rfl|rfl|rfl|rfl|rfl|rfl|rfl<;>exact⟨T,T⟩
theorem kB(k:N)(h:k<19)(w:Y):C 237 #[J k] w λe m=>e=O (.tuple #[.string (Le k),.string (Ld k)])/\ae w m:=by
 have d:=ai w (D JT 320);have c:(w.alloc (D JT 320)).cell? (I w.heap.size (k*2))=some (.string (Le k)):=by rw[cell_of_row _ _ _ _ _ (0,0) d];exact(EU k h).1
 have c1:(w.alloc (D JT 320)).cell? (I w.heap.size (k*2+1))=some (.string (Ld k)):=by rw[cell_of_row _ _ _ _ _ (0,0) d];exact(EU k h).2
 have f:=M c;have g:=M c1;have i:=M ((ck w).alloc (D JT 320));have n:(0:V)<=(k:V):=by omega
 have o:(k:V)<19:=by omega
 clear d c c1;go_enter func237,ntmps237;unfold JT at f g i;go_wp2_with fail;generalize w.alloc _=W at *;generalize w.heap.size=B at *;have c:=f.out;have c1:=g.out;obtain⟨q,b⟩:∃s,Le k=s:=⟨_,T⟩;obtain⟨p,a⟩:∃s,Ld k=s:=⟨_,T⟩;rw[b]at c;rw[a]at c1;have l:=M b;have j:=M a;clear b a;go_quiet (fail);go_wp2_with fail;go_ret2;exact⟨by rw[l.out,j.out];rfl,i.drewN _⟩
theorem nz(X:N)(c:V)(o:N)(w:Y)(h:(c=97/\o=1)\/((c=98\/c=107)/\o=2)\/(c=99/\o=3)\/((c=110\/c=103)/\o=4)):C 238 #[I X 0,.int .i32 c] w λe a=>e=O (I X o)/\w=a:=by
 rcases h with⟨rfl,rfl⟩|⟨rfl|rfl,rfl⟩|⟨rfl,rfl⟩|⟨rfl|rfl,rfl⟩
 all_goals
  go_enter func238,ntmps238;go_wp2_with fail;go_ret;exact⟨T,T⟩
def Mp:List (List UInt8):=[[],[110,101,119],[97,114,114,97,121],[108,111,97,100],[115,116,111,114,101],[103,101,116],[112,117,116],[108,111,111,107],[115,101,116],[115,97,109,101],[108,101,110,103,116,104],[107,105,110,100],[110,117,109,98,101,114],[99,108,101,97,114],[99,111,112,121],[97,100,100],[109,117,108],[99,111,108,108,101,99,116],[108,101,97,118,101]]
def LU:List (List UInt8):=[[],[97,107],[97,107,110],[97,98,110],[97,110,98],[97,98,110],[97,110,98],[97,103],[103,98],[97,98,99],[97,98],[97,98],[97,122],[97],[97,98],[97,98,99],[97,98,99],[],[]]
def kw(k:N):List UInt8:=Mp.getD k []
def kn(k:N):List UInt8:=LU.getD k []
theorem Hz(k:N)(a:k<19):Le k=str (kw k)/\Ld k=str (kn k):=by
 rcases(by omega:k=0\/k=1\/k=2\/k=3\/k=4\/k=5\/k=6\/k=7\/k=8\/k=9\/k=10\/k=11\/k=12\/k=13\/k=14\/k=15\/k=16\/k=17\/k=18)with rfl|rfl|rfl|rfl|rfl|rfl|rfl|rfl|rfl|rfl|rfl|rfl|rfl|rfl|rfl|rfl|rfl|rfl|rfl<;>exact⟨T,T⟩
theorem GY(k:N)(a:k<19)(w:Y):C 237 #[J k] w λe b=>e=O (.tuple #[.string (str (kw k)),.string (str (kn k))])/\ae w b:=by
 have h:=kB k a w
 rwa [(Hz k a).1,(Hz k a).2]at h
section
variable{P:Program}
theorem kL{w:Y}{r a:N}{s:ByteArray}(d:TypeId)(c:w.heap[r]?=some (.stringIter s a))(h:a<s.size)(b:(s[a]'h).toNat<128):(Instr.next (I r 0) true d).run P w=.ok (.tuple #[L true,J a,.int .i32 (s[a]'h).toNat]) (setBlock w r (.stringIter s (a+1))):=by
 simp only[Instr.next,getObj,setObj,Sem.run_bind,Sem.run,c,Result.andThen,h,bP,decode_ascii s a h b];simp[goInt,setBlock]
theorem uR{w:Y}{r a:N}{s:ByteArray}(c:TypeId)(b:w.heap[r]?=some (.stringIter s a))(h:¬a<s.size):(Instr.next (I r 0) true c).run P w=.ok (.tuple #[L false]) w:=by
 simp[Instr.next,getObj,Sem.run,b,h]
end
theorem tq(w:Y)(b:N)(o:Obj):ac (λk=>k=b) w (setBlock w b o):=by
 refine⟨T,T,T,by simp[setBlock],λk c a=>?_⟩;simp only[setBlock];rw[Array.getElem?_setIfInBounds_ne (λe=>a e.symm)]
theorem vh(w:Y)(b:N)(o:Obj)(h:b<w.heap.size):(setBlock w b o).heap[b]?=some o:=by simp[setBlock,h]
def J8(c:UInt8):Prop:=c=97\/c=98\/c=107\/c=99\/c=110\/c=103\/c=122
theorem Jc(k:N)(h:k<19):∀c∈kn k,J8 c:=by
 rcases(by omega:k=0\/k=1\/k=2\/k=3\/k=4\/k=5\/k=6\/k=7\/k=8\/k=9\/k=10\/k=11\/k=12\/k=13\/k=14\/k=15\/k=16\/k=17\/k=18)with rfl|rfl|rfl|rfl|rfl|rfl|rfl|rfl|rfl|rfl|rfl|rfl|rfl|rfl|rfl|rfl|rfl|rfl|rfl<;>simp[kn,LU,J8]
end tx
section
theorem BD(w:Y):C 40 #[J 1] w λe a=>e=O (.tuple #[.string ⟨#[110,101,119]⟩,.string ⟨#[65,107]⟩])/\w=a:=by
 go_enter func40,ntmps40;go_wp2;go_ret2;exact⟨T,T⟩
theorem BE(w:Y):C 40 #[J 2] w λe a=>e=O (.tuple #[.string ⟨#[97,114,114,97,121]⟩,.string ⟨#[65,107,78]⟩])/\w=a:=by
 go_enter func40,ntmps40;go_wp2;go_ret2;exact⟨T,T⟩
abbrev Bb(kd:V)(k n:V):Value:=.agg #[J kd,J 0,J k,J 0,J n,U 0 0]
abbrev K0(kd:V)(k n:V):Obj:=D #[J kd,J 0,J k,J 0,J n,U 0 0] 32
def nN(w:Y)(X:N)(c:Cn)(v:Value)(kd k n:V)(w':Y):Prop:=Row w X c v w'/\w'.heap[X+1]?=some (D #[J kd,J 0,J k,J 0,J n,U 0 0] 32 (0,0))
theorem nN.aj{w:Y}{X:N}{c:Cn}{v:Value}{kd k n:V}{a b:Y}(h:nN w X c v kd k n a)(q:ae a b):nN w X c v kd k n b:=⟨h.1.aj q,(q.block (X+1) (bR.1 h.2).1 (λf=>f)).trans h.2⟩
theorem nN.cells{w:Y}{X:N}{c:Cn}{v:Value}{kd k n:V}{a:Y}(h:nN w X c v kd k n a):a.cell? (I (X+1) 0)=some (J kd)/\a.cell? (I (X+1) 1)=some (J 0)/\a.cell? (I (X+1) 2)=some (J k)/\a.cell? (I (X+1) 3)=some (J 0)/\a.cell? (I (X+1) 4)=some (J n)/\a.cell? (I (X+1) 5)=some (U 0 0)/\a.heap.size≠X+1/\a.heap.size≠X:=by
 refine⟨?_,?_,?_,?_,?_,?_,?_,?_⟩
 all_goals first
  | (rw[bK h.2];rfl)
  | (have:=(bR.1 h.2).1;omega)
theorem nN.new(w:Y)(c:Cn)(v:Value)(kd k n:V):nN w w.heap.size c v kd k n ((w.alloc (D #[J c.ag,J c.al,J c.ap,J c.ao,J c.ak,J c.aB,J c.be,J c.di,v] 24)).alloc (K0 kd k n)):=by
 refine⟨(Row.new w c v).aj ((bo _).alloc _),?_⟩;have h:=ai (w.alloc (D #[J c.ag,J c.al,J c.ap,J c.ao,J c.ak,J c.aB,J c.be,J c.di,v] 24)) (K0 kd k n);rw[show(w.alloc (D #[J c.ag,J c.al,J c.ap,J c.ao,J c.ak,J c.aB,J c.be,J c.di,v] 24)).heap.size=w.heap.size+1 from by simp]at h;exact h
def uf(w:Y)(X:N)(c:Cn)(v:Value)(kd k n:V)(Yq:N)(ab:Bool)(u:Value)(w':Y):Prop:=nN w X c v kd k n w'/\w'.cell? (I Yq 0)=some (L ab)/\w'.cell? (I Yq 1)=some u
theorem uf.aj{w:Y}{X:N}{c:Cn}{v:Value}{kd k n:V}{Yq:N}{d:Bool}{u:Value}{a b:Y}(h:uf w X c v kd k n Yq d u a)(q:ae a b):uf w X c v kd k n Yq d u b:=⟨h.1.aj q,q.aj h.2.1,q.aj h.2.2⟩
def J5(c:Cn)(sh:List Sh)(ab:Bool)(k n:V)(r:V):Prop:=((k<0\/(sh.length:V)<=k)/\r=4)\/∃(j:N) (v:Value) (bs:List Bool),k=(j:V)/\sh[j]?=some ⟨ab,v,bs⟩ /\
 ((bM ab bs.length n<0/\r=5)\/(0<=bM ab bs.length n/\((c.ag<bM ab bs.length n/\r=7)\/(bM ab bs.length n<=c.ag/\c.al<cE ab bs.length n/\r=7)\/(bM ab bs.length n<=c.ag/\cE ab bs.length n<=c.al/\r=0))))
theorem lI(c:Cn)(A0:Option Addr)(c0:N)(sh:List Sh)(k n r:V)(w:Y)(hl:dm w w.heap.size (Z A0 sh.length c0) sh)(a4:bk c sh=0)(a2:1<=c.ak)(l:J5 c sh false k 0 r):C 18 #[hI c (Z A0 sh.length c0),Bb 1 k n] w λe w'=>e=O (J r)/\ae w w':=by
 have b0:decide ((0:V)>=c.ak)=false:=dT (by omega);have a8:=M a2;have HL:=M (λ(w':Y) (hp:ae w w')=>hl.pure hp);have a7:=M a4;have HK:=M l;clear hl a4 l a2;go_enter func18,ntmps18;go_wp2_with fail;have hr:=nN.new w c (Z A0 sh.length c0) 1 k n;generalize(w.alloc _).alloc _=W at hr ⊢;generalize w.heap.size=X at hr ⊢;have R:=M hr;obtain⟨a,c1,m,o,p,s,u,x,y,_⟩:=hr.1.cells;obtain⟨z,E,F,G,H,K,P,Q⟩:=hr.cells;clear hr;refine(BD W).mono ?_;rintro e w1⟨rfl,rfl⟩;go_wp2_with fail;refine(pz c _ sh _ (HL _ R.1.2.2)).mono ?_;rintro e w1⟨rfl,a5⟩;rw[a7.out];have R1:=M (R.aj a5);clear a5 R a c1 m o p s u x y z E F G H K P Q;obtain⟨a,c1,m,o,p,s,u,x,y,_⟩:=R1.1.cells;obtain⟨z,E,F,G,H,K,P,Q⟩:=R1.cells;go_wp2_with fail;go_loopw [7] (λi wr=>∃t:N,t<=2/\i=J t/\nN w X c (Z A0 sh.length c0) 1 k n wr) (λi _=>2-(intOf i).toNat)
 case atStart=>exact⟨0,by omega,T,R1⟩
 case round =>
  obtain⟨t,ht,rfl,l⟩:=hrel;clear R1 a c1 m o p s u x y z E F G H K P Q;have R2:=M l;clear l;obtain⟨a,c1,m,o,p,s,u,x,y,_⟩:=R2.1.cells;obtain⟨z,E,F,G,H,K,P,Q⟩:=R2.cells;obtain rfl|rfl|rfl:=(by omega:t=0\/t=1\/t=2)
  ·go_wp2_with fail;go_roundw
   case rel=>exact⟨1,by omega,by first|rfl|simp,R2⟩
   case measure=>simp[intOf]
  ·go_wp2_with fail;go_roundw
   case rel=>exact⟨2,by omega,by first|rfl|simp,R2⟩
   case measure=>simp[intOf]
  ·go_wp2_with fail;rcases HK.out with⟨l,rfl⟩|⟨j,v,g,rfl,l,hc⟩
   ·refine(mo c A0 sh.length c0 k _ l).mono ?_;rintro e w4⟨rfl,b⟩;clear l HK;have R3:=M (R2.aj b);clear R2 b a c1 m o p s u x y z E F G H K P Q;obtain⟨a,c1,m,o,p,s,u,x,y,_⟩:=R3.1.cells;obtain⟨z,E,F,G,H,K,P,Q⟩:=R3.cells;go_wp2_with fail;go_ret;exact⟨T,R3.1.2.2.alloc _⟩
   obtain⟨A,h,rfl⟩:∃A h,v=Z A g.length h:=by
    obtain⟨B,d,hv,_⟩:=(HL w (bo _)).2 _ (cZ l);exact⟨B,d,by rw[bV]at hv;exact hv⟩
   have hn:g.length<=9223372036854775807:=by
    obtain⟨B,d,hv,h1,h2,_⟩:=(HL w (bo _)).2 _ (cZ l);have a9:g.length<=d:=by rw[bV]at h1;exact h1
    omega
   have HN:=M hn;have HS:=M hc;have a6:=M l;clear hn hc l HK;refine(jQ c _ sh j ⟨false,Z A g.length h,g⟩ _ (HL _ R2.1.2.2) a6).mono ?_;rintro e w4⟨rfl,b⟩;have R3:=M (R2.aj b);clear R2 b a c1 m o p s u x y z E F G H K P Q;obtain⟨a,c1,m,o,p,s,u,x,y,_⟩:=R3.1.cells;obtain⟨z,E,F,G,H,K,P,Q⟩:=R3.cells;have b:ae w4 (w4.alloc (D #[L false,Z A g.length h] 35)):=(bo _).alloc _;have f0:(w4.alloc (D #[L false,Z A g.length h] 35)).cell? (I w4.heap.size 0)=some (L false):=by simp
   have f1:(w4.alloc (D #[L false,Z A g.length h] 35)).cell? (I w4.heap.size 1)=some (Z A g.length h):=by simp
   have R4:=M (R3.aj b);clear R3 b a c1 m o p s u x y z E F G H K P Q;obtain⟨a,c1,m,o,p,s,u,x,y,_⟩:=R4.1.cells;obtain⟨z,E,F,G,H,K,P,Q⟩:=R4.cells;go_wp2_with fail;generalize w4.alloc _=w5 at *;generalize w4.heap.size=Yq at *;refine(iV false A g.length h 0 _ HN).mono ?_;rintro e w5⟨rfl,b⟩;have S5:Hid (uf w X c (Z A0 sh.length c0) 1 (j:V) n Yq false (Z A g.length h) w5):=M ⟨R4.aj b,b.aj f0,b.aj f1⟩;clear R4 b f0 f1 a c1 m o p s u x y z E F G H K P Q;obtain⟨f0,f1⟩:=S5.2;rcases HS.out with⟨hS,rfl⟩|⟨hS,hc⟩
   ·have e1:decide (bM false g.length 0<0)=true:=fN hS;clear hS;go_wp2_with fail;go_ret;exact⟨T,S5.1.1.2.2⟩
   have e1:decide (bM false g.length 0<0)=false:=dT (by omega);have hd:(decide (bM false g.length 0>c.ag)=true/\r=7)\/(decide (bM false g.length 0>c.ag)=false/\decide (cE false g.length 0>c.al)=true/\r=7)\/(decide (bM false g.length 0>c.ag)=false/\decide (cE false g.length 0>c.al)=false/\r=0):=by
    simp only[aQ,cL];omega
   clear hc hS;rcases hd with⟨e2,rfl⟩|⟨e2,e3,rfl⟩|⟨e2,e3,rfl⟩
   all_goals
    go_wp2_with fail;refine bB (uf w X c (Z A0 sh.length c0) 1 (j:V) n Yq false (Z A g.length h)) (S5.aj ((bo _).drewN 1)) (by kernel_rfl) (by kernel_rfl) ?_;intro S f hS hf a3;clear f0 f1;have a:=λs'=>(hf s').1.1.cells.1;have c1:=λs'=>(hf s').1.1.cells.2.1;have f0:=λs'=>(hf s').2.1;have f1:=λs'=>(hf s').2.2;have HF:=M hf;have a1:=M a3;clear hf a3
    repeat(go_big_quiet_step ((first|(go_at_call 19;exact aN a1 (HF _) (λw' hD q=>hD.aj q) (iV false A g.length h 0 _ HN))|(go_at_call 20;exact aN a1 (HF _) (λw' hD q=>hD.aj q) (km false A g.length h 0 _ HN)))))
    refine wpQuiet_nil ?_;rintro w7⟨s7,e7⟩;have D7:=HF s7;rw[<-e7]at D7;clear e7 HF a1 a c1 f0 f1;go_wp2_with fail;go_ret;exact⟨T,D7.1.1.2.2⟩
theorem nH(c:Cn)(A0:Option Addr)(c0:N)(sh:List Sh)(k n r:V)(w:Y)(hl:dm w w.heap.size (Z A0 sh.length c0) sh)(a4:bk c sh=0)(a2:1<=c.ak)(l:J5 c sh true k n r):C 18 #[hI c (Z A0 sh.length c0),Bb 2 k n] w λe w'=>e=O (J r)/\ae w w':=by
 have b0:decide ((0:V)>=c.ak)=false:=dT (by omega);have a8:=M a2;have HL:=M (λ(w':Y) (hp:ae w w')=>hl.pure hp);have a7:=M a4;have HK:=M l;clear hl a4 l a2;go_enter func18,ntmps18;go_wp2_with fail;have hr:=nN.new w c (Z A0 sh.length c0) 2 k n;generalize(w.alloc _).alloc _=W at hr ⊢;generalize w.heap.size=X at hr ⊢;have R:=M hr;obtain⟨a,c1,m,o,p,s,u,x,y,_⟩:=hr.1.cells;obtain⟨z,E,F,G,H,K,P,Q⟩:=hr.cells;clear hr;refine(BE W).mono ?_;rintro e w1⟨rfl,rfl⟩;go_wp2_with fail;refine(pz c _ sh _ (HL _ R.1.2.2)).mono ?_;rintro e w1⟨rfl,a5⟩;rw[a7.out];have R1:=M (R.aj a5);clear a5 R a c1 m o p s u x y z E F G H K P Q;obtain⟨a,c1,m,o,p,s,u,x,y,_⟩:=R1.1.cells;obtain⟨z,E,F,G,H,K,P,Q⟩:=R1.cells;go_wp2_with fail;go_loopw [7] (λi wr=>∃t:N,t<=3/\i=J t/\nN w X c (Z A0 sh.length c0) 2 k n wr) (λi _=>3-(intOf i).toNat)
 case atStart=>exact⟨0,by omega,T,R1⟩
 case round =>
  obtain⟨t,ht,rfl,l⟩:=hrel;clear R1 a c1 m o p s u x y z E F G H K P Q;have R2:=M l;clear l;obtain⟨a,c1,m,o,p,s,u,x,y,_⟩:=R2.1.cells;obtain⟨z,E,F,G,H,K,P,Q⟩:=R2.cells;obtain rfl|rfl|rfl|rfl:=(by omega:t=0\/t=1\/t=2\/t=3)
  ·go_wp2_with fail;go_roundw
   case rel=>exact⟨1,by omega,by first|rfl|simp,R2⟩
   case measure=>simp[intOf]
  ·go_wp2_with fail;go_roundw
   case rel=>exact⟨2,by omega,by first|rfl|simp,R2⟩
   case measure=>simp[intOf]
  ·go_wp2_with fail;go_roundw
   case rel=>exact⟨3,by omega,by first|rfl|simp,R2⟩
   case measure=>simp[intOf]
  ·go_wp2_with fail;rcases HK.out with⟨l,rfl⟩|⟨j,v,g,rfl,l,hc⟩
   ·refine(mo c A0 sh.length c0 k _ l).mono ?_;rintro e w4⟨rfl,b⟩;clear l HK;have R3:=M (R2.aj b);clear R2 b a c1 m o p s u x y z E F G H K P Q;obtain⟨a,c1,m,o,p,s,u,x,y,_⟩:=R3.1.cells;obtain⟨z,E,F,G,H,K,P,Q⟩:=R3.cells;go_wp2_with fail;go_ret;exact⟨T,R3.1.2.2.alloc _⟩
   obtain⟨A,h,rfl⟩:∃A h,v=Z A g.length h:=by
    obtain⟨B,d,hv,_⟩:=(HL w (bo _)).2 _ (cZ l);exact⟨B,d,by rw[bV]at hv;exact hv⟩
   have hn:g.length<=9223372036854775807:=by
    obtain⟨B,d,hv,h1,h2,_⟩:=(HL w (bo _)).2 _ (cZ l);have a9:g.length<=d:=by rw[bV]at h1;exact h1
    omega
   have HN:=M hn;have HS:=M hc;have a6:=M l;clear hn hc l HK;refine(jQ c _ sh j ⟨true,Z A g.length h,g⟩ _ (HL _ R2.1.2.2) a6).mono ?_;rintro e w4⟨rfl,b⟩;have R3:=M (R2.aj b);clear R2 b a c1 m o p s u x y z E F G H K P Q;obtain⟨a,c1,m,o,p,s,u,x,y,_⟩:=R3.1.cells;obtain⟨z,E,F,G,H,K,P,Q⟩:=R3.cells;have b:ae w4 (w4.alloc (D #[L true,Z A g.length h] 35)):=(bo _).alloc _;have f0:(w4.alloc (D #[L true,Z A g.length h] 35)).cell? (I w4.heap.size 0)=some (L true):=by simp
   have f1:(w4.alloc (D #[L true,Z A g.length h] 35)).cell? (I w4.heap.size 1)=some (Z A g.length h):=by simp
   have R4:=M (R3.aj b);clear R3 b a c1 m o p s u x y z E F G H K P Q;obtain⟨a,c1,m,o,p,s,u,x,y,_⟩:=R4.1.cells;obtain⟨z,E,F,G,H,K,P,Q⟩:=R4.cells;go_wp2_with fail;generalize w4.alloc _=w5 at *;generalize w4.heap.size=Yq at *;refine(iV true A g.length h n _ HN).mono ?_;rintro e w5⟨rfl,b⟩;have S5:Hid (uf w X c (Z A0 sh.length c0) 2 (j:V) n Yq true (Z A g.length h) w5):=M ⟨R4.aj b,b.aj f0,b.aj f1⟩;clear R4 b f0 f1 a c1 m o p s u x y z E F G H K P Q;obtain⟨f0,f1⟩:=S5.2;rcases HS.out with⟨hS,rfl⟩|⟨hS,hc⟩
   ·have e1:decide (bM true g.length n<0)=true:=fN hS;clear hS;go_wp2_with fail;go_ret;exact⟨T,S5.1.1.2.2⟩
   have e1:decide (bM true g.length n<0)=false:=dT (by omega);have hd:(decide (bM true g.length n>c.ag)=true/\r=7)\/(decide (bM true g.length n>c.ag)=false/\decide (cE true g.length n>c.al)=true/\r=7)\/(decide (bM true g.length n>c.ag)=false/\decide (cE true g.length n>c.al)=false/\r=0):=by
    simp only[aQ,cL];omega
   clear hc hS;rcases hd with⟨e2,rfl⟩|⟨e2,e3,rfl⟩|⟨e2,e3,rfl⟩
   all_goals
    go_wp2_with fail;refine bB (uf w X c (Z A0 sh.length c0) 2 (j:V) n Yq true (Z A g.length h)) (S5.aj ((bo _).drewN 1)) (by kernel_rfl) (by kernel_rfl) ?_;intro S f hS hf a3;clear f0 f1;have a:=λs'=>(hf s').1.1.cells.1;have c1:=λs'=>(hf s').1.1.cells.2.1;have f0:=λs'=>(hf s').2.1;have f1:=λs'=>(hf s').2.2;have HF:=M hf;have a1:=M a3;clear hf a3
    repeat(go_big_quiet_step ((first|(go_at_call 19;exact aN a1 (HF _) (λw' hD q=>hD.aj q) (iV true A g.length h n _ HN))|(go_at_call 20;exact aN a1 (HF _) (λw' hD q=>hD.aj q) (km true A g.length h n _ HN)))))
    refine wpQuiet_nil ?_;rintro w7⟨s7,e7⟩;have D7:=HF s7;rw[<-e7]at D7;clear e7 HF a1 a c1 f0 f1;go_wp2_with fail;go_ret;exact⟨T,D7.1.1.2.2⟩
end
section
theorem jF(c:Cn)(f:Option Addr)(g:N)(sh:List Sh)(k n:V)(w:Y)(r:V)(o:r≠0)(P:dm w w.heap.size (Z f sh.length g) sh)
  (l:∀a,ae w a->C 18 #[hI c (Z f sh.length g),Bb 1 k n] a λe p=>e=O (J r)/\ae a p) :
  C 8 #[hI c (Z f sh.length g),Bb 1 k n] w λe a=>e=O (.tuple #[J 0,J 0])/\ae w a:=by
 have Q:(r==0)=false:=by simpa using o
 have HL:=M (λ(a:Y) (m:ae w a)=>P.pure m);have S:=M l;have i:=M (λ(a:Y) (m:ae w a)=>l a m);clear P l;go_enter func8,ntmps8;go_wp2_with fail;have h:=nN.new w c (Z f sh.length g) 1 k n;generalize(w.alloc _).alloc _=W at h ⊢;generalize w.heap.size=X at h ⊢;have R:=M h;clear h;obtain⟨b,c1,q,s,t,u,v,x,y,_⟩:=R.1.cells;obtain⟨z,A,B,E,F,G,H,K⟩:=R.cells;refine(i _ R.1.2.2).mono ?_;rintro e w1⟨rfl,d⟩;have j:=M (R.aj d);clear R d b c1 q s t u v x y z A B E F G H K;obtain⟨b,c1,q,s,t,u,v,x,y,_⟩:=j.1.cells;obtain⟨z,A,B,E,F,G,H,K⟩:=j.cells;go_wp2_with fail;go_ret2;exact⟨T,j.1.2.2⟩
theorem vc(c:Cn)(K:Option Addr)(Q:N)(sh:List Sh)(k:N)(v:Value)(bs:List Bool)(n:V)(w:Y)(hl:dm w w.heap.size (Z K sh.length Q) sh)(a3:bk c sh=0)(a1:1<=c.ak)(hk:sh[k]?=some ⟨false,v,bs⟩)(hS:0<=bM false bs.length 0)(hF:bM false bs.length 0<=c.ag)(hP:cE false bs.length 0<=c.al):C 8 #[hI c (Z K sh.length Q),Bb 1 k n] w λe h=>e=O (.tuple #[J (bM false bs.length 0),J (cE false bs.length 0)])/\ae w h:=by
 obtain⟨A,g,rfl⟩:∃A g,v=Z A bs.length g:=by
  obtain⟨B,d,hv,_⟩:=hl.2 _ (cZ hk);exact⟨B,d,by rw[bV]at hv;exact hv⟩
 have hn:bs.length<=9223372036854775807:=by
  obtain⟨B,d,hv,h1,h2,_⟩:=hl.2 _ (cZ hk);have a5:bs.length<=d:=by rw[bV]at h1;exact h1
  omega
 have HN:=M hn;clear hn;have HL:=M (λ(h:Y) (hp:ae w h)=>hl.pure hp);have HK:=M hk;have a4:=M (λ(h:Y) (hp:ae w h)=>lI c K Q sh k n 0 h (hl.pure hp) a3 a1 (.inr ⟨k,_,bs,T,hk,.inr ⟨hS,.inr (.inr ⟨hF,hP,T⟩)⟩⟩));clear a3 a1 hS hF hP;clear hl hk;go_enter func8,ntmps8;go_wp2_with fail;have hr:=nN.new w c (Z K sh.length Q) 1 (k:V) n;generalize(w.alloc _).alloc _=W at hr ⊢;generalize w.heap.size=X at hr ⊢;have R:=M hr;clear hr;obtain⟨b,c1,l,m,o,p,r,s,t,_⟩:=R.1.cells;obtain⟨u,x,y,z,E,F,G,H⟩:=R.cells;refine(a4 _ R.1.2.2).mono ?_;rintro e w1⟨rfl,a⟩;have P:=M (R.aj a);clear R a b c1 l m o p r s t u x y z E F G H;obtain⟨b,c1,l,m,o,p,r,s,t,_⟩:=P.1.cells;obtain⟨u,x,y,z,E,F,G,H⟩:=P.cells;go_wp2_with fail;refine(jQ c _ sh k ⟨false,Z A bs.length g,bs⟩ _ (HL _ P.1.2.2) HK).mono ?_;rintro e i⟨rfl,a⟩;have R3:=M (P.aj a);clear P a b c1 l m o p r s t u x y z E F G H;obtain⟨b,c1,l,m,o,p,r,s,t,_⟩:=R3.1.cells;obtain⟨u,x,y,z,E,F,G,H⟩:=R3.cells;have a:ae i (i.alloc (D #[L false,Z A bs.length g] 35)):=(bo _).alloc _;have f0:(i.alloc (D #[L false,Z A bs.length g] 35)).cell? (I i.heap.size 0)=some (L false):=by simp
 have f1:(i.alloc (D #[L false,Z A bs.length g] 35)).cell? (I i.heap.size 1)=some (Z A bs.length g):=by simp
 have R4:=M (R3.aj a);clear R3 a b c1 l m o p r s t u x y z E F G H;obtain⟨b,c1,l,m,o,p,r,s,t,_⟩:=R4.1.cells;obtain⟨u,x,y,z,E,F,G,H⟩:=R4.cells;go_wp2_with fail;generalize i.alloc _=w5 at *;generalize i.heap.size=Yq at *;refine bB (uf w X c (Z K sh.length Q) 1 (k:V) n Yq false (Z A bs.length g)) ⟨R4.aj ((bo _).drewN 1),ae.aj ((bo _).drewN 1) f0,ae.aj ((bo _).drewN 1) f1⟩ (by kernel_rfl) (by kernel_rfl) ?_;intro S f hS hf a2;clear b c1 l m o p r s t u x y z E F G H f0 f1;have f0:=λs'=>(hf s').2.1;have f1:=λs'=>(hf s').2.2;have HF:=M hf;have j:=M a2;clear hf a2
 repeat(go_big_quiet_step ((first|(go_at_call 19;exact aN j (HF _) (λh hD q=>hD.aj q) (iV false A bs.length g 0 _ HN))|(go_at_call 20;exact aN j (HF _) (λh hD q=>hD.aj q) (km false A bs.length g 0 _ HN)))))
 refine wpQuiet_nil ?_;rintro w7⟨s7,e7⟩;have D7:=HF s7;rw[<-e7]at D7;clear e7 HF j f0 f1;go_wp2_with fail;go_ret2;exact⟨T,D7.1.1.2.2⟩
theorem ls(c:Cn)(f:Option Addr)(g:N)(sh:List Sh)(k n:V)(w:Y)(r:V)(o:r≠0)(P:dm w w.heap.size (Z f sh.length g) sh)
  (l:∀a,ae w a->C 18 #[hI c (Z f sh.length g),Bb 2 k n] a λe p=>e=O (J r)/\ae a p) :
  C 8 #[hI c (Z f sh.length g),Bb 2 k n] w λe a=>e=O (.tuple #[J 0,J 0])/\ae w a:=by
 have Q:(r==0)=false:=by simpa using o
 have HL:=M (λ(a:Y) (m:ae w a)=>P.pure m);have S:=M l;have i:=M (λ(a:Y) (m:ae w a)=>l a m);clear P l;go_enter func8,ntmps8;go_wp2_with fail;have h:=nN.new w c (Z f sh.length g) 2 k n;generalize(w.alloc _).alloc _=W at h ⊢;generalize w.heap.size=X at h ⊢;have R:=M h;clear h;obtain⟨b,c1,q,s,t,u,v,x,y,_⟩:=R.1.cells;obtain⟨z,A,B,E,F,G,H,K⟩:=R.cells;refine(i _ R.1.2.2).mono ?_;rintro e w1⟨rfl,d⟩;have j:=M (R.aj d);clear R d b c1 q s t u v x y z A B E F G H K;obtain⟨b,c1,q,s,t,u,v,x,y,_⟩:=j.1.cells;obtain⟨z,A,B,E,F,G,H,K⟩:=j.cells;go_wp2_with fail;go_ret2;exact⟨T,j.1.2.2⟩
theorem vd(c:Cn)(K:Option Addr)(Q:N)(sh:List Sh)(k:N)(v:Value)(bs:List Bool)(n:V)(w:Y)(hl:dm w w.heap.size (Z K sh.length Q) sh)(a3:bk c sh=0)(a1:1<=c.ak)(hk:sh[k]?=some ⟨true,v,bs⟩)(hS:0<=bM true bs.length n)(hF:bM true bs.length n<=c.ag)(hP:cE true bs.length n<=c.al):C 8 #[hI c (Z K sh.length Q),Bb 2 k n] w λe h=>e=O (.tuple #[J (bM true bs.length n),J (cE true bs.length n)])/\ae w h:=by
 obtain⟨A,g,rfl⟩:∃A g,v=Z A bs.length g:=by
  obtain⟨B,d,hv,_⟩:=hl.2 _ (cZ hk);exact⟨B,d,by rw[bV]at hv;exact hv⟩
 have hn:bs.length<=9223372036854775807:=by
  obtain⟨B,d,hv,h1,h2,_⟩:=hl.2 _ (cZ hk);have a5:bs.length<=d:=by rw[bV]at h1;exact h1
  omega
 have HN:=M hn;clear hn;have HL:=M (λ(h:Y) (hp:ae w h)=>hl.pure hp);have HK:=M hk;have a4:=M (λ(h:Y) (hp:ae w h)=>nH c K Q sh k n 0 h (hl.pure hp) a3 a1 (.inr ⟨k,_,bs,T,hk,.inr ⟨hS,.inr (.inr ⟨hF,hP,T⟩)⟩⟩));clear a3 a1 hS hF hP;clear hl hk;go_enter func8,ntmps8;go_wp2_with fail;have hr:=nN.new w c (Z K sh.length Q) 2 (k:V) n;generalize(w.alloc _).alloc _=W at hr ⊢;generalize w.heap.size=X at hr ⊢;have R:=M hr;clear hr;obtain⟨b,c1,l,m,o,p,r,s,t,_⟩:=R.1.cells;obtain⟨u,x,y,z,E,F,G,H⟩:=R.cells;refine(a4 _ R.1.2.2).mono ?_;rintro e w1⟨rfl,a⟩;have P:=M (R.aj a);clear R a b c1 l m o p r s t u x y z E F G H;obtain⟨b,c1,l,m,o,p,r,s,t,_⟩:=P.1.cells;obtain⟨u,x,y,z,E,F,G,H⟩:=P.cells;go_wp2_with fail;refine(jQ c _ sh k ⟨true,Z A bs.length g,bs⟩ _ (HL _ P.1.2.2) HK).mono ?_;rintro e i⟨rfl,a⟩;have R3:=M (P.aj a);clear P a b c1 l m o p r s t u x y z E F G H;obtain⟨b,c1,l,m,o,p,r,s,t,_⟩:=R3.1.cells;obtain⟨u,x,y,z,E,F,G,H⟩:=R3.cells;have a:ae i (i.alloc (D #[L true,Z A bs.length g] 35)):=(bo _).alloc _;have f0:(i.alloc (D #[L true,Z A bs.length g] 35)).cell? (I i.heap.size 0)=some (L true):=by simp
 have f1:(i.alloc (D #[L true,Z A bs.length g] 35)).cell? (I i.heap.size 1)=some (Z A bs.length g):=by simp
 have R4:=M (R3.aj a);clear R3 a b c1 l m o p r s t u x y z E F G H;obtain⟨b,c1,l,m,o,p,r,s,t,_⟩:=R4.1.cells;obtain⟨u,x,y,z,E,F,G,H⟩:=R4.cells;go_wp2_with fail;generalize i.alloc _=w5 at *;generalize i.heap.size=Yq at *;refine bB (uf w X c (Z K sh.length Q) 2 (k:V) n Yq true (Z A bs.length g)) ⟨R4.aj ((bo _).drewN 1),ae.aj ((bo _).drewN 1) f0,ae.aj ((bo _).drewN 1) f1⟩ (by kernel_rfl) (by kernel_rfl) ?_;intro S f hS hf a2;clear b c1 l m o p r s t u x y z E F G H f0 f1;have f0:=λs'=>(hf s').2.1;have f1:=λs'=>(hf s').2.2;have HF:=M hf;have j:=M a2;clear hf a2
 repeat(go_big_quiet_step ((first|(go_at_call 19;exact aN j (HF _) (λh hD q=>hD.aj q) (iV true A bs.length g n _ HN))|(go_at_call 20;exact aN j (HF _) (λh hD q=>hD.aj q) (km true A bs.length g n _ HN)))))
 refine wpQuiet_nil ?_;rintro w7⟨s7,e7⟩;have D7:=HF s7;rw[<-e7]at D7;clear e7 HF j f0 f1;go_wp2_with fail;go_ret2;exact⟨T,D7.1.1.2.2⟩
