/- Part 9 of the proof of spotop.TopChurn. -/
import Derived.Test.YtpgdiceeimehiaaGreatR05
set_option maxRecDepth 100000
set_option maxHeartbeats 16000000
set_option linter.all false
open Go.Proofs.Tryz
namespace Go.Proofs.YtpgdiceeimehiaaGreat
open RowKit
namespace Ha
structure At(w:Y)(b g:N)(st:V)(se:Bool)(l:List Int):Prop where
 me:∃c:V,w.heap[b]?=some (D #[J st,L se,Z (some (I g 0)) l.length l.length,J c] 173 (0,0))
 cI:w.heap[g]?=some (D (bI l).toArray 3 (0,0))
 eT:l.length<=16
section
variable{w w':Y}{b g:N}{st:V}{se:Bool}{l:List Int}
theorem At.cs(h:At w b g st se l):w.cell? (I b 0)=some (J st)/\w.cell? (I b 1)=some (L se)/\w.cell? (I b 2)=some (Z (some (I g 0)) l.length l.length)/\∃c:V,w.cell? (I b 3)=some (J c):=by
 obtain⟨c,a⟩:=h.me;refine⟨?_,?_,?_,c,?_⟩<;>(rw[bK a];rfl)
theorem At.fb(h:At w b g st se l)(k:N):w.frozen? (I b k)=false:=by
 obtain⟨c,a⟩:=h.me;exact ey k a
theorem At.fg(h:At w b g st se l)(k:N):w.frozen? (I g k)=false:=ey k h.cI
theorem At.ne(h:At w b g st se l):b≠g:=by
 rintro rfl;obtain⟨c,a⟩:=h.me;have:=a.symm.trans h.cI;simp at this
theorem At.lb(h:At w b g st se l):b<w.heap.size:=by
 obtain⟨c,a⟩:=h.me;exact(bR.1 a).1
theorem At.lg(h:At w b g st se l):g<w.heap.size:=(bR.1 h.cI).1
theorem At.MC{S:N->Prop}(h:At w b g st se l)(a:ac S w w')(d:¬S b)(f:¬S g):At w' b g st se l:=by
 obtain⟨c,e⟩:=h.me;exact⟨⟨c,(a.block b h.lb d).trans e⟩,(a.block g h.lg f).trans h.cI,h.eT⟩
theorem At.one(h:At w b g st se l){j:N}{z:V}(a:l[j]?=some z):w.cell? (I g j)=some (J z):=by
 rw[bK h.cI];simp[bI,a]
theorem At.count(h:At w b g st se l)(v:V):At (w.setCell (I b 3) (J v)) b g st se l:=by
 obtain⟨c,a⟩:=h.me;exact⟨⟨v,by simp[World.setCell,gV,a]⟩,by simp only[World.setCell,gV,h.cI,aa h.ne],h.eT⟩
theorem At.post(h:At w b g st se l)(v:V):At (w.setCell (I b 0) (J v)) b g v se l:=by
 obtain⟨c,a⟩:=h.me;exact⟨⟨c,by simp[World.setCell,gV,a]⟩,by simp only[World.setCell,gV,h.cI,aa h.ne],h.eT⟩
theorem At.flip(h:At w b g st se l)(v:Bool):At (w.setCell (I b 1) (L v)) b g st v l:=by
 obtain⟨c,a⟩:=h.me;exact⟨⟨c,by simp[World.setCell,gV,a]⟩,by simp only[World.setCell,gV,h.cI,aa h.ne],h.eT⟩
theorem At.put(h:At w b g st se l)(j:N)(z:V):At (w.setCell (I g j) (J z)) b g st se (l.set j z):=by
 obtain⟨c,a⟩:=h.me;refine⟨⟨c,?_⟩,?_,by simpa using h.eT⟩
 ·simp only[World.setCell,gV,a,aa (bC h.ne),iC]
 ·simp only[World.setCell,gV,h.cI,bP,<-ints_set];simp
end
def S(b g:N)(k:N):Prop:=k=b\/k=g
theorem io{b g:N}{a w:Y}(h:ac (S b g) a w)(i:N)(u:Value):ac (S b g) a (w.setCell (I b i) u):=h.setCell (p:=⟨b,i,none⟩) (λ_=>.inl T) u
theorem yB{b g:N}{a w:Y}(h:ac (S b g) a w)(i:N)(u:Value):ac (S b g) a (w.setCell (I g i) u):=h.setCell (p:=⟨g,i,none⟩) (λ_=>.inr T) u
theorem ky(b g:N)(st:V)(se:Bool)(l:List Int)(j:N)(z:V)(w:Y)(h:At w b g st se l)(a:l[j]?=some z):C 221 #[I b 0,J j] w λe d=>e=O (J z)/\w=d:=by
 obtain⟨f,c1,i,-⟩:=h.cs;have k:=h.one a;have c:j<l.length:=(dH.1 a).1;have m:decide ((j:V)<0)=false:=by simp
 have n:(j:V)<(l.length:V):=by omega
 have o:decide ((j:V)>=(l.length:V))=false:=by simp;omega
 have p:decide (l.length<=j)=false:=by simp;omega
 go_enter func221,ntmps221;go_wp2_with fail;go_ret;exact⟨T,T⟩
theorem tJ(s:V)(w:Y)(a:0<=s)(b:s<=4):C 146 #[J s] w λe c=>e=O (L true)/\w=c:=by
 have d:decide (s>=0)=true:=by simpa using a
 have f:decide (s<=4)=true:=by simpa using b
 go_enter func146,ntmps146;go_wp2_with fail;go_ret;exact⟨T,T⟩
theorem Dp(b g:N)(st:V)(se:Bool)(l:List Int)(w:Y)(h:At w b g st se l):C 172 #[I b 0] w λe d=>e=O (.tuple #[J st,L se])/\ac (S b g) w d/\At d b g st se l:=by
 obtain⟨-,-,-,c,k⟩:=h.cs;have m:=h.fb;have a:=M (h.count (wrap64 (c+1)));have i:=M (io (ac.refl (S b g) w) 3 (J (wrap64 (c+1))));go_enter func172,ntmps172;go_upto_region 2 with fail;generalize w.setCell _ _=n at *;obtain⟨j,c1,-,-⟩:=a.cs;go_wp2_with fail;go_quiet (fail);go_wp2_with fail;go_ret2;exact⟨T,i.drewN _,a.MC ((ck _).drewN _) (λf=>f) (λf=>f)⟩
theorem DY(b g:N)(st:V)(se:Bool)(l:List Int)(s:V)(f:Bool)(w:Y)(h:At w b g st se l)(o:0<=s)(p:s<=4):C 94 #[I b 0,J s,L f] w λe i=>e=O (L true)/\ac (S b g) w i/\At i b g s (se !=f) l:=by
 obtain⟨-,-,-,c,t⟩:=h.cs;have u:=h.fb;have a:=M (h.count (wrap64 (c+1)));have j:=M (io (ac.refl (S b g) w) 3 (J (wrap64 (c+1))));go_enter func94,ntmps94;go_wp2_with fail;generalize w.setCell _ _=q at *;refine(tJ s q o p).mono ?_;rintro e v⟨rfl,rfl⟩;have d:=M (a.post s);have k:=M (io j 0 (J s));obtain⟨r,-,-,-⟩:=a.cs;obtain⟨-,c1,-,-⟩:=d.cs;have m:=a.fb;have n:=d.fb;go_wp2_with fail;go_ret;exact⟨T,io k 1 _,d.flip _⟩
theorem Ah(b g:N)(st:V)(se:Bool)(l:List Int)(j:N)(z s:V)(w:Y)(h:At w b g st se l)(d:l[j]?=some z)(hz:z≠-1)(m:0<=s)(n:s<=4):C 173 #[I b 0,J j,J s] w λe f=>e=O (L true)/\ac (S b g) w f/\At f b g st se (l.set j s):=by
 obtain⟨-,-,-,c,t⟩:=h.cs;have v:=h.fb;have o:j<l.length:=(dH.1 d).1;have y:(j:V)<(l.length:V):=by omega
 have p:(z==-1)=false:=by simpa using hz
 have a:=M (h.count (wrap64 (c+1)));have k:=M (io (ac.refl (S b g) w) 3 (J (wrap64 (c+1))));go_enter func173,ntmps173;go_wp2_with fail;generalize w.setCell _ _=i at *;refine(ky b g st se l j z i a d).mono ?_;rintro e q⟨rfl,rfl⟩;go_wp2_with fail;refine(tJ s i m n).mono ?_;rintro e q⟨rfl,rfl⟩;obtain⟨-,-,r,-⟩:=a.cs;have u:=a.one d;have x:=a.fg;go_wp2_with fail;go_ret;exact⟨T,yB k _ _,a.put j s⟩
theorem GF(b g:N)(st:V)(se:Bool)(l:List Int)(j:N)(z:V)(w:Y)(h:At w b g st se l)(k:l[j]?=some z):C 147 #[I b 0,J j] w λe m=>e=O (L (z==-1||z==st))/\ac (S b g) w m/\At m b g st se l:=by
 obtain⟨-,-,-,c,p⟩:=h.cs;have q:=h.fb;have a:=M (h.count (wrap64 (c+1)));have i:=M (io (ac.refl (S b g) w) 3 (J (wrap64 (c+1))));by_cases hz:z=-1
 ·subst hz;go_enter func147,ntmps147;go_wp2_with fail;generalize w.setCell _ _=f at *;refine(ky b g st se l j _ f a k).mono ?_;rintro e n⟨rfl,rfl⟩;go_wp2_with fail;go_ret;exact⟨T,i,a⟩
 ·have d:(z==-1)=false:=by simpa using hz
  go_enter func147,ntmps147;go_wp2_with fail;generalize w.setCell _ _=f at *;refine(ky b g st se l j _ f a k).mono ?_;rintro e n⟨rfl,rfl⟩;obtain⟨o,-,-,-⟩:=a.cs;go_wp2_with fail;go_ret;exact⟨by rw[d];rfl,i,a⟩
theorem FY(b g:N)(st:V)(se:Bool)(l:List Int)(j:N)(w:Y)(h:At w b g st se l)(i:l[j]?=some (-1)):C 66 #[I b 0,J j] w λe k=>e=O (.tuple #[J st,L se,L true])/\ac (S b g) w k/\At k b g st se (l.set j st):=by
 obtain⟨-,-,-,c,q⟩:=h.cs;have s:=h.fb;have u:j<l.length:=(dH.1 i).1;have z:decide ((j:V)<0)=false:=by simp
 have A:(j:V)<(l.length:V):=by omega
 have B:decide ((j:V)>=(l.length:V))=false:=by simp;omega
 have E:decide (l.length<=j)=false:=by simp;omega
 have a:=M (h.count (wrap64 (c+1)));have m:=M (io (ac.refl (S b g) w) 3 (J (wrap64 (c+1))));go_enter func66,ntmps66;go_upto_region 2 with fail;generalize w.setCell _ _=v at *;obtain⟨o,c1,p,-⟩:=a.cs;have r:=a.one i;have t:=a.fg;go_wp2_with fail;go_region;have d:=M (a.put j st);have n:=M (yB m j (J st));generalize v.setCell _ _=F at *;obtain⟨x,y,-,-⟩:=d.cs;clear o c1 p r t q s;go_wp2_with fail;go_quiet (fail);go_wp2_with fail;go_ret3;exact⟨T,(n.drewN 1).drewN _,d.MC (((ck _).drewN 1).drewN _) (λf=>f) (λf=>f)⟩
theorem Dj(b g:N)(st:V)(se:Bool)(l:List Int)(j:N)(z:V)(w:Y)(h:At w b g st se l)(d:l[j]?=some z)(hz:z≠-1):C 176 #[I b 0,J j] w λe f=>e=O (L true)/\ac (S b g) w f/\At f b g st se (l.set j (-1)):=by
 obtain⟨-,-,-,c,p⟩:=h.cs;have r:=h.fb;have k:j<l.length:=(dH.1 d).1;have t:(j:V)<(l.length:V):=by omega
 have m:(z==-1)=false:=by simpa using hz
 have a:=M (h.count (wrap64 (c+1)));have i:=M (io (ac.refl (S b g) w) 3 (J (wrap64 (c+1))));go_enter func176,ntmps176;go_wp2_with fail;generalize w.setCell _ _=n at *;refine(ky b g st se l j z n a d).mono ?_;rintro e u⟨rfl,rfl⟩;obtain⟨-,-,o,-⟩:=a.cs;have q:=a.one d;have s:=a.fg;go_wp2_with fail;go_ret;exact⟨T,yB i _ _,a.put j (-1)⟩
theorem eu:(prog.info? 3).map (λi=>(i.zero,i.size,i.bytes))=some (some (J 0),1,8):=by kernel_rfl
theorem Dv(m:N)(j:m<=1000000)(w:Y):(Instr.makeSlice 25 (J m) (J m)).run prog w=.ok (Z (some (I w.heap.size 0)) m m) (w.alloc (D (bI (List.replicate m 0)).toArray 3)):=by
 obtain⟨f,a,b,c,d⟩:=aR eu;rw[run_make w 25 3 f _ underlying25 a b .i64 .i64 m m (by omega) (by omega) (by rw[d];omega) (by omega)];have e:madeCells (J 0).cells ((m:V).toNat*f.size)=(bI (List.replicate m 0)).toArray:=by
  rw[c,iY,ei];apply Array.ext
  ·simp[bI,fc]
  ·intro i g h;simp[madeCells,bI,Value.cells,Nat.mod_one]
 rw[e];simp
theorem gS(m:N)(w:Y)(y:1<=m)(A:m<=16):C 49 #[J m] w λe l=>e=O (.tuple #[I (w.heap.size+1) 0,J 0])/\ae w l/\l.heap.size=w.heap.size+2/\At l (w.heap.size+1) w.heap.size 0 false (List.replicate m (-1)):=by
 have B:=λw=>Dv m (by omega) w;have G:decide ((m:V)<1)=false:=by simp;omega
 have y:decide ((16:V)<(m:V))=false:=by simp;omega
 have r:=ai w (D (bI (List.replicate m 0)).toArray 3);have d:=(ck w).alloc (D (bI (List.replicate m 0)).toArray 3);have hz:(w.alloc (D (bI (List.replicate m 0)).toArray 3)).heap.size=w.heap.size+1:=by simp
 have a:=ai (w.alloc (D (bI (List.replicate m 0)).toArray 3)) (D #[J 0,L false,Z (some (I w.heap.size 0)) m m,J 0] 173);rw[hz]at a;have f:=ae.MD d ((ck _).alloc (D #[J 0,L false,Z (some (I w.heap.size 0)) m m,J 0] 173));have c:=ae.bF ((ck _).alloc (D #[J 0,L false,Z (some (I w.heap.size 0)) m m,J 0] 173)) r;have g:((w.alloc (D (bI (List.replicate m 0)).toArray 3)).alloc (D #[J 0,L false,Z (some (I w.heap.size 0)) m m,J 0] 173)).heap.size=w.heap.size+2:=by simp
 have n:Hid (At ((w.alloc (D (bI (List.replicate m 0)).toArray 3)).alloc (D #[J 0,L false,Z (some (I w.heap.size 0)) m m,J 0] 173)) (w.heap.size+1) w.heap.size 0 false (List.replicate m 0)):=M ⟨⟨0,by simpa using a⟩,c,by simpa using A⟩;obtain⟨-,-,k,-⟩:=n.cs;rw[lm]at k;have HP:=M f;have x:=M g;clear r d hz a c f g;go_enter func49,ntmps49;go_wp2_with fail;generalize(w.alloc _).alloc _=W at *;clear k;go_loopw [21] (λi wr=>∃q:N,i=J q/\q<=m/\ae w wr/\wr.heap.size=w.heap.size+2/\At wr (w.heap.size+1) w.heap.size 0 false (List.replicate q (-1)++List.replicate (m-q) 0)) (λi _=>(m-(intOf i).toNat))
 case atStart=>exact⟨0,T,by omega,HP,x,by simpa using n.out⟩
 case round =>
  obtain⟨q,rfl,H,d,hz,b⟩:=hrel;have s:(List.replicate q (-1:V)++List.replicate (m-q) 0).length=m:=by simp;omega
  have P:=M d;have o:=M hz;have j:=M b;obtain⟨-,-,k,-⟩:=b.cs;rw[s]at k;clear d hz b;by_cases z:q<m
  ·have u:(List.replicate q (-1:V)++List.replicate (m-q) 0)[q]?=some 0:=by
    rw[oc (by simp),lm,fj,dI,af (by omega)]
   have E:=j.one u;have F:=j.fg;have K:(q:V)<(m:V):=by omega
   have t:(List.replicate q (-1:V)++List.replicate (m-q) 0).set q (-1)=List.replicate (q+1) (-1)++List.replicate (m-(q+1)) 0:=by
    rw[cX _ _ (by simp),lm,fj,show m-q=(m-(q+1))+1 from by omega,fy,dv,List.replicate_succ'];simp
   have v:=M t;clear u t s;go_wp2_with fail;go_roundw
   case rel=>exact⟨q+1,by go_num,by omega,ac.setCell P (p:=⟨w.heap.size,q,none⟩) (λh=>absurd h (Nat.lt_irrefl _)) _,by have:=o.out;simpa[World.setCell]using this,by have:=j.put q (-1);rwa [v.out]at this⟩
   case measure=>simp[intOf];omega
  ·obtain rfl:q=m:=by omega
   go_wp2_with fail;go_ret2;exact⟨T,P,o,by simpa using j.out⟩
