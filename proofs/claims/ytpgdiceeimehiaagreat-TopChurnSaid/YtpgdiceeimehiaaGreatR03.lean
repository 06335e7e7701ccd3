/- Part 3 of the proof of spotop.TopChurn. -/
import Derived.Test.YtpgdiceeimehiaaGreatR01
set_option maxRecDepth 100000
set_option maxHeartbeats 16000000
set_option linter.all false
open Go.Proofs.Tryz
namespace Go.Proofs.YtpgdiceeimehiaaGreat
open RowKit
section
open Ieee
def Ke(b:N)(s:Bool)(a:N)(q:V):Prop:=∃k:N,Ieee.double.read b=.number s (a*2 ^ k) (q-k)
theorem pS(s:Bool)(a k:N)(w:Toward):Toward.cut w s (a*2 ^ k) k=a:=by
 have d:0<2 ^ k:=er k;unfold Toward.cut;rcases kc a with rfl|c
 ·simp only[fT,Nat.zero_div,Nat.zero_mod];have g:0<1 <<< min k (Nat.log2 0+2):=by rw[dW];have:=er (min k (Nat.log2 0+2));omega
  have e:¬(1 <<< min k (Nat.log2 0+2)=0):=by omega
  cases w<;>simp
 ·have b:a*2 ^ k≠0:=by have:=Nat.mul_pos c d;omega
  have h:k<=(a*2 ^ k).log2:=by
   rw[Nat.le_log2 b];exact Nat.le_mul_of_pos_left _ c
  have f:min k ((a*2 ^ k).log2+2)=k:=by omega
  simp only[f,dW,Nat.one_mul,Nat.mul_div_cancel _ d,Nat.mul_mod_left];have e:¬(2 ^ k=0):=by omega
  cases w<;>simp
theorem yp(a j:N)(e:0<a):(a*2 ^ j).log2=a.log2+j:=by
 have b:a*2 ^ j≠0:=by have:=Nat.mul_pos e (er j);omega
 rw[Nat.log2_eq_iff b];have c:=Nat.log2_self_le (n:=a) (by omega);have d:=Nat.lt_log2_self (n:=a);constructor
 ·rw[Nat.pow_add];exact Nat.mul_le_mul_right _ c
 ·rw[show a.log2+j+1=(a.log2+1)+j from by omega,Nat.pow_add];exact Nat.mul_lt_mul_of_pos_right d (er j)
theorem pY(a:N)(b:0<a)(h:a<2 ^ 53):a.log2<=52:=by
 have:=(Nat.log2_lt (n:=a) (k:=53) (by omega)).2 h;omega
def gD(a:N):N:=a*2 ^ (52-a.log2)
theorem tT(a:N)(d:0<a)(h:a<2 ^ 53):2 ^ 52<=gD a/\gD a<2 ^ 53:=by
 have e:=pY a d h;have b:=Nat.log2_self_le (n:=a) (by omega);have c:=Nat.lt_log2_self (n:=a);unfold gD;constructor
 ·calc 2 ^ 52=2 ^ a.log2*2 ^ (52-a.log2):=by rw[<-Nat.pow_add];congr 1;omega
   _<=a*2 ^ (52-a.log2):=Nat.mul_le_mul_right _ b
 ·calc a*2 ^ (52-a.log2)<2 ^ (a.log2+1)*2 ^ (52-a.log2):=Nat.mul_lt_mul_of_pos_right c (er _)
   _=2 ^ 53:=by rw[<-Nat.pow_add];congr 1;omega
def lu(a:N)(q:V):N:=(q-(52-a.log2:N)+1074).toNat*2 ^ 52+gD a
theorem mj(s:Bool)(a j:N)(q:V)(f:0<a)(h:a<2 ^ 53)(r:-1000<=q)(t:q<=900):Ieee.double.nearest s (a*2 ^ j) (q-j)=Ieee.double.word s (lu a q):=by
 have y:=pY a f h;have v:=tT a f h;have o:a*2 ^ j≠0:=by have:=Nat.mul_pos f (er j);omega
 have n:Ieee.double.leastPlace=-1074:=by decide
 have l:(Ieee.double.fractionBits:V)=52:=by decide
 have d:Ieee.double.binade=2 ^ 52:=by decide
 have e:Ieee.double.infRung=2047*2 ^ 52:=by decide
 unfold Format.nearest;rw[aa o];simp only[n,l,d,e,yp a j f];have c:max (q-(j:V)+((a.log2+j:N):V)-52) (-1074)=q-(52-a.log2:N):=by omega
 rw[c];have b:Toward.cut .even s ((a*2 ^ j) <<< ((q-(j:V))-(q-(52-a.log2:N))).toNat) ((q-(52-a.log2:N))-(q-(j:V))).toNat=gD a:=by
  by_cases x:j<=52-a.log2
  ·have g:((q-(j:V))-(q-(52-a.log2:N))).toNat=52-a.log2-j:=by omega
   have i:((q-(52-a.log2:N))-(q-(j:V))).toNat=0:=by omega
   rw[g,i,dW,Nat.mul_assoc,<-Nat.pow_add,show j+(52-a.log2-j)=52-a.log2 from by omega];have:=pS s (a*2 ^ (52-a.log2)) 0 .even;rw[Nat.pow_zero,ei]at this;exact this
  ·have g:((q-(j:V))-(q-(52-a.log2:N))).toNat=0:=by omega
   have i:((q-(52-a.log2:N))-(q-(j:V))).toNat=j-(52-a.log2):=by omega
   rw[g,i,dW,Nat.pow_zero,ei];have p:a*2 ^ j=gD a*2 ^ (j-(52-a.log2)):=by
    unfold gD;rw[Nat.mul_assoc,<-Nat.pow_add];congr 2;omega
   rw[p];exact pS s _ _ .even
 rw[b];have u:(q-(52-a.log2:N)-(-1074)).toNat*2 ^ 52+gD a=lu a q:=by
  unfold lu;rw[show q-((52-a.log2:N):V)-(-1074)=q-((52-a.log2:N):V)+1074 from by omega]
 rw[u];have m:lu a q<=2047*2 ^ 52:=by
  unfold lu;have k:(q-(52-a.log2:N)+1074).toNat<=1974:=by omega
  generalize(q-((52-a.log2:N):V)+1074).toNat=w at *;have:=v.2;omega
 rw[eL m]
theorem Bl(s:Bool)(a:N)(q:V)(m:0<a)(h:a<2 ^ 53)(u:-1000<=q)(v:q<=900):Ieee.double.read (Ieee.double.word s (lu a q))=.number s (gD a) (q-(52-a.log2:N)):=by
 have w:=pY a m h;have x:=tT a m h;have l:Ieee.double.leastPlace=-1074:=by decide
 have f:Ieee.double.binade=2 ^ 52:=by decide
 have g:Ieee.double.infRung=2047*2 ^ 52:=by decide
 have e:Ieee.double.signWeight=2 ^ 63:=by decide
 have k:(q-(52-a.log2:N)+1074).toNat<=1974:=by omega
 obtain⟨b,d⟩:∃b,b=(q-(52-a.log2:N)+1074).toNat:=⟨_,T⟩;have n:lu a q=b*2 ^ 52+gD a:=by unfold lu;rw[d]
 have c:b*2 ^ 52+gD a<2 ^ 63:=by
  rw[<-d]at k;have:=Nat.mul_le_mul_right (2 ^ 52) k;omega
 have r:(b*2 ^ 52+gD a)/2 ^ 52=b+1:=by
  rw[Nat.mul_comm,Nat.mul_add_div (by decide)];congr 1;omega
 have t:(b*2 ^ 52+gD a)%2 ^ 52=gD a-2 ^ 52:=by
  rw[Nat.mul_comm,Nat.mul_add_mod];omega
 have j:((Ieee.double.word s (lu a q))/2 ^ 63%2==1)=s:=by
  unfold Format.word;rw[e,n];cases s
  ·have:(b*2 ^ 52+gD a)/2 ^ 63=0:=Nat.div_eq_of_lt c;simp[this]
  ·have:(2 ^ 63+(b*2 ^ 52+gD a))/2 ^ 63=1:=by omega
   simp[this]
 have i:(Ieee.double.word s (lu a q))%2 ^ 63=b*2 ^ 52+gD a:=by
  unfold Format.word;rw[e,n];cases s
  ·exact Nat.mod_eq_of_lt c
  ·simp only[bP];omega
 unfold Format.read;dsimp only;rw[e,f,g,l,j,i,r,t];rw[aa (by omega),af (by rw[<-d]at k;have:=Nat.mul_le_mul_right (2 ^ 52) k;omega)];have o:2 ^ 52+(gD a-2 ^ 52)=gD a:=by omega
 have p:(-1074:V)+((b+1-1:N):V)=q-(52-a.log2:N):=by omega
 rw[o,p]
theorem wZ(s:Bool)(a j:N)(q:V)(h:a<2 ^ 53)(b:-1000<=q)(c:q<=900):Ke (Ieee.double.nearest s (a*2 ^ j) (q-j)) s a q:=by
 rcases kc a with rfl|d
 ·refine⟨(q+1074).toNat,?_⟩;have e:q-((q+1074).toNat:V)=-1074:=by omega
  rw[e,fT,fT];have f:Ieee.double.nearest s 0 (q-j)=Ieee.double.word s 0:=by
   unfold Format.nearest;rw[af rfl]
  rw[f];cases s<;>decide
 ·exact⟨52-a.log2,by rw[mj s a j q d h b c,Bl s a q d h b c];rfl⟩
theorem tl(s:Bool)(a j:N)(q:V)(h:a<2 ^ 53)(b:-1000<=q)(c:q<=900):Ieee.double.nearest s (a*2 ^ j) (q-j)=Ieee.double.nearest s a q:=by
 rcases kc a with rfl|e
 ·unfold Format.nearest;rw[af (by simp),af rfl]
 ·have d:=mj s a 0 q e h b c;rw[Nat.pow_zero,ei,show q-((0:N):V)=q from by omega]at d;rw[mj s a j q e h b c,d]
theorem Eg(s:Bool)(a:N)(q:V)(h:a<2 ^ 53)(b:-1000<=q)(c:q<=900):Ke (Ieee.double.nearest s a q) s a q:=by
 rw[<-tl s a 0 q h b c];exact wZ s a 0 q h b c
def sv(s:Bool)(a:N):V:=if s then -(a:V)else a
theorem Bu(s:Bool)(a:N):(sv s a).natAbs=a:=by unfold sv;split<;>omega
theorem pE(s:Bool)(a k m:N)(h:k<=m):signed s (a*2 ^ k) (m-k)=sv s a*(2 ^ m:N):=by
 unfold signed sv;have e:(a*2 ^ k) <<< (m-k)=a*2 ^ m:=by
  rw[dW,Nat.mul_assoc,<-Nat.pow_add];congr 2;omega
 rw[e];cases s
 ·simp
 ·simp[Int.neg_mul]
theorem Bf{x y:N}{s t:Bool}{a b:N}{q:V}(m:Ke x s a q)(n:Ke y t b q):Ieee.double.order x y=some (compare (sv s a) (sv t b)):=by
 obtain⟨k,g⟩:=m;obtain⟨l,i⟩:=n;have j:0<((2 ^ max k l:N):V):=by have:=er (max k l);omega
 have c:min (q-(k:V)) (q-(l:V))=q-(max k l:N):=by omega
 have e:((q-(k:V))-(q-(max k l:N))).toNat=max k l-k:=by omega
 have f:((q-(l:V))-(q-(max k l:N))).toNat=max k l-l:=by omega
 unfold Format.order;rw[g,i];simp only[Datum.order,c,e,f];rw[pE s a k _ (by omega),pE t b l _ (by omega)];congr 1;simp only[compare,compareOfLessAndEq];have c1:(sv s a*((2 ^ max k l:N):V)<sv t b*((2 ^ max k l:N):V))=(sv s a<sv t b):=by
  rw[eq_iff_iff];exact⟨λh=>Int.lt_of_mul_lt_mul_right h (by omega),λh=>Int.mul_lt_mul_of_pos_right h j⟩
 have d:(sv s a*((2 ^ max k l:N):V)=sv t b*((2 ^ max k l:N):V))=(sv s a=sv t b):=by
  rw[eq_iff_iff];exact⟨λh=>Int.eq_of_mul_eq_mul_right (by omega) h,λh=>by rw[h]⟩
 simp only[c1,d]
def Hc(b:N)(n:V):Prop:=∃s a,Ke b s a 0/\sv s a=n
theorem JK(n:V):sv (decide (n<0)) n.natAbs=n:=by
 unfold sv;by_cases h:n<0<;>simp[h]<;>omega
theorem uF(n:V)(h:n.natAbs<9007199254740992):Hc (floatOfInt .f64 n) n:=⟨decide (n<0),n.natAbs,Eg _ _ 0 (by simpa using h) (by omega) (by omega),JK n⟩
theorem pV{x y:N}{m n:V}(e:Hc x m)(f:Hc y n):FloatKind.f64.format.order x y=some (compare m n):=by
 obtain⟨s,a,c,rfl⟩:=e;obtain⟨t,b,d,rfl⟩:=f;exact Bf c d
theorem AN{x:N}{n:V}(h:Hc x n)(d:-9223372036854775808<=n)(f:n<=9223372036854775807):floatToIntVal .f64 x .i64=some n:=by
 obtain⟨s,a,⟨k,g⟩,rfl⟩:=h;have e:(FloatKind.f64.decode x).toInt .zero=some (sv s a):=by
  show(Ieee.double.read x).toInt .zero=_;rw[g];unfold Datum.toInt Datum.integral;have b:(0-(k:V)).toNat=0:=by omega
  have c:(-(0-(k:V))).toNat=k:=by omega
  simp only[b,c,dW,Nat.pow_zero,ei,pS];unfold signed sv;simp
 unfold floatToIntVal;rw[e];simp[IntKind.min,IntKind.max,IntKind.signed,IntKind.bits,d,f]
end
section
def il(b:N):N:=if FloatKind.f64.format.order b b=some .eq then b else 9221120237041090560
def jk(a b c d:N):Bool:=il a==il c&&il b==il d
theorem AM{x:N}{n:V}(h:Hc x n):il x=x:=by
 unfold il;rw[af];rw[pV h h];simp[compare,compareOfLessAndEq]
theorem Cr(b:N)(w:Y):(callFunc 305 #[.float .f64 b]).run prog w=.ok (.value (.int .u64 (b:V))) w:=by kernel_rfl
theorem wR(b:N)(w:Y):C 275 #[.float .f64 b] w λe c=>e=O (.int .u64 (il b))/\w=c:=by
 by_cases h:FloatKind.f64.format.order b b=some .eq
 ·have a:(FloatKind.f64.format.order b b !=some .eq)=false:=by rw[h];rfl
  have d:=Cr b;have e:il b=b:=by rw[il,af h]
  clear h;go_enter func275,ntmps275;go_wp2;go_ret;exact⟨by rw[e];rfl,T⟩
 ·have a:(FloatKind.f64.format.order b b !=some .eq)=true:=by rw[bne_iff_ne];exact h
  have e:il b=9221120237041090560:=by rw[il,aa h]
  clear h;go_enter func275,ntmps275;go_wp2;go_ret;exact⟨by rw[e];rfl,T⟩
theorem vN(a b:N)(w:Y):C 222 #[U a b] w λe c=>e=O (.tuple #[.int .u64 (il a),.int .u64 (il b)])/\w=c:=by
 go_enter func222,ntmps222;go_wp2_with fail;refine(wR a w).mono ?_;rintro e d⟨rfl,rfl⟩;go_wp2_with fail;refine(wR b w).mono ?_;rintro e d⟨rfl,rfl⟩;go_wp2;go_ret2;exact⟨T,T⟩
theorem kO(a b c d:N)(w:Y):C 152 #[U a b,U c d] w λe j=>e=O (L (jk a b c d))/\w=j:=by
 have i:jk a b c d=(((il a:V)==(il c:V))&&((il b:V)==(il d:V))):=by
  unfold jk;have e:∀x y:N,(x==y)=((x:V)==(y:V)):=by
   intro x y;rw[Bool.eq_iff_iff,beq_iff_eq,beq_iff_eq];exact⟨λh=>by rw[h],λh=>by omega⟩
  rw[e,e]
 have f:=M i;clear i;go_enter func152,ntmps152;go_wp2_with fail;refine(vN a b w).mono ?_;rintro e k⟨rfl,rfl⟩;go_wp2_with fail;refine(vN c d w).mono ?_;rintro e k⟨rfl,rfl⟩;generalize il a=p at *;generalize il b=q at *;generalize il c=r at *;generalize il d=s at *;cases g:((p:V)==(r:V))
 ·go_wp2;go_ret;exact⟨eH (by rw[f.out,g];rfl),T⟩
 ·go_wp2;go_ret;exact⟨eH (by rw[f.out,g];rfl),T⟩
theorem fm(n:V)(w:Y)(b:-9007199254740992<=n)(c:n<=9007199254740992):C 195 #[J n] w λe a=>e=O (U (floatOfInt .f64 n) 0)/\w=a:=by
 go_enter func195,ntmps195;go_wp2;go_ret;exact⟨T,T⟩
theorem FV(x y:N)(n:V)(w:Y)(j:(FloatKind.f64.format.order x 14069245235905429504==some .gt||FloatKind.f64.format.order x 14069245235905429504==some .eq)=true)
  (k:(FloatKind.f64.format.order x 4845873199050653696==some .lt||FloatKind.f64.format.order x 4845873199050653696==some .eq)=true)
  (f:floatToIntVal .f64 x .i64=some n) (c:-9007199254740992<=n) (d:n<=9007199254740992) :
  C 151 #[U x y] w λe i=>(jk x y (floatOfInt .f64 n) 0=true->e=O (.tuple #[J n,L true]))/\(jk x y (floatOfInt .f64 n) 0=false->e=O (.tuple #[J 0,L false]))/\w=i:=by
 have a:=λw:Y=>run_convert_float_int (P:=prog) w 221 3 .f64 .i64 x n (by kernel_rfl) underlying3 f;clear f;cases g:jk x y (floatOfInt .f64 n) 0
 ·go_enter func151,ntmps151;go_wp2_with fail;refine(fm n w c d).mono ?_;rintro e b⟨rfl,rfl⟩;go_wp2_with fail;refine(kO x y _ _ w).mono ?_;rintro e b⟨rfl,rfl⟩;rw[g];go_wp2;go_ret2;exact⟨(λh=>by cases h),(λ_=>rfl),rfl⟩
 ·go_enter func151,ntmps151;go_wp2_with fail;refine(fm n w c d).mono ?_;rintro e b⟨rfl,rfl⟩;go_wp2_with fail;refine(kO x y _ _ w).mono ?_;rintro e b⟨rfl,rfl⟩;rw[g];go_wp2;go_ret2;exact⟨(λ_=>T),(λh=>by cases h),rfl⟩
theorem us(x:V):compare x x=.eq:=by simp[compare,compareOfLessAndEq]
end
section
open Go.RowKit Ieee
theorem Be{x:N}{n:V}(h:Hc x n)(g:n.natAbs<9007199254740992):FloatKind.f64.format.order x 14069245235905429504=some .gt/\FloatKind.f64.format.order x 4845873199050653696=some .lt:=by
 obtain⟨s,a,⟨k,e⟩,rfl⟩:=h;rw[Bu]at g;have l:Ieee.double.read 14069245235905429504=.number true 4503599627370496 1:=by decide
 have m:Ieee.double.read 4845873199050653696=.number false 4503599627370496 1:=by decide
 have j:0<2 ^ k:=er k;have i:a*2 ^ k<9007199254740992*2 ^ k:=Nat.mul_lt_mul_of_pos_right g j;have d:4503599627370496*2 ^ (k+1)=9007199254740992*2 ^ k:=by rw[Nat.pow_succ];omega
 have f:min (0-(k:V)) 1=0-(k:V):=by omega
 have b:((0-(k:V))-(0-(k:V))).toNat=0:=by omega
 have c:((1:V)-(0-(k:V))).toNat=k+1:=by omega
 constructor
 ·show Ieee.double.order x _=_;unfold Format.order;rw[e,l];simp only[Datum.order,f,b,c,signed,dW,Nat.pow_zero,ei,d,bP];generalize a*2 ^ k=u at *;generalize 9007199254740992*2 ^ k=v at *;congr 1;simp only[compare,compareOfLessAndEq];cases s
  ·rw[aa (by simp<;>omega),aa (by simp<;>omega)]
  ·rw[aa (by simp<;>omega),aa (by simp<;>omega)]
 ·show Ieee.double.order x _=_;unfold Format.order;rw[e,m];simp only[Datum.order,f,b,c,signed,dW,Nat.pow_zero,ei,d,gx,bG];generalize a*2 ^ k=u at *;generalize 9007199254740992*2 ^ k=v at *;congr 1;simp only[compare,compareOfLessAndEq];cases s
  ·rw[af (by simp<;>omega)]
  ·rw[af (by simp<;>omega)]
theorem ym{b:N}{m n:V}(c:Hc b m)(f:Hc b n):m=n:=by
 have a:=pV c f;have e:=pV c c;rw[e,us]at a;injection a with a;by_cases h:m<n
 ·simp[compare,compareOfLessAndEq,h]at a
 ·by_cases d:m=n
  ·exact d
  ·simp[compare,compareOfLessAndEq,h,d]at a
theorem Ky{m n:V}(b:m.natAbs<9007199254740992)(c:n.natAbs<9007199254740992)(h:floatOfInt .f64 m=floatOfInt .f64 n):m=n:=by
 have a:=uF m b;rw[h]at a;exact ym a (uF n c)
theorem DU(n:V)(a:n.natAbs<9007199254740992):il (floatOfInt .f64 n)=floatOfInt .f64 n:=AM (uF n a)
theorem eW(n:V)(w:Y)(b:n.natAbs<9007199254740992):C 151 #[U (floatOfInt .f64 n) 0] w λe c=>e=O (.tuple #[J n,L true])/\w=c:=by
 have a:=uF n b;obtain⟨g,h⟩:=Be a b;refine(FV _ 0 n w (by rw[g];rfl) (by rw[h];rfl) (AN a (by omega) (by omega)) (by omega) (by omega)).mono ?_;rintro e c⟨d,_,f⟩;exact⟨d (by simp[jk]),f⟩
theorem jO(w:Y):C 52 #[] w λe a=>e=O (U 0 4607182418800017408)/\w=a:=by
 go_enter func52,ntmps52;go_wp2;go_ret;exact⟨T,T⟩
theorem Ed(i:V)(w:Y)(b:0<=i)(c:i<=1099511627776):C 153 #[J i] w λe a=>e=O (U (floatOfInt .f64 (i+1)) 4607182418800017408)/\w=a:=by
 go_enter func153,ntmps153;go_wp2;go_ret;exact⟨T,T⟩
theorem AL(n:V)(w:Y)(d:1<=n)(f:n<=1099511627777):C 98 #[U (floatOfInt .f64 n) 4607182418800017408] w λe c=>e=O (.tuple #[J (n-1),L true])/\w=c:=by
 go_enter func98,ntmps98;go_wp2_with fail;refine(eW n w (by omega)).mono ?_;rintro e b⟨rfl,rfl⟩;go_wp2_with fail;refine(Ed (n-1) w (by omega) (by omega)).mono ?_;rintro e b⟨rfl,rfl⟩;have a:n-1+1=n:=by omega
 rw[a];clear a;go_wp2_with fail;refine(kO _ _ _ _ w).mono ?_;rintro e b⟨rfl,rfl⟩;rw[show jk (floatOfInt .f64 n) 4607182418800017408 (floatOfInt .f64 n) 4607182418800017408=true from by simp[jk]];go_wp2;go_ret2;exact⟨T,T⟩
theorem wy(x y:N)(r:V)(a:Bool)(w:Y)(d:∀w:Y,C 151 #[U x 0] w λe b=>e=O (.tuple #[J r,L a])/\w=b)(h:a=false\/r<1):C 98 #[U x y] w λe b=>e=O (.tuple #[J 0,L false])/\w=b:=by
 have c:=M d;clear d;cases a
 ·clear h;go_enter func98,ntmps98;go_wp2_with fail;refine(c w).mono ?_;rintro e f⟨rfl,rfl⟩;go_wp2;go_ret2;exact⟨T,T⟩
 ·have g:r<1:=by rcases h with h|h;cases h;exact h
  clear h;go_enter func98,ntmps98;go_wp2_with fail;refine(c w).mono ?_;rintro e f⟨rfl,rfl⟩;go_wp2;go_ret2;exact⟨T,T⟩
theorem Eo(m n:V)(a:m.natAbs<9007199254740992)(b:n.natAbs<9007199254740992):jk (floatOfInt .f64 m) 4607182418800017408 (floatOfInt .f64 n) 4607182418800017408=decide (m=n):=by
 unfold jk;rw[DU m a,DU n b,Bool.eq_iff_iff];simp only[gh,Bool.and_true,beq_iff_eq,aQ];exact⟨Ky a b,λh=>by rw[h]⟩
end
namespace Sk
def eP(l:List Int):Bool:=decide (∀i,i<l.length-1->l.getD i 0≠9223372036854775807/\l.getD (i+1) 0=l.getD i 0+1)
theorem sI(v:Value)(xs:List Int)(w:Y)(B:N)(h:eO w B v xs):C 233 #[v] w λe W=>e=O (L (eP xs))/\∃n,W=w.drewN n:=by
 obtain⟨A,c,rfl,h1,K,P,G⟩:=h;unfold maxLen at K;go_enter func233,ntmps233;go_wp2;go_loopw [3] (λi wr=>∃k d:N,1<=k/\i=J k/\wr=w.drewN d/\(∀i,i+1<k->i<xs.length-1->xs.getD i 0≠9223372036854775807/\xs.getD (i+1) 0=xs.getD i 0+1)) (λi _=>xs.length-(intOf i).toNat)
 case atStart=>exact⟨1,0,by omega,T,T,by omega⟩
 case round =>
  obtain⟨k,d,t,rfl,rfl,hrel⟩:=hrel;by_cases u:k<xs.length
  ·obtain⟨b,off,rfl,hb,r⟩:=G (by omega);have c1:=r (k-1) (by omega);have c2:=r k u;have X:=P (xs.getD (k-1) 0) (jM xs (k-1) (by omega));have o:(∀i,i+1<k+1->i<xs.length-1->xs.getD i 0≠9223372036854775807/\xs.getD (i+1) 0=xs.getD i 0+1)↔(xs.getD (k-1) 0≠9223372036854775807/\xs.getD k 0=xs.getD (k-1) 0+1):=by
    constructor
    ·intro h;have:=h (k-1) (by omega) (by omega)
     rwa [Nat.sub_add_cancel t]at this
    ·rintro h i h5 Q;by_cases s:i+1<k
     ·exact hrel i s Q
     ·obtain rfl:i=k-1:=by omega
      rwa [Nat.sub_add_cancel t]
   have m:¬(xs.getD (k-1) 0≠9223372036854775807/\xs.getD k 0=xs.getD (k-1) 0+1)->eP xs=false:=by
    intro h;simp only[eP,cL];intro H;have:=H (k-1) (by omega);rw[Nat.sub_add_cancel t]at this;exact h this
   have q:=M o;have j:=M m;have E:=M hrel;clear r G o m hrel;generalize xs.getD (k-1) 0=x at *;generalize xs.getD k 0=y at *;have kk:((k-1:N):V)=(k:V)-1:=by omega
   go_wp2;by_cases f:x=9223372036854775807
   ·subst f;go_quiet (fail);go_wp2;go_ret;exact⟨eH (j (by omega)),_,World.drewN_drewN ..⟩
   ·have S:x<9223372036854775807:=by omega
    have R:(x==9223372036854775807)=false:=by simpa using f
    by_cases g:y=x+1
    ·have z:(y !=x+1)=false:=by simpa using g
     have F:=M f;have p:=M g;clear f g;go_quiet (fail);go_wp2;go_roundw
     case rel=>exact⟨k+1,_,by omega,by go_num,T,q.2 ⟨F,p⟩⟩
     case measure=>simp[intOf];omega
    ·have z:(y !=x+1)=true:=by simpa using g
     have F:=M f;have p:=M g;clear f g;go_quiet (fail);go_wp2;go_ret;exact⟨eH (j (λh=>p h.2)),_,World.drewN_drewN ..⟩
  ·have a:eP xs=true:=by
    simp only[eP,aQ];intro i s;exact hrel i (by omega) s
   have l:=M a;clear a hrel;go_wp2;go_ret;exact⟨eH l,_,T⟩
end Sk
namespace Sk
def qp(w:Y)(b:N)(v:Value)(bp:V):Prop:=w.heap[b]?=some (D #[v,J bp] 219 (0,0))
section
variable{w w':Y}{b:N}{v:Value}{bp:V}
theorem qp.lt(h:qp w b v bp):b<w.heap.size:=(bR.1 h).1
theorem qp.c0(h:qp w b v bp):w.cell? (I b 0)=some v:=by rw[fq 0 h];rfl
theorem qp.c1(h:qp w b v bp):w.cell? (I b 1)=some (J bp):=by rw[fq 1 h];rfl
theorem qp.free(h:qp w b v bp)(i:N):w.frozen? (I b i)=false:=ey i h
theorem qp.MC{S:N->Prop}(h:qp w b v bp)(c:ac S w w')(a:¬S b):qp w' b v bp:=(c.block b h.lt a).trans h
theorem qp.set(h:qp w b v bp)(a:Value):qp (w.setCell (I b 0) a) b a bp:=by
 unfold qp at h ⊢;simp[World.setCell,gV,h]
theorem qp.drewN(h:qp w b v bp)(n:N):qp (w.drewN n) b v bp:=h
theorem qp.ne(h:qp w b v bp){aC n:N}{u:Value}{xs:List Value}(f:w.ownsRow aC 3 1 u n xs){k:N}(a:u.ownBlock=some k):k≠b:=by
 rintro rfl;rcases f.2 with⟨rfl,_⟩|⟨g,d,e,rfl,_,c,_⟩
 ·simp[Value.ownBlock]at a
 ·simp only[Value.ownBlock,Option.some.injEq]at a;subst a;unfold qp at h;rw[h]at c;simp at c
end
theorem eu:(prog.info? 3).map (λi=>(i.zero,i.size,i.bytes))=some (some (J 0),1,8):=by kernel_rfl
theorem Jj(bp:V)(w:Y)(b:0<=bp)(c:bp<=8):C 87 #[J bp] w λe a=>e=O (.tuple #[I w.heap.size 0,J 0])/\a=w.alloc (D #[Z none 0 0,J bp] 219):=by
 go_enter func87,ntmps87;go_wp2;go_ret2;exact⟨T,T⟩
theorem nf(b:N)(A:Option Addr)(n c:N)(bp:V)(w:Y)(h:qp w b (Z A n c) bp)(j:n<=9223372036854775807)(g:0<=bp)(i:bp<=8):C 295 #[I b 0] w λe a=>e=O (J (bp-n))/\∃d,a=w.drewN d:=by
 have f:=h.c0;have c1:=h.c1;go_enter func295,ntmps295;go_wp2;go_quiet (fail);go_wp2;go_ret;exact⟨T,_,T⟩
theorem AA(b:N)(v:Value)(bp:V)(w:Y)(h:qp w b v bp):C 175 #[I b 0] w λe a=>e=O v/\a=w.setCell (I b 0) (Z none 0 0):=by
 have c:=h.c0;have d:=h.free 0;go_enter func175,ntmps175;go_wp2;go_ret;exact⟨T,T⟩
theorem ju(v:Value)(xs:List Int)(w:Y)(h:eO w w.heap.size v xs)(R:xs.length<=1000000):C 236 #[v] w λe t=>∃s,e=O s/\ae w t/\t.ownsRow w.heap.size 3 1 s xs.length (bI xs):=by
 obtain⟨F,l,n,o,p⟩:=aR eu;have u:=h;obtain⟨A,c,rfl,H,K,Q,g⟩:=u;rcases A with _|q
 ·have z:xs.length=0:=by
   rcases kc xs.length with f|f
   ·exact f
   ·obtain⟨b,off,e,_⟩:=g f;cases e
  obtain rfl:xs=[]:=mD z;have i:=λw:Y=>Lib.run_eql_slice_nil (P:=prog) w 25 3 none 0 c 0 0 underlying25;go_enter func236,ntmps236;go_wp2;go_ret;exact⟨_,T,bo _,jD _ _ _ _⟩
 ·have E:=h.src.2;have m:jd (w.alloc (D #[] 3)) 1 (some q) xs.length (bI xs):=E.below ((Below.refl w.heap.size w).alloc (ci _) _) (λb B e=>by injection e with e;subst e;obtain⟨G,off,d,x,_⟩:=g B;injection d with d;subst d;exact x);have i:=λw:Y=>Lib.run_eql_slice_nil (P:=prog) w 25 3 (some q) xs.length c 0 0 underlying25;clear h g;go_enter func236,ntmps236;go_wp2_with (at_builtin;refine bT _ T (.tmp 5) (.tmp 6) _ T w.heap.size 3 F _ 1 8 underlying25 l n o p T (by omega) _ 0 [] T (fJ w #[] 0 (ci _) (by simp[maxLen]) T) _ _ _ _ T m (rT xs) (by simp only[maxLen];omega) (by omega) (by simp) ?_;intro S W a j r);go_ret;refine⟨_,T,((bo _).alloc _).grown j (λk y e=>?_),by simpa using a⟩;injection e with e;exact absurd e (Nat.ne_of_gt y)
end Sk
namespace Sk
structure iO(w:Y)(b:N)(bp:V)(v:Value)(xs:List Int):Prop where
 aM:qp w b v bp
 own:w.ownsRow 0 3 1 v xs.length (bI xs)
 h0:0<=bp
 h8:bp<=8
 le:(xs.length:V)<=bp
 pA:∀x∈xs,-9223372036854775808<=x/\x<=9223372036854775807
def og(b:N)(v:Value)(k:N):Prop:=k=b\/v.ownBlock=some k
section
variable{w w':Y}{b:N}{v:Value}{bp:V}{xs:List Int}
theorem iO.form(h:iO w b bp v xs):∃A c,v=Z A xs.length c/\xs.length<=9223372036854775807:=by
 obtain⟨A,c,e,a,d⟩:=(eO.fQ h.own h.pA).len;exact⟨A,c,e,by omega⟩
theorem iO.MC{S:N->Prop}(h:iO w b bp v xs)(c:ac S w w')(a:∀k,og b v k->¬S k):iO w' b bp v xs:=⟨h.aM.MC c (a b (.inl T)),c.own h.own (λk d=>a k (.inr d)),h.h0,h.h8,h.le,h.pA⟩
theorem iO.drewN(h:iO w b bp v xs)(n:N):iO (w.drewN n) b bp v xs:=h.MC ((ck w).drewN n) (λ_ _ f=>f)
end
theorem JD(b:N)(bp:V)(v sv:Value)(xs g:List Int)(w:Y)(h:iO w b bp v xs)(r:eO w w.heap.size sv g)(a3:(xs.length:V)+g.length<=bp):C 296 #[I b 0,sv] w λe F=>∃E,e=O (L true)/\iO F b bp E (xs++g)/\ac (og b v) w F /\
   (E.ownBlock=v.ownBlock\/∃k,E.ownBlock=some k/\w.heap.size<=k):=by
 obtain⟨i0,s,y,z,B⟩:=aR eu;obtain⟨A,c,rfl,hl⟩:=h.form;have n:=r;obtain⟨S,X,rfl,a1,a2⟩:=r.len;have m:=h.aM;have P:=h.h0;have Q:=h.h8;have R:¬bp-(xs.length:V)<g.length:=by omega
 have H:=M h;have W:=M n;have o:=r.src.2;clear h r n;have c0:=m.c0;have f0:=m.free 0;go_enter func296,ntmps296;go_wp2_with (first
  | (go_at_call 295;refine(nf b _ _ _ bp _ m hl P Q).mono ?_;rintro e F⟨rfl,d,rfl⟩)
  | (at_builtin;refine bT _ T (.tmp 14) (.tmp 15) _ T 0 3 i0 _ 1 8 underlying25 s y z B T (by omega) (Z A xs.length c) xs.length (bI xs) T (H.drewN d).own S g.length X (bI g) T o (rT g) (by simp only[maxLen];omega) (by omega) (by omega) ?_;intro v1 w1 a l j;obtain⟨G,K,rfl⟩:=aD a;have hO:=(ac.refl (λk=>(Z A xs.length c).ownBlock=some k) (w.drewN d)).grown l (λ_ _ e=>e);have f:=(m.drewN d).MC hO (λe=>m.ne H.own e T);have c1:=f.c0;have f1:=f.free 0))
 go_ret;have t:=f.set (Z G (xs.length+g.length) K);have u:∀k,(Z G (xs.length+g.length) K).ownBlock=some k->k≠b:=λk i=>f.ne a i;refine⟨_,T,⟨t,?_,P,Q,by simp only[iB];omega,?_⟩,?_,?_⟩
 ·rw[iB,qu];exact((ac.refl (λk=>k=b) w1).setCell (p:=⟨b,0,none⟩) (λ_=>T) _).own a (λk i=>u k i)
 ·intro x q;rcases iE.1 q with q|q
  ·exact H.pA x q
  ·obtain⟨_,_,_,_,_,h3,_⟩:=W.out;exact h3 x q
 ·exact(((ac.refl (og b (Z A xs.length c)) w).drewN d).grown l (λk _ e=>.inr e)).setCell (λ_=>.inl T) _
 ·rcases j with e|e
  ·exact .inl e
  ·exact .inr ⟨_,e,ci _⟩
end Sk
namespace Sk
theorem zV(b:N)(bp k:V)(v:Value)(xs:List Int)(w:Y)(h:iO w b bp v xs)(a:k<1\/(xs.length:V)<k):C 293 #[I b 0,J k] w λe d=>e=O (.tuple #[Z none 0 0,L false])/\w=d:=by
 obtain⟨A,c,rfl,j⟩:=h.form;have f:=h.aM.c0;clear h;by_cases g:k<1
 ·clear a;go_enter func293,ntmps293;go_wp2;go_ret2;exact⟨T,T⟩
 ·have i:(xs.length:V)<k:=by omega
  clear a;go_enter func293,ntmps293;go_wp2;go_ret2;exact⟨T,T⟩
theorem _root_.Go.Proofs.YtpgdiceeimehiaaGreat.eO.take{w:Y}{B:N}{A:Option Addr}{n c:N}{xs:List Int}(h:eO w B (Z A n c) xs)(k:N)(s:k<=n):eO w B (Z A k c) (xs.take k):=by
 obtain⟨o,p,e,q,a,d,f⟩:=h;injection e with e1 e2 e3;subst e1;subst e2;subst e3;have l:(xs.take k).length=k:=by rw[jq];omega
 refine⟨A,c,by rw[l],by omega,a,λx m=>d x (dh m),λt=>?_⟩;obtain⟨b,off,e,g,i⟩:=f (by omega);refine⟨b,off,e,g,λj r=>?_⟩;rw[i j (by omega)];simp only[ko,du];rw[af (by omega)]
theorem _root_.Go.Proofs.YtpgdiceeimehiaaGreat.eO.drop{w:Y}{B:N}{b off n c:N}{xs:List Int}(h:eO w B (Z (some (I b off)) n c) xs)(k:N)(y:k<=n)(a:N)(o:k<n->a=off+k):eO w B (Z (some (I b a)) (n-k) (c-k)) (xs.drop k):=by
 obtain⟨q,s,e,t,u,f,g⟩:=h;injection e with e1 e2 e3;subst e1;subst e2;subst e3;have m:(xs.drop k).length=xs.length-k:=by rw[lP]
 refine⟨_,c-k,by rw[m],by omega,by unfold maxLen at *;omega,λx p=>f x (List.mem_of_mem_drop p),λz=>?_⟩;obtain⟨r,d,e,i,l⟩:=g (by omega);injection e with e;injection e with e1 e2;subst e1;subst e2;refine⟨b,a,T,i,λj v=>?_⟩;rw[o (by omega),Nat.add_assoc,l (k+j) (by omega)];simp[ko]
theorem xo{b k:N}{bp:V}{v t l:Value}{xs:List Int}{w w1 w2:Y}(H:iO w b bp v xs)(m:ae w w1)(o:ae w1 w2)(A:qp w2 b v bp)
  (B:k<=xs.length) (n:w1.ownsRow w.heap.size 3 1 t (xs.take k).length (bI (xs.take k))) (r:w2.ownsRow w1.heap.size 3 1 l (xs.drop k).length (bI (xs.drop k))) :
  iO (w2.setCell (I b 0) l) b bp l (xs.drop k)/\(w2.setCell (I b 0) l).ownsRow w.heap.size 3 1 t k (bI (xs.take k)) /\
   ac (λi=>i=b) w (w2.setCell (I b 0) l)/\(∀i,l.ownBlock=some i->w.heap.size<=i/\t.ownBlock≠some i):=by
 have G:b<w.heap.size:=H.aM.lt;have E:(xs.take k).length=k:=by rw[jq];omega
 rw[E]at n;have j:ac (λi=>i=b) w2 (w2.setCell (I b 0) l):=(ac.refl (λi=>i=b) w2).setCell (p:=⟨b,0,none⟩) (λ_=>T) _;have a:=n.lt;have d:=r.lt;refine⟨⟨A.set l,?_,H.h0,H.h8,?_,λx F=>H.pA x (List.mem_of_mem_drop F)⟩,?_,?_,?_⟩
 ·have:=j.own r (λi q e=>by have:=(d i q).1;have:=m.size;omega);exact⟨this.1,by rcases this.2 with h|⟨g,c,s,y,u,z⟩;exact .inl h;exact .inr ⟨g,c,s,y,aw _,z⟩⟩
 ·have:=H.le;rw[lP];omega
 ·exact j.own (o.own n (λ_ _ f=>f)) (λi q e=>by have:=(a i q).1;omega)
 ·exact((m.mono (λ_ _ f=>f.elim)).trans (o.mono (Tq:=λi=>i=b) (λ_ _ f=>f.elim)) (λ_ _ e=>e)).setCell (p:=⟨b,0,none⟩) (λ_=>T) _
 ·intro i q;have u:=(d i q).1;refine⟨aF m.size u,λe=>?_⟩;have:=(a i e).2;omega
theorem rs(b:N)(bp:V)(k:N)(v:Value)(xs:List Int)(w:Y)(h:iO w b bp v xs)(hk:1<=k)(r:k<=xs.length):C 293 #[I b 0,J k] w λe P=>∃z A,e=O (.tuple #[z,L true])/\iO P b bp A (xs.drop k) /\
   P.ownsRow w.heap.size 3 1 z k (bI (xs.take k))/\ac (λi=>i=b) w P/\(∀i,A.ownBlock=some i->w.heap.size<=i/\z.ownBlock≠some i):=by
 have h0:=h.h0;have h8:=h.h8;have a4:=h.le;have H:=M h;have K:=eO.fQ h.own h.pA;obtain⟨g,c,e,hg,a2⟩:=h.own.form (n:=xs.length) (by omega);subst e;have Q:=M h.aM;have c0:=h.aM.c0;clear h;have G:=K.len;obtain⟨_,_,e,a3,a1⟩:=G;injection e with e1 e2 e3;subst e1;subst e3;have B:=M K;clear K;by_cases F:c=k
 ·obtain rfl:xs.length=k:=by omega
  subst F;have hd:xs.drop xs.length=[]:=by simp
  go_enter func293,ntmps293;go_wp2_with fail;refine(ju _ xs _ B (by omega)).mono ?_;rintro e w1⟨z,rfl,m,j⟩;have x:=M m;have l:=Q.MC m (λf=>f);have c1:=l.c0;have W:=l.free 0;have o:=M j;have s:=M l;clear m l j;go_wp2_with fail;refine(ju _ [] _ ⟨_,0,T,ci _,by simp[maxLen],by simp,by simp⟩ (by simp)).mono ?_;rintro e w2⟨A,rfl,q,a⟩;obtain⟨R,S,rfl⟩:=aD a;have d:=s.MC q (λf=>f);have E:=d.c0;have X:=d.free 0;have p:=M a;have u:=M q;have t:=M d;clear q d a;go_wp2;go_ret2;have ht:xs.take xs.length=xs:=by simp
  exact⟨_,_,T,xo H x u t r (by rw[ht];exact o) (by rw[hd];exact p)⟩
 ·go_enter func293,ntmps293;go_wp2_with fail;refine(ju _ (xs.take k) _ (B.take k r) (by rw[jq];omega)).mono ?_;rintro e w1⟨z,rfl,m,j⟩;have x:=M m;have l:=Q.MC m (λf=>f);have c1:=l.c0;have W:=l.free 0;have o:=M j;have s:=M l;have y:=B.MC m (λ_ _ f=>f);clear m l j;go_wp2_with fail;refine(ju _ (xs.drop k) _ (y.drop k r k (λ_=>by omega)) (by rw[lP];omega)).mono ?_;clear y;rintro e w2⟨A,rfl,q,a⟩;obtain⟨R,S,rfl⟩:=aD a;have d:=s.MC q (λf=>f);have E:=d.c0;have X:=d.free 0;have p:=M a;have u:=M q;have t:=M d;clear q d a;go_wp2;go_ret2;exact⟨_,_,T,xo H x u t r o (by have h:=p.out;rw[lP]at h ⊢;exact h)⟩
end Sk
section
def Lc(n by_:V):V:=(n+by_-1)/by_
def bX(k:V):V:=if k<1\/512<k then 0 else(k+7)/8
def bM(a:Bool)(n:N)(k:V):V:=if gZ a n=false\/k<0\/512<k\/(a=false/\0<k)then -1 else if a then 1+bX k else if n<=6 then 1 else 1+(n:V)/7
def cE(a:Bool)(n:N)(k:V):V:=if gZ a n=false\/a=false\/bX k<=4 then 0 else bX k+2
def lj(a:Bool)(n:N)(k:V):Bool:=gZ a n&&!a&&decide (0<=k)&&decide (k<n)
def fe(k:V):V:=if k<6 then 0 else 1+(k-6)/7
def eh(k:V):V:=if k<6 then 2+k else 1+(k-6)%7
theorem ER(n:V)(d:N)(w:Y)(c:0<=n)(f:n<=100000)(a:d=7\/d=8):C 268 #[J n,J d] w λe b=>e=O (J (Lc n d))/\w=b:=by
 rcases a with rfl|rfl
 all_goals
  go_enter func268,ntmps268;go_wp2;go_ret;exact⟨dP (by simp[Lc]),T⟩
theorem gH(k:V)(w:Y):C 264 #[J k] w λe a=>e=O (J (bX k))/\w=a:=by
 by_cases b:k<1
 ·go_enter func264,ntmps264;go_wp2;go_ret;exact⟨dP (by simp[bX,b]),T⟩
 ·by_cases c:512<k
  ·go_enter func264,ntmps264;go_wp2;go_ret;exact⟨dP (by simp[bX,c]),T⟩
  ·go_enter func264,ntmps264;go_wp2_with fail;refine(ER k 8 w (by omega) (by omega) (.inr T)).mono ?_;rintro e a⟨rfl,rfl⟩;go_wp2;go_ret;exact⟨dP (by simp[bX,Lc];omega),T⟩
theorem lL(a:Bool)(A:Option Addr)(n c:N)(k:V)(w:Y)(i:n<=9223372036854775807):C 208 #[nP a A n c,J k] w λe x=>e=O (J (bM a n k))/\ae w x:=by
 have h:gZ a n=true->n<=40:=uL;cases j:gZ a n
 ·clear h;go_enter func208,ntmps208;go_wp2_with fail;refine(gW a A n c _ i).mono ?_;rintro e g⟨rfl,b⟩;have d:=M b;clear b;go_wp2;go_ret;exact⟨dP (by simp[bM,j]),ae.MD ((bo _).alloc _) d⟩
 ·have t:=h j;clear h;by_cases q:k<0
  ·go_enter func208,ntmps208;go_wp2_with fail;refine(gW a A n c _ i).mono ?_;rintro e g⟨rfl,b⟩;have d:=M b;clear b;go_wp2;go_ret;exact⟨dP (by simp[bM,q]),ae.MD ((bo _).alloc _) d⟩
  ·by_cases r:512<k
   ·go_enter func208,ntmps208;go_wp2_with fail;refine(gW a A n c _ i).mono ?_;rintro e g⟨rfl,b⟩;have d:=M b;clear b;go_wp2;go_ret;exact⟨dP (by simp[bM,r]),ae.MD ((bo _).alloc _) d⟩
   ·have z:=M j;cases a
    ·by_cases s:0<k
     ·go_enter func208,ntmps208;go_wp2_with fail;refine(gW false A n c _ i).mono ?_;rintro e g⟨rfl,b⟩;have l:g.cell? (I w.heap.size 0)=some (L false):=(b.cell (p:=⟨w.heap.size,0,none⟩) (by simp) (λf=>f)).trans (by simp);have d:=M b;clear b;go_wp2;go_ret;exact⟨dP (by simp[bM,s]),ae.MD ((bo _).alloc _) d⟩
     ·by_cases m:n<=6
      ·go_enter func208,ntmps208;go_wp2_with fail;refine(gW false A n c _ i).mono ?_;rintro e g⟨rfl,b⟩;have l:g.cell? (I w.heap.size 0)=some (L false):=(b.cell (p:=⟨w.heap.size,0,none⟩) (by simp) (λf=>f)).trans (by simp);have d:=M b;clear b;go_wp2;go_ret;exact⟨dP (by rw[bM,aa (by simp[j];omega)];simp[m]),ae.MD ((bo _).alloc _) d⟩
      ·go_enter func208,ntmps208;go_wp2_with fail;refine(gW false A n c _ i).mono ?_;rintro e g⟨rfl,b⟩;have l:g.cell? (I w.heap.size 0)=some (L false):=(b.cell (p:=⟨w.heap.size,0,none⟩) (by simp) (λf=>f)).trans (by simp);have d:=M b;clear b;go_wp2_with fail;refine(ER _ 7 g (by omega) (by omega) (.inl T)).mono ?_;rintro e y⟨rfl,rfl⟩;have o:Lc ((n:V)-6) (7:N)=(n:V)/7:=by unfold Lc;omega
       rw[o];have B:0<=(n:V)/7:=by omega
       have E:(n:V)/7<=10:=by omega
       go_wp2;go_ret;exact⟨dP (by rw[bM,aa (by simp[j];omega)];simp[m]),ae.MD ((bo _).alloc _) d⟩
    ·have u:0<=bX k:=by unfold bX;split<;>omega
     have v:bX k<=64:=by unfold bX;split<;>omega
     go_enter func208,ntmps208;go_wp2_with fail;refine(gW true A n c _ i).mono ?_;rintro e g⟨rfl,b⟩;have l:g.cell? (I w.heap.size 0)=some (L true):=(b.cell (p:=⟨w.heap.size,0,none⟩) (by simp) (λf=>f)).trans (by simp);have d:=M b;clear b;go_wp2_with fail;refine(gH k g).mono ?_;rintro e y⟨rfl,rfl⟩;go_wp2;go_ret;exact⟨dP (by rw[bM,aa (by simp[j];omega)];simp),ae.MD ((bo _).alloc _) d⟩
theorem lM(a:Bool)(A:Option Addr)(n c:N)(k:V)(w:Y)(h:n<=9223372036854775807):C 240 #[nP a A n c,J k] w λe r=>e=O (J (cE a n k))/\ae w r:=by
 have o:0<=bX k:=by unfold bX;split<;>omega
 have q:bX k<=64:=by unfold bX;split<;>omega
 cases j:gZ a n
 ·cases a
  all_goals
   go_enter func240,ntmps240;go_wp2_with fail;refine(gW _ A n c _ h).mono ?_;rintro e d⟨rfl,b⟩;have g:=M b;clear b;go_wp2;go_ret;exact⟨dP (by simp[cE,j]),ae.MD ((bo _).alloc _) g⟩
 ·cases a
  ·
   go_enter func240,ntmps240;go_wp2_with fail;refine(gW false A n c _ h).mono ?_;rintro e d⟨rfl,b⟩;have i:d.cell? (I w.heap.size 0)=some (L false):=(b.cell (p:=⟨w.heap.size,0,none⟩) (by simp) (λf=>f)).trans (by simp);have c1:d.cell? (I w.heap.size 1)=some (Z A n c):=(b.cell (p:=⟨w.heap.size,1,none⟩) (by simp) (λf=>f)).trans (by simp);have g:=M b;clear b;go_wp2;go_ret;exact⟨dP (by simp[cE]),ae.MD ((bo _).alloc _) g⟩
  ·by_cases m:bX k<=4
   ·
    go_enter func240,ntmps240;go_wp2_with fail;refine(gW true A n c _ h).mono ?_;rintro e d⟨rfl,b⟩;have i:d.cell? (I w.heap.size 0)=some (L true):=(b.cell (p:=⟨w.heap.size,0,none⟩) (by simp) (λf=>f)).trans (by simp);have c1:d.cell? (I w.heap.size 1)=some (Z A n c):=(b.cell (p:=⟨w.heap.size,1,none⟩) (by simp) (λf=>f)).trans (by simp);have g:=M b;clear b;go_wp2_with fail;refine(gH k d).mono ?_;rintro e l⟨rfl,rfl⟩;go_wp2;go_ret;exact⟨dP (by simp[cE,m]),ae.MD ((bo _).alloc _) g⟩
   ·
    go_enter func240,ntmps240;go_wp2_with fail;refine(gW true A n c _ h).mono ?_;rintro e d⟨rfl,b⟩;have i:d.cell? (I w.heap.size 0)=some (L true):=(b.cell (p:=⟨w.heap.size,0,none⟩) (by simp) (λf=>f)).trans (by simp);have c1:d.cell? (I w.heap.size 1)=some (Z A n c):=(b.cell (p:=⟨w.heap.size,1,none⟩) (by simp) (λf=>f)).trans (by simp);have g:=M b;clear b;go_wp2_with fail;refine(gH k d).mono ?_;rintro e l⟨rfl,rfl⟩;go_wp2_with fail;refine(gH k d).mono ?_;rintro e l⟨rfl,rfl⟩;go_wp2;go_ret;exact⟨dP (by rw[cE,aa (by simp[j];omega)]),ae.MD ((bo _).alloc _) g⟩
theorem qh(a:Bool)(A:Option Addr)(n c:N)(k:V)(w:Y)(r:n<=9223372036854775807)(h:lj a n k=true):C 209 #[nP a A n c,J k] w λe v=>e=O (.tuple #[J (fe k),J (eh k),L true])/\ae w v:=by
 simp only[lj,bt,aQ,Bool.not_eq_true']at h;obtain⟨⟨⟨u,rfl⟩,x⟩,y⟩:=h;have t:=uL u;have g:fe k=if k<6 then 0 else 1+(k-6)/7:=rfl;have i:eh k=if k<6 then 2+k else 1+(k-6)%7:=rfl;by_cases q:k<6
 ·rw[af q]at g i;have l:=M g;have m:=M i;clear g i;go_enter func209,ntmps209;go_wp2_with fail;refine(gW false A n c _ r).mono ?_;rintro e j⟨rfl,d⟩;have s:j.cell? (I w.heap.size 0)=some (L false):=(d.cell (p:=⟨w.heap.size,0,none⟩) (by simp) (λf=>f)).trans (by simp);have c1:j.cell? (I w.heap.size 1)=some (Z A n c):=(d.cell (p:=⟨w.heap.size,1,none⟩) (by simp) (λf=>f)).trans (by simp);have o:=M d;clear d;go_wp2;go_ret3;exact⟨by rw[l.out,m.out];rfl,ae.MD ((bo _).alloc _) o⟩
 ·rw[aa q]at g i;have l:=M g;have m:=M i;clear g i;have z:0<=(k-6)/7:=by omega
  have B:(k-6)/7<=10:=by omega
  have E:=Int.emod_nonneg (k-6) (b:=7) (by decide);have F:=Int.emod_lt_of_pos (k-6) (b:=7) (by decide);go_enter func209,ntmps209;go_wp2_with fail;refine(gW false A n c _ r).mono ?_;rintro e j⟨rfl,d⟩;have s:j.cell? (I w.heap.size 0)=some (L false):=(d.cell (p:=⟨w.heap.size,0,none⟩) (by simp) (λf=>f)).trans (by simp);have c1:j.cell? (I w.heap.size 1)=some (Z A n c):=(d.cell (p:=⟨w.heap.size,1,none⟩) (by simp) (λf=>f)).trans (by simp);have o:=M d;clear d;go_wp2;go_ret3;exact⟨by rw[l.out,m.out];rfl,ae.MD ((bo _).alloc _) o⟩
