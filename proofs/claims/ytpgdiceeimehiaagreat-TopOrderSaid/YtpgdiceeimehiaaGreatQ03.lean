/- Part 3 of the proof that spotop.TopOrder returns true for all arguments and leaves what was there as it was. -/
import Derived.Laws.FloatArith
import Derived.Laws.Cover2
import Derived.Laws.Cover3
import Derived.Laws.ComplexArith
import Derived.BigRegion
import Derived.BigQuiet
import Derived.Laws.MakeOwn
import Derived.Deep.DeepCutAuto
import Derived.Deep.CutBlock
import Derived.Test.YtpgdiceeimehiaaGreatQ01
import Derived.Test.YtpgdiceeimehiaaGreatQ02
set_option maxRecDepth 100000
set_option maxHeartbeats 16000000
open Go.Lib (hid)
namespace Go.Proofs.YtpgdiceeimehiaaGreat
open Ieee
def Rep (b:Nat) (s:Bool) (a:Nat) (q:Int):Prop:=∃ k:Nat,Ieee.double.read b=.number s (a * 2 ^ k) (q-k)
theorem cut_exact (s:Bool) (a k:Nat) (w:Toward):Toward.cut w s (a * 2 ^ k) k=a:=by
 have hp:0<2 ^ k:=Nat.two_pow_pos k
 unfold Toward.cut
 rcases Nat.eq_zero_or_pos a with rfl | ha
 ·simp only [Nat.zero_mul,Nat.zero_div,Nat.zero_mod]
  have h1:0<1 <<< min k (Nat.log2 0+2):=by rw [Nat.shiftLeft_eq];have:=Nat.two_pow_pos (min k (Nat.log2 0+2));omega
  have h2:¬ (1 <<< min k (Nat.log2 0+2)=0):=by omega
  cases w <;> simp
 ·have hne:a * 2 ^ k≠0:=by have:=Nat.mul_pos ha hp;omega
  have hl:k≤(a * 2 ^ k).log2:=by
   rw [Nat.le_log2 hne]
   exact Nat.le_mul_of_pos_left _ ha
  have hm:min k ((a * 2 ^ k).log2+2)=k:=by omega
  simp only [hm,Nat.shiftLeft_eq,Nat.one_mul,Nat.mul_div_cancel _ hp,Nat.mul_mod_left]
  have h2:¬ (2 ^ k=0):=by omega
  cases w <;> simp
theorem log2_scale (a j:Nat) (ha:0<a):(a * 2 ^ j).log2=a.log2+j:=by
 have hne:a * 2 ^ j≠0:=by have:=Nat.mul_pos ha (Nat.two_pow_pos j);omega
 rw [Nat.log2_eq_iff hne]
 have h1:=Nat.log2_self_le (n:=a) (by omega)
 have h2:=Nat.lt_log2_self (n:=a)
 constructor
 ·rw [Nat.pow_add];exact Nat.mul_le_mul_right _ h1
 ·rw [show a.log2+j+1=(a.log2+1)+j from by omega,Nat.pow_add]
  exact Nat.mul_lt_mul_of_pos_right h2 (Nat.two_pow_pos j)
theorem log2_le52 (a:Nat) (ha:0<a) (h:a<2 ^ 53):a.log2≤52:=by
 have:=(Nat.log2_lt (n:=a) (k:=53) (by omega)).2 h
 omega
def signif (a:Nat):Nat:=a * 2 ^ (52-a.log2)
theorem signif_in (a:Nat) (ha:0<a) (h:a<2 ^ 53):2 ^ 52≤signif a∧signif a<2 ^ 53:=by
 have hl:=log2_le52 a ha h
 have h1:=Nat.log2_self_le (n:=a) (by omega)
 have h2:=Nat.lt_log2_self (n:=a)
 unfold signif
 constructor
 ·calc 2 ^ 52=2 ^ a.log2 * 2 ^ (52-a.log2):=by rw [← Nat.pow_add];congr 1;omega
   _≤a * 2 ^ (52-a.log2):=Nat.mul_le_mul_right _ h1
 ·calc a * 2 ^ (52-a.log2)<2 ^ (a.log2+1) * 2 ^ (52-a.log2):=Nat.mul_lt_mul_of_pos_right h2 (Nat.two_pow_pos _)
   _=2 ^ 53:=by rw [← Nat.pow_add];congr 1;omega
def rungOf (a:Nat) (q:Int):Nat:=(q-(52-a.log2:Nat)+1074).toNat * 2 ^ 52+signif a
theorem nearest_norm (s:Bool) (a j:Nat) (q:Int) (ha:0<a) (h:a<2 ^ 53) (hq0:-1000≤q) (hq1:q≤900) :
  Ieee.double.nearest s (a * 2 ^ j) (q-j)=Ieee.double.word s (rungOf a q):=by
 have hl:=log2_le52 a ha h
 have hs:=signif_in a ha h
 have hne:a * 2 ^ j≠0:=by have:=Nat.mul_pos ha (Nat.two_pow_pos j);omega
 have hlp:Ieee.double.leastPlace=-1074:=by decide
 have hfb:(Ieee.double.fractionBits:Int)=52:=by decide
 have hbin:Ieee.double.binade=2 ^ 52:=by decide
 have hinf:Ieee.double.infRung=2047 * 2 ^ 52:=by decide
 unfold Format.nearest
 rw [if_neg hne]
 simp only [hlp,hfb,hbin,hinf,log2_scale a j ha]
 have hlast:max (q-(j:Int)+((a.log2+j:Nat):Int)-52) (-1074)=q-(52-a.log2:Nat):=by omega
 rw [hlast]
 have hkept:Toward.cut .even s ((a * 2 ^ j) <<< ((q-(j:Int))-(q-(52-a.log2:Nat))).toNat) ((q-(52-a.log2:Nat))-(q-(j:Int))).toNat=signif a:=by
  by_cases hj:j≤52-a.log2
  ·have e1:((q-(j:Int))-(q-(52-a.log2:Nat))).toNat=52-a.log2-j:=by omega
   have e2:((q-(52-a.log2:Nat))-(q-(j:Int))).toNat=0:=by omega
   rw [e1,e2,Nat.shiftLeft_eq,Nat.mul_assoc,← Nat.pow_add,show j+(52-a.log2-j)=52-a.log2 from by omega]
   have:=cut_exact s (a * 2 ^ (52-a.log2)) 0 .even
   rw [Nat.pow_zero,Nat.mul_one] at this
   exact this
  ·have e1:((q-(j:Int))-(q-(52-a.log2:Nat))).toNat=0:=by omega
   have e2:((q-(52-a.log2:Nat))-(q-(j:Int))).toNat=j-(52-a.log2):=by omega
   rw [e1,e2,Nat.shiftLeft_eq,Nat.pow_zero,Nat.mul_one]
   have e3:a * 2 ^ j=signif a * 2 ^ (j-(52-a.log2)):=by
    unfold signif
    rw [Nat.mul_assoc,← Nat.pow_add]
    congr 2
    omega
   rw [e3]
   exact cut_exact s _ _ .even
 rw [hkept]
 have hr:(q-(52-a.log2:Nat)-(-1074)).toNat * 2 ^ 52+signif a=rungOf a q:=by
  unfold rungOf
  rw [show q-((52-a.log2:Nat):Int)-(-1074)=q-((52-a.log2:Nat):Int)+1074 from by omega]
 rw [hr]
 have hle:rungOf a q≤2047 * 2 ^ 52:=by
  unfold rungOf
  have h1974:(q-(52-a.log2:Nat)+1074).toNat≤1974:=by omega
  generalize (q-((52-a.log2:Nat):Int)+1074).toNat=T at *
  have:=hs.2
  omega
 rw [Nat.min_eq_left hle]
theorem read_word (s:Bool) (a:Nat) (q:Int) (ha:0<a) (h:a<2 ^ 53) (hq0:-1000≤q) (hq1:q≤900) :
  Ieee.double.read (Ieee.double.word s (rungOf a q))=.number s (signif a) (q-(52-a.log2:Nat)):=by
 have hl:=log2_le52 a ha h
 have hs:=signif_in a ha h
 have hlp:Ieee.double.leastPlace=-1074:=by decide
 have hbin:Ieee.double.binade=2 ^ 52:=by decide
 have hinf:Ieee.double.infRung=2047 * 2 ^ 52:=by decide
 have hsw:Ieee.double.signWeight=2 ^ 63:=by decide
 have hT:(q-(52-a.log2:Nat)+1074).toNat≤1974:=by omega
 obtain ⟨T,hTe⟩:∃ T,T=(q-(52-a.log2:Nat)+1074).toNat:=⟨_,rfl⟩
 have hr:rungOf a q=T * 2 ^ 52+signif a:=by unfold rungOf;rw [hTe]
 have hrlt:T * 2 ^ 52+signif a<2 ^ 63:=by
  rw [← hTe] at hT
  have:=Nat.mul_le_mul_right (2 ^ 52) hT
  omega
 have hd:(T * 2 ^ 52+signif a) / 2 ^ 52=T+1:=by
  rw [Nat.mul_comm,Nat.mul_add_div (by decide)]
  congr 1
  omega
 have hm:(T * 2 ^ 52+signif a) % 2 ^ 52=signif a-2 ^ 52:=by
  rw [Nat.mul_comm,Nat.mul_add_mod]
  omega
 have hneg:((Ieee.double.word s (rungOf a q)) / 2 ^ 63 % 2 == 1)=s:=by
  unfold Format.word
  rw [hsw,hr]
  cases s
  ·have:(T * 2 ^ 52+signif a) / 2 ^ 63=0:=Nat.div_eq_of_lt hrlt
   simp [this]
  ·have:(2 ^ 63+(T * 2 ^ 52+signif a)) / 2 ^ 63=1:=by omega
   simp [this]
 have hmod:(Ieee.double.word s (rungOf a q)) % 2 ^ 63=T * 2 ^ 52+signif a:=by
  unfold Format.word
  rw [hsw,hr]
  cases s
  ·exact Nat.mod_eq_of_lt hrlt
  ·simp only [if_true]
   omega
 unfold Format.read
 dsimp only
 rw [hsw,hbin,hinf,hlp,hneg,hmod,hd,hm]
 rw [if_neg (by omega),if_pos (by rw [← hTe] at hT;have:=Nat.mul_le_mul_right (2 ^ 52) hT;omega)]
 have e1:2 ^ 52+(signif a-2 ^ 52)=signif a:=by omega
 have e2:(-1074:Int)+((T+1-1:Nat):Int)=q-(52-a.log2:Nat):=by omega
 rw [e1,e2]
theorem rep_nearest (s:Bool) (a j:Nat) (q:Int) (h:a<2 ^ 53) (hq0:-1000≤q) (hq1:q≤900):Rep (Ieee.double.nearest s (a * 2 ^ j) (q-j)) s a q:=by
 rcases Nat.eq_zero_or_pos a with rfl | ha
 ·refine ⟨(q+1074).toNat,?_⟩
  have e:q-((q+1074).toNat:Int)=-1074:=by omega
  rw [e,Nat.zero_mul,Nat.zero_mul]
  have e2:Ieee.double.nearest s 0 (q-j)=Ieee.double.word s 0:=by
   unfold Format.nearest
   rw [if_pos rfl]
  rw [e2]
  cases s <;> decide
 ·exact ⟨52-a.log2,by rw [nearest_norm s a j q ha h hq0 hq1,read_word s a q ha h hq0 hq1];rfl⟩
theorem nearest_scale (s:Bool) (a j:Nat) (q:Int) (h:a<2 ^ 53) (hq0:-1000≤q) (hq1:q≤900):Ieee.double.nearest s (a * 2 ^ j) (q-j)=Ieee.double.nearest s a q:=by
 rcases Nat.eq_zero_or_pos a with rfl | ha
 ·unfold Format.nearest
  rw [if_pos (by simp),if_pos rfl]
 ·have h0:=nearest_norm s a 0 q ha h hq0 hq1
  rw [Nat.pow_zero,Nat.mul_one,show q-((0:Nat):Int)=q from by omega] at h0
  rw [nearest_norm s a j q ha h hq0 hq1,h0]
theorem rep_near (s:Bool) (a:Nat) (q:Int) (h:a<2 ^ 53) (hq0:-1000≤q) (hq1:q≤900):Rep (Ieee.double.nearest s a q) s a q:=by
 rw [← nearest_scale s a 0 q h hq0 hq1]
 exact rep_nearest s a 0 q h hq0 hq1
def sv (s:Bool) (a:Nat):Int:=if s then -(a:Int) else a
theorem sv_natAbs (s:Bool) (a:Nat):(sv s a).natAbs=a:=by unfold sv;split <;> omega
theorem signed_scale (s:Bool) (a k m:Nat) (h:k≤m):signed s (a * 2 ^ k) (m-k)=sv s a * (2 ^ m:Nat):=by
 unfold signed sv
 have e:(a * 2 ^ k) <<< (m-k)=a * 2 ^ m:=by
  rw [Nat.shiftLeft_eq,Nat.mul_assoc,← Nat.pow_add]
  congr 2
  omega
 rw [e]
 cases s
 ·simp
 ·simp [Int.neg_mul]
theorem order_rep {x y:Nat} {s t:Bool} {a b:Nat} {q:Int} (hx:Rep x s a q) (hy:Rep y t b q):Ieee.double.order x y=some (compare (sv s a) (sv t b)):=by
 obtain ⟨k,hk⟩:=hx
 obtain ⟨l,hl⟩:=hy
 have hp:0<((2 ^ max k l:Nat):Int):=by have:=Nat.two_pow_pos (max k l);omega
 have hmin:min (q-(k:Int)) (q-(l:Int))=q-(max k l:Nat):=by omega
 have e1:((q-(k:Int))-(q-(max k l:Nat))).toNat=max k l-k:=by omega
 have e2:((q-(l:Int))-(q-(max k l:Nat))).toNat=max k l-l:=by omega
 unfold Format.order
 rw [hk,hl]
 simp only [Datum.order,hmin,e1,e2]
 rw [signed_scale s a k _ (by omega),signed_scale t b l _ (by omega)]
 congr 1
 simp only [compare,compareOfLessAndEq]
 have c1:(sv s a * ((2 ^ max k l:Nat):Int)<sv t b * ((2 ^ max k l:Nat):Int))=(sv s a<sv t b):=by
  rw [eq_iff_iff]
  exact ⟨fun h=>Int.lt_of_mul_lt_mul_right h (by omega),fun h=>Int.mul_lt_mul_of_pos_right h hp⟩
 have c2:(sv s a * ((2 ^ max k l:Nat):Int)=sv t b * ((2 ^ max k l:Nat):Int))=(sv s a=sv t b):=by
  rw [eq_iff_iff]
  exact ⟨fun h=>Int.eq_of_mul_eq_mul_right (by omega) h,fun h=>by rw [h]⟩
 simp only [c1,c2]
def IsI (b:Nat) (n:Int):Prop:=∃ s a,Rep b s a 0∧sv s a=n
theorem sv_dec (n:Int):sv (decide (n<0)) n.natAbs=n:=by
 unfold sv
 by_cases h:n<0 <;> simp [h] <;> omega
theorem isI_of (n:Int) (h:n.natAbs<9007199254740992):IsI (floatOfInt .f64 n) n :=
 ⟨decide (n<0),n.natAbs,rep_near _ _ 0 (by simpa using h) (by omega) (by omega),sv_dec n⟩
theorem isI_order {x y:Nat} {m n:Int} (hx:IsI x m) (hy:IsI y n):FloatKind.f64.format.order x y=some (compare m n):=by
 obtain ⟨s,a,ha,rfl⟩:=hx
 obtain ⟨t,b,hb,rfl⟩:=hy
 exact order_rep ha hb
theorem isI_toInt {x:Nat} {n:Int} (hx:IsI x n) (h0:-9223372036854775808≤n) (h1:n≤9223372036854775807):floatToIntVal .f64 x .i64=some n:=by
 obtain ⟨s,a,⟨k,hk⟩,rfl⟩:=hx
 have e:(FloatKind.f64.decode x).toInt .zero=some (sv s a):=by
  show (Ieee.double.read x).toInt .zero=_
  rw [hk]
  unfold Datum.toInt Datum.integral
  have e1:(0-(k:Int)).toNat=0:=by omega
  have e2:(-(0-(k:Int))).toNat=k:=by omega
  simp only [e1,e2,Nat.shiftLeft_eq,Nat.pow_zero,Nat.mul_one,cut_exact]
  unfold signed sv
  simp
 unfold floatToIntVal
 rw [e]
 simp [IntKind.min,IntKind.max,IntKind.signed,IntKind.bits,h0,h1]
open Go.RowKit
def partB (b:Nat):Nat:=if FloatKind.f64.format.order b b=some .eq then b else 9221120237041090560
def sameB (a b c d:Nat):Bool:=partB a == partB c && partB b == partB d
theorem isI_partB {x:Nat} {n:Int} (h:IsI x n):partB x=x:=by
 unfold partB
 rw [if_pos]
 rw [isI_order h h]
 simp [compare,compareOfLessAndEq]
theorem bits_run (b:Nat) (w:World):(callFunc 305 #[.float .f64 b]).run Tryz.prog w=.ok (.value (.int .u64 (b:Int))) w:=by kernel_rfl
theorem part_any (b:Nat) (w:World):Calls Tryz.prog 275 #[.float .f64 b] w fun e w'=>e=.returned (.int .u64 (partB b))∧w=w':=by
 by_cases h:FloatKind.f64.format.order b b=some .eq
 ·have h1:(FloatKind.f64.format.order b b != some .eq)=false:=by rw [h];rfl
  have hb:=bits_run b
  have e:partB b=b:=by rw [partB,if_pos h]
  clear h
  go_enter Tryz.func275,Tryz.ntmps275
  go_wp2
  go_ret
  exact ⟨by rw [e];rfl,rfl⟩
 ·have h1:(FloatKind.f64.format.order b b != some .eq)=true:=by rw [bne_iff_ne];exact h
  have e:partB b=9221120237041090560:=by rw [partB,if_neg h]
  clear h
  go_enter Tryz.func275,Tryz.ntmps275
  go_wp2
  go_ret
  exact ⟨by rw [e];rfl,rfl⟩
theorem bits_any (a b:Nat) (w:World):Calls Tryz.prog 222 #[.complex .f64 a b] w fun e w'=>e=.returned (.tuple #[.int .u64 (partB a),.int .u64 (partB b)])∧w=w':=by
 go_enter Tryz.func222,Tryz.ntmps222
 go_wp2_with fail
 refine (part_any a w).mono ?_
 rintro e w1 ⟨rfl,rfl⟩
 go_wp2_with fail
 refine (part_any b w).mono ?_
 rintro e w1 ⟨rfl,rfl⟩
 go_wp2
 go_ret2
 exact ⟨rfl,rfl⟩
theorem same_any (a b c d:Nat) (w:World):Calls Tryz.prog 152 #[.complex .f64 a b,.complex .f64 c d] w fun e w'=>e=.returned (.bool (sameB a b c d))∧w=w':=by
 have hs:sameB a b c d=(((partB a:Int) == (partB c:Int)) && ((partB b:Int) == (partB d:Int))):=by
  unfold sameB
  have e:∀ x y:Nat,(x == y)=((x:Int) == (y:Int)):=by
   intro x y
   rw [Bool.eq_iff_iff,beq_iff_eq,beq_iff_eq]
   exact ⟨fun h=>by rw [h],fun h=>by omega⟩
  rw [e,e]
 have HS:=hid hs
 clear hs
 go_enter Tryz.func152,Tryz.ntmps152
 go_wp2_with fail
 refine (bits_any a b w).mono ?_
 rintro e w1 ⟨rfl,rfl⟩
 go_wp2_with fail
 refine (bits_any c d w).mono ?_
 rintro e w1 ⟨rfl,rfl⟩
 generalize partB a=p at *
 generalize partB b=q at *
 generalize partB c=r at *
 generalize partB d=s at *
 cases h1:((p:Int) == (r:Int))
 ·go_wp2
  go_ret
  exact ⟨ret_b (by rw [HS.out,h1];rfl),rfl⟩
 ·go_wp2
  go_ret
  exact ⟨ret_b (by rw [HS.out,h1];rfl),rfl⟩
theorem whole_in (n:Int) (w:World) (h0:-9007199254740992≤n) (h1:n≤9007199254740992):Calls Tryz.prog 195 #[.int .i64 n] w fun e w'=>e=.returned (.complex .f64 (floatOfInt .f64 n) 0)∧w=w':=by
 go_enter Tryz.func195,Tryz.ntmps195
 go_wp2
 go_ret
 exact ⟨rfl,rfl⟩
theorem int_any (x y:Nat) (n:Int) (w:World) (hg:(FloatKind.f64.format.order x 14069245235905429504 == some .gt || FloatKind.f64.format.order x 14069245235905429504 == some .eq)=true)
  (hl:(FloatKind.f64.format.order x 4845873199050653696 == some .lt || FloatKind.f64.format.order x 4845873199050653696 == some .eq)=true)
  (hc:floatToIntVal .f64 x .i64=some n) (h0:-9007199254740992≤n) (h1:n≤9007199254740992) :
  Calls Tryz.prog 151 #[.complex .f64 x y] w fun e w'=>(sameB x y (floatOfInt .f64 n) 0=true→e=.returned (.tuple #[.int .i64 n,.bool true]))∧(sameB x y (floatOfInt .f64 n) 0=false→e=.returned (.tuple #[.int .i64 0,.bool false]))∧w=w':=by
 have hconv:=fun w:World=>run_convert_float_int (P:=Tryz.prog) w 221 3 .f64 .i64 x n (by kernel_rfl) Tryz.underlying3 hc
 clear hc
 cases hs:sameB x y (floatOfInt .f64 n) 0
 ·go_enter Tryz.func151,Tryz.ntmps151
  go_wp2_with fail
  refine (whole_in n w h0 h1).mono ?_
  rintro e w1 ⟨rfl,rfl⟩
  go_wp2_with fail
  refine (same_any x y _ _ w).mono ?_
  rintro e w1 ⟨rfl,rfl⟩
  rw [hs]
  go_wp2
  go_ret2
  exact ⟨(fun h=>by cases h),(fun _=>rfl),rfl⟩
 ·go_enter Tryz.func151,Tryz.ntmps151
  go_wp2_with fail
  refine (whole_in n w h0 h1).mono ?_
  rintro e w1 ⟨rfl,rfl⟩
  go_wp2_with fail
  refine (same_any x y _ _ w).mono ?_
  rintro e w1 ⟨rfl,rfl⟩
  rw [hs]
  go_wp2
  go_ret2
  exact ⟨(fun _=>rfl),(fun h=>by cases h),rfl⟩
theorem compare_self (x:Int):compare x x=.eq:=by simp [compare,compareOfLessAndEq]
open Go.RowKit Ieee
theorem order_low {x:Nat} {n:Int} (h:IsI x n) (hn:n.natAbs<9007199254740992):FloatKind.f64.format.order x 14069245235905429504=some .gt∧FloatKind.f64.format.order x 4845873199050653696=some .lt:=by
 obtain ⟨s,a,⟨k,hk⟩,rfl⟩:=h
 rw [sv_natAbs] at hn
 have r1:Ieee.double.read 14069245235905429504=.number true 4503599627370496 1:=by decide
 have r2:Ieee.double.read 4845873199050653696=.number false 4503599627370496 1:=by decide
 have hp:0<2 ^ k:=Nat.two_pow_pos k
 have hlt:a * 2 ^ k<9007199254740992 * 2 ^ k:=Nat.mul_lt_mul_of_pos_right hn hp
 have e3:4503599627370496 * 2 ^ (k+1)=9007199254740992 * 2 ^ k:=by rw [Nat.pow_succ];omega
 have hm:min (0-(k:Int)) 1=0-(k:Int):=by omega
 have e1:((0-(k:Int))-(0-(k:Int))).toNat=0:=by omega
 have e2:((1:Int)-(0-(k:Int))).toNat=k+1:=by omega
 constructor
 ·show Ieee.double.order x _=_
  unfold Format.order
  rw [hk,r1]
  simp only [Datum.order,hm,e1,e2,signed,Nat.shiftLeft_eq,Nat.pow_zero,Nat.mul_one,e3,if_true]
  generalize a * 2 ^ k=u at *
  generalize 9007199254740992 * 2 ^ k=v at *
  congr 1
  simp only [compare,compareOfLessAndEq]
  cases s
  ·rw [if_neg (by simp <;> omega),if_neg (by simp <;> omega)]
  ·rw [if_neg (by simp <;> omega),if_neg (by simp <;> omega)]
 ·show Ieee.double.order x _=_
  unfold Format.order
  rw [hk,r2]
  simp only [Datum.order,hm,e1,e2,signed,Nat.shiftLeft_eq,Nat.pow_zero,Nat.mul_one,e3,Bool.false_eq_true,if_false]
  generalize a * 2 ^ k=u at *
  generalize 9007199254740992 * 2 ^ k=v at *
  congr 1
  simp only [compare,compareOfLessAndEq]
  cases s
  ·rw [if_pos (by simp <;> omega)]
  ·rw [if_pos (by simp <;> omega)]
theorem isI_unique {b:Nat} {m n:Int} (h1:IsI b m) (h2:IsI b n):m=n:=by
 have e1:=isI_order h1 h2
 have e2:=isI_order h1 h1
 rw [e2,compare_self] at e1
 injection e1 with e1
 by_cases h:m<n
 ·simp [compare,compareOfLessAndEq,h] at e1
 ·by_cases h':m=n
  ·exact h'
  ·simp [compare,compareOfLessAndEq,h,h'] at e1
theorem f_inj {m n:Int} (hm:m.natAbs<9007199254740992) (hn:n.natAbs<9007199254740992) (h:floatOfInt .f64 m=floatOfInt .f64 n):m=n:=by
 have h1:=isI_of m hm
 rw [h] at h1
 exact isI_unique h1 (isI_of n hn)
theorem part_f (n:Int) (hn:n.natAbs<9007199254740992):partB (floatOfInt .f64 n)=floatOfInt .f64 n:=isI_partB (isI_of n hn)
theorem int_whole (n:Int) (w:World) (hn:n.natAbs<9007199254740992):Calls Tryz.prog 151 #[.complex .f64 (floatOfInt .f64 n) 0] w fun e w'=>e=.returned (.tuple #[.int .i64 n,.bool true])∧w=w':=by
 have hi:=isI_of n hn
 obtain ⟨o1,o2⟩:=order_low hi hn
 refine (int_any _ 0 n w (by rw [o1];rfl) (by rw [o2];rfl) (isI_toInt hi (by omega) (by omega)) (by omega) (by omega)).mono ?_
 rintro e w' ⟨h1,_,h3⟩
 exact ⟨h1 (by simp [sameB]),h3⟩
theorem none_any (w:World):Calls Tryz.prog 52 #[] w fun e w'=>e=.returned (.complex .f64 0 4607182418800017408)∧w=w':=by
 go_enter Tryz.func52,Tryz.ntmps52
 go_wp2
 go_ret
 exact ⟨rfl,rfl⟩
theorem ref_in (i:Int) (w:World) (h0:0≤i) (h1:i≤1099511627776):Calls Tryz.prog 153 #[.int .i64 i] w fun e w'=>e=.returned (.complex .f64 (floatOfInt .f64 (i+1)) 4607182418800017408)∧w=w':=by
 go_enter Tryz.func153,Tryz.ntmps153
 go_wp2
 go_ret
 exact ⟨rfl,rfl⟩
theorem index_yes (n:Int) (w:World) (h0:1≤n) (h1:n≤1099511627777):Calls Tryz.prog 98 #[.complex .f64 (floatOfInt .f64 n) 4607182418800017408] w fun e w'=>e=.returned (.tuple #[.int .i64 (n-1),.bool true])∧w=w':=by
 go_enter Tryz.func98,Tryz.ntmps98
 go_wp2_with fail
 refine (int_whole n w (by omega)).mono ?_
 rintro e w1 ⟨rfl,rfl⟩
 go_wp2_with fail
 refine (ref_in (n-1) w (by omega) (by omega)).mono ?_
 rintro e w1 ⟨rfl,rfl⟩
 have e1:n-1+1=n:=by omega
 rw [e1]
 clear e1
 go_wp2_with fail
 refine (same_any _ _ _ _ w).mono ?_
 rintro e w1 ⟨rfl,rfl⟩
 rw [show sameB (floatOfInt .f64 n) 4607182418800017408 (floatOfInt .f64 n) 4607182418800017408=true from by simp [sameB]]
 go_wp2
 go_ret2
 exact ⟨rfl,rfl⟩
theorem index_other (n:Int) (y:Nat) (w:World) (h0:1≤n) (h1:n≤1099511627777) (hy:sameB (floatOfInt .f64 n) y (floatOfInt .f64 n) 4607182418800017408=false) :
  Calls Tryz.prog 98 #[.complex .f64 (floatOfInt .f64 n) y] w fun e w'=>e=.returned (.tuple #[.int .i64 0,.bool false])∧w=w':=by
 have HY:=hid hy
 clear hy
 go_enter Tryz.func98,Tryz.ntmps98
 go_wp2_with fail
 refine (int_whole n w (by omega)).mono ?_
 rintro e w1 ⟨rfl,rfl⟩
 go_wp2_with fail
 refine (ref_in (n-1) w (by omega) (by omega)).mono ?_
 rintro e w1 ⟨rfl,rfl⟩
 have e1:n-1+1=n:=by omega
 rw [e1]
 clear e1
 go_wp2_with fail
 refine (same_any _ _ _ _ w).mono ?_
 rintro e w1 ⟨rfl,rfl⟩
 rw [HY.out]
 go_wp2
 go_ret2
 exact ⟨rfl,rfl⟩
theorem index_no (x y:Nat) (r:Int) (ok:Bool) (w:World) (hi:∀ w:World,Calls Tryz.prog 151 #[.complex .f64 x 0] w fun e w'=>e=.returned (.tuple #[.int .i64 r,.bool ok])∧w=w') (h:ok=false∨r<1) :
  Calls Tryz.prog 98 #[.complex .f64 x y] w fun e w'=>e=.returned (.tuple #[.int .i64 0,.bool false])∧w=w':=by
 have HI:=hid hi
 clear hi
 cases ok
 ·clear h
  go_enter Tryz.func98,Tryz.ntmps98
  go_wp2_with fail
  refine (HI.out w).mono ?_
  rintro e w1 ⟨rfl,rfl⟩
  go_wp2
  go_ret2
  exact ⟨rfl,rfl⟩
 ·have h1:r<1:=by rcases h with h | h;cases h;exact h
  clear h
  go_enter Tryz.func98,Tryz.ntmps98
  go_wp2_with fail
  refine (HI.out w).mono ?_
  rintro e w1 ⟨rfl,rfl⟩
  go_wp2
  go_ret2
  exact ⟨rfl,rfl⟩
theorem same_ref (m n:Int) (hm:m.natAbs<9007199254740992) (hn:n.natAbs<9007199254740992):sameB (floatOfInt .f64 m) 4607182418800017408 (floatOfInt .f64 n) 4607182418800017408=decide (m=n):=by
 unfold sameB
 rw [part_f m hm,part_f n hn,Bool.eq_iff_iff]
 simp only [beq_self_eq_true,Bool.and_true,beq_iff_eq,decide_eq_true_eq]
 exact ⟨f_inj hm hn,fun h=>by rw [h]⟩
open Go.RowKit
@[go_sem] theorem run_store_cx {P:Program} {w:World} (a:Addr) (x y:Nat) (m:Mode):(store a (.complex .f64 x y) m).run P w=stored P w a (.complex .f64 x y) m:=run_store P w a _ m rfl
theorem Only.blk {S:Nat→Prop} {w w':World} {b:Nat} {o:Obj} (h:Only S w w') (hb:w.heap[b]?=some o) (hn:¬ S b):w'.heap[b]?=some o:=(h.block b (Array.getElem?_eq_some_iff.1 hb).1 hn).trans hb
theorem Pure.blk {w w':World} {b:Nat} {o:Obj} (h:Pure w w') (hb:w.heap[b]?=some o):w'.heap[b]?=some o:=Only.blk h hb (fun f=>f)
theorem set_me {w:World} {b i:Nat} {cs:Array Value} {T:TypeId} {u:Value} (h:w.heap[b]?=some (.cells cs T (0,0))):(w.setCell ⟨b,i,none⟩ u).heap[b]?=some (.cells (cs.setIfInBounds i u) T (0,0)):=by simp [World.setCell,Array.getElem?_modify,h]
theorem set_other {w:World} {b c i:Nat} {o:Obj} {u:Value} (h:w.heap[c]?=some o) (hn:c≠b):(w.setCell ⟨b,i,none⟩ u).heap[c]?=some o:=by simp [World.setCell,Array.getElem?_modify,h,Ne.symm hn]
theorem int_info:(Tryz.prog.info? 3).map (fun i=>(i.zero,i.size,i.bytes))=some (some (.int .i64 0),1,8):=by kernel_rfl
theorem ne_types {w:World} {b c:Nat} {cs ds:Array Value} {T U:TypeId} (h:w.heap[b]?=some (.cells cs T (0,0))) (k:w.heap[c]?=some (.cells ds U (0,0))) (hn:T≠U):b≠c:=by
 rintro rfl
 rw [h] at k
 injection k with k
 injection k with _ k
 exact hn k
theorem own_block {w:World} {base:Nat} {e:TypeId} {size n:Nat} {v:Value} {xs:List Value} (h:w.ownsRow base e size v n xs) {k:Nat} (hk:v.ownBlock=some k):∃ cur,w.heap[k]?=some (.cells cur e (0,0)):=by
 rcases h.2 with ⟨rfl,-⟩ | ⟨g,cap,cur,rfl,-,hg,-⟩
 ·cases hk
 ·injection hk with hk
  subst hk
  exact ⟨cur,hg⟩
theorem own_ne {w:World} {base:Nat} {e U:TypeId} {size n:Nat} {v:Value} {xs:List Value} {c:Nat} {ds:Array Value} (h:w.ownsRow base e size v n xs) (k:w.heap[c]?=some (.cells ds U (0,0))) (hn:e≠U):v.ownBlock≠some c:=fun hk=>by
 obtain ⟨cur,hc⟩:=own_block h hk
 exact ne_types hc k hn rfl
end Go.Proofs.YtpgdiceeimehiaaGreat
namespace Go.Proofs.YtpgdiceeimehiaaGreat.Law
inductive TOp where
 | new0 | look1 | store01 | set0 | load11 | load21 | load22 | store12
 | clear (j:Nat) | big | kind
 deriving DecidableEq
structure A where
 cnt:Nat
 nx:Nat→Option Nat
 g:Option Nat
 l0:Option (Option Nat)
 l1:Option (Option Nat)
 l2:Option (Option Nat)
def upd (f:Nat→Option Nat) (i:Nat) (v:Option Nat):Nat→Option Nat:=fun k=>if k=i then v else f k
theorem upd_me (f:Nat→Option Nat) (i:Nat) (v:Option Nat):upd f i v i=v:=if_pos rfl
theorem upd_ne {f:Nat→Option Nat} {i k:Nat} {v:Option Nat} (h:k≠i):upd f i v k=f k:=if_neg h
inductive Ex:A→TOp→A→Prop where
 | new0 {a:A} (h:a.cnt<44):Ex a .new0 { a with cnt:=a.cnt+1,nx:=upd a.nx (43-a.cnt) none,l0:=some (some (43-a.cnt)) }
 | look1 {a:A}:Ex a .look1 { a with l1:=some a.g }
 | store01 {a:A} {i:Nat} {v:Option Nat} (h:a.l0=some (some i)) (h2:a.l1=some v):Ex a .store01 { a with nx:=upd a.nx i v }
 | set0 {a:A} {v:Option Nat} (h:a.l0=some v):Ex a .set0 { a with g:=v }
 | load11 {a:A} {i:Nat} (h:a.l1=some (some i)):Ex a .load11 { a with l1:=some (a.nx i) }
 | load21 {a:A} {i:Nat} (h:a.l1=some (some i)):Ex a .load21 { a with l2:=some (a.nx i) }
 | load22 {a:A} {i:Nat} (h:a.l2=some (some i)):Ex a .load22 { a with l2:=some (a.nx i) }
 | store12 {a:A} {i:Nat} {v:Option Nat} (h:a.l1=some (some i)) (h2:a.l2=some v):Ex a .store12 { a with nx:=upd a.nx i v }
 | clear0 {a:A}:Ex a (.clear 0) { a with l0:=some none }
 | clear1 {a:A}:Ex a (.clear 1) { a with l1:=some none }
 | clear2 {a:A}:Ex a (.clear 2) { a with l2:=some none }
inductive Run:A→List TOp→A→Prop where
 | nil {a:A}:Run a [] a
 | cons {a b c:A} {o:TOp} {r:List TOp} (h:Ex a o b) (t:Run b r c):Run a (o :: r) c
theorem Run.append {a b c:A} {r s:List TOp} (h:Run a r b) (t:Run b s c):Run a (r++s) c:=by
 induction h with
 | nil=>exact t
 | cons h _ ih=>exact .cons h (ih t)
inductive Ch (nx:Nat→Option Nat):Option Nat→List Nat→Prop where
 | nil:Ch nx none []
 | cons {i:Nat} {l:List Nat} (h:Ch nx (nx i) l):Ch nx (some i) (i :: l)
theorem Ch.upd {nx:Nat→Option Nat} {i:Nat} {v g:Option Nat} {l:List Nat} (h:Ch nx g l) (hi:i ∉ l):Ch (upd nx i v) g l:=by
 induction h with
 | nil=>exact .nil
 | cons h ih =>
  rename_i j l
  have hj:j≠i:=fun e=>hi (by simp [e])
  have hl:i ∉ l:=fun e=>hi (by simp [e])
  exact .cons (by rw [upd_ne hj];exact ih hl)
theorem Ch.mem {nx:Nat→Option Nat} {g:Option Nat} {l:List Nat} (h:Ch nx g l):∀ i,g=some i→i∈l:=by
 intro i e
 cases h with
 | nil=>cases e
 | cons h=>injection e with e;simp [e]
theorem Ch.next {nx:Nat→Option Nat} {g:Option Nat} {l:List Nat} (h:Ch nx g l):∀ i∈l,∀ j,nx i=some j→j∈l:=by
 induction h with
 | nil=>intro i hi;cases hi
 | cons h ih =>
  rename_i k l
  intro i hi j hj
  rcases List.mem_cons.1 hi with rfl | hi
  ·exact List.mem_cons_of_mem _ (h.mem j hj)
  ·exact List.mem_cons_of_mem _ (ih i hi j hj)
theorem Ch.drop {nx:Nat→Option Nat}:∀ {l:List Nat} {g:Option Nat} {k x:Nat},Ch nx g l→l[k]?=some x→Ch nx (some x) (l.drop k):=by
 intro l
 induction l with
 | nil=>intro g k x _ h;simp at h
 | cons y l ih =>
  intro g k x h hx
  cases h with
  | cons h =>
   cases k with
   | zero=>simp at hx;subst hx;exact .cons h
   | succ k=>simp at hx;simpa using ih h hx
theorem Ch.uncons {nx:Nat→Option Nat} {x:Nat} {l:List Nat} (h:Ch nx (some x) (x :: l)):Ch nx (nx x) l:=by
 cases h with
 | cons h=>exact h
theorem Ch.link {nx:Nat→Option Nat} {g:Option Nat} {l:List Nat} {k x y:Nat} (h:Ch nx g l) (hx:l[k]?=some x) (hy:l[k+1]?=some y):nx x=some y:=by
 have h1:=h.drop hx
 obtain ⟨hk,ek⟩:=List.getElem?_eq_some_iff.1 hx
 rw [List.drop_eq_getElem_cons hk,ek] at h1
 have h2:=h1.uncons
 obtain ⟨hk1,ek1⟩:=List.getElem?_eq_some_iff.1 hy
 rw [List.drop_eq_getElem_cons hk1,ek1] at h2
 generalize nx x=z at h2
 cases h2 with
 | cons _=>rfl
theorem Ch.skip {nx:Nat→Option Nat}:∀ {l:List Nat} {g:Option Nat} {k x y:Nat},Ch nx g l→l.Nodup→l[k]?=some x→l[k+1]?=some y→Ch (Law.upd nx x (nx y)) g (l.eraseIdx (k+1)):=by
 intro l
 induction l with
 | nil=>intro g k x y _ _ h;simp at h
 | cons z l ih =>
  intro g k x y h hn hx hy
  have hn2:=List.nodup_cons.1 hn
  cases h with
  | cons h =>
   cases k with
   | zero =>
    simp at hx hy
    subst hx
    cases l with
    | nil=>simp at hy
    | cons y' l =>
     simp at hy
     subst hy
     have h3:=h
     generalize nx z=q at h3
     cases h3 with
     | cons h4 =>
      refine .cons ?_
      rw [upd_me]
      exact h4.upd (fun e=>hn2.1 (by simp [e]))
   | succ k =>
    simp at hx hy
    have hxz:z≠x:=fun e=>hn2.1 (e ▸ List.mem_of_getElem? hx)
    exact .cons (by rw [upd_ne hxz];exact ih h hn2.2 hx hy)
def okv (cnt:Nat) (v:Option Nat):Prop:=∀ i,v=some i→44-cnt≤i∧i<44
def okl (cnt:Nat) (v:Option (Option Nat)):Prop:=∀ x,v=some x→okv cnt x
structure Ok (a:A):Prop where
 c:a.cnt≤44
 nx:∀ i,okv a.cnt (a.nx i)
 g:okv a.cnt a.g
 l0:okl a.cnt a.l0
 l1:okl a.cnt a.l1
 l2:okl a.cnt a.l2
theorem okv_up {n:Nat} {v:Option Nat} (h:okv n v):okv (n+1) v:=fun i e=>by have:=h i e;omega
theorem okl_up {n:Nat} {v:Option (Option Nat)} (h:okl n v):okl (n+1) v:=fun x e=>okv_up (h x e)
theorem okv_none (n:Nat):okv n none:=fun i e=>by cases e
theorem okl_some {n:Nat} {v:Option Nat} (h:okv n v):okl n (some v):=fun x e=>by injection e with e;subst e;exact h
theorem ok_upd {n i:Nat} {f:Nat→Option Nat} {v:Option Nat} (h:∀ i,okv n (f i)) (hv:okv n v):∀ k,okv n (upd f i v k):=fun k=>by
 by_cases e:k=i
 ·rw [e,upd_me];exact hv
 ·rw [upd_ne e];exact h k
theorem Ex.ok {a b:A} {o:TOp} (h:Ex a o b) (k:Ok a):Ok b:=by
 cases h with
 | new0 h =>
  refine ⟨by simp;omega,ok_upd (fun i=>okv_up (k.nx i)) (okv_none _),okv_up k.g,okl_some ?_,okl_up k.l1,okl_up k.l2⟩
  intro i e
  injection e with e
  subst e
  simp
  omega
 | look1=>exact ⟨k.c,k.nx,k.g,k.l0,okl_some k.g,k.l2⟩
 | store01 h h2=>exact ⟨k.c,ok_upd k.nx (k.l1 _ h2),k.g,k.l0,k.l1,k.l2⟩
 | set0 h=>exact ⟨k.c,k.nx,k.l0 _ h,k.l0,k.l1,k.l2⟩
 | load11 h=>exact ⟨k.c,k.nx,k.g,k.l0,okl_some (k.nx _),k.l2⟩
 | load21 h=>exact ⟨k.c,k.nx,k.g,k.l0,k.l1,okl_some (k.nx _)⟩
 | load22 h=>exact ⟨k.c,k.nx,k.g,k.l0,k.l1,okl_some (k.nx _)⟩
 | store12 h h2=>exact ⟨k.c,ok_upd k.nx (k.l2 _ h2),k.g,k.l0,k.l1,k.l2⟩
 | clear0=>exact ⟨k.c,k.nx,k.g,okl_some (okv_none _),k.l1,k.l2⟩
 | clear1=>exact ⟨k.c,k.nx,k.g,k.l0,okl_some (okv_none _),k.l2⟩
 | clear2=>exact ⟨k.c,k.nx,k.g,k.l0,k.l1,okl_some (okv_none _)⟩
structure Li (a:A) (n:Nat) (l:List Nat):Prop where
 ok:Ok a
 cn:a.cnt=n
 ch:Ch a.nx a.g l
 nd:l.Nodup
 in_:∀ i∈l,44-n≤i∧i<44
 e2:a.l2=none∨a.l2=some none
def a0:A:=⟨0,fun _=>none,none,none,none,none⟩
theorem li0:Li a0 0 []:=⟨⟨by decide,fun _=>okv_none _,okv_none _,(fun x (e:none=some x)=>nomatch e),(fun x (e:none=some x)=>nomatch e),(fun x (e:none=some x)=>nomatch e)⟩,rfl,.nil,List.nodup_nil,by simp,.inl rfl⟩
def group:List TOp:=[.new0,.look1,.store01,.set0]
theorem li_group {a:A} {n:Nat} {l:List Nat} (h:Li a n l) (hn:n<44):∃ b,Run a group b∧Li b (n+1) ((43-n) :: l):=by
 obtain ⟨ok,e,ch,nd,hin,e2⟩:=h
 subst e
 have hne:43-a.cnt ∉ l:=fun hm=>by have:=hin _ hm;omega
 have r1:=Ex.new0 (a:=a) hn
 have r2:=Ex.look1 (a:={ a with cnt:=a.cnt+1,nx:=upd a.nx (43-a.cnt) none,l0:=some (some (43-a.cnt)) })
 have r3:=Ex.store01 (a:={ a with cnt:=a.cnt+1,nx:=upd a.nx (43-a.cnt) none,l0:=some (some (43-a.cnt)),l1:=some a.g }) rfl rfl
 have r4:=Ex.set0 (a:={ a with cnt:=a.cnt+1,nx:=upd (upd a.nx (43-a.cnt) none) (43-a.cnt) a.g,l0:=some (some (43-a.cnt)),l1:=some a.g }) rfl
 refine ⟨_,.cons r1 (.cons r2 (.cons r3 (.cons r4 .nil))),r4.ok (r3.ok (r2.ok (r1.ok ok))),rfl,?_,List.nodup_cons.2 ⟨hne,nd⟩,?_,e2⟩
 ·refine .cons ?_
  show Ch (upd (upd a.nx (43-a.cnt) none) (43-a.cnt) a.g) (upd (upd a.nx (43-a.cnt) none) (43-a.cnt) a.g (43-a.cnt)) l
  rw [upd_me]
  exact (ch.upd hne).upd hne
 ·intro i hi
  rcases List.mem_cons.1 hi with rfl | hi
  ·omega
  ·have:=hin i hi;omega
def build:Nat→List TOp
 | 0=>[]
 | n+1=>build n++group
theorem li_build:∀ n,n≤44→∃ b l,Run a0 (build n) b∧Li b n l∧l.length=n
 | 0,_=>⟨a0,[],.nil,li0,rfl⟩
 | n+1,h=>by
  obtain ⟨b,l,hr,hl,hn⟩:=li_build n (by omega)
  obtain ⟨c,hr2,hl2⟩:=li_group hl (by omega)
  exact ⟨c,_,hr.append hr2,hl2,by simp [hn]⟩
def dropG (k:Nat):List TOp:=.look1 :: (List.replicate k .load11++[.load21,.load22,.store12,.clear 2])
theorem run_loads {n:Nat} {l:List Nat}:∀ (k j x y:Nat) {a:A},Li a n l→l[j]?=some x→a.l1=some (some x)→l[j+k]?=some y→∃ b,Run a (List.replicate k .load11) b∧Li b n l∧b.l1=some (some y)
 | 0,j,x,y,a,h,hx,h1,hy=>by
  rw [Nat.add_zero,hx] at hy
  injection hy with hy
  exact ⟨a,.nil,h,hy ▸ h1⟩
 | k+1,j,x,y,a,h,hx,h1,hy=>by
  have hlt:=(List.getElem?_eq_some_iff.1 hy).1
  have hz:=List.getElem?_eq_getElem (l:=l) (i:=j+1) (by omega)
  have hl:=h.ch.link hx hz
  have r1:=Ex.load11 h1
  have h2:Li { a with l1:=some (a.nx x) } n l:=⟨r1.ok h.ok,h.cn,h.ch,h.nd,h.in_,h.e2⟩
  obtain ⟨b,hr,hb,hb1⟩:=run_loads k (j+1) _ y h2 hz (by simp [hl]) (by rw [show j+1+k=j+(k+1) by omega];exact hy)
  exact ⟨b,by rw [List.replicate_succ];exact .cons r1 hr,hb,hb1⟩
theorem li_drop {a:A} {n k:Nat} {l:List Nat} (h:Li a n l) (hk:k+1<l.length):∃ b,Run a (dropG k) b∧Li b n (l.eraseIdx (k+1)):=by
 have h0:=List.getElem?_eq_getElem (l:=l) (i:=0) (by omega)
 have hk0:=List.getElem?_eq_getElem (l:=l) (i:=k) (by omega)
 have hk1:=List.getElem?_eq_getElem (l:=l) (i:=k+1) hk
 generalize l[k]=x at hk0
 generalize l[k+1]=y at hk1
 have r1:=Ex.look1 (a:=a)
 have hg:∃ z,l[0]?=some z∧a.g=some z:=by
  have hc:=h.ch
  cases hl:l with
  | nil=>rw [hl] at hk;simp at hk
  | cons z l' =>
   rw [hl] at hc
   generalize a.g=q at hc
   cases hc with
   | cons _=>exact ⟨z,by simp,rfl⟩
 obtain ⟨z,hz,hgz⟩:=hg
 obtain ⟨b,hr,hb,hb1⟩:=run_loads (n:=n) (l:=l) k 0 z x (a:={ a with l1:=some a.g }) ⟨r1.ok h.ok,h.cn,h.ch,h.nd,h.in_,h.e2⟩ hz (by simp [hgz]) (by simpa using hk0)
 have hxy:=hb.ch.link hk0 hk1
 have s1:=Ex.load21 hb1
 have s2:=Ex.load22 (a:={ b with l2:=some (b.nx x) }) (i:=y) (by simp [hxy])
 have s3:=Ex.store12 (a:={ b with l2:=some (b.nx y) }) (i:=x) (v:=b.nx y) (by simpa using hb1) rfl
 have s4:=Ex.clear2 (a:={ b with l2:=some (b.nx y),nx:=upd b.nx x (b.nx y) })
 refine ⟨_,.cons r1 (hr.append (.cons s1 (.cons s2 (.cons s3 (.cons s4 .nil))))),s4.ok (s3.ok (s2.ok (s1.ok hb.ok))),hb.cn,hb.ch.skip hb.nd hk0 hk1,hb.nd.sublist (List.eraseIdx_sublist _ _),fun i hi=>hb.in_ i ((List.eraseIdx_sublist _ _).subset hi),.inr rfl⟩
inductive Drops:Nat→List TOp→Nat→Prop where
 | nil {m:Nat}:Drops m [] m
 | snoc {m q k:Nat} {r:List TOp} (h:Drops m r q) (hk:k+1<q):Drops m (r++dropG k) (q-1)
theorem li_drops {m q:Nat} {r:List TOp} (h:Drops m r q):∀ {a:A} {n:Nat} {l:List Nat},Li a n l→l.length=m→∃ b l',Run a r b∧Li b n l'∧l'.length=q:=by
 induction h with
 | nil=>intro a n l h hm;exact ⟨a,l,.nil,h,hm⟩
 | snoc hd hk ih =>
  intro a n l h hm
  obtain ⟨b,l',hr,hb,hq⟩:=ih h hm
  obtain ⟨c,hr2,hc⟩:=li_drop hb (hq ▸ hk)
  exact ⟨c,_,hr.append hr2,hc,by rw [List.length_eraseIdx,if_pos (by omega),hq]⟩
theorem li_all {n q:Nat} {r:List TOp} (hn:n≤44) (h:Drops n r q):∃ b l,Run a0 (build n++r++[.clear 0,.clear 1]) b∧Li b n l∧l.length=q∧b.l0=some none∧b.l1=some none:=by
 obtain ⟨b,l,hr,hl,hn'⟩:=li_build n hn
 obtain ⟨c,l',hr2,hc,hq⟩:=li_drops h hl hn'
 have s1:=Ex.clear0 (a:=c)
 have s2:=Ex.clear1 (a:={ c with l0:=some none })
 refine ⟨_,l',(hr.append hr2).append (.cons s1 (.cons s2 .nil)),⟨s2.ok (s1.ok hc.ok),hc.cn,hc.ch,hc.nd,hc.in_,hc.e2⟩,hq,rfl,rfl⟩
end Go.Proofs.YtpgdiceeimehiaaGreat.Law
