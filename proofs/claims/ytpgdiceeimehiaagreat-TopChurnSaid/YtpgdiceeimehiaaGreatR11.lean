/- Part 11 of the proof of spotop.TopChurn. -/
import Derived.Test.YtpgdiceeimehiaaGreatR08
set_option maxRecDepth 100000
set_option maxHeartbeats 16000000
set_option linter.all false
open Go.Proofs.Tryz
namespace Go.Proofs.YtpgdiceeimehiaaGreat
open RowKit
section
theorem ld(k:V)(w:Y):C 43 #[J k] w λe c=>e=O (J (bX k))/\w=c:=by
 by_cases a:k<1
 ·go_enter func43,ntmps43;go_wp2;go_ret;exact⟨dP (by simp[bX,a]),T⟩
 ·by_cases b:512<k
  ·go_enter func43,ntmps43;go_wp2;go_ret;exact⟨dP (by simp[bX,b]),T⟩
  ·have d:(k+7).tdiv 8=(k+7)/8:=dl (by omega);go_enter func43,ntmps43;go_wp2;go_ret;exact⟨dP (by rw[bX,aa (by omega)]),T⟩
theorem iV(a:Bool)(A:Option Addr)(n c:N)(k:V)(w:Y)(i:n<=9223372036854775807):C 19 #[nP a A n c,J k] w λe z=>e=O (J (bM a n k))/\ae w z:=by
 have m:gZ a n=true->n<=40:=uL;have x:0<=bX k/\bX k<=64:=by unfold bX;split<;>omega
 cases h:gZ a n
 ·go_enter func19,ntmps19;go_wp2_with fail;refine(eJ a A n c _ i).mono ?_;rintro e d⟨rfl,b⟩;rw[h];have g:=M b;clear b;go_wp2;go_ret;exact⟨dP (by simp[bM,h]),ae.MD ((bo _).alloc _) g⟩
 ·have v:=m h;have j:=M h;clear m;cases a
  ·by_cases s:k=0
   ·subst s;by_cases t:n<=6
    ·have r:(n:V)<=6:=by omega
     go_enter func19,ntmps19;go_wp2_with fail;refine(eJ false A n c _ i).mono ?_;rintro e d⟨rfl,b⟩;rw[j.out];have l:d.cell? (I w.heap.size 0)=some (L false):=(b.cell (p:=⟨w.heap.size,0,none⟩) (by simp) (λf=>f)).trans (by simp);have c1:d.cell? (I w.heap.size 1)=some (Z A n c):=(b.cell (p:=⟨w.heap.size,1,none⟩) (by simp) (λf=>f)).trans (by simp);have g:=M b;clear b;go_wp2;go_ret;exact⟨dP (by rw[bM,aa (by simp[h])];simp[t]),ae.MD ((bo _).alloc _) g⟩
    ·have r:¬(n:V)<=6:=by omega
     have F:((n:V)-6+6).tdiv 7=(n:V)/7:=by rw[dl (by omega)];omega
     have y:(n:V).tdiv 7=(n:V)/7:=dl (by omega);have G:0<=(n:V)/7/\(n:V)/7<=10:=by omega
     go_enter func19,ntmps19;go_wp2_with fail;refine(eJ false A n c _ i).mono ?_;rintro e d⟨rfl,b⟩;rw[j.out];have l:d.cell? (I w.heap.size 0)=some (L false):=(b.cell (p:=⟨w.heap.size,0,none⟩) (by simp) (λf=>f)).trans (by simp);have c1:d.cell? (I w.heap.size 1)=some (Z A n c):=(b.cell (p:=⟨w.heap.size,1,none⟩) (by simp) (λf=>f)).trans (by simp);have g:=M b;clear b;go_wp2;go_ret;exact⟨dP (by rw[bM,aa (by simp[h])];simp[t]),ae.MD ((bo _).alloc _) g⟩
   ·have u:(k==0)=false:=by simpa using s
    go_enter func19,ntmps19;go_wp2_with fail;refine(eJ false A n c _ i).mono ?_;rintro e d⟨rfl,b⟩;rw[j.out];have l:d.cell? (I w.heap.size 0)=some (L false):=(b.cell (p:=⟨w.heap.size,0,none⟩) (by simp) (λf=>f)).trans (by simp);have c1:d.cell? (I w.heap.size 1)=some (Z A n c):=(b.cell (p:=⟨w.heap.size,1,none⟩) (by simp) (λf=>f)).trans (by simp);have g:=M b;clear b;go_wp2;go_ret;exact⟨dP (by rw[bM,af (by simp[h];omega)]),ae.MD ((bo _).alloc _) g⟩
  ·by_cases B:k<0
   ·have o:decide (k>=0)=false:=dT (by omega);go_enter func19,ntmps19;go_wp2_with fail;refine(eJ true A n c _ i).mono ?_;rintro e d⟨rfl,b⟩;rw[j.out];have l:d.cell? (I w.heap.size 0)=some (L true):=(b.cell (p:=⟨w.heap.size,0,none⟩) (by simp) (λf=>f)).trans (by simp);have c1:d.cell? (I w.heap.size 1)=some (Z A n c):=(b.cell (p:=⟨w.heap.size,1,none⟩) (by simp) (λf=>f)).trans (by simp);have g:=M b;clear b;go_wp2;go_ret;exact⟨dP (by rw[bM,af (by simp[h];omega)]),ae.MD ((bo _).alloc _) g⟩
   ·have o:decide (k>=0)=true:=fN (by omega);by_cases E:512<k
    ·have q:decide (k<=512)=false:=dT (by omega);go_enter func19,ntmps19;go_wp2_with fail;refine(eJ true A n c _ i).mono ?_;rintro e d⟨rfl,b⟩;rw[j.out];have l:d.cell? (I w.heap.size 0)=some (L true):=(b.cell (p:=⟨w.heap.size,0,none⟩) (by simp) (λf=>f)).trans (by simp);have c1:d.cell? (I w.heap.size 1)=some (Z A n c):=(b.cell (p:=⟨w.heap.size,1,none⟩) (by simp) (λf=>f)).trans (by simp);have g:=M b;clear b;go_wp2;go_ret;exact⟨dP (by rw[bM,af (by simp[h];omega)]),ae.MD ((bo _).alloc _) g⟩
    ·have q:decide (k<=512)=true:=fN (by omega);go_enter func19,ntmps19;go_wp2_with fail;refine(eJ true A n c _ i).mono ?_;rintro e d⟨rfl,b⟩;rw[j.out];have l:d.cell? (I w.heap.size 0)=some (L true):=(b.cell (p:=⟨w.heap.size,0,none⟩) (by simp) (λf=>f)).trans (by simp);have c1:d.cell? (I w.heap.size 1)=some (Z A n c):=(b.cell (p:=⟨w.heap.size,1,none⟩) (by simp) (λf=>f)).trans (by simp);have g:=M b;clear b;go_wp2_with fail;refine(ld k d).mono ?_;rintro e H⟨rfl,rfl⟩;go_wp2;go_ret;exact⟨dP (by rw[bM,aa (by simp[h];omega)];simp),ae.MD ((bo _).alloc _) g⟩
theorem km(a:Bool)(A:Option Addr)(n c:N)(k:V)(w:Y)(h:n<=9223372036854775807):C 20 #[nP a A n c,J k] w λe r=>e=O (J (cE a n k))/\ae w r:=by
 have o:0<=bX k:=by unfold bX;split<;>omega
 have q:bX k<=64:=by unfold bX;split<;>omega
 cases j:gZ a n
 ·cases a
  all_goals
   go_enter func20,ntmps20;go_wp2_with fail;refine(eJ _ A n c _ h).mono ?_;rintro e d⟨rfl,b⟩;have g:=M b;clear b;go_wp2;go_ret;exact⟨dP (by simp[cE,j]),ae.MD ((bo _).alloc _) g⟩
 ·cases a
  ·
   go_enter func20,ntmps20;go_wp2_with fail;refine(eJ false A n c _ h).mono ?_;rintro e d⟨rfl,b⟩;have i:d.cell? (I w.heap.size 0)=some (L false):=(b.cell (p:=⟨w.heap.size,0,none⟩) (by simp) (λf=>f)).trans (by simp);have c1:d.cell? (I w.heap.size 1)=some (Z A n c):=(b.cell (p:=⟨w.heap.size,1,none⟩) (by simp) (λf=>f)).trans (by simp);have g:=M b;clear b;go_wp2;go_ret;exact⟨dP (by simp[cE]),ae.MD ((bo _).alloc _) g⟩
  ·by_cases m:bX k<=4
   ·
    go_enter func20,ntmps20;go_wp2_with fail;refine(eJ true A n c _ h).mono ?_;rintro e d⟨rfl,b⟩;have i:d.cell? (I w.heap.size 0)=some (L true):=(b.cell (p:=⟨w.heap.size,0,none⟩) (by simp) (λf=>f)).trans (by simp);have c1:d.cell? (I w.heap.size 1)=some (Z A n c):=(b.cell (p:=⟨w.heap.size,1,none⟩) (by simp) (λf=>f)).trans (by simp);have g:=M b;clear b;go_wp2_with fail;refine(ld k d).mono ?_;rintro e l⟨rfl,rfl⟩;go_wp2;go_ret;exact⟨dP (by simp[cE,m]),ae.MD ((bo _).alloc _) g⟩
   ·
    go_enter func20,ntmps20;go_wp2_with fail;refine(eJ true A n c _ h).mono ?_;rintro e d⟨rfl,b⟩;have i:d.cell? (I w.heap.size 0)=some (L true):=(b.cell (p:=⟨w.heap.size,0,none⟩) (by simp) (λf=>f)).trans (by simp);have c1:d.cell? (I w.heap.size 1)=some (Z A n c):=(b.cell (p:=⟨w.heap.size,1,none⟩) (by simp) (λf=>f)).trans (by simp);have g:=M b;clear b;go_wp2_with fail;refine(ld k d).mono ?_;rintro e l⟨rfl,rfl⟩;go_wp2_with fail;refine(ld k d).mono ?_;rintro e l⟨rfl,rfl⟩;go_wp2;go_ret;exact⟨dP (by rw[cE,aa (by simp[j];omega)]),ae.MD ((bo _).alloc _) g⟩
