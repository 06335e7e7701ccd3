/- Part 10 of the proof of spotop.TopChurn. -/
import Derived.Sort.OwnSortedInts
import Derived.Test.YtpgdiceeimehiaaGreatR04
import Derived.Test.YtpgdiceeimehiaaGreatR05
set_option maxRecDepth 100000
set_option maxHeartbeats 16000000
set_option linter.all false
open Go.Proofs.Tryz
namespace Go.Proofs.YtpgdiceeimehiaaGreat
open RowKit
section
theorem Ev(B:N)(a:List Int)(v:Value)(w:Y)(h:w.ownsRow B 3 1 v a.length (bI a))(r:a.length<=1000000):C 74 #[v] w λe c=>e=O (.tuple #[])/\ac (λk=>v.ownBlock=some k) w c/\∃ts:List Int,ts.length=a.length/\(∀x,x∈ts↔x∈a)/\(a.Nodup->ts.Nodup)/\c.ownsRow B 3 1 v ts.length (bI ts):=by
 rcases h.2 with⟨rfl,j⟩|⟨g,cap,i,rfl,p,d,l,m,o,f⟩
 ·have hz:a=[]:=mD j;subst hz;refine(slices_Sort_int_none none 0 w).mono ?_;rintro e c⟨rfl,rfl⟩;exact⟨T,bo _,[],T,by simp,λ_=>List.nodup_nil,h⟩
 ·rw[ei]at f;refine(slices_Sort_int g 0 cap a w (holds_of_blockI d f) (bR.1 d).1 (by omega)).mono ?_;rintro e c⟨rfl,n,os,rfl⟩;have b:(a.mergeSort λx y=>decide (x<=y)).length=a.length:=List.length_mergeSort a;refine⟨T,(bo w).grown (grownBy_sortedI _) (λk _ e=>e),a.mergeSort (λx y=>decide (x<=y)),b,λx=>List.mem_mergeSort,λq=>(List.mergeSort_perm a _).nodup_iff.2 q,?_⟩;have:=ownsRow_sortedI (w:=w) (n:=n) (os:=os) (cap:=cap) (e:=3) (ts:=a.mergeSort λx y=>decide (x<=y)) b p d l m o;rw[b];exact this
