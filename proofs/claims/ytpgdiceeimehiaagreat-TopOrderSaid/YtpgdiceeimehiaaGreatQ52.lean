/- Part 52 of the proof that spotop.TopOrder returns true for all arguments and leaves what was there as it was. -/
import Derived.Deep.DeepCutAuto
import Derived.Deep.CutBlock
import Derived.Lib.RabinKarpLaws
import Derived.Test.YtpgdiceeimehiaaGreatQ51
set_option maxRecDepth 100000
set_option maxHeartbeats 16000000
open Go.Lib (hid)
namespace Go.Proofs.YtpgdiceeimehiaaGreat.topOrder
open Go.RowKit Go.ChangeShapes Go.WideShapes Go.ChangeAt
open Law
open Ac (Vl OpD CT zeroVl opV opCells)
def shT (B:Nat):List Sh:=[⟨false,.slice (some ⟨B+1,0,none⟩) 2 2,bs2⟩,⟨false,.slice (some ⟨B,0,none⟩) 40 40,bs0⟩]
abbrev o1T:Obj:=.cells (Array.replicate 40 (.bool false)) 4
abbrev o2T:Obj:=.cells #[.bool true,.bool true] 4
abbrev o3T (B:Nat):Obj:=.cells #[.bool false,.slice (some ⟨B+1,0,none⟩) 2 2,.bool false,.slice (some ⟨B,0,none⟩) 40 40] 35
abbrev o4T (B:Nat):Obj:=.cells #[.int .i64 44,.int .i64 0,.int .i64 1,.int .i64 1,.int .i64 4,.int .i64 0,.int .i64 2,.int .i64 0,.slice (some ⟨B+1+1,0,none⟩) 2 2] 24
structure CfT (w4:World) (B:Nat):Prop where
 g0:w4.heap[B]?=some (.cells (Array.replicate 40 (.bool false)) 4 (0,0))
 g1:w4.heap[B+1]?=some (.cells #[.bool true,.bool true] 4 (0,0))
 g2:w4.heap[B+1+1]?=some (.cells #[.bool false,.slice (some ⟨B+1,0,none⟩) 2 2,.bool false,.slice (some ⟨B,0,none⟩) 40 40] 35 (0,0))
 g3:w4.heap[B+1+1+1]?=some (.cells #[.int .i64 44,.int .i64 0,.int .i64 1,.int .i64 1,.int .i64 4,.int .i64 0,.int .i64 2,.int .i64 0,.slice (some ⟨B+1+1,0,none⟩) 2 2] 24 (0,0))
theorem CfT.pure {w4 w:World} {B:Nat} (h:CfT w4 B) (hp:Pure w4 w):CfT w B:=⟨hp.blk h.g0,hp.blk h.g1,hp.blk h.g2,hp.blk h.g3⟩
theorem cf_new (w:World) (B:Nat) (hB:w.heap.size=B) (w4:World) (hw4:(((w.alloc o1T).alloc o2T).alloc (o3T B)).alloc (o4T B)=w4):Pure w w4∧CfT w4 B:=by
 have hg0:=heap_alloc_new w o1T
 rw [hB] at hg0
 have hs1:(w.alloc o1T).heap.size=B+1:=by simp [hB]
 have hg1:=heap_alloc_new (w.alloc o1T) o2T
 rw [hs1] at hg1
 have hs2:((w.alloc o1T).alloc o2T).heap.size=B+1+1:=by simp [hB]
 have hg2:=heap_alloc_new ((w.alloc o1T).alloc o2T) (o3T B)
 rw [hs2] at hg2
 have hs3:(((w.alloc o1T).alloc o2T).alloc (o3T B)).heap.size=B+1+1+1:=by simp [hB]
 have hg3:=heap_alloc_new (((w.alloc o1T).alloc o2T).alloc (o3T B)) (o4T B)
 rw [hs3,hw4] at hg3
 have q1:Pure (w.alloc o1T) w4:=by rw [← hw4];exact (((Only.refl _ _).alloc _).alloc _).alloc _
 have q2:Pure ((w.alloc o1T).alloc o2T) w4:=by rw [← hw4];exact ((Only.refl _ _).alloc _).alloc _
 have q3:Pure (((w.alloc o1T).alloc o2T).alloc (o3T B)) w4:=by rw [← hw4];exact (Only.refl _ _).alloc _
 exact ⟨Pure.then ((Only.refl _ w).alloc _) q1,q1.blk hg0,q2.blk hg1,q3.blk hg2,hg3⟩
theorem CfT.shs {w:World} {B:Nat} (h:CfT w B):ShsR w w.heap.size (.slice (some ⟨B+1+1,0,none⟩) 2 2) (shT B):=by
 have l0:=(Array.getElem?_eq_some_iff.1 h.g0).1
 have l1:=(Array.getElem?_eq_some_iff.1 h.g1).1
 have l2:=(Array.getElem?_eq_some_iff.1 h.g2).1
 refine ⟨⟨some ⟨B+1+1,0,none⟩,2,rfl,by show 2≤2;omega,by omega,fun _=>⟨B+1+1,0,rfl,l2,fun j s hj=>?_⟩⟩,fun s hs=>?_⟩
 ·rcases j with _ | _ | j
  ·simp [shT] at hj;subst hj
   refine ⟨?_,?_⟩ <;> (rw [cell_of_row w _ _ _ _ _ h.g2];rfl)
  ·simp [shT] at hj;subst hj
   refine ⟨?_,?_⟩ <;> (rw [cell_of_row w _ _ _ _ _ h.g2];rfl)
  ·simp [shT] at hj
 ·simp [shT] at hs
  rcases hs with rfl | rfl
  ·refine ⟨some ⟨B+1,0,none⟩,2,rfl,by show 2≤2;omega,by omega,fun _=>⟨B+1,0,rfl,l1,fun j u hu=>?_⟩⟩
   rw [cell_of_row w _ _ _ _ _ h.g1,Nat.zero_add]
   simpa [bs2,bools] using hu
  ·refine ⟨some ⟨B,0,none⟩,40,by rw [bools_length,bs0_len],by rw [bools_length,bs0_len];omega,by omega,fun _=>⟨B,0,rfl,l0,fun j u hu=>?_⟩⟩
   rw [cell_of_row w _ _ _ _ _ h.g0,Nat.zero_add]
   simp only [bools,bs0,List.map_replicate,List.getElem?_replicate] at hu
   rw [Array.getElem?_replicate]
   exact hu
structure Lo (w4:World) (l:List TOp) (N:Nat) (v:Value) (wr:World):Prop where
 pu:Pure w4 wr
 len:l.length=N
 own:wr.ownsRow w4.heap.size 32 6 v N (opCells (l.map opD))
theorem Lo.app {w4 wr w9:World} {l t:List TOp} {N k c n9:Nat} {A A9:Option Addr} {ob:Obj} {cs:List Value} (h:Lo w4 l N (.slice A N c) wr) (hown:w9.ownsRow w4.heap.size 32 6 (.slice A9 (N+k) n9) (N+k) (opCells (l.map opD)++cs)) (hc:cs=opCells (t.map opD)) (hk:k=t.length) (hg:(wr.alloc ob).grownBy w9 (Value.slice A N c).ownBlock):Lo w4 (l++t) (N+k) (.slice A9 (N+k) n9) w9:=by
 refine ⟨(h.pu.alloc _).grown hg (fun q hq e=>by have:=(h.own.lt q e).1;omega),by rw [List.length_append,h.len,hk],?_⟩
 rw [List.map_append,show opCells (l.map opD++t.map opD)=opCells (l.map opD)++opCells (t.map opD) from List.flatMap_append,← hc]
 exact hown
theorem Lo.src {w4 w:World} {l:List TOp} {N:Nat} {v:Value} (h:Lo w4 l N v w) (hN:0<N):∃ g c,v=.slice (some ⟨g,0,none⟩) N c∧g<w.heap.size∧Src w 6 (some ⟨g,0,none⟩) N (opCells (l.map opD)):=by
 have hlen:(opCells (l.map opD)).length=N * 6:=by rw [Ac.op_len,List.length_map,h.len]
 obtain ⟨g,cap,rfl,h2⟩:=h.own.form (by omega)
 refine ⟨g,cap,rfl,(h.own.lt g rfl).2,hlen,fun _=>⟨g,0,rfl,fun j u hu=>?_⟩⟩
 have hj:j<N * 6:=by rw [← hlen];exact (List.getElem?_eq_some_iff.1 hu).1
 rw [Nat.zero_add,h.own.cellAt j (by omega)]
 exact hu
abbrev allT (j:Nat) (r:List TOp):List TOp:=build j++r++[TOp.clear 0,TOp.clear 1,TOp.big,TOp.kind]
structure Rn (w:World) (L:List OpD) (q:Nat) (K:Cor.Q) (b:Ac.B) (hb lg yb t:Nat) (wr:World):Prop where
 pu:Pure w wr
 st:∃ κ m s y o,Mt wr c0 K κ m b s yb y hb lg o∧Sx L q m s y o∧OwnOk s t∧∀ k,CM (κ k)→w.heap.size≤k
structure Rf (w:World) (K:Cor.Q) (b:Ac.B) (hb lg yb:Nat) (wr:World):Prop where
 pu:Pure w wr
 st:∃ κ m s y o,Mt wr c0 K κ m b s yb y hb lg o∧Fin m s y K.csh
theorem Rn.fin {w wr:World} {L:List OpD} {q t:Nat} {K:Cor.Q} {b:Ac.B} {hb lg yb:Nat} (h:Rn w L q K b hb lg yb t wr) (hK:Kok K):Rf w K b hb lg yb wr:=by
 obtain ⟨κ,m,s,y,o,h1,h2,-⟩:=h.st
 exact ⟨h.pu,κ,m,s,y,o,h1,h2.fin hK⟩
theorem Rn.pure {w wr w':World} {L:List OpD} {q t:Nat} {K:Cor.Q} {b:Ac.B} {hb lg yb:Nat} (h:Rn w L q K b hb lg yb t wr) (hp:Pure wr w'):Rn w L q K b hb lg yb t w':=by
 obtain ⟨κ,m,s,y,o,h1,h2⟩:=h.st
 exact ⟨h.pu.then hp,κ,m,s,y,o,h1.pure hp,h2⟩
theorem Rf.pure {w wr w':World} {K:Cor.Q} {b:Ac.B} {hb lg yb:Nat} (h:Rf w K b hb lg yb wr) (hp:Pure wr w'):Rf w K b hb lg yb w':=by
 obtain ⟨κ,m,s,y,o,h1,h2⟩:=h.st
 exact ⟨h.pu.then hp,κ,m,s,y,o,h1.pure hp,h2⟩
theorem words0_last (n:Nat):(Cor.words0 n 1 1)[n]?=some noneW:=by
 unfold Cor.words0
 rw [List.getElem?_append_right (by simp)]
 simp
 rfl
theorem first_sx {j q:Nat} {r:List TOp} (hj:j≤40) (hd:Drops j r q):Sx ((allT j r).map opD) q (cor0 c0) (act0 4) cyc0 none:=by
 obtain ⟨e,l,hrun,hli,hlen,h0,h1⟩:=li_all (n:=j) (by omega) hd
 have hw:(cor0 c0).words=Cor.words0 352 1 1:=rfl
 have hl44:(cor0 c0).s.l=tb 44 (tA 0):=by
  show List.replicate 44 _=_
  rw [← tb_rep]
  exact tb_ext (fun i hi=>by unfold tA;rw [if_pos hi])
 refine .out a0 (build j++r++[TOp.clear 0,TOp.clear 1]) ⟨by show List.drop 0 _=_;simp [allT],⟨e,l,j,hrun,hli,hlen,h0,h1⟩,li0.ok,⟨by rw [hw,Cor.words0_length (by omega)],fun i h1 h2=>by have:a0.cnt=0:=rfl;omega,(congrArg (fun l=>l[352]?) hw).trans (words0_last 352)⟩,rfl,rfl,rfl,rfl,rfl,⟨rfl,rfl,rfl,rfl,rfl,rfl⟩⟩ rfl rfl ⟨hl44,?_,rfl,fun _=>rfl,rfl,rfl,rfl,tA_le 0⟩ rfl rfl
 show List.replicate 44 true=_
 rw [← tb_rep]
 exact tb_ext (fun i hi=>by unfold tA;rw [if_pos hi];rfl)
theorem kok_of {B:Nat} {K:Cor.Q} (h:alike (shT B) K.csh) (hm:K.most=c0.stack.toNat) (hn:K.q.ns=1):Kok K:=by
 refine ⟨?_,?_,fun s hs=>?_,hm,by rw [hn];omega⟩
 ·obtain ⟨t,ht,hta,htb⟩:=Vw.alike_get h (k:=0) (s0:=⟨false,.slice (some ⟨B+1,0,none⟩) 2 2,bs2⟩) rfl
  obtain ⟨ta,tv,tb⟩:=t
  simp only [] at hta htb
  subst hta;subst htb
  exact ⟨tv,ht⟩
 ·obtain ⟨t,ht,hta,htb⟩:=Vw.alike_get h (k:=1) (s0:=⟨false,.slice (some ⟨B,0,none⟩) 40 40,bs0⟩) rfl
  obtain ⟨ta,tv,tb⟩:=t
  simp only [] at hta htb
  subst hta;subst htb
  exact ⟨tv,ht⟩
 ·obtain ⟨t,ht,-,htb⟩:=alike_mem h hs
  rw [← htb]
  simp [shT] at ht
  rcases ht with rfl | rfl
  ·show 2≤1000000;omega
  ·show bs0.length≤1000000;rw [bs0_len];omega
theorem build_len:∀ n,(build n).length=4 * n
 | 0=>rfl
 | n+1=>by rw [build,List.length_append,build_len n];simp [group];omega
theorem main (w:World) (n:Nat) (hn1:1≤n) (hn2:n≤40) (A:Option Addr) (cc:Nat) (xs:List Int) (hl:xs.length≤200) (hs:SlI w w.heap.size (.slice A xs.length cc) xs):Calls Tryz.prog 4 #[.int .i64 (n:Int),.slice A xs.length cc] w fun e w'=>e=.returned (.bool true)∧Pure w w':=by
 have HS:=hid hs
 have c1:decide ((n:Int)<1)=false:=by simp;omega
 have c2:decide ((40:Int)<(n:Int))=false:=by simp;omega
 have c3:decide ((200:Int)<(xs.length:Int))=false:=by simp;omega
 have HN:=hid (And.intro hn1 (And.intro hn2 hl))
 clear hs hn1 hn2 hl
 go_enter Tryz.func4,Tryz.ntmps4
 go_wp2_with fail
 refine (known_true w).mono ?_
 rintro e w1 ⟨rfl,hp1⟩
 have HP1:=hid hp1
 have hmk:(Instr.makeSlice 33 (.int .i64 40) (.int .i64 40)).run Tryz.prog w1=.ok (.slice (some ⟨w1.heap.size,0,none⟩) 40 40) (w1.alloc (.cells (Array.replicate 40 (.bool false)) 4)):=by kernel_rfl
 clear hp1
 go_wp2_with fail
 obtain ⟨hp4,hcf4⟩:=cf_new w1 w1.heap.size rfl _ rfl
 have HP4:=hid (HP1.out.then hp4)
 have HCF:=hid hcf4
 clear hmk hp4 hcf4 c1 c2 c3
 generalize (((w1.alloc o1T).alloc o2T).alloc (o3T w1.heap.size)).alloc (o4T w1.heap.size)=w4 at *
 generalize w1.heap.size=B at *
 obtain ⟨i0,hi0,hz0,hz1,hz2⟩:=info_parts op_info
 go_loopw [7,8] (fun v i wr=>∃ (j N:Nat),j≤n∧i=.int .i64 (j:Int)∧Lo w4 (build j) N v wr) (fun _ i _=>n-(intOf i).toNat)
 case atStart=>exact ⟨0,0,by omega,rfl,Only.refl _ _,rfl,World.ownsRow_nil _ _ _ _⟩
 case round =>
  obtain ⟨j,N,hj,rfl,hlo⟩:=hrel
  obtain ⟨A7,c7,rfl⟩:=own_form hlo.own
  have LO:=hid hlo
  have hN:N≤160:=by have:=hlo.len;rw [build_len] at this;have:=HN.out.2.1;omega
  clear hlo
  by_cases hlt:j<n
  ·have hj40:j<40:=by have:=HN.out.2.1;omega
   go_wp2_with (at_builtin;refine wpList_app _ rfl (.tmp 47) (.tmp 52) _ rfl w4.heap.size 32 i0 _ 6 56 Tryz.underlying29 hi0 hz0 hz1 hz2 rfl (by omega) (.slice A7 N c7) N _ rfl (World.ownsRow.alloc LO.out.own _) _ 4 4 [.int .i64 1,.int .i64 0,.int .i64 0,.int .i64 0,.int .i64 0,.complex .f64 0 0,.int .i64 7,.int .i64 1,.int .i64 0,.int .i64 0,.int .i64 0,.complex .f64 0 0,.int .i64 4,.int .i64 0,.int .i64 1,.int .i64 0,.int .i64 0,.complex .f64 0 0,.int .i64 8,.int .i64 0,.int .i64 0,.int .i64 0,.int .i64 0,.complex .f64 0 0] rfl (Src.row _ _ #[.int .i64 1,.int .i64 0,.int .i64 0,.int .i64 0,.int .i64 0,.complex .f64 0 0,.int .i64 7,.int .i64 1,.int .i64 0,.int .i64 0,.int .i64 0,.complex .f64 0 0,.int .i64 4,.int .i64 0,.int .i64 1,.int .i64 0,.int .i64 0,.complex .f64 0 0,.int .i64 8,.int .i64 0,.int .i64 0,.int .i64 0,.int .i64 0,.complex .f64 0 0] 6 4 _ rfl rfl) (by simp [Value.oneCell']) (by simp only [maxLen];omega) (by omega) (by have:=LO.out.pu.size;simp;omega) ?_;intro v9 w9 hown9 hg9 hat9;obtain ⟨A9,n9,rfl⟩:=own_form hown9;have LO9:=hid (LO.out.app (t:=[TOp.new0,TOp.look1,TOp.store01,TOp.set0]) hown9 rfl rfl hg9);clear hown9 hg9 hat9;go_frame)
   go_roundw
   case rel=>exact ⟨j+1,N+4,by omega,by first | rfl | simp,LO9.out⟩
   case measure=>simp [intOf];omega
  ·obtain rfl:j=n:=by omega
   clear hlt hj
   go_upto_block 2 with fail
   go_cut [7,9] (fun v lf wx=>∃ (N q:Nat) (r:List TOp),lf=.int .i64 (q:Int)∧Drops j r q∧1≤q∧q≤40∧Lo w4 (build j++r) N v wx∧N≤950)
   case first =>
    go_wp2_with fail
    go_loopw [7,9,10] (fun v lf i wr=>∃ (iN N q:Nat) (r:List TOp),iN≤xs.length∧i=.int .i64 (iN:Int)∧lf=.int .i64 (q:Int)∧Drops j r q∧1≤q∧q≤40∧Lo w4 (build j++r) N v wr∧N≤900) (fun _ _ i _=>xs.length-(intOf i).toNat)
    case atStart=>exact ⟨0,N,j,[],by omega,rfl,rfl,.nil,HN.out.1,HN.out.2.1,by rw [List.append_nil];exact LO.out,by omega⟩
    case round =>
     clear LO hN
     obtain ⟨iN,N,q,r,hi,rfl,rfl,hd,hq1,hq40,hlo,hN⟩:=hrel
     obtain ⟨A7,c7,rfl⟩:=own_form hlo.own
     have LO:=hid hlo
     have HD:=hid hd
     clear hlo hd
     by_cases hc:iN<xs.length∧1<q
     ·have HC:=hid hc
      obtain ⟨x,hx⟩:∃ x,xs[iN]?=some x:=⟨_,List.getElem?_eq_getElem hc.1⟩
      have hsw:=HS.out.only (HP4.out.then LO.out.pu) (fun _ _ f=>f)
      obtain ⟨A5,c5,e5,h51,h52,h53,h54⟩:=hsw
      injection e5 with e1 e2 e3
      subst e1
      subst e3
      obtain ⟨gb,go_,rfl,hgb,hcell⟩:=h54 (by omega)
      have hxc:=hcell iN hc.1
      have hxd:xs.getD iN 0=x:=by simp [List.getD,hx]
      rw [hxd] at hxc
      have hxb:=h53 x (List.mem_of_getElem? hx)
      have hb1:decide ((iN:Int)<(xs.length:Int))=true:=by simp;omega
      have hb2:decide ((1:Int)<(q:Int))=true:=by simp;omega
      have hi1:(iN:Int)<(xs.length:Int):=by omega
      clear hc hcell hgb h51 h53 h54 hx hxd e2
      go_upto_if 69 with fail
      go_cut [11] (fun s11 wx=>wx=wr∧∃ k:Nat,s11=.int .i64 (k:Int)∧k<q)
      case first =>
       by_cases hx0:0<x
       ·obtain ⟨X,rfl⟩:∃ X:Nat,x=(X:Int):=Int.eq_ofNat_of_zero_le (by omega)
        have hq0:((q:Int) == 0)=false:=by have:=HC.out.2;simp;omega
        have hb3:decide ((0:Int)<(X:Int))=true:=by simp;omega
        go_wp2_with fail
        go_meet
        exact ⟨rfl,X % q,congrArg _ (Int.natCast_emod X q).symm,Nat.mod_lt _ (by have:=HC.out.2;omega)⟩
       ·have hb3:decide ((0:Int)<x)=false:=by simp;omega
        go_wp2_with fail
        go_meet
        exact ⟨rfl,0,rfl,by have:=HC.out.2;omega⟩
      case rest =>
       obtain ⟨rfl,k,rfl,hk⟩:=hcut
       have hi200:iN<200:=by have:=HC.out.1;have:=HN.out.2.2;omega
       clear hxc hb1 hb2 hxb hi1
       by_cases hkc:q≤k+1
       ·have hb4:decide ((q:Int)-1≤(k:Int))=true:=by simp;omega
        go_wp2_with fail
        go_roundw
        case rel=>exact ⟨iN+1,N,q,r,by have:=HC.out.1;omega,by first | rfl | simp,rfl,HD.out,hq1,hq40,LO.out,hN⟩
        case measure=>have:=HC.out.1;simp [intOf];omega
       ·have hb4:decide ((q:Int)-1≤(k:Int))=false:=by simp;omega
        have HKC:Hid (k+1<q):=hid (by omega)
        have hk40:k≤40:=by omega
        clear hkc hk
        go_upto_region 21 with (at_builtin;refine wpList_app _ rfl (.tmp 80) (.tmp 82) _ rfl w4.heap.size 32 i0 _ 6 56 Tryz.underlying29 hi0 hz0 hz1 hz2 rfl (by omega) (.slice A7 N c7) N _ rfl (World.ownsRow.alloc LO.out.own _) _ 1 1 [.int .i64 7,.int .i64 1,.int .i64 0,.int .i64 0,.int .i64 0,.complex .f64 0 0] rfl (Src.row _ _ #[.int .i64 7,.int .i64 1,.int .i64 0,.int .i64 0,.int .i64 0,.complex .f64 0 0] 6 1 _ rfl rfl) (by simp [Value.oneCell']) (by simp only [maxLen];omega) (by omega) (by have:=LO.out.pu.size;simp;omega) ?_;intro v9 w9 hown9 hg9 hat9;obtain ⟨A9,n9,rfl⟩:=own_form hown9;have LO2:=hid (LO.out.app (t:=[TOp.look1]) hown9 rfl rfl hg9);clear hown9 hg9 hat9;go_frame)
        clear LO hb4
        go_wp2_with fail
        go_loopw [7,12] (fun v jj wr=>∃ jn:Nat,jn≤k∧jj=.int .i64 (jn:Int)∧Lo w4 (build j++r++[TOp.look1]++List.replicate jn TOp.load11) (N+1+jn) v wr) (fun _ jj _=>k-(intOf jj).toNat)
        case atStart=>exact ⟨0,by omega,rfl,by simpa using LO2.out⟩
        case round =>
         clear LO2
         obtain ⟨jn,hjn,rfl,hlo⟩:=hrel
         obtain ⟨A10,c10,rfl⟩:=own_form hlo.own
         obtain ⟨M,hM⟩:∃ M,N+1+jn=M:=⟨_,rfl⟩
         rw [hM] at hlo
         rw [hM]
         have LO3:=hid hlo
         have HM:=hid hM
         have hM2:M≤945:=by omega
         clear hlo hM
         by_cases hjk:jn<k
         ·have hb5:(jn:Int)<(k:Int):=by omega
          go_wp2_with (at_builtin;refine wpList_app _ rfl (.tmp 89) (.tmp 91) _ rfl w4.heap.size 32 i0 _ 6 56 Tryz.underlying29 hi0 hz0 hz1 hz2 rfl (by omega) (.slice A10 M c10) M _ rfl (World.ownsRow.alloc LO3.out.own _) _ 1 1 [.int .i64 3,.int .i64 1,.int .i64 1,.int .i64 0,.int .i64 0,.complex .f64 0 0] rfl (Src.row _ _ #[.int .i64 3,.int .i64 1,.int .i64 1,.int .i64 0,.int .i64 0,.complex .f64 0 0] 6 1 _ rfl rfl) (by simp [Value.oneCell']) (by simp only [maxLen];omega) (by omega) (by have:=LO3.out.pu.size;simp;omega) ?_;intro v11 w11 hown11 hg11 hat11;obtain ⟨A11,n11,rfl⟩:=own_form hown11;have LO4:=hid (LO3.out.app (t:=[TOp.load11]) hown11 rfl rfl hg11);clear hown11 hg11 hat11;go_frame)
          go_roundw
          case rel=>exact ⟨jn+1,by omega,by first | rfl | simp,by have h1:=LO4.out;rw [← HM.out] at h1 ⊢;rw [List.replicate_succ',← List.append_assoc,← Nat.add_assoc];exact h1⟩
          case measure=>simp [intOf];omega
         ·obtain rfl:jn=k:=by omega
          clear hjk hjn
          go_upto_region 26 with (at_builtin;refine wpList_app _ rfl (.tmp 93) (.tmp 98) _ rfl w4.heap.size 32 i0 _ 6 56 Tryz.underlying29 hi0 hz0 hz1 hz2 rfl (by omega) (.slice A10 M c10) M _ rfl (World.ownsRow.alloc LO3.out.own _) _ 4 4 [.int .i64 3,.int .i64 2,.int .i64 1,.int .i64 0,.int .i64 0,.complex .f64 0 0,.int .i64 3,.int .i64 2,.int .i64 2,.int .i64 0,.int .i64 0,.complex .f64 0 0,.int .i64 4,.int .i64 1,.int .i64 2,.int .i64 0,.int .i64 0,.complex .f64 0 0,.int .i64 13,.int .i64 2,.int .i64 0,.int .i64 0,.int .i64 0,.complex .f64 0 0] rfl (Src.row _ _ #[.int .i64 3,.int .i64 2,.int .i64 1,.int .i64 0,.int .i64 0,.complex .f64 0 0,.int .i64 3,.int .i64 2,.int .i64 2,.int .i64 0,.int .i64 0,.complex .f64 0 0,.int .i64 4,.int .i64 1,.int .i64 2,.int .i64 0,.int .i64 0,.complex .f64 0 0,.int .i64 13,.int .i64 2,.int .i64 0,.int .i64 0,.int .i64 0,.complex .f64 0 0] 6 4 _ rfl rfl) (by simp [Value.oneCell']) (by simp only [maxLen];omega) (by omega) (by have:=LO3.out.pu.size;simp;omega) ?_;intro v12 w12 hown12 hg12 hat12;obtain ⟨A12,n12,rfl⟩:=own_form hown12;have LO5:=hid (LO3.out.app (t:=[TOp.load21,TOp.load22,TOp.store12,TOp.clear 2]) hown12 rfl rfl hg12);clear hown12 hg12 hat12;go_frame)
          have hq2:1<q:=HC.out.2
          have hlst:build j++r++[TOp.look1]++List.replicate jn TOp.load11++[TOp.load21,TOp.load22,TOp.store12,TOp.clear 2]=build j++(r++dropG jn):=by simp [dropG]
          have hlo6:=LO5.out
          rw [hlst] at hlo6
          have LO6:=hid hlo6
          have HD6:=hid (Drops.snoc HD.out HKC.out)
          obtain ⟨M4,hM4⟩:∃ M4,M+4=M4:=⟨_,rfl⟩
          rw [hM4] at LO6 ⊢
          have hM5:M4≤949:=by omega
          clear hlst hlo6 LO5 LO3 hM4
          by_cases h9:900<M4
          ·have hb6:decide ((900:Int)<(M4:Int))=true:=by simp;omega
           go_wp2_with fail
           go_meet
           exact ⟨M4,q-1,r++dropG jn,congrArg _ (by omega),HD6.out,by omega,by omega,LO6.out,by omega⟩
          ·have hb6:decide ((900:Int)<(M4:Int))=false:=by simp;omega
           go_wp2_with fail
           go_roundw
           case rel=>exact ⟨iN+1,M4,q-1,r++dropG jn,by have:=HC.out.1;omega,by first | rfl | simp,congrArg _ (by omega),HD6.out,by omega,by omega,LO6.out,by omega⟩
           case measure=>have:=HC.out.1;simp [intOf];omega
     ·by_cases hc1:iN<xs.length
      ·have hb1:decide ((iN:Int)<(xs.length:Int))=true:=by simp;omega
       have hb2:decide ((1:Int)<(q:Int))=false:=by simp;omega
       have hN9:N≤950:=by omega
       clear hc
       go_wp2_with fail
       go_meet
       exact ⟨N,q,r,rfl,HD.out,hq1,hq40,LO.out,hN9⟩
      ·have hb1:decide ((iN:Int)<(xs.length:Int))=false:=by simp;omega
       have hN9:N≤950:=by omega
       clear hc
       go_wp2_with fail
       go_meet
       exact ⟨N,q,r,rfl,HD.out,hq1,hq40,LO.out,hN9⟩
   case rest =>
    clear LO hN
    obtain ⟨N,q,r,rfl,hd,hq1,hq40,hlo,hN⟩:=hcut
    obtain ⟨A7,c7,rfl⟩:=own_form hlo.own
    have LO:=hid hlo
    have HD:=hid hd
    clear hlo hd
    go_upto_region 29 with (at_builtin;refine wpList_app _ rfl (.tmp 105) (.tmp 110) _ rfl w4.heap.size 32 i0 _ 6 56 Tryz.underlying29 hi0 hz0 hz1 hz2 rfl (by omega) (.slice A7 N c7) N _ rfl (World.ownsRow.alloc LO.out.own _) _ 4 4 [.int .i64 13,.int .i64 0,.int .i64 0,.int .i64 0,.int .i64 0,.complex .f64 0 0,.int .i64 13,.int .i64 1,.int .i64 0,.int .i64 0,.int .i64 0,.complex .f64 0 0,.int .i64 1,.int .i64 3,.int .i64 1,.int .i64 0,.int .i64 0,.complex .f64 0 0,.int .i64 11,.int .i64 0,.int .i64 3,.int .i64 0,.int .i64 0,.complex .f64 0 0] rfl (Src.row _ _ #[.int .i64 13,.int .i64 0,.int .i64 0,.int .i64 0,.int .i64 0,.complex .f64 0 0,.int .i64 13,.int .i64 1,.int .i64 0,.int .i64 0,.int .i64 0,.complex .f64 0 0,.int .i64 1,.int .i64 3,.int .i64 1,.int .i64 0,.int .i64 0,.complex .f64 0 0,.int .i64 11,.int .i64 0,.int .i64 3,.int .i64 0,.int .i64 0,.complex .f64 0 0] 6 4 _ rfl rfl) (by simp [Value.oneCell']) (by simp only [maxLen];omega) (by omega) (by have:=LO.out.pu.size;simp;omega) ?_;intro v9 w9 hown9 hg9 hat9;obtain ⟨A9,n9,rfl⟩:=own_form hown9;have LO2:=hid (LO.out.app (t:=[TOp.clear 0,TOp.clear 1,TOp.big,TOp.kind]) hown9 rfl rfl hg9);clear hown9 hg9 hat9;go_frame)
    obtain ⟨N4,hN4⟩:∃ N4,N+4=N4:=⟨_,rfl⟩
    rw [hN4] at LO2 ⊢
    have hN5:N4≤954:=by omega
    have HN4:=hid hN4
    obtain ⟨g9,cg9,e9,hg9,hsrc9⟩:=LO2.out.src (by omega)
    injection e9 with e1 e2 e3
    subst e1
    have hcf9:=HCF.out.pure LO2.out.pu
    have hrow:=fun i=>cell_of_row w9 (B+1+1+1) i _ _ _ hcf9.g3
    have z0:w9.cell? ⟨B+1+1+1,0,none⟩=some (.int .i64 44):=by rw [hrow];rfl
    have z1:w9.cell? ⟨B+1+1+1,1,none⟩=some (.int .i64 0):=by rw [hrow];rfl
    have z2:w9.cell? ⟨B+1+1+1,2,none⟩=some (.int .i64 1):=by rw [hrow];rfl
    have z3:w9.cell? ⟨B+1+1+1,3,none⟩=some (.int .i64 1):=by rw [hrow];rfl
    have z4:w9.cell? ⟨B+1+1+1,4,none⟩=some (.int .i64 4):=by rw [hrow];rfl
    have z5:w9.cell? ⟨B+1+1+1,5,none⟩=some (.int .i64 0):=by rw [hrow];rfl
    have z6:w9.cell? ⟨B+1+1+1,6,none⟩=some (.int .i64 2):=by rw [hrow];rfl
    have z7:w9.cell? ⟨B+1+1+1,7,none⟩=some (.int .i64 0):=by rw [hrow];rfl
    have z8:w9.cell? ⟨B+1+1+1,8,none⟩=some (.slice (some ⟨B+1+1,0,none⟩) 2 2):=by rw [hrow];rfl
    have HSR:=hid (And.intro hg9 (And.intro hsrc9 hcf9))
    clear hrow hcf9 hg9 hsrc9 e2 e3 hN4 LO
    go_wp2_with fail
    clear z0 z1 z2 z3 z4 z5 z6 z7 z8
    have hpa:Pure w9 (w9.alloc (.cells #[.slice (some ⟨g9,0,none⟩) N4 n9] 29)):=(Only.refl _ w9).alloc _
    have hga:=heap_alloc_new w9 (.cells #[.slice (some ⟨g9,0,none⟩) N4 n9] 29)
    have hsa:(w9.alloc (.cells #[.slice (some ⟨g9,0,none⟩) N4 n9] 29)).heap.size=w9.heap.size+1:=by simp
    have hlenL:((allT j r).map opD).length=N4:=by rw [List.length_map];exact LO2.out.len
    generalize w9.alloc (.cells #[.slice (some ⟨g9,0,none⟩) N4 n9] 29)=wa at *
    have hnew:=heap_new c0 (.slice (some ⟨B+1+1,0,none⟩) 2 2) (shT B) ((allT j r).map opD) 4 w9.heap.size 1 g9 n9 wa (HSR.out.2.2.pure hpa).shs rfl rfl rfl (fun s hs=>by simp [shT] at hs;rcases hs with rfl | rfl;(show 2≤1000000;omega);(show bs0.length≤1000000;rw [bs0_len];omega)) (by omega) (by rw [cell_of_row wa _ _ _ _ _ hga,hlenL];rfl) (by have:=HSR.out.1;omega) (by rw [hlenL];exact HSR.out.2.1.keep (fun ad e _ oo=>by injection e with e;subst e;exact hpa.cell (p:=⟨g9,oo,none⟩) HSR.out.1 (fun f=>f))) (by rw [hlenL];omega)
    have HW:=hid hnew
    have HPA:=hid (And.intro hpa hlenL)
    clear hpa hga hsa hnew hlenL
    refine HW.out.mono ?_
    rintro e w10 ⟨K,κ',hb,lg,yb,b,rfl,hp10,hm,hb0,hbo,hmost,hns,hal,hcl⟩
    have hpw:Pure w w10:=((HP4.out.then LO2.out.pu).then HPA.out.1).then hp10
    have hsz:w.heap.size≤wa.heap.size:=((HP4.out.then LO2.out.pu).then HPA.out.1).size
    have HRN:Hid (Rn w ((allT j r).map opD) q K b hb lg yb 0 w10):=hid ⟨hpw,κ',_,_,_,none,⟨hm,TrO.nil _ _ _ _ _⟩,first_sx HN.out.2.1 HD.out,⟨0,rfl,Nat.le_refl _⟩,fun k hk=>by have:=hcl k hk;omega⟩
    have HB:=hid (And.intro hb0 (And.intro hbo (kok_of hal hmost hns)))
    clear hp10 hm hb0 hbo hmost hns hal hcl hpw hsz HW
    have hc4:decide ((1000:Int)<(N4:Int))=false:=by simp;omega
    go_upto_if 138 with fail
    go_cut [15] (fun s15 wx=>wx=w10∧s15=.int .i64 (if 38<q then 6 else 0))
    case first =>
     by_cases h38:38<q
     ·have hb7:decide ((44:Int)<(q:Int)+6)=true:=by simp;omega
      go_wp2_with fail
      go_meet
      exact ⟨rfl,by rw [if_pos h38]⟩
     ·have hb7:decide ((44:Int)<(q:Int)+6)=false:=by simp;omega
      go_wp2_with fail
      go_meet
      exact ⟨rfl,by rw [if_neg h38]⟩
    case rest =>
     obtain ⟨rfl,rfl⟩:=hcut
     obtain ⟨bg,hbg⟩:∃ bg:Int,(if 38<q then (6:Int) else 0)=bg:=⟨_,rfl⟩
     have HBG:=hid hbg
     rw [hbg]
     clear hbg hc4
     go_upto_block 6 with fail
     go_cut [16] (fun _ wx=>Rf w K b hb lg yb wx)
     case first =>
      go_wp2_with fail
      go_loopw [16] (fun i wr=>∃ t:Nat,t≤400000∧i=.int .i64 (t:Int)∧Rn w ((allT j r).map opD) q K b hb lg yb t wr) (fun i _=>400000-(intOf i).toNat)
      case atStart=>exact ⟨0,by omega,rfl,HRN.out⟩
      case round =>
       clear HRN
       obtain ⟨t,ht,rfl,hrn⟩:=hrel
       have RN:=hid hrn
       clear hrn
       by_cases hlt:t<400000
       ·have hti:(t:Int)<400000:=by omega
        obtain ⟨κ,m,s,y,o,hm,hsx,hown,hcl⟩:=RN.out.st
        obtain ⟨jj,hjj⟩:∃ jj,t % 2=jj:=⟨_,rfl⟩
        have hj2:jj<2:=by omega
        have hstep:=step_any (T:=t) jj hj2 HB.out.2.2 HB.out.2.1 HB.out.1 (by rw [HPA.out.2];omega) hq1 hm hsx hown (by omega)
        have HSTEP:=hid (And.intro hstep hcl)
        have HLT:=hid hlt
        clear hm hsx hown hcl hstep hlt ht
        go_wp2_with fail
        rw [and_one t (by have:=HLT.out;omega),hjj]
        refine HSTEP.out.1.mono ?_
        rintro e w11 ⟨d,a1,a2,a3,⟨v1,v2,v3⟩,rfl,htk,κ2,m2,s2,y2,o2,hext,hm2,hf2,hx2⟩
        have hout:=Ext.out RN.out.pu HSTEP.out.2 hext
        have HLL:=HPA.out.2
        cases d with
        | false =>
         obtain ⟨hsx2,hown2⟩:=hx2 (fun e=>by simp at e)
         have RN1:Hid (Rn w ((allT j r).map opD) q K b hb lg yb (t+1) w11):=hid ⟨hout.1,κ2,m2,s2,y2,o2,hm2,hsx2,hown2,hout.2⟩
         clear htk hext hm2 hf2 hx2 hout hsx2 hown2 HLL
         obtain ⟨hp12,-,hg12⟩:=Ac.one_new w11 #[.int .i64 (jj:Int),.bool false,.int .i64 a1,.int .i64 a2,.int .i64 a3,.bool v1,.complex .f64 v2 v3] 48
         have RN2:=hid (RN1.out.pure hp12)
         obtain ⟨-,z1,z2,-,z4,-,-⟩:=tick_cells hg12
         clear hp12 hg12 RN1
         go_wp2_with fail
         generalize w11.alloc (.cells #[.int .i64 (jj:Int),.bool false,.int .i64 a1,.int .i64 a2,.int .i64 a3,.bool v1,.complex .f64 v2 v3] 48)=w12 at *
         go_roundw
         case rel=>exact ⟨t+1,by have:=HLT.out;omega,by first | rfl | simp,RN2.out⟩
         case measure=>have:=HLT.out;simp [intOf];omega
        | true =>
         obtain ⟨k1,k2,k3,k4⟩:=htk rfl
         rw [HLL] at k2 k3 k4
         by_cases hlast:a1+1=(N4:Int)
         ·have RF1:Hid (Rf w K b hb lg yb w11):=hid ⟨hout.1,κ2,m2,s2,y2,o2,hm2,hf2⟩
          have b1:(a1 == (N4:Int)-1)=true:=by simp;omega
          have b2:(a1 == (N4:Int)-2)=false:=by simp;omega
          have b3:decide (a1<(N4:Int)-2)=false:=by simp;omega
          clear hext hm2 hf2 hx2 hout HLL htk k1 k2 k3 k4 hlast
          obtain ⟨hp12,-,hg12⟩:=Ac.one_new w11 #[.int .i64 (jj:Int),.bool true,.int .i64 a1,.int .i64 a2,.int .i64 a3,.bool v1,.complex .f64 v2 v3] 48
          have RN2:=hid (RF1.out.pure hp12)
          obtain ⟨-,z1,z2,-,z4,-,-⟩:=tick_cells hg12
          clear hp12 hg12 RF1
          go_wp2_with fail
          generalize w11.alloc (.cells #[.int .i64 (jj:Int),.bool true,.int .i64 a1,.int .i64 a2,.int .i64 a3,.bool v1,.complex .f64 v2 v3] 48)=w12 at *
          go_meet
          exact RN2.out
         ·obtain ⟨hsx2,hown2⟩:=hx2 (fun e=>hlast (by rw [HLL] at e;exact e.2))
          have RN1:Hid (Rn w ((allT j r).map opD) q K b hb lg yb (t+1) w11):=hid ⟨hout.1,κ2,m2,s2,y2,o2,hm2,hsx2,hown2,hout.2⟩
          have b1:(a1 == (N4:Int)-1)=false:=by simp;omega
          by_cases h2:a1+2=(N4:Int)
          ·obtain rfl:a3=bg:=(k4 h2).trans HBG.out
           have b2:(a1 == (N4:Int)-2)=true:=by simp;omega
           have b3:decide (a1<(N4:Int)-2)=false:=by simp;omega
           have b4:(a3 != a3)=false:=by simp
           clear hext hm2 hf2 hx2 hout HLL htk k1 k2 k3 k4 hlast h2 hsx2 hown2
           obtain ⟨hp12,-,hg12⟩:=Ac.one_new w11 #[.int .i64 (jj:Int),.bool true,.int .i64 a1,.int .i64 a2,.int .i64 a3,.bool v1,.complex .f64 v2 v3] 48
           have RN2:=hid (RN1.out.pure hp12)
           obtain ⟨-,z1,z2,-,z4,-,-⟩:=tick_cells hg12
           clear hp12 hg12 RN1
           go_wp2_with fail
           generalize w11.alloc (.cells #[.int .i64 (jj:Int),.bool true,.int .i64 a1,.int .i64 a2,.int .i64 a3,.bool v1,.complex .f64 v2 v3] 48)=w12 at *
           go_roundw
           case rel=>exact ⟨t+1,by have:=HLT.out;omega,by first | rfl | simp,RN2.out⟩
           case measure=>have:=HLT.out;simp [intOf];omega
          ·obtain rfl:a3=0:=k3 (by omega)
           have b2:(a1 == (N4:Int)-2)=false:=by simp;omega
           have b3:decide (a1<(N4:Int)-2)=true:=by simp;omega
           clear hext hm2 hf2 hx2 hout HLL htk k1 k2 k3 k4 hlast h2 hsx2 hown2
           obtain ⟨hp12,-,hg12⟩:=Ac.one_new w11 #[.int .i64 (jj:Int),.bool true,.int .i64 a1,.int .i64 a2,.int .i64 0,.bool v1,.complex .f64 v2 v3] 48
           have RN2:=hid (RN1.out.pure hp12)
           obtain ⟨-,z1,z2,-,z4,-,-⟩:=tick_cells hg12
           clear hp12 hg12 RN1
           go_wp2_with fail
           generalize w11.alloc (.cells #[.int .i64 (jj:Int),.bool true,.int .i64 a1,.int .i64 a2,.int .i64 0,.bool v1,.complex .f64 v2 v3] 48)=w12 at *
           go_roundw
           case rel=>exact ⟨t+1,by have:=HLT.out;omega,by first | rfl | simp,RN2.out⟩
           case measure=>have:=HLT.out;simp [intOf];omega
       ·obtain rfl:t=400000:=by omega
        go_wp2_with fail
        go_meet
        exact RN.out.fin HB.out.2.2
     case rest =>
      have RF:=hid hcut
      obtain ⟨κ,m,s,y,o,hm,hf⟩:=hcut.st
      have p1:=hm.mac.hp.p1
      have HM:=hid (And.intro hm hf)
      clear hm hf hcut
      go_wp2_with fail
      refine (cycles_in wc HM.out.1.mac.cys.cyc).mono ?_
      rintro e w11 ⟨rfl,hp11⟩
      have RF2:=hid (RF.out.pure hp11)
      have HM2:=hid (HM.out.1.pure hp11)
      have hcy:=HM.out.2.cyc
      have hge:decide ((y.finished:Int)≤(y.started:Int))=true:=by simp;omega
      clear hp11 RF p1
      go_wp2_with fail
      refine (known_true w11).mono ?_
      rintro e w12 ⟨rfl,hp12⟩
      have RF3:=hid (RF2.out.pure hp12)
      have HS3:=hid (sound_fin HB.out.2.2 (HM2.out.pure hp12).mac HM.out.2)
      clear hp12 RF2 HM2
      go_wp2_with fail
      refine HS3.out.mono ?_
      rintro e w13 ⟨rfl,hp13⟩
      have RF4:=hid (RF3.out.pu.then hp13)
      clear hp13
      go_wp2_with fail
      go_ret
      exact ⟨rfl,RF4.out⟩
theorem out1 (w:World) (n:Int) (A:Option Addr) (cc m:Nat) (hb:-9223372036854775808≤n∧n≤9223372036854775807) (hm:m≤9223372036854775807) (h:n<1∨40<n∨200<m):Calls Tryz.prog 4 #[.int .i64 n,.slice A m cc] w fun e w'=>e=.returned (.bool true)∧Pure w w':=by
 go_enter Tryz.func4,Tryz.ntmps4
 go_wp2_with fail
 refine (known_true w).mono ?_
 rintro e w1 ⟨rfl,hp1⟩
 have HP1:=hid hp1
 clear hp1
 by_cases h1:n<1
 ·have c1:decide (n<1)=true:=by simp;omega
  clear h
  go_wp2_with fail
  refine (known_true w1).mono ?_
  rintro e w2 ⟨rfl,hp2⟩
  have HP2:=hid (HP1.out.then hp2)
  clear hp2
  go_wp2_with fail
  go_ret
  exact ⟨rfl,HP2.out⟩
 ·have c1:decide (n<1)=false:=by simp;omega
  by_cases h2:40<n
  ·have c2:decide (40<n)=true:=by simp;omega
   clear h
   go_wp2_with fail
   refine (known_true w1).mono ?_
   rintro e w2 ⟨rfl,hp2⟩
   have HP2:=hid (HP1.out.then hp2)
   clear hp2
   go_wp2_with fail
   go_ret
   exact ⟨rfl,HP2.out⟩
  ·have c2:decide (40<n)=false:=by simp;omega
   have c3:decide ((200:Int)<(m:Int))=true:=by simp;omega
   clear h
   go_wp2_with fail
   refine (known_true w1).mono ?_
   rintro e w2 ⟨rfl,hp2⟩
   have HP2:=hid (HP1.out.then hp2)
   clear hp2
   go_wp2_with fail
   go_ret
   exact ⟨rfl,HP2.out⟩
theorem walk (w:World) (n:Int) (hb:-9223372036854775808≤n∧n≤9223372036854775807) (v:Value) (xs:List Int) (hs:SlI w w.heap.size v xs):Calls Tryz.prog 4 #[.int .i64 n,v] w fun e w'=>e=.returned (.bool true)∧Pure w w':=by
 obtain ⟨A,cc,rfl,h1,h2,-⟩:=id hs
 by_cases h:n<1∨40<n∨200<xs.length
 ·exact out1 w n A cc xs.length hb (by unfold maxLen at h2;omega) h
 ·obtain ⟨k,rfl⟩:∃ k:Nat,n=(k:Int):=Int.eq_ofNat_of_zero_le (by omega)
  exact main w k (by omega) (by omega) A cc xs (by omega) hs
theorem lifted (os:Os) (started:os.Started) (H:Type) (enc:TypeId × Value→H) :
  ReturnsInHanded {} Tryz.checked os 4 .any (Rows.topOrderSpec.pre6 enc Tryz.prog Tryz.f4 Rows.topOrderRow.domain false) (Rows.topOrderSpec.post enc Tryz.prog Tryz.f4 false true false false) :=
 lift_law (C:=Tryz.checked) own started (by kernel_rfl) Tryz.func4 laidOut (by kernel_rfl) rfl rfl Tryz.underlying4
  (fun ds h=>by match ds,h with | [_,_],_=>rfl)
  (ChangeSpec.witness6 (enc:=enc) (C:=Tryz.checked) false ⟨#[],#[.int .i64 0,.slice none 0 0],[]⟩ 8 (by kernel_rfl) (by kernel_rfl) (by kernel_rfl) (by kernel_rfl))
  (fun W base args ds ps hval hA hlt=>by
   have hA':DataW.TrodAll enc Tryz.prog W 0 (fun _=>true) true Tryz.f4.params.toList args.toList ds ps:=hA
   rw [Tryz.params4] at hA'
   have hval':∀ (j:Nat) t v,Tryz.f4.params[j]?=some t→args[j]?=some v→Value.okWide Tryz.prog W .any base t v:=hval
   rw [Tryz.params4] at hval'
   obtain ⟨v0,vs0,d0,ds0,p0,q0,hargs,rfl,rfl,h0,r0⟩:=trodAll_cons hA'
   obtain ⟨v1,vs1,d1,ds1,p1,q1,rfl,rfl,rfl,h1,r1⟩:=trodAll_cons r0
   obtain ⟨rfl,rfl,rfl⟩:=trodAll_nil r1
   obtain rfl:args=#[v0,v1]:=by cases args;simp_all
   obtain ⟨a0,rfl,rfl,rfl,w0⟩:=open_int Tryz.underlying3 (hval' 0 3 v0 rfl rfl) h0
   obtain ⟨xs1,s1⟩:=open_sl Tryz.underlying25 Tryz.underlying3 (by kernel_rfl) (hval' 1 25 v1 rfl rfl) h1
   exact (walk W a0 (int_bounds w0) _ xs1 s1).mono fun e W' ⟨he,hp⟩=>⟨he,hp.below⟩)
theorem proved:Rows.TopOrderSaid :=
 OpenClaim.holds_of_wide 4 Tryz.f4 rfl rfl rfl rfl rfl rfl rfl ⟨rfl,rfl,rfl,rfl,rfl⟩ rfl rfl rfl rfl rfl (by kernel_rfl) Tryz.func4 (by kernel_rfl)
  (of_decide_eq_true (by kernel_rfl)) (by unfold Func.isWrapper;first | (rw [if_pos (by decide +kernel)];kernel_rfl) | (rw [if_neg (by decide +kernel)];exact ⟨rfl,rfl⟩))
  (fun os started H enc _=>lifted os started H enc)
#print axioms proved
end Go.Proofs.YtpgdiceeimehiaaGreat.topOrder
