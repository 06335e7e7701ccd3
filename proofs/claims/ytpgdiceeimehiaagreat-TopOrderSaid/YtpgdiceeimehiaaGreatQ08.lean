/- Part 8 of the proof that spotop.TopOrder returns true for all arguments and leaves what was there as it was. -/
import Derived.Lib.SliceRun
import Derived.Deep.MidRow
import Derived.StillTailTactics
import Derived.Test.YtpgdiceeimehiaaGreatQ01
import Derived.Test.YtpgdiceeimehiaaGreatQ02
import Derived.Test.YtpgdiceeimehiaaGreatQ07
set_option maxRecDepth 100000
set_option maxHeartbeats 16000000
open Go.Lib (hid)
namespace Go.Proofs.YtpgdiceeimehiaaGreat.Ln
open Go.RowKit
theorem setCells_block (b:Nat) (e:TypeId):∀ (vs:List Value) (o:Nat) (w:World) (cur:Array Value),w.heap[b]?=some (.cells cur e (0,0))→o+vs.length≤cur.size →
  ∃ cur',(w.setCells b o vs).heap[b]?=some (.cells cur' e (0,0))∧cur'.toList=cur.toList.take o++vs++cur.toList.drop (o+vs.length)
 | [],o,w,cur,h,hs=>⟨cur,h,by simp⟩
 | v :: r,o,w,cur,h,hs=>by
  simp only [List.length_cons] at hs
  obtain ⟨c',h1,h2⟩:=setCells_block b e r (o+1) (w.setCell ⟨b,o,none⟩ v) (cur.setIfInBounds o v) (heap_setCell_same w b o cur e v h) (by simp;omega)
  refine ⟨c',h1,?_⟩
  rw [h2,Array.toList_setIfInBounds,List.take_add_one,List.drop_set_of_lt (by omega),List.take_set_of_le (by omega),List.getElem?_set_self (by simp;omega)]
  simp only [List.length_cons,Option.toList_some,List.append_assoc,List.cons_append,List.nil_append]
  rw [show o+1+r.length=o+(r.length+1) from by omega]
theorem only_cells (b:Nat):∀ (vs:List Value) (o:Nat) (a:World) (w:World),Only (fun q=>q=b) a w→Only (fun q=>q=b) a (w.setCells b o vs)
 | [],_,_,_,h=>h
 | v :: r,o,a,_,h=>only_cells b r (o+1) a _ (only_set h o v)
theorem own_del {w:World} {g c:Nat} {l:List En} {k:Nat} (h:w.ownsRow 0 271 8 (.slice (some ⟨g,0,none⟩) l.length c) l.length (ens l)) (hk:k<l.length) (zs:List Value) (hz:zs.length=8) :
  ((w.setCells g (k * 8) (ens (l.drop (k+1)))).setCells g ((l.length-1) * 8) zs).ownsRow 0 271 8 (.slice (some ⟨g,0,none⟩) (l.length-1) c) (l.length-1) (ens (l.eraseIdx k)):=by
 have hle:(ens (l.drop (k+1))).length=(l.length-1-k) * 8:=by rw [ens_length,List.length_drop];congr 1;omega
 rcases h.2 with ⟨h0,_⟩ | ⟨g',cap,cur,hv,hb,hg,hn,hm,hs,ht⟩
 ·simp at h0
 ·injection hv with hv1 hv2 hv3
  injection hv1 with hv1
  injection hv1 with hv1
  subst hv1 hv3
  obtain ⟨c1,h1,e1⟩:=setCells_block g 271 (ens (l.drop (k+1))) (k * 8) w cur hg (by rw [hle,hs];omega)
  have s1:c1.size=cur.size:=by
   rw [← Array.length_toList,e1]
   simp only [List.length_append,List.length_take,List.length_drop,Array.length_toList,hle,hs]
   omega
  obtain ⟨c2,h2,e2⟩:=setCells_block g 271 zs ((l.length-1) * 8) _ c1 h1 (by rw [hz,s1,hs];omega)
  have s2:c2.size=cur.size:=by
   rw [← Array.length_toList,e2,← s1]
   simp only [List.length_append,List.length_take,List.length_drop,Array.length_toList,hz,s1,hs]
   omega
  refine ⟨by rw [ens_length,List.length_eraseIdx_of_lt hk],.inr ⟨g,c,c2,rfl,hb,h2,by omega,hm,by rw [s2,hs],?_⟩⟩
  have k1:(cur.toList.take (k * 8))=ens (l.take k):=by
   rw [← ens_take,← ht,List.take_take,Nat.min_eq_left (by omega)]
  have k2:(ens (l.take k)).length=k * 8:=by rw [ens_length,List.length_take,Nat.min_eq_left (by omega)]
  have k3:(cur.toList.take (k * 8)++ens (l.drop (k+1))).length=(l.length-1) * 8:=by rw [List.length_append,k1,k2,hle];omega
  rw [e2,List.append_assoc,e1,List.take_append_of_le_length (by rw [List.length_take,List.length_append,k3];omega),List.take_take,Nat.min_self,List.take_append_of_le_length (by omega),List.take_of_length_le (by omega),k1,← ens_append,List.eraseIdx_eq_take_drop_succ]
theorem entry_zero:∀ w,(zeroValue 271).run Tryz.prog w=.ok (.agg #[.int .i64 0,.int .i64 0,.int .i64 0,.int .i64 0,.int .i64 0,.int .i64 0,.slice none 0 0,.bool false]) w:=fun w=>by
 have hz:(Tryz.t271).zero=some (.agg #[.int .i64 0,.int .i64 0,.int .i64 0,.int .i64 0,.int .i64 0,.int .i64 0,.slice none 0 0,.bool false]):=by kernel_rfl
 simp [zeroValue,hz]
theorem run_clear_one {P:Program} (w:World) (t e ty:TypeId) (z:Value) (ht:P.underlying t=some (.slice e)) (hv:∀ w,(zeroValue e).run P w=.ok z w) (h1:∀ u∈z.cells.toList,u.oneCell'=true) (b o c:Nat)
  (hc:∀ j,j<z.cells.size→(w.cell? ⟨b,o+j,none⟩).isSome=true) (hf:∀ j,j<z.cells.size→w.frozen? ⟨b,o+j,none⟩=false) :
  (Builtin.clear_ #[t] ty #[.slice (some ⟨b,o,none⟩) 1 c]).run P w=.ok (.tuple #[]) (w.setCells b o z.cells.toList):=by
 have hzc:(Builtin.zeroCells z.cells 1).toList=z.cells.toList:=by
  simp [Builtin.zeroCells]
  apply List.ext_getElem
  ·simp
  ·intro i h1 h2
   have h3:i<z.cells.size:=by simpa using h1
   simp [Nat.mod_eq_of_lt h3,h3]
 have hst:=run_storeCells_cells (P:=P) b o z.cells.toList 0 w (by simpa using hc) (by simpa using hf) h1
 simp only [Nat.add_zero] at hst
 simp [Builtin.clear_,run_underlying ht,hv,hzc,hst]
theorem delete_any (g c k:Nat) (l:List En) (w:World) (h:w.ownsRow 0 271 8 (.slice (some ⟨g,0,none⟩) l.length c) l.length (ens l)) (hk:k<l.length) (hone:∀ u∈ens l,u.oneCell'=true) (hfew:l.length≤1000) :
  Calls Tryz.prog 258 #[.slice (some ⟨g,0,none⟩) l.length c,.int .i64 k,.int .i64 ((k:Int)+1)] w fun e w'=>e=.returned (.slice (some ⟨g,0,none⟩) (l.length-1) c)∧w'.ownsRow 0 271 8 (.slice (some ⟨g,0,none⟩) (l.length-1) c) (l.length-1) (ens (l.eraseIdx k))∧Only (fun q=>q=g) w w':=by
 obtain ⟨i0,hi0,hz0,hz1,hz2⟩:=info_parts entry_info
 obtain ⟨hcap,hmax⟩:l.length≤c∧c≤9223372036854775807:=by
  rcases h.2 with ⟨h0,_⟩ | ⟨g',cap,cur,hv,hb,hg,hn,hm,hs,ht⟩
  ·simp at h0
  ·injection hv with hv1 hv2 hv3
   exact ⟨by omega,by simp only [maxLen] at hm;omega⟩
 obtain ⟨news,hnews⟩:∃ news,news=ens (l.drop (k+1)):=⟨_,rfl⟩
 have hlen:news.length=(l.length-(k+1)) * 8:=by rw [hnews,ens_length,List.length_drop]
 have hget:∀ (t:Nat) (u:Value),news[t]?=some u→w.cell? ⟨g,(k+1) * 8+t,none⟩=some u:=fun t u hu=>by
  have ht:=(List.getElem?_eq_some_iff.1 hu).1
  rw [hlen] at ht
  rw [hnews,← ens_drop,List.getElem?_drop] at hu
  exact (h.cellAt _ (by omega)).trans hu
 have hthere:∀ j,j<l.length * 8→(w.cell? ⟨g,j,none⟩).isSome=true∧w.frozen? ⟨g,j,none⟩=false:=fun j hj=>by
  refine ⟨?_,h.frozenAt j⟩
  rw [h.cellAt j (by omega),List.getElem?_eq_getElem (by rw [ens_length];exact hj)]
  rfl
 obtain ⟨A,hA,hsrc⟩:∃ A:Addr,(if c=k+1 then some (⟨g,0,none⟩:Addr) else some ⟨g,(k+1) * 8,none⟩)=some A∧Hid (∀ t u,news[t]?=some u→w.drew.cell? (A.add t)=some u):=by
  by_cases hc:c=k+1
  ·refine ⟨⟨g,0,none⟩,by simp [hc],fun t u hu=>?_⟩
   have h0:news.length=0:=by rw [hlen];omega
   rw [List.length_eq_zero_iff.1 h0] at hu
   simp at hu
  ·refine ⟨⟨g,(k+1) * 8,none⟩,by simp [hc],fun t u hu=>?_⟩
   rw [Addr.add_lit]
   exact hget t u hu
 have s1:Hid (news.length=(l.length-(k+1)) * 8):=hlen
 have s2:Hid (∀ u∈news,u.oneCell'=true):=by
  intro u hu
  rw [hnews,← ens_drop] at hu
  exact hone u (List.mem_of_mem_drop hu)
 have s3:Hid (∀ t,t<news.length→(w.drew.cell? ⟨g,0+k * 8+t,none⟩).isSome=true∧w.drew.frozen? ⟨g,0+k * 8+t,none⟩=false):=by
  intro t ht
  rw [hlen] at ht
  rw [Nat.zero_add]
  exact hthere _ (by omega)
 obtain ⟨W1,hW1⟩:∃ W1,W1=w.drew.setCells g (0+k * 8) news:=⟨_,rfl⟩
 have hL1:∀ j,j<l.length * 8→(W1.cell? ⟨g,j,none⟩).isSome=true∧W1.frozen? ⟨g,j,none⟩=false:=fun j hj=>by
  rw [hW1]
  exact ⟨World.isSome_setCells g news _ _ _ (hthere j hj).1,(World.frozen?_setCells g news _ _ _).trans (hthere j hj).2⟩
 have hfin:(W1.setCells g ((l.length-1) * 8) [.int .i64 0,.int .i64 0,.int .i64 0,.int .i64 0,.int .i64 0,.int .i64 0,.slice none 0 0,.bool false]).ownsRow 0 271 8 (.slice (some ⟨g,0,none⟩) (l.length-1) c) (l.length-1) (ens (l.eraseIdx k))∧Only (fun q=>q=g) w (W1.setCells g ((l.length-1) * 8) [.int .i64 0,.int .i64 0,.int .i64 0,.int .i64 0,.int .i64 0,.int .i64 0,.slice none 0 0,.bool false]):=by
  rw [hW1,hnews,Nat.zero_add]
  exact ⟨own_del (w:=w.drew) h hk _ rfl,only_cells g _ _ _ _ (only_cells g _ _ _ _ (show Only _ w w.drew from ⟨rfl,rfl,rfl,Nat.le_refl _,fun _ _ _=>rfl⟩))⟩
 have e1:l.length-(k+(l.length-(k+1)))=1:=by omega
 have e2:k+(l.length-(k+1))=l.length-1:=by omega
 have hcl:∀ ty cc,(Builtin.clear_ #[215] ty #[.slice (some ⟨g,(k+(l.length-(k+1))) * 8,none⟩) (l.length-(k+(l.length-(k+1)))) cc]).run Tryz.prog W1=.ok (.tuple #[]) (W1.setCells g ((l.length-1) * 8) [.int .i64 0,.int .i64 0,.int .i64 0,.int .i64 0,.int .i64 0,.int .i64 0,.slice none 0 0,.bool false]):=fun ty cc=>by
  rw [e1,e2]
  exact run_clear_one W1 _ _ ty _ Tryz.underlying215 entry_zero (by simp [Value.cells,Value.oneCell']) g _ cc (fun j hj=>(hL1 _ (by simp [Value.cells] at hj;omega)).1) (fun j hj=>(hL1 _ (by simp [Value.cells] at hj;omega)).2)
 have hW:Hid (W1=w.drew.setCells g (0+k * 8) news):=hW1
 have HF:=hid hfin
 have hic:k≤c:=by omega
 have hjc:k+1≤c:=by omega
 have b0:(0:Int)≤(k:Int)+1:=by omega
 have b1:(k:Int)+1≤(l.length:Int):=by omega
 clear hW1 hL1 hthere hget hnews hlen hfin e1 e2 hone h
 go_enter Tryz.func258,Tryz.ntmps258
 go_wp2_with fail
 go_region_law (refine step_append_room rfl (.tmp 22) (.tmp 25) 215 rfl 271 i0 8 Tryz.underlying215 hi0 hz1 g 0 k c (by simp [Act.eval,Act.put]) A (l.length-(k+1)) (c-(k+1)) news (by simp [Act.eval,Act.put]) s1.out hsrc.out s2.out (by omega) s3.out ?_;rw [← hW.out])
 go_wp2_with fail
 go_ret
 exact ⟨by rw [show k+(l.length-(k+1))=l.length-1 from by omega];rfl,HF.out.1,HF.out.2⟩
theorem LineOf.one {w:World} {P:Nat} {v:Value} {l:List En} (h:LineOf w P v l):∀ u∈ens l,u.oneCell'=true:=by
 intro u hu
 obtain ⟨e,he,hu⟩:=List.mem_flatMap.1 hu
 obtain ⟨A,c,hv,_⟩:=(h.got e he).1
 simp only [enCells,hv] at hu
 simp at hu
 rcases hu with rfl | rfl | rfl | rfl | rfl | rfl | rfl | rfl <;> rfl
theorem LineOf.dropped {w w2:World} {P g c k:Nat} {l:List En} (h:LineOf w P (.slice (some ⟨g,0,none⟩) l.length c) l) (hk:k<l.length) (hown:w2.ownsRow 0 271 8 (.slice (some ⟨g,0,none⟩) (l.length-1) c) (l.length-1) (ens (l.eraseIdx k))) (ho:Only (fun q=>q=g) w w2) :
  LineOf (w2.setCell ⟨P,0,none⟩ (.slice (some ⟨g,0,none⟩) (l.length-1) c)) P (.slice (some ⟨g,0,none⟩) (l.length-1) c) (l.eraseIdx k)∧Only (LineS P (.slice (some ⟨g,0,none⟩) l.length c)) w (w2.setCell ⟨P,0,none⟩ (.slice (some ⟨g,0,none⟩) (l.length-1) c)):=by
 have hP:=(Array.getElem?_eq_some_iff.1 h.at_).1
 have hne:g≠P:=line_ne h.at_ h.own rfl
 have at2:w2.heap[P]?=some (.cells #[.slice (some ⟨g,0,none⟩) l.length c] 217 (0,0)):=(ho.block P hP (fun e'=>hne e'.symm)).trans h.at_
 have hoS:Only (LineS P (.slice (some ⟨g,0,none⟩) l.length c)) w (w2.setCell ⟨P,0,none⟩ (.slice (some ⟨g,0,none⟩) (l.length-1) c)):=only_added _ (ho.mono (fun q _ hq=>by subst hq;rfl))
 have ho2:Only (fun q=>q=P) w2 (w2.setCell ⟨P,0,none⟩ (.slice (some ⟨g,0,none⟩) (l.length-1) c)):=only_set (Only.refl _ w2) 0 _
 have hlen:(l.eraseIdx k).length=l.length-1:=List.length_eraseIdx_of_lt hk
 refine ⟨⟨by simp [World.setCell,Array.getElem?_modify,at2],?_,fun e' he'=>?_,by have:=h.few;omega,fun e' he'=>h.short e' (List.mem_of_mem_eraseIdx he')⟩,hoS⟩
 ·rw [hlen]
  exact ho2.own hown (fun q hq e=>by simp [Value.ownBlock] at hq;omega)
 ·have he:=List.mem_of_mem_eraseIdx he'
  exact ⟨(h.got e' he).1.only hoS (fun q hq=>((h.got e' he).2 q hq).1),fun q hq=>⟨((h.got e' he).2 q hq).1,Nat.lt_of_lt_of_le ((h.got e' he).2 q hq).2 hoS.size⟩⟩
theorem drop_yes (P:Nat) (v:Value) (l:List En) (t:Int) (k:Nat) (w:World) (hl:LineOf w P v l) (hix:ixI (isT t) l=k) (hk:k<l.length) :
  Calls Tryz.prog 199 #[.pointer (some ⟨P,0,none⟩),.int .i64 t] w fun e' w'=>∃ v',e'=.returned (.bool true)∧LineOf w' P v' (l.eraseIdx k)∧Only (LineS P v) w w'∧v'.ownBlock=v.ownBlock:=by
 obtain ⟨g,c,rfl,_,_⟩:=hl.own.form (n:=l.length) (by omega)
 have HL:=hid hl
 have HIX:=hid hix
 have hfew:=hl.few
 have hk1:((k:Int)<0)=False:=by simp
 clear hl hix
 go_enter Tryz.func199,Tryz.ntmps199
 go_wp2_with fail
 refine (of_any P _ l t _ HL.out).mono ?_
 rw [HIX.out]
 rintro e1 w2 ⟨rfl,hp2⟩
 have P2:=hid hp2
 have L2:=hid (HL.out.pure hp2)
 have c0:=L2.out.c0
 clear hp2
 go_wp2_with fail
 refine (delete_any g c k l _ L2.out.own hk L2.out.one hfew).mono ?_
 rintro e3 w3 ⟨rfl,hown3,ho3⟩
 have D:=hid (L2.out.dropped hk hown3 ho3)
 have at3:w3.heap[P]?=some (.cells #[.slice (some ⟨g,0,none⟩) l.length c] 217 (0,0)):=(ho3.block P (Array.getElem?_eq_some_iff.1 L2.out.at_).1 (fun e'=>line_ne L2.out.at_ L2.out.own rfl e'.symm)).trans L2.out.at_
 have c3:=cell_of_row w3 P 0 _ _ _ at3
 have f3:=frozen_of_row w3 P 0 _ _ at3
 clear hown3 ho3 at3 c0
 go_wp2_with fail
 go_ret
 exact ⟨_,rfl,D.out.1,(P2.out.mono (fun _ _ f=>f.elim)).trans D.out.2 (fun _ _ h=>h),rfl⟩
end Go.Proofs.YtpgdiceeimehiaaGreat.Ln
namespace Go.Proofs.YtpgdiceeimehiaaGreat.Ln
open Go.RowKit
theorem ens_set (l:List En) (j i:Nat) (e e':En) (u:Value) (he:l[j]?=some e) (hi:i<8) (hc:enCells e'=(enCells e).set i u):ens (l.set j e')=(ens l).set (j * 8+i) u:=by
 induction l generalizing j with
 | nil=>simp at he
 | cons t l ih =>
  have hl:∀ t,(enCells t).length=8:=fun _=>rfl
  cases j with
  | zero =>
   simp at he;subst he
   simp only [ens,List.set_cons_zero,List.flatMap_cons,Nat.zero_mul,Nat.zero_add]
   rw [List.set_append_left _ _ (by rw [hl];exact hi),hc]
  | succ j =>
   have:=ih j (by simpa using he)
   simp only [ens,List.set_cons_succ,List.flatMap_cons] at this ⊢
   rw [List.set_append_right _ _ (by rw [hl];omega),hl,show (j+1) * 8+i-8=j * 8+i from by omega,this]
theorem LineOf.set {w:World} {P g c n:Nat} {l:List En} (h:LineOf w P (.slice (some ⟨g,0,none⟩) n c) l) (hn:n=l.length) {j i:Nat} {e:En} (e':En) {u:Value} (he:l[j]?=some e) (hi:i<8) (hc:enCells e'=(enCells e).set i u)
  (hg:SlI w w.heap.size e'.gv e'.got∧∀ q,e'.gv.ownBlock=some q→¬ LineS P (.slice (some ⟨g,0,none⟩) n c) q∧q<w.heap.size) (hs:e'.got.length≤100000) :
  LineOf (w.setCell ⟨g,j * 8+i,none⟩ u) P (.slice (some ⟨g,0,none⟩) n c) (l.set j e')∧Only (LineS P (.slice (some ⟨g,0,none⟩) n c)) w (w.setCell ⟨g,j * 8+i,none⟩ u):=by
 subst hn
 have hP:=(Array.getElem?_eq_some_iff.1 h.at_).1
 have hne:g≠P:=line_ne h.at_ h.own rfl
 have hoS:Only (LineS P (.slice (some ⟨g,0,none⟩) l.length c)) w (w.setCell ⟨g,j * 8+i,none⟩ u):=Only.setCell (p:=⟨g,j * 8+i,none⟩) (Only.refl _ w) (fun _=>.inr rfl) u
 have hoG:Only (fun q=>q=g) w (w.setCell ⟨g,j * 8+i,none⟩ u):=only_set (Only.refl _ w) (j * 8+i) u
 have key:∀ x:En,(SlI w w.heap.size x.gv x.got∧∀ q,x.gv.ownBlock=some q→¬ LineS P (.slice (some ⟨g,0,none⟩) l.length c) q∧q<w.heap.size) →
   SlI (w.setCell ⟨g,j * 8+i,none⟩ u) (w.setCell ⟨g,j * 8+i,none⟩ u).heap.size x.gv x.got∧∀ q,x.gv.ownBlock=some q→¬ LineS P (.slice (some ⟨g,0,none⟩) l.length c) q∧q<(w.setCell ⟨g,j * 8+i,none⟩ u).heap.size :=
  fun x ⟨h1,h2⟩=>⟨h1.only hoS (fun q hq=>(h2 q hq).1),fun q hq=>⟨(h2 q hq).1,Nat.lt_of_lt_of_le (h2 q hq).2 hoS.size⟩⟩
 refine ⟨⟨(hoG.block P hP (fun e'=>hne e'.symm)).trans h.at_,?_,fun x hx=>?_,by rw [List.length_set];exact h.few,fun x hx=>?_⟩,hoS⟩
 ·rw [List.length_set,ens_set l j i e e' u he hi hc]
  exact (h.own.stored (j * 8+i) u).1
 ·rcases List.mem_or_eq_of_mem_set hx with hx | rfl
  ·exact key x (h.got x hx)
  ·exact key _ hg
 ·rcases List.mem_or_eq_of_mem_set hx with hx | rfl
  ·exact h.short x hx
  ·exact hs
theorem LineOf.setKeep {w:World} {P g c n:Nat} {l:List En} (h:LineOf w P (.slice (some ⟨g,0,none⟩) n c) l) (hn:n=l.length) {j i:Nat} {e:En} (e':En) {u:Value} (he:l[j]?=some e) (hi:i<8) (hc:enCells e'=(enCells e).set i u) (h1:e'.gv=e.gv) (h2:e'.got=e.got) :
  LineOf (w.setCell ⟨g,j * 8+i,none⟩ u) P (.slice (some ⟨g,0,none⟩) n c) (l.set j e')∧Only (LineS P (.slice (some ⟨g,0,none⟩) n c)) w (w.setCell ⟨g,j * 8+i,none⟩ u) :=
 h.set hn e' he hi hc (by rw [h1,h2];exact h.got e (List.mem_of_getElem? he)) (by rw [h2];exact h.short e (List.mem_of_getElem? he))
def failed (e:En):En:={ e with state:=2 }
def granted (e:En) (gv:Value) (got:List Int) (at_:Int):En:={ e with state:=1,gv:=gv,got:=got,at_:=at_ }
theorem fail_no (P:Nat) (v:Value) (l:List En) (w:World) (hl:LineOf w P v l) (hix:ixI isW l=-1) :
  Calls Tryz.prog 171 #[.pointer (some ⟨P,0,none⟩)] w fun e' w'=>e'=.returned (.bool false)∧Pure w w':=by
 have HL:=hid hl
 have HIX:=hid hix
 clear hl hix
 go_enter Tryz.func171,Tryz.ntmps171
 go_wp2_with fail
 refine (first_any' P v l _ HL.out).mono ?_
 rw [HIX.out]
 rintro e1 w2 ⟨rfl,hp2⟩
 have P2:=hid hp2
 clear hp2
 go_wp2_with fail
 go_ret
 exact ⟨rfl,P2.out⟩
theorem fail_yes (P:Nat) (v:Value) (l:List En) (k:Nat) (e:En) (w:World) (hl:LineOf w P v l) (he:l[k]?=some e) (hix:ixI isW l=k) :
  Calls Tryz.prog 171 #[.pointer (some ⟨P,0,none⟩)] w fun e' w'=>e'=.returned (.bool true)∧LineOf w' P v (l.set k (failed e))∧Only (LineS P v) w w':=by
 have hk:=(List.getElem?_eq_some_iff.1 he).1
 obtain ⟨g,c,rfl,_,_⟩:=hl.own.form (n:=l.length) (by omega)
 have HL:=hid hl
 have HIX:=hid hix
 have HE:=hid he
 have hfew:=hl.few
 have hk1:(k:Int)<(l.length:Int):=by omega
 clear hl hix he
 go_enter Tryz.func171,Tryz.ntmps171
 go_wp2_with fail
 refine (first_any' P _ l _ HL.out).mono ?_
 rw [HIX.out]
 rintro e1 w2 ⟨rfl,hp2⟩
 have P2:=hid hp2
 have L2:=hid (HL.out.pure hp2)
 have c0:=L2.out.c0
 obtain ⟨g',c',hv,_,_,_,d3,_,_,_,_,df⟩:=L2.out.cells HE.out
 injection hv with hv1
 injection hv1 with hv1
 injection hv1 with hv1
 subst hv1
 have f3:=df (k * 8+3)
 clear hp2 df
 go_wp2_with fail
 go_ret
 have D:=L2.out.setKeep rfl (failed e) (i:=3) (u:=.int .i64 2) HE.out (by omega) rfl rfl rfl
 exact ⟨rfl,D.1,(P2.out.mono (fun _ _ f=>f.elim)).trans D.2 (fun _ _ h=>h)⟩
theorem grant_yes (P:Nat) (v:Value) (l:List En) (k:Nat) (e:En) (u:Value) (xs:List Int) (at_:Int) (w:World) (hl:LineOf w P v l) (he:l[k]?=some e) (hix:ixI isW l=k) (hs:SlI w w.heap.size u xs) (hx:xs.length≤100000) :
  Calls Tryz.prog 170 #[.pointer (some ⟨P,0,none⟩),u,.int .i64 at_] w fun e' w'=>∃ gv,e'=.returned (.bool true)∧LineOf w' P v (l.set k (granted e gv xs at_))∧Only (LineS P v) w w'∧∀ q,gv.ownBlock=some q→w.heap.size≤q:=by
 have hk:=(List.getElem?_eq_some_iff.1 he).1
 obtain ⟨g,c,rfl,_,_⟩:=hl.own.form (n:=l.length) (by omega)
 obtain ⟨AU,cU,rfl,_,_⟩:=hs.len
 have HS:=hid hs
 have HL:=hid hl
 have HIX:=hid hix
 have HE:=hid he
 have HRNG:=hid (show ∀ x∈xs,-9223372036854775808≤x∧x≤9223372036854775807 from by obtain ⟨_,_,_,_,_,h,_⟩:=hs;exact h)
 have hfew:=hl.few
 have hk1:(k:Int)<(l.length:Int):=by omega
 clear hl hix he hs
 go_enter Tryz.func170,Tryz.ntmps170
 go_wp2_with fail
 refine (first_any' P _ l _ HL.out).mono ?_
 rw [HIX.out]
 rintro e1 w2 ⟨rfl,hp2⟩
 have P2:=hid hp2
 have L2:=hid (HL.out.pure hp2)
 have c0:=L2.out.c0
 clear hp2
 go_wp2_with fail
 refine (clone_any _ xs _ (HS.out.only P2.out (fun _ _ f=>f)) (by omega)).mono ?_
 rintro e3 w3 ⟨v3,rfl,hp3,ho3⟩
 obtain ⟨A3,c3,rfl⟩:=own_form ho3
 have P3:=hid (P2.out.then hp3)
 have L3:=hid (L2.out.pure hp3)
 have O3:=hid ho3
 have S3:=hid (show SlI w3 w3.heap.size (.slice A3 xs.length c3) xs from SlI.of_own ho3 HRNG.out)
 have HQ:=hid (show ∀ q,(Value.slice A3 xs.length c3).ownBlock=some q→w2.heap.size≤q∧q<w3.heap.size from fun q hq=>ho3.lt q hq)
 obtain ⟨g',c',hv,_,_,_,d3,_,d5,d6,_,df⟩:=L3.out.cells HE.out
 injection hv with hv1
 injection hv1 with hv1
 injection hv1 with hv1
 subst hv1
 obtain ⟨G,gc,hgv,_⟩:=(L3.out.got e (List.mem_of_getElem? HE.out)).1
 rw [hgv] at d6
 have f3:=df (k * 8+3)
 have f5:=df (k * 8+5)
 have f6:=df (k * 8+6)
 clear hp3 ho3 df c0 hgv
 go_wp2_with fail
 go_ret
 have hq:∀ q,(Value.slice A3 xs.length c3).ownBlock=some q→¬ LineS P (.slice (some ⟨g,0,none⟩) l.length c) q∧w.heap.size≤q:=fun q h=>by
  have h1:=HQ.out q h
  have h2:=P2.out.size
  exact ⟨fun hS=>by have:=L2.out.lt q hS;omega,by omega⟩
 have key:∀ w':World,Only (LineS P (.slice (some ⟨g,0,none⟩) l.length c)) w3 w'→SlI w' w'.heap.size (.slice A3 xs.length c3) xs∧∀ q,(Value.slice A3 xs.length c3).ownBlock=some q→¬ LineS P (.slice (some ⟨g,0,none⟩) l.length c) q∧q<w'.heap.size :=
  fun w' ho=>⟨S3.out.only ho (fun q h=>(hq q h).1),fun q h=>⟨(hq q h).1,Nat.lt_of_lt_of_le (HQ.out q h).2 ho.size⟩⟩
 have D1:=L3.out.setKeep rfl { e with state:=1 } (i:=3) (u:=.int .i64 1) HE.out (by omega) rfl rfl rfl
 have D2:=D1.1.set (e:={ e with state:=1 }) (by rw [List.length_set]) { e with state:=1,gv:=.slice A3 xs.length c3,got:=xs } (i:=6) (u:=.slice A3 xs.length c3) (by rw [List.getElem?_set_self hk]) (by omega) rfl (key _ D1.2) hx
 have D3:=D2.1.setKeep (e:={ e with state:=1,gv:=.slice A3 xs.length c3,got:=xs }) (by rw [List.length_set,List.length_set]) (granted e (.slice A3 xs.length c3) xs at_) (i:=5) (u:=.int .i64 at_) (by rw [List.getElem?_set_self (by rw [List.length_set];exact hk)]) (by omega) rfl rfl rfl
 rw [List.set_set,List.set_set] at D3
 exact ⟨_,rfl,D3.1,((P3.out.mono (fun _ _ f=>f.elim)).trans D1.2 (fun _ _ h=>h)).trans (D2.2.trans D3.2 (fun _ _ h=>h)) (fun _ _ h=>h),fun q h=>(hq q h).2⟩
def upd (f:En→En) (k:Nat) (l:List En):List En:=(l.take k).map f++l.drop k
theorem upd_len (f:En→En) (k:Nat) (l:List En):(upd f k l).length=l.length:=by simp [upd];omega
theorem upd_zero (f:En→En) (l:List En):upd f 0 l=l:=by simp [upd]
theorem upd_all (f:En→En) (l:List En):upd f l.length l=l.map f:=by simp [upd]
theorem upd_get (f:En→En) (k:Nat) (l:List En) (hk:k<l.length):(upd f k l)[k]?=some l[k]:=by
 simp only [upd]
 rw [List.getElem?_append_right (by simp;omega)]
 simp [Nat.min_eq_left (Nat.le_of_lt hk)]
theorem upd_succ (f:En→En) (k:Nat) (l:List En) (hk:k<l.length):(upd f k l).set k (f l[k])=upd f (k+1) l:=by
 simp only [upd]
 rw [List.set_append_right _ _ (by simp;omega)]
 simp only [List.length_map,List.length_take,Nat.min_eq_left (Nat.le_of_lt hk),Nat.sub_self]
 rw [List.drop_eq_getElem_cons hk,List.set_cons_zero,← List.take_append_getElem hk,List.map_append,List.append_assoc]
 rfl
def note (e:En):En:={ e with noted:=isW e }
def tick (e:En):En:={ e with cycles:=if e.noted=true∧isW e=true then e.cycles+1 else e.cycles,noted:=false }
theorem begin_any (P:Nat) (v:Value) (l:List En) (w:World) (hl:LineOf w P v l) :
  Calls Tryz.prog 145 #[.pointer (some ⟨P,0,none⟩)] w fun e' w'=>e'=.returned (.tuple #[])∧LineOf w' P v (l.map note)∧Only (LineS P v) w w':=by
 obtain ⟨A,c,rfl⟩:=hl.form
 have HL:=hid hl
 have c0:=hl.c0
 have hfew:=hl.few
 clear hl
 go_enter Tryz.func145,Tryz.ntmps145
 go_wp2_with fail
 clear c0
 go_loopw [8] (fun i wr=>∃ k:Nat,k≤l.length∧i=.int .i64 k∧LineOf wr P (.slice A l.length c) (upd note k l)∧Only (LineS P (.slice A l.length c)) w wr) (fun i _=>l.length-(intOf i).toNat)
 case atStart=>exact ⟨0,Nat.zero_le _,rfl,by rw [upd_zero];exact HL.out,Only.refl _ _⟩
 case round =>
  obtain ⟨k,hk,rfl,hl,ho⟩:=hrel
  have LR:=hid hl
  have HO:=hid ho
  clear hl ho
  by_cases hlt:k<l.length
  ·have HG:=hid (upd_get note k l hlt)
   have HS:=hid (upd_succ note k l hlt)
   obtain ⟨g',cc,hv,_,_,_,d3,_,_,_,d7,df⟩:=LR.out.cells HG.out
   injection hv with hv1 hv2 hv3
   subst hv1
   have c0:=LR.out.c0
   have f7:=df (k * 8+7)
   clear df hv2 hv3
   generalize l[k]=e at *
   have hk1:(k:Int)<(l.length:Int):=by omega
   go_wp2_with fail
   go_still_tail 17,(by kernel_rfl)
   go_wp2_with fail
   have D:=LR.out.setKeep (by rw [upd_len]) (note e) (i:=7) (u:=.bool (isW e)) HG.out (by omega) rfl rfl rfl
   rw [HS.out] at D
   go_roundw
   case rel=>exact ⟨k+1,by omega,by go_num,D.1.pure ((Only.refl _ _).drewN 1),(HO.out.trans D.2 (fun _ _ h=>h)).drewN 1⟩
   case measure=>simp [intOf];omega
  ·obtain rfl:k=l.length:=by omega
   go_wp2_with fail
   go_end0
   exact ⟨rfl,by have:=LR.out;rwa [upd_all] at this,HO.out⟩
theorem end_any (P:Nat) (v:Value) (l:List En) (w:World) (hl:LineOf w P v l) (hcy:∀ e∈l,0≤e.cycles∧e.cycles≤100000) :
  Calls Tryz.prog 165 #[.pointer (some ⟨P,0,none⟩)] w fun e' w'=>e'=.returned (.tuple #[])∧LineOf w' P v (l.map tick)∧Only (LineS P v) w w':=by
 obtain ⟨A,c,rfl⟩:=hl.form
 have HL:=hid hl
 have HCY:=hid hcy
 have c0:=hl.c0
 have hfew:=hl.few
 clear hl hcy
 go_enter Tryz.func165,Tryz.ntmps165
 go_wp2_with fail
 clear c0
 go_loopw [9] (fun i wr=>∃ k:Nat,k≤l.length∧i=.int .i64 k∧LineOf wr P (.slice A l.length c) (upd tick k l)∧Only (LineS P (.slice A l.length c)) w wr) (fun i _=>l.length-(intOf i).toNat)
 case atStart=>exact ⟨0,Nat.zero_le _,rfl,by rw [upd_zero];exact HL.out,Only.refl _ _⟩
 case round =>
  obtain ⟨k,hk,rfl,hl,ho⟩:=hrel
  have LR:=hid hl
  have HO:=hid ho
  clear hl ho
  by_cases hlt:k<l.length
  ·have HG:=hid (upd_get tick k l hlt)
   have HS:=hid (upd_succ tick k l hlt)
   obtain ⟨hc1,hc2⟩:=HCY.out l[k] (List.getElem_mem hlt)
   obtain ⟨g',cc,hv,_,_,_,d3,d4,_,_,d7,df⟩:=LR.out.cells HG.out
   injection hv with hv1 hv2 hv3
   subst hv1
   have c0:=LR.out.c0
   have f4:=df (k * 8+4)
   have f7:=df (k * 8+7)
   clear df hv2 hv3
   generalize l[k]=e at *
   have hk1:(k:Int)<(l.length:Int):=by omega
   cases hno:e.noted with
   | false =>
    rw [hno] at d7
    have HN:=hid (show tick e={ e with noted:=false } from by simp [tick,hno])
    have hno2:=hid hno
    clear hno
    go_wp2_with fail
    have D:=LR.out.setKeep (by rw [upd_len]) (tick e) (i:=7) (u:=.bool false) HG.out (by omega) (by rw [HN.out];rfl) (by rw [HN.out]) (by rw [HN.out])
    rw [HS.out] at D
    go_roundw
    case rel=>exact ⟨k+1,by omega,by go_num,D.1,HO.out.trans D.2 (fun _ _ h=>h)⟩
    case measure=>simp [intOf];omega
   | true =>
    rw [hno] at d7
    have hno2:=hid hno
    clear hno
    cases hw:isW e with
    | false =>
     have HN:=hid (show tick e={ e with noted:=false } from by simp [tick,hw])
     have hst:(e.state == 0)=false:=hw
     clear hw
     go_wp2_with fail
     have D:=LR.out.setKeep (by rw [upd_len]) (tick e) (i:=7) (u:=.bool false) HG.out (by omega) (by rw [HN.out];rfl) (by rw [HN.out]) (by rw [HN.out])
     rw [HS.out] at D
     go_roundw
     case rel=>exact ⟨k+1,by omega,by go_num,D.1,HO.out.trans D.2 (fun _ _ h=>h)⟩
     case measure=>simp [intOf];omega
    | true =>
     have HN:=hid (show tick e={ e with cycles:=e.cycles+1,noted:=false } from by simp [tick,hw,hno2.out])
     have hst:(e.state == 0)=true:=hw
     clear hw
     go_wp2_with fail
     have hlk:k<(upd tick k l).length:=by rw [upd_len];exact hlt
     have D1:=LR.out.setKeep (by rw [upd_len]) { e with cycles:=e.cycles+1 } (i:=4) (u:=.int .i64 (e.cycles+1)) HG.out (by omega) rfl rfl rfl
     have D:=D1.1.setKeep (e:={ e with cycles:=e.cycles+1 }) (by rw [List.length_set,upd_len]) (tick e) (i:=7) (u:=.bool false) (by rw [List.getElem?_set_self hlk]) (by omega) (by rw [HN.out];rfl) (by rw [HN.out]) (by rw [HN.out])
     rw [List.set_set,HS.out] at D
     go_roundw
     case rel=>exact ⟨k+1,by omega,by go_num,D.1,HO.out.trans (D1.2.trans D.2 (fun _ _ h=>h)) (fun _ _ h=>h)⟩
     case measure=>simp [intOf];omega
  ·obtain rfl:k=l.length:=by omega
   go_wp2_with fail
   go_end0
   exact ⟨rfl,by have:=LR.out;rwa [upd_all] at this,HO.out⟩
end Go.Proofs.YtpgdiceeimehiaaGreat.Ln
namespace Go.Proofs.YtpgdiceeimehiaaGreat.Sk
open Go.RowKit
def sideB (l:List Int):Bool:=decide (∀ i,i<l.length-1→l.getD i 0≠9223372036854775807∧l.getD (i+1) 0=l.getD i 0+1)
theorem side_any (v:Value) (xs:List Int) (w:World) (B:Nat) (h:SlI w B v xs) :
  Calls Tryz.prog 233 #[v] w fun e w'=>e=.returned (.bool (sideB xs))∧∃ n,w'=w.drewN n:=by
 obtain ⟨A,c,rfl,h1,h2,h3,h4⟩:=h
 unfold maxLen at h2
 go_enter Tryz.func233,Tryz.ntmps233
 go_wp2
 go_loopw [3] (fun i wr=>∃ k d:Nat,1≤k∧i=.int .i64 k∧wr=w.drewN d∧(∀ i,i+1<k→i<xs.length-1→xs.getD i 0≠9223372036854775807∧xs.getD (i+1) 0=xs.getD i 0+1)) (fun i _=>xs.length-(intOf i).toNat)
 case atStart=>exact ⟨1,0,by omega,rfl,rfl,by omega⟩
 case round =>
  obtain ⟨k,d,hk,rfl,rfl,hrel⟩:=hrel
  by_cases hlt:k<xs.length
  ·obtain ⟨b,off,rfl,hb,hc⟩:=h4 (by omega)
   have c1:=hc (k-1) (by omega)
   have c2:=hc k hlt
   have b1:=h3 (xs.getD (k-1) 0) (getD_mem xs (k-1) (by omega))
   have key:(∀ i,i+1<k+1→i<xs.length-1→xs.getD i 0≠9223372036854775807∧xs.getD (i+1) 0=xs.getD i 0+1) ↔ (xs.getD (k-1) 0≠9223372036854775807∧xs.getD k 0=xs.getD (k-1) 0+1):=by
    constructor
    ·intro h
     have:=h (k-1) (by omega) (by omega)
     rwa [Nat.sub_add_cancel hk] at this
    ·rintro h i h5 h6
     by_cases hi:i+1<k
     ·exact hrel i hi h6
     ·obtain rfl:i=k-1:=by omega
      rwa [Nat.sub_add_cancel hk]
   have hno:¬ (xs.getD (k-1) 0≠9223372036854775807∧xs.getD k 0=xs.getD (k-1) 0+1)→sideB xs=false:=by
    intro h
    simp only [sideB,decide_eq_false_iff_not]
    intro h'
    have:=h' (k-1) (by omega)
    rw [Nat.sub_add_cancel hk] at this
    exact h this
   have KEY:=hid key
   have HNO:=hid hno
   have HREL:=hid hrel
   clear hc h4 key hno hrel
   generalize xs.getD (k-1) 0=x at *
   generalize xs.getD k 0=y at *
   have kk:((k-1:Nat):Int)=(k:Int)-1:=by omega
   go_wp2
   by_cases hx:x=9223372036854775807
   ·subst hx
    go_quiet (fail)
    go_wp2
    go_ret
    exact ⟨ret_b (HNO.out (by omega)),_,World.drewN_drewN ..⟩
   ·have hx2:x<9223372036854775807:=by omega
    have hx':(x == 9223372036854775807)=false:=by simpa using hx
    by_cases hy:y=x+1
    ·have hy':(y != x+1)=false:=by simpa using hy
     have HX:=hid hx
     have HY:=hid hy
     clear hx hy
     go_quiet (fail)
     go_wp2
     go_roundw
     case rel=>exact ⟨k+1,_,by omega,by go_num,rfl,KEY.out.2 ⟨HX.out,HY.out⟩⟩
     case measure=>simp [intOf];omega
    ·have hy':(y != x+1)=true:=by simpa using hy
     have HX:=hid hx
     have HY:=hid hy
     clear hx hy
     go_quiet (fail)
     go_wp2
     go_ret
     exact ⟨ret_b (HNO.out (fun h=>HY.out h.2)),_,World.drewN_drewN ..⟩
  ·have hyes:sideB xs=true:=by
    simp only [sideB,decide_eq_true_eq]
    intro i hi
    exact hrel i (by omega) hi
   have HYES:=hid hyes
   clear hyes hrel
   go_wp2
   go_ret
   exact ⟨ret_b HYES.out,_,rfl⟩
end Go.Proofs.YtpgdiceeimehiaaGreat.Sk
namespace Go.Proofs.YtpgdiceeimehiaaGreat.Sk
open Go.RowKit
def Stk (w:World) (b:Nat) (v:Value) (most:Int):Prop:=w.heap[b]?=some (.cells #[v,.int .i64 most] 219 (0,0))
section
variable {w w':World} {b:Nat} {v:Value} {most:Int}
theorem Stk.lt (h:Stk w b v most):b<w.heap.size:=(Array.getElem?_eq_some_iff.1 h).1
theorem Stk.c0 (h:Stk w b v most):w.cell? ⟨b,0,none⟩=some v:=by rw [cell_of_row w b 0 _ _ _ h];rfl
theorem Stk.c1 (h:Stk w b v most):w.cell? ⟨b,1,none⟩=some (.int .i64 most):=by rw [cell_of_row w b 1 _ _ _ h];rfl
theorem Stk.free (h:Stk w b v most) (i:Nat):w.frozen? ⟨b,i,none⟩=false:=frozen_of_row w b i _ _ h
theorem Stk.only {S:Nat→Prop} (h:Stk w b v most) (ho:Only S w w') (hn:¬ S b):Stk w' b v most:=(ho.block b h.lt hn).trans h
theorem Stk.set (h:Stk w b v most) (v':Value):Stk (w.setCell ⟨b,0,none⟩ v') b v' most:=by
 unfold Stk at h ⊢
 simp [World.setCell,Array.getElem?_modify,h]
theorem Stk.drewN (h:Stk w b v most) (n:Nat):Stk (w.drewN n) b v most:=h
theorem Stk.ne (h:Stk w b v most) {base n:Nat} {u:Value} {xs:List Value} (ho:w.ownsRow base 3 1 u n xs) {k:Nat} (hk:u.ownBlock=some k):k≠b:=by
 rintro rfl
 rcases ho.2 with ⟨rfl,_⟩ | ⟨g,cap,cur,rfl,_,hg,_⟩
 ·simp [Value.ownBlock] at hk
 ·simp only [Value.ownBlock,Option.some.injEq] at hk
  subst hk
  unfold Stk at h
  rw [h] at hg
  simp at hg
end
theorem int_info:(Tryz.prog.info? 3).map (fun i=>(i.zero,i.size,i.bytes))=some (some (.int .i64 0),1,8):=by kernel_rfl
theorem new_ok (most:Int) (w:World) (h0:0≤most) (h1:most≤8) :
  Calls Tryz.prog 87 #[.int .i64 most] w fun e w'=>e=.returned (.tuple #[.pointer (some ⟨w.heap.size,0,none⟩),.int .i64 0])∧w'=w.alloc (.cells #[.slice none 0 0,.int .i64 most] 219):=by
 go_enter Tryz.func87,Tryz.ntmps87
 go_wp2
 go_ret2
 exact ⟨rfl,rfl⟩
theorem room_any (b:Nat) (A:Option Addr) (n c:Nat) (most:Int) (w:World) (h:Stk w b (.slice A n c) most) (hn:n≤9223372036854775807) (h0:0≤most) (h8:most≤8) :
  Calls Tryz.prog 295 #[.pointer (some ⟨b,0,none⟩)] w fun e w'=>e=.returned (.int .i64 (most-n))∧∃ d,w'=w.drewN d:=by
 have c0:=h.c0
 have c1:=h.c1
 go_enter Tryz.func295,Tryz.ntmps295
 go_wp2
 go_quiet (fail)
 go_wp2
 go_ret
 exact ⟨rfl,_,rfl⟩
theorem drain_any (b:Nat) (v:Value) (most:Int) (w:World) (h:Stk w b v most) :
  Calls Tryz.prog 175 #[.pointer (some ⟨b,0,none⟩)] w fun e w'=>e=.returned v∧w'=w.setCell ⟨b,0,none⟩ (.slice none 0 0):=by
 have c0:=h.c0
 have f0:=h.free 0
 go_enter Tryz.func175,Tryz.ntmps175
 go_wp2
 go_ret
 exact ⟨rfl,rfl⟩
end Go.Proofs.YtpgdiceeimehiaaGreat.Sk
