/- Part 2 of the proof that spotop.TopOrder returns true for all arguments and leaves what was there as it was. -/
import Derived.Deep.QuietTactic
import Derived.BigQuiet
import Derived.Laws.BitsAllLaws
import Derived.Laws.BitsLemmas
import Derived.IntWalk
import Derived.Test.YtpgdiceeimehiaaGreatQ01
set_option maxRecDepth 100000
set_option maxHeartbeats 16000000
open Go.Lib (hid)
namespace Go.Proofs.YtpgdiceeimehiaaGreat
open Go.RowKit
theorem region_class {P:Program} {id:Nat} {Q:Exit→Act→World→Prop} {a:Act} {w:World} {l:List Oper} (D:World→Prop) (h0:D w.drew) (hm:P.follows .mixedOrders=true) (hB:Region.lexB .any l.toArray=true)
  (h:∀ (S:Type) (f:S→World) (_:Nonempty S),(∀ s,D (f s))→(∀ w',D w'→∃ s,w'=f s)→wpQuiet P l.toArray (fun w'=>∃ s,w'=f s) (fun a'=>∀ w',(∃ s,w'=f s)→Q .normal a' w') l a):(Code.region id l.toArray true).wp P Q a w :=
 wp_region_quiet (C:=fun w'=>∃ s:{w' // D w'},w'=s.1) hm hB ⟨⟨w.drew,h0⟩,rfl⟩
  (by simpa using h {w' // D w'} Subtype.val ⟨⟨w.drew,h0⟩⟩ (fun s=>s.2) (fun w' hw=>⟨⟨w',hw⟩,rfl⟩))
theorem class_call {P:Program} {f:FuncId} {args:Array Value} {w:World} {v:Value} {D:World→Prop} {S:Type} {g:S→World} (hmk:∀ w',D w'→∃ s,w'=g s) (hD:D w) (hk:∀ w',D w→Pure w w'→D w')
  (h:Calls P f args w fun e w'=>e=.returned v∧Pure w w'):Calls P f args w fun e w'=>e=.returned v∧∃ s,w'=g s :=
 h.mono fun _ w' ⟨he,hp⟩=>⟨he,hmk w' (hk w' hD hp)⟩
theorem own_mono {w:World} {base base':Nat} {e:TypeId} {size:Nat} {v:Value} {n:Nat} {xs:List Value} (h:w.ownsRow base e size v n xs) (hb:base'≤base):w.ownsRow base' e size v n xs :=
 ⟨h.1,h.2.imp id fun ⟨g,cap,cur,h1,h2,h3⟩=>⟨g,cap,cur,h1,Nat.le_trans hb h2,h3⟩⟩
theorem own_cap {w:World} {base:Nat} {e:TypeId} {size n c:Nat} {A:Option Addr} {xs:List Value} (h:w.ownsRow base e size (.slice A n c) n xs):n≤c∧c≤maxLen:=by
 rcases h.2 with ⟨hv,rfl⟩ | ⟨g,cap,cur,hv,_,_,h1,h2,_⟩
 ·injection hv with _ _ hc
  subst hc
  exact ⟨Nat.le_refl _,by simp [maxLen]⟩
 ·injection hv with _ _ hc
  subst hc
  exact ⟨h1,h2⟩
theorem Src.part {w:World} {base:Nat} {e:TypeId} {g c:Nat} {ts:List Int} (h:w.ownsRow base e 1 (.slice (some ⟨g,0,none⟩) ts.length c) ts.length (ints ts)) (k m:Nat) (hkm:k+m≤ts.length):Src w 1 (some ⟨g,k,none⟩) m (ints ((ts.drop k).take m)):=by
 refine ⟨by rw [ints_length,List.length_take,List.length_drop];omega,fun _=>⟨g,k,rfl,fun j u hu=>?_⟩⟩
 have hj:=(List.getElem?_eq_some_iff.1 hu).1
 rw [ints_length,List.length_take,List.length_drop] at hj
 rw [h.cellAt (k+j) (by omega)]
 simp only [ints,List.getElem?_map,List.getElem?_take,List.getElem?_drop] at hu ⊢
 rw [if_pos (by omega)] at hu
 exact hu
theorem src_zero {w:World} {size:Nat} (A:Option Addr):Src w size A 0 []:=⟨by simp,fun h=>absurd h (by omega)⟩
theorem Src.front {w:World} {base:Nat} {e:TypeId} {g c:Nat} {ts:List Int} (h:w.ownsRow base e 1 (.slice (some ⟨g,0,none⟩) ts.length c) ts.length (ints ts)) (k:Nat) (hk:k≤ts.length) :
  Src w 1 (some ⟨g,0,none⟩) k (ints (ts.take k)):=by
 simpa using Src.part h 0 k (by omega)
open Go.RowKit
def Row (w:World) (X:Nat) (c:Cn) (v:Value) (w':World):Prop :=
 w.heap.size≤X∧w'.heap[X]?=some (.cells #[.int .i64 c.frags,.int .i64 c.spine,.int .i64 c.globals,.int .i64 c.threads,.int .i64 c.locals,.int .i64 c.cache,.int .i64 c.stack,.int .i64 c.low,v] 24 (0,0))∧Pure w w'
theorem Row.keep {w:World} {X:Nat} {c:Cn} {v:Value} {a b:World} (h:Row w X c v a) (k:Pure a b):Row w X c v b :=
 ⟨h.1,(k.block X (Array.getElem?_eq_some_iff.1 h.2.1).1 (fun f=>f)).trans h.2.1,h.2.2.then k⟩
theorem Row.cells {w:World} {X:Nat} {c:Cn} {v:Value} {a:World} (h:Row w X c v a) :
  a.cell? ⟨X,0,none⟩=some (.int .i64 c.frags)∧a.cell? ⟨X,1,none⟩=some (.int .i64 c.spine)∧a.cell? ⟨X,2,none⟩=some (.int .i64 c.globals)∧a.cell? ⟨X,3,none⟩=some (.int .i64 c.threads) ∧
  a.cell? ⟨X,4,none⟩=some (.int .i64 c.locals)∧a.cell? ⟨X,5,none⟩=some (.int .i64 c.cache)∧a.cell? ⟨X,6,none⟩=some (.int .i64 c.stack)∧a.cell? ⟨X,7,none⟩=some (.int .i64 c.low)∧a.cell? ⟨X,8,none⟩=some v∧∀ q,a.frozen? ⟨X,q,none⟩=false:=by
 refine ⟨?_,?_,?_,?_,?_,?_,?_,?_,?_,fun q=>frozen_of_row a X q _ _ h.2.1⟩ <;> (rw [cell_of_row a X _ _ _ _ h.2.1];rfl)
theorem Row.new (w:World) (c:Cn) (v:Value):Row w w.heap.size c v (w.alloc (.cells #[.int .i64 c.frags,.int .i64 c.spine,.int .i64 c.globals,.int .i64 c.threads,.int .i64 c.locals,.int .i64 c.cache,.int .i64 c.stack,.int .i64 c.low,v] 24)) :=
 ⟨Nat.le_refl _,heap_alloc_new w _,(Only.refl _ _).alloc _⟩
theorem bools_one (bs:List Bool):∀ u∈bools bs,u.oneCell'=true:=by
 intro u hu
 simp only [bools,List.mem_map] at hu
 obtain ⟨x,_,rfl⟩:=hu
 rfl
theorem SlG.src {w:World} {B:Nat} {A:Option Addr} {m c:Nat} {vs:List Value} (h:SlG w B (.slice A m c) vs):m=vs.length∧Src w 1 A m vs:=by
 obtain ⟨A',c',e,h1,h2,h4⟩:=h
 injection e with e1 e2 e3
 subst e1;subst e2
 refine ⟨rfl,by simp,fun hm=>?_⟩
 obtain ⟨b,off,e,_,hc⟩:=h4 hm
 exact ⟨b,off,e,hc⟩
theorem SlG.of_own {w:World} {base:Nat} {e:TypeId} {n:Nat} {v:Value} {vs:List Value} (h:w.ownsRow base e 1 v n vs):SlG w w.heap.size v vs:=by
 have hl:vs.length=n:=by have:=h.1;omega
 rcases h.2 with ⟨rfl,rfl⟩ | ⟨g,cap,cur,rfl,hb,hg,hnc,hcm,hcs,ht⟩
 ·obtain rfl:vs=[]:=List.eq_nil_of_length_eq_zero hl
  exact ⟨none,0,rfl,Nat.le_refl _,by omega,fun h=>by simp at h⟩
 ·subst hl
  refine ⟨_,cap,rfl,hnc,by simpa [maxLen] using hcm,fun hp=>⟨g,0,rfl,(Array.getElem?_eq_some_iff.1 hg).1,fun j u hu=>?_⟩⟩
  rw [Nat.zero_add,cell_of_row w g j cur e (0,0) hg]
  have hj:=(List.getElem?_eq_some_iff.1 hu).1
  have:(cur.toList.take (vs.length * 1))[j]?=vs[j]?:=by rw [ht]
  rw [List.getElem?_take,if_pos (by omega),Array.getElem?_toList] at this
  rw [this,hu]
theorem SlG.nil (w:World) (B:Nat):SlG w B (.slice none 0 0) (bools []):=⟨none,0,rfl,by simp [bools],by omega,fun h=>by simp [bools] at h⟩
def shCells (l:List Sh):List Value:=l.flatMap fun s=>[.bool s.a,s.v]
theorem shCells_length (l:List Sh):(shCells l).length=l.length * 2:=by
 induction l with
 | nil=>rfl
 | cons s l ih=>simp [shCells] at ih ⊢;omega
theorem shCells_append (l m:List Sh):shCells (l++m)=shCells l++shCells m:=by simp [shCells]
theorem shCells_get (l:List Sh) (j:Nat) (s:Sh) (h:l[j]?=some s):(shCells l)[j * 2]?=some (.bool s.a)∧(shCells l)[j * 2+1]?=some s.v:=by
 induction l generalizing j with
 | nil=>simp at h
 | cons t l ih =>
  cases j with
  | zero=>simp at h;subst h;exact ⟨rfl,rfl⟩
  | succ j =>
   have:=ih j (by simpa using h)
   simp only [shCells,List.flatMap_cons] at this ⊢
   rw [show (j+1) * 2=j * 2+1+1 from by omega]
   simpa using this
theorem ShsR.of_own {w:World} {base:Nat} {e:TypeId} {n:Nat} {v:Value} {l:List Sh} (h:w.ownsRow base e 2 v n (shCells l)) (hs:∀ s∈l,SlG w w.heap.size s.v (bools s.bs)):ShsR w w.heap.size v l:=by
 have hl:l.length=n:=by have:=h.1;rw [shCells_length] at this;omega
 refine ⟨?_,hs⟩
 rcases h.2 with ⟨rfl,rfl⟩ | ⟨g,cap,cur,rfl,hb,hg,hnc,hcm,hcs,ht⟩
 ·obtain rfl:l=[]:=List.eq_nil_of_length_eq_zero hl
  exact ⟨none,0,rfl,Nat.le_refl _,by simp,fun h=>by simp at h⟩
 ·subst hl
  refine ⟨_,cap,rfl,hnc,by simpa [maxLen] using hcm,fun hp=>⟨g,0,rfl,(Array.getElem?_eq_some_iff.1 hg).1,fun j s hj=>?_⟩⟩
  have hlt:=(List.getElem?_eq_some_iff.1 hj).1
  obtain ⟨g1,g2⟩:=shCells_get l j s hj
  have k1:(cur.toList.take (l.length * 2))[j * 2]?=(shCells l)[j * 2]?:=by rw [ht]
  have k2:(cur.toList.take (l.length * 2))[j * 2+1]?=(shCells l)[j * 2+1]?:=by rw [ht]
  rw [List.getElem?_take,if_pos (by omega),Array.getElem?_toList] at k1 k2
  rw [Nat.zero_add,cell_of_row w g _ cur e (0,0) hg,cell_of_row w g _ cur e (0,0) hg,k1,k2]
  exact ⟨g1,g2⟩
def alike (l m:List Sh):Prop:=l.map (fun s=>(s.a,s.bs))=m.map (fun s=>(s.a,s.bs))
theorem alike.length {l m:List Sh} (h:alike l m):l.length=m.length:=by have:=congrArg List.length h;simpa using this
theorem mayAll_map (l:List Sh):mayAll l=(l.map (fun s=>(s.a,s.bs))).all fun p=>mayB p.1 p.2.length:=by
 simp [mayAll,List.all_map,Function.comp_def]
theorem alike.check {l m:List Sh} (h:alike l m) (c:Cn):checkI c l=checkI c m:=by
 simp only [checkI]
 rw [mayAll_map l,mayAll_map m,h.length,h]
theorem bool_info:(Tryz.prog.info? 4).map (fun i=>(i.zero,i.size,i.bytes))=some (some (.bool false),1,1):=by kernel_rfl
theorem shape_info:(Tryz.prog.info? 35).map (fun i=>(i.zero,i.size,i.bytes))=some (some (.agg #[.bool false,.slice none 0 0]),2,32):=by kernel_rfl
theorem cloneB_any (v:Value) (bs:List Bool) (w:World) (h:SlG w w.heap.size v (bools bs)) (hx:bs.length≤1000000) :
  Calls Tryz.prog 142 #[v] w fun e w'=>∃ v',e=.returned v'∧Pure w w'∧w'.ownsRow w.heap.size 4 1 v' bs.length (bools bs):=by
 obtain ⟨i0,hi0,hz0,hz1,hz2⟩:=info_parts bool_info
 have h':=h
 obtain ⟨A,c,rfl,h1,h2,h4⟩:=h'
 rw [bools_length] at h1 h4
 have hbl:=bools_length bs
 rcases A with _ | ad
 ·have hl:bs.length=0:=by
   rcases Nat.eq_zero_or_pos bs.length with h0 | h0
   ·exact h0
   ·obtain ⟨b,off,e,_⟩:=h4 h0
    cases e
  obtain rfl:bs=[]:=List.eq_nil_of_length_eq_zero hl
  have heq:=fun w:World=>Lib.run_eql_slice_nil (P:=Tryz.prog) w 33 4 none 0 c 0 0 Tryz.underlying33
  go_enter Tryz.func142,Tryz.ntmps142
  go_wp2
  go_ret
  exact ⟨_,rfl,Only.refl _ _,World.ownsRow_nil _ _ _ _⟩
 ·have hs:=h.src.2
  rw [hbl] at hs ⊢
  have hs':Src (w.alloc (.cells #[] 4)) 1 (some ad) bs.length (bools bs):=hs.below ((Below.refl w.heap.size w).alloc (Nat.le_refl _) _) (fun b hm e=>by injection e with e;subst e;obtain ⟨b',off,e',hb,_⟩:=h4 hm;injection e' with e';subst e';exact hb)
  have heq:=fun w:World=>Lib.run_eql_slice_nil (P:=Tryz.prog) w 33 4 (some ad) bs.length c 0 0 Tryz.underlying33
  clear h h4 hbl
  go_enter Tryz.func142,Tryz.ntmps142
  go_wp2_with (at_builtin;refine wpList_app _ rfl (.tmp 5) (.tmp 6) _ rfl w.heap.size 4 i0 _ 1 1 Tryz.underlying33 hi0 hz0 hz1 hz2 rfl (by omega) _ 0 [] rfl (World.ownsRow_made w #[] 0 (Nat.le_refl _) (by simp [maxLen]) rfl) _ _ _ _ rfl hs' (bools_one bs) (by simp only [maxLen];omega) (by omega) (by simp) ?_;intro v1 w1 hown1 hg1 hat1)
  go_ret
  refine ⟨_,rfl,((Only.refl _ _).alloc _).grown hg1 (fun k hk e=>?_),by simpa using hown1⟩
  injection e with e
  exact absurd e (Nat.ne_of_gt hk)
def CopR (w:World) (X Y:Nat) (w':World):Prop:=X≠Y∧(∃ x y,w'.heap[Y]?=some (.cells #[x,y] 35 (0,0)))∧w.heap.size≤Y∧Pure w w'
def CopS (w:World) (X Y:Nat) (a:Bool) (v:Value) (w':World):Prop:=w'.cell? ⟨X,0,none⟩=some (.bool a)∧w'.cell? ⟨X,1,none⟩=some v∧CopR w X Y w'
theorem CopS.keep {w:World} {X Y:Nat} {a:Bool} {v:Value} (b c:World) (h:CopS w X Y a v b) (k:Pure b c):CopS w X Y a v c:=by
 obtain ⟨h0,h1,h5,⟨x,y,h2⟩,h3,h4⟩:=h
 exact ⟨k.keep h0,k.keep h1,h5,⟨x,y,(k.block Y (Array.getElem?_eq_some_iff.1 h2).1 (fun f=>f)).trans h2⟩,h3,h4.then k⟩
theorem CopS.stored {w b:World} {X Y:Nat} {a:Bool} {v u z:Value} (h:CopS w X Y a v b):CopS w X Y a v ((b.setCell ⟨Y,0,none⟩ u).setCell ⟨Y,1,none⟩ z):=by
 obtain ⟨h0,h1,h5,⟨x,y,h2⟩,h3,h4⟩:=h
 have ho:Only (fun k=>k=Y) b ((b.setCell ⟨Y,0,none⟩ u).setCell ⟨Y,1,none⟩ z):=((Only.refl (fun k=>k=Y) b).setCell (p:=⟨Y,0,none⟩) (fun _=>rfl) u).setCell (p:=⟨Y,1,none⟩) (fun _=>rfl) z
 refine ⟨?_,?_,h5,⟨u,z,?_⟩,h3,?_⟩
 ·exact (ho.cell (World.block_lt_of_cell? b _ h0) h5).trans h0
 ·exact (ho.cell (World.block_lt_of_cell? b _ h1) h5).trans h1
 ·simp [World.setCell,Array.getElem?_modify,h2]
 ·exact (h4.setCell (p:=⟨Y,0,none⟩) (fun h'=>Nat.not_lt.2 h3 h') u).setCell (p:=⟨Y,1,none⟩) (fun h'=>Nat.not_lt.2 h3 h') z
theorem CopS.clone {w b:World} {X Y:Nat} {a:Bool} {v:Value} {bs:List Bool} (h:CopS w X Y a v b) (hs:∀ c,Pure w c→SlG c c.heap.size v (bools bs)) (hx:bs.length≤1000000) :
  Calls Tryz.prog 142 #[v] b fun e w'=>∃ A c x y,e=.returned (.slice A bs.length c)∧CopS w X Y a v w'∧w'.cell? ⟨Y,0,none⟩=some x∧w'.cell? ⟨Y,1,none⟩=some y∧w'.frozen? ⟨Y,0,none⟩=false∧w'.frozen? ⟨Y,1,none⟩=false∧Hid (SlG w' w'.heap.size (.slice A bs.length c) (bools bs)∧∀ k,(Value.slice A bs.length c).ownBlock=some k→k≠Y∧w.heap.size≤k∧k<w'.heap.size):=by
 refine (cloneB_any v bs b (hs b h.2.2.2.2.2) hx).mono ?_
 rintro e w' ⟨v',rfl,hp,ho⟩
 obtain ⟨A,c,rfl⟩:=own_form ho
 have hk:=CopS.keep b w' h hp
 obtain ⟨x,y,hy⟩:=hk.2.2.2.1
 obtain ⟨x0,y0,hy0⟩:=h.2.2.2.1
 have hlt:=(Array.getElem?_eq_some_iff.1 hy0).1
 refine ⟨A,c,x,y,rfl,hk,?_,?_,frozen_of_row w' Y _ _ _ hy,frozen_of_row w' Y _ _ _ hy,hid ⟨SlG.of_own ho,fun k hk'=>?_⟩⟩
 ·rw [cell_of_row w' Y _ _ _ _ hy];rfl
 ·rw [cell_of_row w' Y _ _ _ _ hy];rfl
 ·have:=ho.lt k hk'
  have:=h.2.2.2.2.2.size
  omega
theorem copied_any (a:Bool) (v:Value) (bs:List Bool) (w:World) (h:SlG w w.heap.size v (bools bs)) (hx:bs.length≤1000000) :
  Calls Tryz.prog 90 #[.agg #[.bool a,v]] w fun e w'=>∃ A c,e=.returned (.agg #[.bool a,.slice A bs.length c])∧Pure w w'∧SlG w' w'.heap.size (.slice A bs.length c) (bools bs)∧∀ k,(Value.slice A bs.length c).ownBlock=some k→w.heap.size≤k∧k<w'.heap.size:=by
 obtain ⟨A,c,rfl⟩:∃ A c,v=.slice A bs.length c:=by obtain ⟨A,c,e,_⟩:=h;rw [bools_length] at e;exact ⟨A,c,e⟩
 have HS:=hid (fun c (hp:Pure w c)=>h.pure hp)
 have hC:CopS w w.heap.size (w.heap.size+1) a (.slice A bs.length c) ((w.alloc (.cells #[.bool a,.slice A bs.length c] 35)).alloc (.cells #[.bool false,.slice none 0 0] 35)) :=
  ⟨by simp,by simp,by omega,⟨_,_,by have:=heap_alloc_new (w.alloc (.cells #[.bool a,.slice A bs.length c] 35)) (.cells #[.bool false,.slice none 0 0] 35);simpa using this⟩,by omega,((Only.refl _ _).alloc _).alloc _⟩
 clear h
 go_enter Tryz.func90,Tryz.ntmps90
 go_wp2_with fail
 generalize (w.alloc (.cells #[.bool a,.slice A bs.length c] 35)).alloc (.cells #[.bool false,.slice none 0 0] 35)=W at *
 generalize w.heap.size+1=Y at *
 generalize w.heap.size=X at *
 have HC:=hid hC
 obtain ⟨k0,k1,k2⟩:=hC
 clear k2
 go_region_held3 (fun w'=>w'.cell? ⟨X,0,none⟩=some (.bool a)∧w'.cell? ⟨X,1,none⟩=some (.slice A bs.length c)∧CopR w X Y w')
  ((first | assumption | exact CopS.keep W W.drew HC.out ((Only.refl _ W).drewN 1) | exact CopS.stored (by assumption)))
  (first | (go_at_call 142;refine (CopS.clone (w:=w) (X:=X) (Y:=Y) (a:=a) (by assumption) HS.out hx).mono ?_;rintro e w' ⟨A',c',x',y',rfl,hs,hy0,hy1,hyf0,hyf1,hsl⟩))
 go_wp2
 refine bodyPost_ret (v:=.agg #[.bool a,.slice A' bs.length c']) (by simp [results,Tryz.results90,go_sem,hy0,hy1]) rfl ⟨A',c',rfl,?_,?_,fun k hk=>⟨(hsl.out.2 k hk).2.1,by simpa [World.setCell] using (hsl.out.2 k hk).2.2⟩⟩
 ·exact (CopS.stored hs).2.2.2.2.2
 ·have ho:Only (fun k=>k=Y) w' ((w'.setCell ⟨Y,0,none⟩ (.bool a)).setCell ⟨Y,1,none⟩ (.slice A' bs.length c')):=((Only.refl (fun k=>k=Y) w').setCell (p:=⟨Y,0,none⟩) (fun _=>rfl) _).setCell (p:=⟨Y,1,none⟩) (fun _=>rfl) _
  exact hsl.out.1.only ho (fun k hk=>(hsl.out.2 k hk).1)
theorem place_keep {w b c:World} {Y:Nat} {T:TypeId} {x y:Value} (h:b.heap[Y]?=some (.cells #[x,y] T (0,0))) (k:Pure b c) (hY:w.heap.size≤Y) (hw:Pure w b) :
  c.cell? ⟨Y,0,none⟩=some x∧c.cell? ⟨Y,1,none⟩=some y∧c.frozen? ⟨Y,0,none⟩=false∧c.frozen? ⟨Y,1,none⟩=false∧∀ u z,Pure w ((c.setCell ⟨Y,0,none⟩ u).setCell ⟨Y,1,none⟩ z):=by
 have hc:=(k.block Y (Array.getElem?_eq_some_iff.1 h).1 (fun f=>f)).trans h
 refine ⟨?_,?_,frozen_of_row c Y _ _ _ hc,frozen_of_row c Y _ _ _ hc,fun u z=>?_⟩
 ·rw [cell_of_row c Y _ _ _ _ hc];rfl
 ·rw [cell_of_row c Y _ _ _ _ hc];rfl
 ·exact ((hw.then k).setCell (p:=⟨Y,0,none⟩) (fun h'=>Nat.not_lt.2 hY h') u).setCell (p:=⟨Y,1,none⟩) (fun h'=>Nat.not_lt.2 hY h') z
theorem shape_in (c:Cn) (v:Value) (l:List Sh) (k:Nat) (s:Sh) (w:World) (hl:ShsR w w.heap.size v l) (hk:l[k]?=some s) (hx:s.bs.length≤1000000) :
  Calls Tryz.prog 136 #[cnV c v,.int .i64 k] w fun e w'=>∃ A d,e=.returned (.tuple #[.agg #[.bool s.a,.slice A s.bs.length d],.bool true])∧Pure w w'∧SlG w' w'.heap.size (.slice A s.bs.length d) (bools s.bs)∧∀ k,(Value.slice A s.bs.length d).ownBlock=some k→w.heap.size≤k∧k<w'.heap.size:=by
 obtain ⟨⟨A,cc,rfl,h1,h2,h3⟩,h4⟩:=hl
 have hlt:=(List.getElem?_eq_some_iff.1 hk).1
 obtain ⟨b,off,hA,hb,hc⟩:=h3 (by omega)
 subst hA
 obtain ⟨d1,d2⟩:=hc k s hk
 have hS:=h4 s (List.mem_of_getElem? hk)
 have HS:=hid (fun c (hp:Pure w c)=>hS.pure hp)
 obtain ⟨B,d,hv,hd1,hd2,_⟩:=hS
 rw [hv] at HS d2
 rw [bools_length] at d2 HS
 have hp:Pure w ((w.alloc (.cells #[.int .i64 c.frags,.int .i64 c.spine,.int .i64 c.globals,.int .i64 c.threads,.int .i64 c.locals,.int .i64 c.cache,.int .i64 c.stack,.int .i64 c.low,.slice (some ⟨b,off,none⟩) l.length cc] 24)).alloc (.cells #[.bool false,.slice none 0 0] 35)):=((Only.refl _ _).alloc _).alloc _
 have hy:=heap_alloc_new (w.alloc (.cells #[.int .i64 c.frags,.int .i64 c.spine,.int .i64 c.globals,.int .i64 c.threads,.int .i64 c.locals,.int .i64 c.cache,.int .i64 c.stack,.int .i64 c.low,.slice (some ⟨b,off,none⟩) l.length cc] 24)) (.cells #[.bool false,.slice none 0 0] 35)
 rw [show (w.alloc (.cells #[.int .i64 c.frags,.int .i64 c.spine,.int .i64 c.globals,.int .i64 c.threads,.int .i64 c.locals,.int .i64 c.cache,.int .i64 c.stack,.int .i64 c.low,.slice (some ⟨b,off,none⟩) l.length cc] 24)).heap.size=w.heap.size+1 from by simp] at hy
 have HP:=hid hp
 have HSZ:=hid (show ((w.alloc (.cells #[.int .i64 c.frags,.int .i64 c.spine,.int .i64 c.globals,.int .i64 c.threads,.int .i64 c.locals,.int .i64 c.cache,.int .i64 c.stack,.int .i64 c.low,.slice (some ⟨b,off,none⟩) l.length cc] 24)).alloc (.cells #[.bool false,.slice none 0 0] 35)).heap.size=w.heap.size+2 from by simp)
 have HY:=hid hy
 clear h3 h4 hc hk hv hd1 hd2 hp hy
 go_enter Tryz.func136,Tryz.ntmps136
 go_wp2_with (fail)
 refine (copied_any _ _ s.bs _ (HS.out _ HP.out) hx).mono ?_
 rintro e w1 ⟨A',c',rfl,hp1,hsl,hfr⟩
 have HSL:=hid hsl
 have HFR:=hid hfr
 clear hsl hfr
 obtain ⟨y0,y1,y2,y3,y4⟩:=place_keep (w:=w) HY.out hp1 (by omega) HP.out
 have Y4:=hid y4
 clear y4 hp1 d1 d2
 go_wp2_with (fail)
 refine bodyPost_ret (v:=.tuple #[.agg #[.bool s.a,.slice A' s.bs.length c'],.bool true]) (by simp [results,Tryz.results136,go_sem,y0,y1]) rfl ⟨A',c',rfl,Y4.out _ _,?_,fun k hk=>⟨by have:=(HFR.out k hk).1;have:=HP.out.size;omega,by simpa [World.setCell] using (HFR.out k hk).2⟩⟩
 refine HSL.out.only (((Only.refl (fun k=>k=w.heap.size+1) w1).setCell (p:=⟨w.heap.size+1,0,none⟩) (fun _=>rfl) _).setCell (p:=⟨w.heap.size+1,1,none⟩) (fun _=>rfl) _) (fun k hk e=>?_)
 have h1:=(HFR.out k hk).1
 have h2:=HSZ.out
 omega
theorem Src.row (w:World) (e:TypeId) (cs:Array Value) (size m B:Nat) (hl:cs.size=m * size) (hB:w.heap.size=B):Src (w.alloc (.cells cs e)) size (some ⟨B,0,none⟩) m cs.toList:=by
 subst hB
 refine ⟨by simpa using hl,fun _=>⟨_,0,rfl,fun j u hu=>?_⟩⟩
 rw [cell_of_row _ w.heap.size _ cs e (0,0) (heap_alloc_new w _),Nat.zero_add]
 simpa using hu
structure CopyR (W:World) (l:List Sh) (k:Nat) (v':Value) (m:List Sh) (wr:World):Prop where
 own:wr.ownsRow W.heap.size 35 2 v' k (shCells m)
 sl:∀ s∈m,SlG wr wr.heap.size s.v (bools s.bs)
 apart:∀ s∈m,∀ q,s.v.ownBlock=some q→v'.ownBlock≠some q∧W.heap.size≤q∧q<wr.heap.size
 like:alike (l.take k) m
 pure:Pure W wr
theorem CopyR.start (W:World) (l:List Sh):CopyR W l 0 (.slice none 0 0) [] W :=
 ⟨World.ownsRow_nil _ _ _ _,fun _ h=>by simp at h,fun _ h=>by simp at h,by simp [alike],Only.refl _ _⟩
theorem CopyR.then {W:World} {l:List Sh} {k:Nat} {v':Value} {m:List Sh} {a b:World} (h:CopyR W l k v' m a) (p:Pure a b):CopyR W l k v' m b :=
 ⟨p.own h.own (fun _ _ f=>f),fun s hs=>(h.sl s hs).pure p,fun s hs q hq=>⟨(h.apart s hs q hq).1,(h.apart s hs q hq).2.1,Nat.lt_of_lt_of_le (h.apart s hs q hq).2.2 p.size⟩,h.like,h.pure.then p⟩
theorem CopyR.step {W a a3 a4:World} {l m:List Sh} {k:Nat} {v' v'' vN:Value} {s:Sh} (h:CopyR W l k v' m a) (hs:l[k]?=some s) (p:Pure a a3)
  (hN:SlG a3 a3.heap.size vN (bools s.bs)) (hNb:∀ q,vN.ownBlock=some q→a.heap.size≤q∧q<a3.heap.size)
  (ho:a4.ownsRow W.heap.size 35 2 v'' (k+1) (shCells m++[.bool s.a,vN])) (hg:a3.grownBy a4 v'.ownBlock) (hat:v''.ownBlock=v'.ownBlock∨v''.ownBlock=some a3.heap.size) :
  CopyR W l (k+1) v'' (m++[⟨s.a,vN,s.bs⟩]) a4:=by
 have h3:=h.then p
 have hO:Only (fun q=>v'.ownBlock=some q) a3 a4:=(Only.refl _ a3).grown hg (fun _ _ e=>e)
 have hlt:=fun q e=>(h.own.lt q e).2
 have hsz:=p.size
 refine ⟨?_,?_,?_,?_,?_⟩
 ·rw [shCells_append];exact ho
 ·intro t ht
  rcases List.mem_append.1 ht with ht | ht
  ·exact (h3.sl t ht).only hO (fun q hq=>(h3.apart t ht q hq).1)
  ·simp at ht;subst ht
   exact hN.only hO (fun q hq e=>by have:=(hNb q hq).1;have:=hlt q e;omega)
 ·intro t ht q hq
  have hW:=h.pure.size
  have hh:v'.ownBlock≠some q∧W.heap.size≤q∧q<a3.heap.size:=by
   rcases List.mem_append.1 ht with ht | ht
   ·exact h3.apart t ht q hq
   ·simp at ht;subst ht
    exact ⟨fun e=>by have:=(hNb q hq).1;have:=hlt q e;omega,by have:=(hNb q hq).1;omega,(hNb q hq).2⟩
  refine ⟨fun e=>?_,hh.2.1,Nat.lt_of_lt_of_le hh.2.2 hO.size⟩
  rcases hat with h' | h'
  ·exact hh.1 (h'.symm.trans e)
  ·rw [h'] at e;injection e with e;omega
 ·have:=h.like
  unfold alike at this ⊢
  rw [List.take_add_one,hs,List.map_append,List.map_append,this]
  rfl
 ·exact h3.pure.grown hg (fun q hq e=>by have:=(h.own.lt q e).1;omega)
theorem copy_end {w W wr wf:World} {l m:List Sh} {A:Option Addr} {d:Nat} (hW:W.heap.size=w.heap.size+2) (hp:Pure w W) (h:CopyR W l l.length (.slice A l.length d) m wr)
  (ho:Only (fun q=>q=w.heap.size∨q=w.heap.size+1) wr wf) :
  Pure w wf∧wf.ownsRow w.heap.size 35 2 (.slice A l.length d) l.length (shCells m)∧(∀ s∈m,SlG wf wf.heap.size s.v (bools s.bs)) ∧
   (∀ s∈m,∀ q,s.v.ownBlock=some q→(Value.slice A l.length d).ownBlock≠some q∧w.heap.size≤q∧q<wf.heap.size)∧alike l m:=by
 refine ⟨?_,?_,?_,?_,?_⟩
 ·exact (hp.then h.pure).trans ho (fun i hi e=>by omega)
 ·exact own_mono (ho.own h.own (fun q hq e=>by have:=(h.own.lt q hq).1;omega)) (by omega)
 ·exact fun s hs=>(h.sl s hs).only ho (fun q hq e=>by have:=(h.apart s hs q hq).2.1;omega)
 ·exact fun s hs q hq=>⟨(h.apart s hs q hq).1,by have:=(h.apart s hs q hq).2.1;omega,Nat.lt_of_lt_of_le (h.apart s hs q hq).2.2 ho.size⟩
 ·have:=h.like
  rwa [List.take_length] at this
theorem copy_any (c:Cn) (v:Value) (l:List Sh) (w:World) (hl:ShsR w w.heap.size v l) (hn:l.length≤1000) (hx:∀ s∈l,s.bs.length≤1000000) :
  Calls Tryz.prog 53 #[cnV c v] w fun e w'=>∃ (A:Option Addr) (d:Nat) (m:List Sh),e=.returned (cnV c (.slice A l.length d))∧Pure w w'∧w'.ownsRow w.heap.size 35 2 (.slice A l.length d) l.length (shCells m) ∧
   (∀ s∈m,SlG w' w'.heap.size s.v (bools s.bs))∧(∀ s∈m,∀ q,s.v.ownBlock=some q→(Value.slice A l.length d).ownBlock≠some q∧w.heap.size≤q∧q<w'.heap.size)∧alike l m:=by
 obtain ⟨i0,hi0,hz0,hz1,hz2⟩:=info_parts shape_info
 obtain ⟨⟨A,cc,rfl,h1,h2,h3⟩,h4⟩:=hl
 have hr:=(Row.new w c (.slice A l.length cc)).keep ((Only.refl _ _).alloc (.cells #[.int .i64 0,.int .i64 0,.int .i64 0,.int .i64 0,.int .i64 0,.int .i64 0,.int .i64 0,.int .i64 0,.slice none 0 0] 24))
 have hy:=heap_alloc_new (w.alloc (.cells #[.int .i64 c.frags,.int .i64 c.spine,.int .i64 c.globals,.int .i64 c.threads,.int .i64 c.locals,.int .i64 c.cache,.int .i64 c.stack,.int .i64 c.low,.slice A l.length cc] 24)) (.cells #[.int .i64 0,.int .i64 0,.int .i64 0,.int .i64 0,.int .i64 0,.int .i64 0,.int .i64 0,.int .i64 0,.slice none 0 0] 24)
 rw [show (w.alloc (.cells #[.int .i64 c.frags,.int .i64 c.spine,.int .i64 c.globals,.int .i64 c.threads,.int .i64 c.locals,.int .i64 c.cache,.int .i64 c.stack,.int .i64 c.low,.slice A l.length cc] 24)).heap.size=w.heap.size+1 from by simp] at hy
 have HW:=hid (show ((w.alloc (.cells #[.int .i64 c.frags,.int .i64 c.spine,.int .i64 c.globals,.int .i64 c.threads,.int .i64 c.locals,.int .i64 c.cache,.int .i64 c.stack,.int .i64 c.low,.slice A l.length cc] 24)).alloc (.cells #[.int .i64 0,.int .i64 0,.int .i64 0,.int .i64 0,.int .i64 0,.int .i64 0,.int .i64 0,.int .i64 0,.slice none 0 0] 24)).heap.size=w.heap.size+2 from by simp)
 have H3:=hid h3
 have H4:=hid h4
 have HX:=hid hx
 have HY:=hid hy
 have HR:=hid hr
 clear h3 h4 hx hy hr
 go_enter Tryz.func53,Tryz.ntmps53
 go_wp2_with fail
 generalize (w.alloc (.cells #[.int .i64 c.frags,.int .i64 c.spine,.int .i64 c.globals,.int .i64 c.threads,.int .i64 c.locals,.int .i64 c.cache,.int .i64 c.stack,.int .i64 c.low,.slice A l.length cc] 24)).alloc (.cells #[.int .i64 0,.int .i64 0,.int .i64 0,.int .i64 0,.int .i64 0,.int .i64 0,.int .i64 0,.int .i64 0,.slice none 0 0] 24)=W at *
 go_loopw [3,9] (fun v' i wr=>∃ (k:Nat) (m:List Sh),k≤l.length∧i=.int .i64 k∧CopyR W l k v' m wr) (fun _ i _=>l.length-(intOf i).toNat)
 case atStart=>exact ⟨0,[],Nat.zero_le _,rfl,CopyR.start W l⟩
 case round =>
  obtain ⟨k,m,hk,rfl,hrel⟩:=hrel
  obtain ⟨A',d',rfl⟩:=own_form hrel.own
  have HREL:=hid hrel
  clear hrel
  by_cases hlt:k<l.length
  ·obtain ⟨b,off,hA,hb,hc⟩:=H3.out (by omega)
   subst hA
   obtain ⟨s,hs⟩:∃ s,l[k]?=some s:=⟨l[k],List.getElem?_eq_getElem hlt⟩
   obtain ⟨d1,d2⟩:=hc k s hs
   have hS:=H4.out s (List.mem_of_getElem? hs)
   have hbl:=HX.out s (List.mem_of_getElem? hs)
   have HSL:=hid (fun c (hp:Pure w c)=>hS.pure hp)
   obtain ⟨B,d,hv,_⟩:=hS
   rw [hv] at HSL d2
   rw [bools_length] at d2 HSL
   have hp:=HR.out.2.2.then HREL.out.pure
   have d1':=hp.keep d1
   have d2':=hp.keep d2
   have HP:=hid hp
   have HS:=hid hs
   clear hc hs hv hp d1 d2
   go_wp2_with fail
   refine (copied_any _ _ s.bs _ (HSL.out _ (HP.out.alloc _)) hbl).mono ?_
   rintro e w1 ⟨A1,c1,rfl,hp1,hs1,hb1⟩
   have P1:=hid (Pure.then ((Only.refl _ wr).alloc _) hp1)
   have S1:=hid hs1
   have B1:=hid hb1
   have hown1:=P1.out.own HREL.out.own (fun _ _ f=>f)
   have OWN1:=hid hown1
   have hsz1:W.heap.size≤(w1.alloc (.cells #[.bool s.a,.slice A1 s.bs.length c1] 35)).heap.size:=by have:=P1.out.size;have:=HREL.out.pure.size;simp;omega
   clear hp1 hs1 hb1 hown1
   go_wp2_with (at_builtin;refine wpList_app _ rfl (.tmp 13) (.tmp 16) _ rfl W.heap.size 35 i0 _ 2 32 Tryz.underlying22 hi0 hz0 hz1 hz2 rfl (by omega) (.slice A' k d') k (shCells m) rfl (World.ownsRow.alloc (w:=w1) OWN1.out _) _ 1 1 [.bool s.a,.slice A1 s.bs.length c1] rfl (Src.row w1 _ #[.bool s.a,.slice A1 s.bs.length c1] 2 1 _ rfl rfl) (by simp [Value.oneCell']) (by simp only [maxLen];omega) (by omega) hsz1 ?_;intro v2 w2 hown2 hg2 hat2;have OWN2:=hid hown2;have G2:=hid hg2;have AT2:=hid hat2;clear hown2 hg2 hat2)
   go_roundw
   case rel =>
    refine ⟨k+1,_,hlt,by go_num,HREL.out.step HS.out (P1.out.alloc _) (S1.out.pure ((Only.refl _ w1).alloc _)) (fun q hq=>?_) OWN2.out G2.out AT2.out⟩
    have:=B1.out q hq
    simp at this ⊢
    omega
   case measure=>simp [intOf];omega
  ·obtain rfl:k=l.length:=by omega
   obtain ⟨c0,c1,c2,c3,c4,c5,c6,c7,c8,f⟩:=(HR.out.keep HREL.out.pure).cells
   have f8:=f 8
   have hy:=(HREL.out.pure.block _ (Array.getElem?_eq_some_iff.1 HY.out).1 (fun f=>f)).trans HY.out
   have hyf:=fun i=>frozen_of_row wr _ i _ _ hy
   have yf0:=hyf 0;have yf1:=hyf 1;have yf2:=hyf 2;have yf3:=hyf 3;have yf4:=hyf 4;have yf5:=hyf 5;have yf6:=hyf 6;have yf7:=hyf 7;have yf8:=hyf 8
   have y0:wr.cell? ⟨w.heap.size+1,0,none⟩=some (.int .i64 0):=by rw [cell_of_row wr _ _ _ _ _ hy];rfl
   have y1:wr.cell? ⟨w.heap.size+1,1,none⟩=some (.int .i64 0):=by rw [cell_of_row wr _ _ _ _ _ hy];rfl
   have y2:wr.cell? ⟨w.heap.size+1,2,none⟩=some (.int .i64 0):=by rw [cell_of_row wr _ _ _ _ _ hy];rfl
   have y3:wr.cell? ⟨w.heap.size+1,3,none⟩=some (.int .i64 0):=by rw [cell_of_row wr _ _ _ _ _ hy];rfl
   have y4:wr.cell? ⟨w.heap.size+1,4,none⟩=some (.int .i64 0):=by rw [cell_of_row wr _ _ _ _ _ hy];rfl
   have y5:wr.cell? ⟨w.heap.size+1,5,none⟩=some (.int .i64 0):=by rw [cell_of_row wr _ _ _ _ _ hy];rfl
   have y6:wr.cell? ⟨w.heap.size+1,6,none⟩=some (.int .i64 0):=by rw [cell_of_row wr _ _ _ _ _ hy];rfl
   have y7:wr.cell? ⟨w.heap.size+1,7,none⟩=some (.int .i64 0):=by rw [cell_of_row wr _ _ _ _ _ hy];rfl
   have y8:wr.cell? ⟨w.heap.size+1,8,none⟩=some (.slice none 0 0):=by rw [cell_of_row wr _ _ _ _ _ hy];rfl
   clear f hy hyf
   go_wp2_with fail
   refine bodyPost_ret (v:=cnV c (.slice A' l.length d')) (by simp [results,Tryz.results53,go_sem,y0,y1,y2,y3,y4,y5,y6,y7,y8]) rfl ⟨A',d',m,rfl,copy_end HW.out HR.out.2.2 HREL.out ?_⟩
   iterate 9 refine Only.setCell ?_ (fun _=>.inr rfl) _
   exact (Only.refl _ wr).setCell (fun _=>.inl rfl) _
end Go.Proofs.YtpgdiceeimehiaaGreat
