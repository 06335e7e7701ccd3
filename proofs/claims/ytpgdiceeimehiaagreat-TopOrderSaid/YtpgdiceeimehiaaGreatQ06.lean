/- Part 6 of the proof that spotop.TopOrder returns true for all arguments and leaves what was there as it was. -/
import Derived.WalkSmall
import Derived.Test.YtpgdiceeimehiaaGreatQ01
import Derived.Test.YtpgdiceeimehiaaGreatQ03
import Derived.Test.YtpgdiceeimehiaaGreatQ04
set_option maxRecDepth 100000
set_option maxHeartbeats 16000000
open Go.Lib (hid)
namespace Go.Proofs.YtpgdiceeimehiaaGreat.Co
open Go.RowKit
structure At (w:World) (b:Nat) (size:Int) (cur:Nat) (u:Nat→Int) (kept:Int):Prop where
 me:w.heap[b]?=some (.cells #[.int .i64 size,.int .i64 (cur:Int),.int .i64 (u 0),.int .i64 (u 1),.int .i64 kept] 214 (0,0))
 cur:cur<2
 sz:0≤size∧size≤2048
 ub:∀ k,0≤u k∧u k≤2048
 kb:0≤kept∧kept≤2048
section
variable {w w':World} {b:Nat} {size:Int} {cur:Nat} {u:Nat→Int} {kept:Int}
theorem At.cs (h:At w b size cur u kept):w.cell? ⟨b,0,none⟩=some (.int .i64 size)∧w.cell? ⟨b,1,none⟩=some (.int .i64 (cur:Int))∧w.cell? ⟨b,4,none⟩=some (.int .i64 kept):=by
 refine ⟨?_,?_,?_⟩ <;> (rw [cell_of_row w b _ _ _ _ h.me];rfl)
theorem At.cu (h:At w b size cur u kept) (k:Nat) (hk:k<2):w.cell? ⟨b,2+k,none⟩=some (.int .i64 (u k)):=by
 rw [cell_of_row w b _ _ _ _ h.me]
 rcases (by omega:k=0∨k=1) with rfl | rfl <;> rfl
theorem At.fb (h:At w b size cur u kept) (k:Nat):w.frozen? ⟨b,k,none⟩=false:=frozen_of_row w b k _ _ h.me
theorem At.lb (h:At w b size cur u kept):b<w.heap.size:=(Array.getElem?_eq_some_iff.1 h.me).1
theorem At.only {S:Nat→Prop} (h:At w b size cur u kept) (ho:Only S w w') (hb:¬ S b):At w' b size cur u kept:=⟨(ho.block b h.lb hb).trans h.me,h.cur,h.sz,h.ub,h.kb⟩
end
theorem new_in (m:Int) (w:World) (h0:0≤m) (hm:m≤2048):Calls Tryz.prog 85 #[.int .i64 m] w fun e w'=>e=.returned (.tuple #[.pointer (some ⟨w.heap.size,0,none⟩),.int .i64 0])∧Pure w w'∧w'.heap.size=w.heap.size+1∧At w' w.heap.size m 0 (fun _=>0) 0:=by
 have d0:decide (m<0)=false:=by simp;omega
 have d1:decide (2048<m)=false:=by simp;omega
 go_enter Tryz.func85,Tryz.ntmps85
 go_wp2_with fail
 go_ret2
 exact ⟨rfl,(Only.refl _ _).alloc _,by simp,⟨heap_alloc_new w _,by omega,⟨h0,hm⟩,fun _=>by simp,by simp⟩⟩
theorem current_any (b:Nat) (size:Int) (cur:Nat) (u:Nat→Int) (kept:Int) (w:World) (h:At w b size cur u kept):Calls Tryz.prog 107 #[.pointer (some ⟨b,0,none⟩)] w fun e w'=>e=.returned (.int .i64 (cur:Int))∧w=w':=by
 obtain ⟨c0,c1,c4⟩:=h.cs
 go_enter Tryz.func107,Tryz.ntmps107
 go_wp2_with fail
 go_ret
 exact ⟨rfl,rfl⟩
theorem used_in (b:Nat) (size:Int) (cur:Nat) (u:Nat→Int) (kept:Int) (k:Nat) (w:World) (h:At w b size cur u kept) (hk:k<2):Calls Tryz.prog 109 #[.pointer (some ⟨b,0,none⟩),.int .i64 (k:Int)] w fun e w'=>e=.returned (.int .i64 (u k))∧w=w':=by
 have ck:=h.cu k hk
 rcases (by omega:k=0∨k=1) with rfl | rfl
 all_goals
  go_enter Tryz.func109,Tryz.ntmps109
  go_wp2_with fail
  go_ret
  exact ⟨rfl,rfl⟩
theorem turn_in (b:Nat) (size:Int) (cur:Nat) (u:Nat→Int) (kept:Int) (w:World) (h:At w b size cur u kept) (hu:u (1-cur)=0):Calls Tryz.prog 161 #[.pointer (some ⟨b,0,none⟩)] w fun e w'=>e=.returned (.bool true)∧Only (fun k=>k=b) w w'∧At w' b size (1-cur) u (u cur):=by
 obtain ⟨c0,c1,c4⟩:=h.cs
 have cu:=h.cu cur h.cur
 have cv:=h.cu (1-cur) (by omega)
 rw [hu] at cv
 have hb:=h.fb
 have H:=hid h
 rcases (by have:=h.cur;omega:cur=0∨cur=1) with rfl | rfl
 all_goals
  clear h
  go_enter Tryz.func161,Tryz.ntmps161
  go_wp2_with fail
  go_quiet (fail)
  go_wp2_with fail
  go_region
  go_wp2_with fail
  go_ret
  have hm:(w.drewN (nq+1)).heap[b]?=_:=H.out.me
  exact ⟨rfl,(((Only.refl (fun k=>k=b) w).drewN _).setCell (p:=⟨b,4,none⟩) (fun _=>rfl) _).setCell (p:=⟨b,1,none⟩) (fun _=>rfl) _,⟨by simpa using set_me (i:=1) (set_me (i:=4) hm),by omega,H.out.sz,H.out.ub,H.out.ub _⟩⟩
theorem done_in (b:Nat) (size:Int) (cur:Nat) (u:Nat→Int) (w:World) (h:At w b size cur u 0):Calls Tryz.prog 163 #[.pointer (some ⟨b,0,none⟩)] w fun e w'=>e=.returned (.bool true)∧Only (fun k=>k=b) w w'∧At w' b size cur (fun k=>if k=1-cur then 0 else u k) 0:=by
 obtain ⟨c0,c1,c4⟩:=h.cs
 have cv:=h.cu (1-cur) (by omega)
 have hb:=h.fb
 have H:=hid h
 rcases (by have:=h.cur;omega:cur=0∨cur=1) with rfl | rfl
 all_goals
  clear h
  go_enter Tryz.func163,Tryz.ntmps163
  go_wp2_with fail
  go_region
  go_wp2_with fail
  go_ret
  have hm:=H.out.me
  refine ⟨rfl,?_,⟨?_,by omega,H.out.sz,fun k=>?_,by omega⟩⟩
  ·first | exact ((Only.refl (fun k=>k=b) w).setCell (p:=⟨b,3,none⟩) (fun _=>rfl) _).drewN 1 | exact ((Only.refl (fun k=>k=b) w).setCell (p:=⟨b,2,none⟩) (fun _=>rfl) _).drewN 1
  ·first | exact set_me (w:=w) (i:=3) (u:=.int .i64 0) hm | exact set_me (w:=w) (i:=2) (u:=.int .i64 0) hm
  ·have:=H.out.ub k
   split <;> omega
namespace Pi
structure At (w:World) (b:Nat) (v:Value) (most:Nat) (lost:Bool) (xs:List Int):Prop where
 me:w.heap[b]?=some (.cells #[v,.int .i64 (most:Int),.bool lost] 209 (0,0))
 own:w.ownsRow 0 3 1 v xs.length (ints xs)
 few:xs.length≤most
 most:most≤256
def S (b:Nat) (v:Value) (k:Nat):Prop:=k=b∨v.ownBlock=some k
section
variable {w w':World} {b:Nat} {v:Value} {most:Nat} {lost:Bool} {xs:List Int}
theorem At.cs (h:At w b v most lost xs):w.cell? ⟨b,0,none⟩=some v∧w.cell? ⟨b,1,none⟩=some (.int .i64 (most:Int))∧w.cell? ⟨b,2,none⟩=some (.bool lost):=by
 refine ⟨?_,?_,?_⟩ <;> (rw [cell_of_row w b _ _ _ _ h.me];rfl)
theorem At.fb (h:At w b v most lost xs) (k:Nat):w.frozen? ⟨b,k,none⟩=false:=frozen_of_row w b k _ _ h.me
theorem At.lb (h:At w b v most lost xs):b<w.heap.size:=(Array.getElem?_eq_some_iff.1 h.me).1
theorem At.only {T:Nat→Prop} (h:At w b v most lost xs) (ho:Only T w w') (hn:∀ k,S b v k→¬ T k):At w' b v most lost xs:=⟨(ho.block b h.lb (hn b (.inl rfl))).trans h.me,ho.own h.own (fun k hk=>hn k (.inr hk)),h.few,h.most⟩
theorem At.ne (h:At w b v most lost xs):v.ownBlock≠some b:=fun e=>by
 rcases h.own.2 with ⟨rfl,_⟩ | ⟨g,cap,cur,rfl,_,hg,_⟩
 ·cases e
 ·injection e with e
  subst e
  have:=hg.symm.trans h.me
  simp at this
end
theorem new_in (m:Nat) (w:World) (h0:1≤m) (hm:m≤256):Calls Tryz.prog 82 #[.int .i64 m] w fun e w'=>e=.returned (.tuple #[.pointer (some ⟨w.heap.size,0,none⟩),.int .i64 0])∧Pure w w'∧w'.heap.size=w.heap.size+1∧At w' w.heap.size (.slice none 0 0) m false []:=by
 have d0:decide ((m:Int)<1)=false:=by simp;omega
 have d1:decide ((256:Int)<(m:Int))=false:=by simp;omega
 go_enter Tryz.func82,Tryz.ntmps82
 go_wp2_with fail
 go_ret2
 exact ⟨rfl,(Only.refl _ _).alloc _,by simp,⟨heap_alloc_new w _,World.ownsRow_nil _ _ _ _,by simp,hm⟩⟩
theorem lost_any (b:Nat) (v:Value) (most:Nat) (lost:Bool) (xs:List Int) (w:World) (h:At w b v most lost xs):Calls Tryz.prog 157 #[.pointer (some ⟨b,0,none⟩)] w fun e w'=>e=.returned (.bool lost)∧w=w':=by
 obtain ⟨c0,c1,c2⟩:=h.cs
 go_enter Tryz.func157,Tryz.ntmps157
 go_wp2_with fail
 go_ret
 exact ⟨rfl,rfl⟩
theorem found_any (b:Nat) (v:Value) (most:Nat) (lost:Bool) (xs:List Int) (w:World) (h:At w b v most lost xs):Calls Tryz.prog 158 #[.pointer (some ⟨b,0,none⟩)] w fun e w'=>e=.returned (.tuple #[])∧Only (S b v) w w'∧At w' b v most false xs:=by
 obtain ⟨c0,c1,c2⟩:=h.cs
 have fb:=h.fb
 go_enter Tryz.func158,Tryz.ntmps158
 go_wp2_with fail
 go_end0
 have ho:Only (S b v) w (w.setCell ⟨b,2,none⟩ (.bool false)):=(Only.refl (S b v) w).setCell (p:=⟨b,2,none⟩) (fun _=>.inl rfl) _
 exact ⟨rfl,ho,⟨by have:=h.me;simp [World.setCell,Array.getElem?_modify,this],((Only.refl (fun k=>k=b) w).setCell (p:=⟨b,2,none⟩) (fun _=>rfl) _).own h.own (fun k hk e=>h.ne (e ▸ hk)),h.few,h.most⟩⟩
theorem pop_no (b:Nat) (v:Value) (most:Nat) (lost:Bool) (w:World) (h:At w b v most lost []):Calls Tryz.prog 154 #[.pointer (some ⟨b,0,none⟩)] w fun e w'=>e=.returned (.tuple #[.int .i64 0,.bool false])∧w=w':=by
 obtain ⟨A,c,rfl⟩:=own_form h.own
 obtain ⟨c0,c1,c2⟩:=h.cs
 go_enter Tryz.func154,Tryz.ntmps154
 go_wp2_with fail
 go_ret2
 exact ⟨rfl,rfl⟩
theorem pop_in (b:Nat) (v:Value) (most:Nat) (lost:Bool) (xs:List Int) (x:Int) (w:World) (h:At w b v most lost (xs++[x])):Calls Tryz.prog 154 #[.pointer (some ⟨b,0,none⟩)] w fun e w'=>e=.returned (.tuple #[.int .i64 x,.bool true])∧Only (S b v) w w'∧∃ v',v'.ownBlock=v.ownBlock∧At w' b v' most lost xs:=by
 have H:=hid h
 obtain ⟨c0,c1,c2⟩:=h.cs
 have fb:=h.fb
 have hne:=h.ne
 have hown:=h.own
 rw [List.length_append,List.length_singleton] at hown
 rcases hown.2 with ⟨-,h0⟩ | ⟨g,cap,cur,rfl,-,hg,hcap,hcm,hsz,htk⟩
 ·omega
 have hfew:=h.few
 have hmost:=h.most
 simp only [List.length_append,List.length_singleton] at hfew
 have hx:w.cell? ⟨g,xs.length,none⟩=some (.int .i64 x):=by
  have:=hown.cellAt xs.length (by simp [ints])
  rw [this]
  simp [ints]
 have HO:=hid hown
 have HN:=hid hne
 simp only [maxLen] at hcm
 clear h hown hne htk hsz hg
 go_enter Tryz.func154,Tryz.ntmps154
 go_wp2_with fail
 go_ret2
 have ho:Only (fun k=>k=b) w (w.setCell ⟨b,0,none⟩ (.slice (some ⟨g,0,none⟩) xs.length cap)):=(Only.refl (fun k=>k=b) w).setCell (p:=⟨b,0,none⟩) (fun _=>rfl) _
 refine ⟨rfl,ho.mono (fun k _ hk=>.inl hk),.slice (some ⟨g,0,none⟩) xs.length cap,rfl,⟨by simpa using set_me (i:=0) (u:=.slice (some ⟨g,0,none⟩) xs.length cap) H.out.me,?_,by omega,hmost⟩⟩
 have h1:=ho.own HO.out (fun k hk e=>HN.out (e ▸ hk))
 rw [ints_append] at h1
 exact ownsRow_pop (by simp [ints]) h1
theorem push_in (b:Nat) (v:Value) (most:Nat) (lost:Bool) (xs:List Int) (x:Int) (w:World) (h:At w b v most lost xs) (hl:xs.length<most):Calls Tryz.prog 150 #[.pointer (some ⟨b,0,none⟩),.int .i64 x] w fun e w'=>e=.returned (.bool true)∧Only (S b v) w w'∧∃ v',(v'.ownBlock=v.ownBlock∨∃ q,v'.ownBlock=some q∧w.heap.size≤q)∧At w' b v' most lost (xs++[x]):=by
 obtain ⟨i0,hi0,hz0,hz1,hz2⟩:=info_parts int_info
 obtain ⟨A,c,rfl⟩:=own_form h.own
 have H:=hid h
 obtain ⟨c0,c1,c2⟩:=h.cs
 have fb:=h.fb
 have hmost:=h.most
 have hne:((xs.length:Int) == (most:Int))=false:=by simp;omega
 clear h c2
 go_enter Tryz.func150,Tryz.ntmps150
 go_wp2_with fail
 go_quiet (fail)
 have H1:Hid (At (w.drewN nq) b (.slice A xs.length c) most lost xs):=hid (H.out.only ((Only.refl (fun _=>False) w).drewN nq) (fun _ _ f=>f))
 have O1:Hid (Only (S b (.slice A xs.length c)) w (w.drewN nq)):=hid ((Only.refl _ w).drewN nq)
 generalize w.drewN nq=w1 at *
 have d0:=H1.out.cs.1
 have fb1:=H1.out.fb
 have hlb:=H1.out.lb
 clear c0 c1 fb
 go_wp2_with (at_builtin;refine wpList_app _ rfl (.tmp 22) (.tmp 24) _ rfl 0 3 i0 _ 1 8 Tryz.underlying25 hi0 hz0 hz1 hz2 rfl (by omega) (.slice A xs.length c) xs.length _ rfl (World.ownsRow.alloc H1.out.own _) _ 1 1 [.int .i64 x] rfl (Src.row _ _ #[.int .i64 x] 1 1 _ rfl rfl) (by simp [Value.oneCell']) (by simp only [maxLen];omega) (by omega) (by omega) ?_;intro v9 w9 hown9 hg9 hat9;obtain ⟨A9,n9,rfl⟩:=own_form hown9;have HO9:=hid hown9;have HG9:=hid hg9;have HA9:=hid hat9;have hmb:=((Only.grown (S:=fun k=>(Value.slice A xs.length c).ownBlock=some k) ((Only.refl _ w1).alloc _) hg9 (fun k _ e=>e)).blk H1.out.me (fun e=>H1.out.ne e));have HMB:=hid hmb;have d9:=cell_of_row w9 b 0 _ _ _ hmb;have f9:=frozen_of_row w9 b 0 _ _ hmb;clear hown9 hg9 hat9 hmb;go_frame)
 go_ret
 have ho1:Only (S b (.slice A xs.length c)) w1 w9:=Only.grown (S:=S b (.slice A xs.length c)) ((Only.refl _ w1).alloc _) HG9.out (fun k _ e=>.inr e)
 have hnb:(Value.slice A9 (xs.length+1) n9).ownBlock≠some b:=by
  rcases HA9.out with h | h
  ·rw [h];exact H1.out.ne
  ·rw [h];intro e;injection e with e;simp at e;omega
 have ho:Only (fun k=>k=b) w9 (w9.setCell ⟨b,0,none⟩ (.slice A9 (xs.length+1) n9)):=(Only.refl (fun k=>k=b) w9).setCell (p:=⟨b,0,none⟩) (fun _=>rfl) _
 refine ⟨rfl,(O1.out.trans ho1 (fun _ _ h=>h)).trans (ho.mono (T:=S b (.slice A xs.length c)) (fun k _ hk=>.inl hk)) (fun _ _ h=>h),.slice A9 (xs.length+1) n9,?_,⟨by simpa using set_me (i:=0) (u:=.slice A9 (xs.length+1) n9) HMB.out,?_,by simp;omega,hmost⟩⟩
 ·rcases HA9.out with h | h
  ·exact .inl h
  ·refine .inr ⟨_,h,?_⟩
   have:=O1.out.size
   simp;omega
 ·have:=ho.own HO9.out (fun k hk e=>hnb (e ▸ hk))
  simpa [ints] using this
end Pi
end Go.Proofs.YtpgdiceeimehiaaGreat.Co
namespace Go.Proofs.YtpgdiceeimehiaaGreat
open Go.RowKit
def sameI (xs ys:List Int):Bool:=decide (xs=ys)
end Go.Proofs.YtpgdiceeimehiaaGreat
namespace Go.Proofs.YtpgdiceeimehiaaGreat.Ln
open Go.RowKit
structure En where
 thread:Int
 frags:Int
 spine:Int
 state:Int
 cycles:Int
 at_:Int
 gv:Value
 got:List Int
 noted:Bool
instance:Inhabited En:=⟨⟨0,0,0,0,0,0,.slice none 0 0,[],false⟩⟩
abbrev enV (e:En) (g:Value):Value:=.agg #[.int .i64 e.thread,.int .i64 e.frags,.int .i64 e.spine,.int .i64 e.state,.int .i64 e.cycles,.int .i64 e.at_,g,.bool e.noted]
abbrev reqV (e:En) (g:Value):Value:=.agg #[.int .i64 e.thread,.int .i64 e.frags,.int .i64 e.spine,.int .i64 e.state,.int .i64 e.cycles,.int .i64 e.at_,g]
def enCells (e:En):List Value:=[.int .i64 e.thread,.int .i64 e.frags,.int .i64 e.spine,.int .i64 e.state,.int .i64 e.cycles,.int .i64 e.at_,e.gv,.bool e.noted]
def ens (l:List En):List Value:=l.flatMap enCells
theorem ens_length (l:List En):(ens l).length=l.length * 8:=by
 induction l with
 | nil=>rfl
 | cons e l ih=>simp [ens,enCells] at ih ⊢;omega
theorem ens_append (l m:List En):ens (l++m)=ens l++ens m:=by simp [ens]
theorem ens_get (l:List En) (j i:Nat) (e:En) (h:l[j]?=some e) (hi:i<8):(ens l)[j * 8+i]?=(enCells e)[i]?:=by
 induction l generalizing j with
 | nil=>simp at h
 | cons t l ih =>
  cases j with
  | zero =>
   simp at h;subst h
   have hl:(enCells t).length=8:=rfl
   simp only [ens,List.flatMap_cons,Nat.zero_mul,Nat.zero_add]
   rw [List.getElem?_append_left (by omega)]
  | succ j =>
   have:=ih j (by simpa using h)
   have hl:(enCells t).length=8:=rfl
   simp only [ens,List.flatMap_cons] at this ⊢
   rw [List.getElem?_append_right (by omega),hl,show (j+1) * 8+i-8=j * 8+i from by omega]
   exact this
theorem ens_take (l:List En) (k:Nat):(ens l).take (k * 8)=ens (l.take k):=by
 induction l generalizing k with
 | nil=>simp [ens]
 | cons t l ih =>
  cases k with
  | zero=>simp [ens]
  | succ k =>
   have hl:(enCells t).length=8:=rfl
   have:=ih k
   simp only [ens,List.flatMap_cons,List.take_succ_cons] at this ⊢
   rw [List.take_append,hl,show (k+1) * 8-8=k * 8 from by omega,this,List.take_of_length_le (by omega)]
theorem ens_drop (l:List En) (k:Nat):(ens l).drop (k * 8)=ens (l.drop k):=by
 induction l generalizing k with
 | nil=>simp [ens]
 | cons t l ih =>
  cases k with
  | zero=>simp [ens]
  | succ k =>
   have hl:(enCells t).length=8:=rfl
   have:=ih k
   simp only [ens,List.flatMap_cons,List.drop_succ_cons] at this ⊢
   rw [List.drop_append,hl,show (k+1) * 8-8=k * 8 from by omega,this,List.drop_of_length_le (by omega),List.nil_append]
def LineS (P:Nat) (v:Value) (k:Nat):Prop:=k=P∨v.ownBlock=some k
structure LineOf (w:World) (P:Nat) (v:Value) (l:List En):Prop where
 at_:w.heap[P]?=some (.cells #[v] 217 (0,0))
 own:w.ownsRow 0 271 8 v l.length (ens l)
 got:∀ e∈l,SlI w w.heap.size e.gv e.got∧∀ q,e.gv.ownBlock=some q→¬ LineS P v q∧q<w.heap.size
 few:l.length≤1000
 short:∀ e∈l,e.got.length≤100000
section
variable {w w':World} {P:Nat} {v:Value} {l:List En}
theorem LineOf.lt (h:LineOf w P v l):∀ k,LineS P v k→k<w.heap.size:=fun k hk=>by
 rcases hk with rfl | hk
 ·exact (Array.getElem?_eq_some_iff.1 h.at_).1
 ·exact (h.own.lt k hk).2
theorem LineOf.c0 (h:LineOf w P v l):w.cell? ⟨P,0,none⟩=some v:=by rw [cell_of_row w P 0 _ _ _ h.at_];rfl
theorem LineOf.form (h:LineOf w P v l):∃ A c,v=.slice A l.length c:=own_form h.own
theorem LineOf.only {S:Nat→Prop} (h:LineOf w P v l) (ho:Only S w w') (hn:∀ k,LineS P v k→¬ S k) (hg:∀ e∈l,∀ q,e.gv.ownBlock=some q→¬ S q):LineOf w' P v l :=
 ⟨(ho.block P (Array.getElem?_eq_some_iff.1 h.at_).1 (hn P (.inl rfl))).trans h.at_,ho.own h.own (fun k hk=>hn k (.inr hk)),
  fun e he=>⟨(h.got e he).1.only ho (hg e he),fun q hq=>⟨((h.got e he).2 q hq).1,Nat.lt_of_lt_of_le ((h.got e he).2 q hq).2 ho.size⟩⟩,h.few,h.short⟩
theorem LineOf.pure (h:LineOf w P v l) (hp:Pure w w'):LineOf w' P v l:=h.only hp (fun _ _ f=>f) (fun _ _ _ _ f=>f)
theorem LineOf.cells (h:LineOf w P v l) {j:Nat} {e:En} (he:l[j]?=some e):∃ g c,v=.slice (some ⟨g,0,none⟩) l.length c∧w.cell? ⟨g,j * 8,none⟩=some (.int .i64 e.thread)∧w.cell? ⟨g,j * 8+1,none⟩=some (.int .i64 e.frags)∧w.cell? ⟨g,j * 8+2,none⟩=some (.int .i64 e.spine) ∧
  w.cell? ⟨g,j * 8+3,none⟩=some (.int .i64 e.state)∧w.cell? ⟨g,j * 8+4,none⟩=some (.int .i64 e.cycles)∧w.cell? ⟨g,j * 8+5,none⟩=some (.int .i64 e.at_)∧w.cell? ⟨g,j * 8+6,none⟩=some e.gv∧w.cell? ⟨g,j * 8+7,none⟩=some (.bool e.noted)∧∀ q,w.frozen? ⟨g,q,none⟩=false:=by
 have hj:=(List.getElem?_eq_some_iff.1 he).1
 obtain ⟨g,c,hv,_,_⟩:=h.own.form (n:=l.length) (by omega)
 subst hv
 have key:∀ i,i<8→w.cell? ⟨g,j * 8+i,none⟩=(enCells e)[i]?:=fun i hi=>(h.own.cellAt (j * 8+i) (by omega)).trans (ens_get l j i e he hi)
 exact ⟨g,c,rfl,key 0 (by omega),key 1 (by omega),key 2 (by omega),key 3 (by omega),key 4 (by omega),key 5 (by omega),key 6 (by omega),key 7 (by omega),fun q=>h.own.frozenAt q⟩
end
def ixI (p:En→Bool) (l:List En):Int:=if l.findIdx p<l.length then (l.findIdx p:Int) else -1
theorem ixI_at {p:En→Bool} {l:List En} {k:Nat} {e:En} (he:l[k]?=some e) (hp:p e=true) (hall:∀ j,j<k→∀ t,l[j]?=some t→p t=false):ixI p l=k:=by
 obtain ⟨hk,hek⟩:=List.getElem?_eq_some_iff.1 he
 have:l.findIdx p=k:=by
  rw [List.findIdx_eq hk]
  refine ⟨by rw [hek];exact hp,fun j hj=>hall j hj _ (List.getElem?_eq_getElem _)⟩
 rw [ixI,this,if_pos hk]
theorem ixI_none {p:En→Bool} {l:List En} (hall:∀ (j:Nat) (t:En),l[j]?=some t→p t=false):ixI p l=-1:=by
 rw [ixI,if_neg]
 intro h
 have:=List.findIdx_getElem (w:=h)
 rw [hall _ _ (List.getElem?_eq_getElem h)] at this
 cases this
def isT (t:Int) (e:En):Bool:=e.thread == t
def isW (e:En):Bool:=e.state == 0
theorem of1_any (e:En) (A:Option Addr) (n c:Nat) (b:Nat) (t:Int) (w:World) (hc:w.cell? ⟨b,0,none⟩=some (.int .i64 t)) :
  Calls Tryz.prog 302 #[enV e (.slice A n c),.pointer (some ⟨b,0,none⟩)] w fun e' w'=>e'=.returned (.bool (isT t e))∧Pure w w':=by
 have hc':=Pure.keep ((Only.refl (fun _=>False) w).alloc (.cells #[.int .i64 e.thread,.int .i64 e.frags,.int .i64 e.spine,.int .i64 e.state,.int .i64 e.cycles,.int .i64 e.at_,.slice A n c,.bool e.noted] 271)) hc
 go_enter Tryz.func302,Tryz.ntmps302
 go_wp2_with fail
 go_ret
 exact ⟨rfl,(Only.refl _ _).alloc _⟩
theorem first1_any (e:En) (A:Option Addr) (n c:Nat) (w:World) :
  Calls Tryz.prog 287 #[enV e (.slice A n c)] w fun e' w'=>e'=.returned (.bool (isW e))∧Pure w w':=by
 go_enter Tryz.func287,Tryz.ntmps287
 go_wp2_with fail
 go_ret
 exact ⟨rfl,(Only.refl _ _).alloc _⟩
theorem index_of (P:Nat) (v:Value) (l:List En) (b:Nat) (t:Int) (w:World) (hl:LineOf w P v l) (hc:w.cell? ⟨b,0,none⟩=some (.int .i64 t)) :
  Calls Tryz.prog 286 #[v,.func (.func 302) #[] #[.pointer (some ⟨b,0,none⟩)]] w fun e w'=>e=.returned (.int .i64 (ixI (isT t) l))∧Pure w w':=by
 have HL:=hid (fun (w':World) (hp:Pure w w')=>hl.pure hp)
 obtain ⟨A,c,rfl⟩:=hl.form
 have hfew:=hl.few
 clear hl
 go_enter Tryz.func286,Tryz.ntmps286
 go_wp2_with fail
 go_loopw [8] (fun i wr=>∃ k:Nat,k≤l.length∧i=.int .i64 k∧(∀ j,j<k→∀ u,l[j]?=some u→(isT t) u=false)∧Pure w wr) (fun i _=>l.length-(intOf i).toNat)
 case atStart=>exact ⟨0,Nat.zero_le _,rfl,(by omega),Only.refl _ _⟩
 case round =>
  obtain ⟨k,hk,rfl,hall,hp⟩:=hrel
  have HALL:=hid hall
  have HP:=hid hp
  clear hall hp
  by_cases hlt:k<l.length
  ·obtain ⟨e,he⟩:∃ e,l[k]?=some e:=⟨l[k],List.getElem?_eq_getElem hlt⟩
   obtain ⟨g,cg,hv,d0,d1,d2,d3,d4,d5,d6,d7,_⟩:=(HL.out _ HP.out).cells he
   injection hv with hv1 hv2 hv3
   subst hv1
   have HE:=hid he
   clear he hv2 hv3
   obtain ⟨G,gc,hgv,_⟩:=((HL.out _ HP.out).got e (List.mem_of_getElem? HE.out)).1
   rw [hgv] at d6
   have HGV:=hid hgv
   clear hgv
   cases hm:(isT t) e with
   | true =>
    have HM:=hid hm
    go_wp2_with fail
    refine (of1_any e _ _ _ b t _ (HP.out.keep hc)).mono ?_
    rw [HM.out]
    rintro e1 w1 ⟨rfl,hp1⟩
    have P1:=hid (HP.out.then hp1)
    clear hp1 hm
    go_wp2_with fail
    go_ret
    exact ⟨ret_i (ixI_at HE.out HM.out HALL.out),P1.out⟩
   | false =>
    have HM:=hid hm
    go_wp2_with fail
    refine (of1_any e _ _ _ b t _ (HP.out.keep hc)).mono ?_
    rw [HM.out]
    rintro e1 w1 ⟨rfl,hp1⟩
    have P1:=hid (HP.out.then hp1)
    clear hp1 hm
    go_wp2_with fail
    go_roundw
    case rel =>
     refine ⟨k+1,by omega,by first | rfl | simp,?_,P1.out⟩
     intro j hj u hu
     by_cases e':j<k
     ·exact HALL.out j e' u hu
     ·obtain rfl:j=k:=by omega
      rw [HE.out] at hu
      cases hu
      exact HM.out
    case measure=>simp [intOf];omega
  ·obtain rfl:k=l.length:=by omega
   go_wp2_with fail
   go_ret
   refine ⟨ret_i (ixI_none fun j t ht=>HALL.out j (List.getElem?_eq_some_iff.1 ht).1 t ht),HP.out⟩
theorem index_first (P:Nat) (v:Value) (l:List En) (w:World) (hl:LineOf w P v l) :
  Calls Tryz.prog 286 #[v,.func (.func 287) #[] #[]] w fun e w'=>e=.returned (.int .i64 (ixI isW l))∧Pure w w':=by
 have HL:=hid (fun (w':World) (hp:Pure w w')=>hl.pure hp)
 obtain ⟨A,c,rfl⟩:=hl.form
 have hfew:=hl.few
 clear hl
 go_enter Tryz.func286,Tryz.ntmps286
 go_wp2_with fail
 go_loopw [8] (fun i wr=>∃ k:Nat,k≤l.length∧i=.int .i64 k∧(∀ j,j<k→∀ u,l[j]?=some u→isW u=false)∧Pure w wr) (fun i _=>l.length-(intOf i).toNat)
 case atStart=>exact ⟨0,Nat.zero_le _,rfl,(by omega),Only.refl _ _⟩
 case round =>
  obtain ⟨k,hk,rfl,hall,hp⟩:=hrel
  have HALL:=hid hall
  have HP:=hid hp
  clear hall hp
  by_cases hlt:k<l.length
  ·obtain ⟨e,he⟩:∃ e,l[k]?=some e:=⟨l[k],List.getElem?_eq_getElem hlt⟩
   obtain ⟨g,cg,hv,d0,d1,d2,d3,d4,d5,d6,d7,_⟩:=(HL.out _ HP.out).cells he
   injection hv with hv1 hv2 hv3
   subst hv1
   have HE:=hid he
   clear he hv2 hv3
   obtain ⟨G,gc,hgv,_⟩:=((HL.out _ HP.out).got e (List.mem_of_getElem? HE.out)).1
   rw [hgv] at d6
   have HGV:=hid hgv
   clear hgv
   cases hm:isW e with
   | true =>
    have HM:=hid hm
    go_wp2_with fail
    refine (first1_any e _ _ _ _).mono ?_
    rw [HM.out]
    rintro e1 w1 ⟨rfl,hp1⟩
    have P1:=hid (HP.out.then hp1)
    clear hp1 hm
    go_wp2_with fail
    go_ret
    exact ⟨ret_i (ixI_at HE.out HM.out HALL.out),P1.out⟩
   | false =>
    have HM:=hid hm
    go_wp2_with fail
    refine (first1_any e _ _ _ _).mono ?_
    rw [HM.out]
    rintro e1 w1 ⟨rfl,hp1⟩
    have P1:=hid (HP.out.then hp1)
    clear hp1 hm
    go_wp2_with fail
    go_roundw
    case rel =>
     refine ⟨k+1,by omega,by first | rfl | simp,?_,P1.out⟩
     intro j hj u hu
     by_cases e':j<k
     ·exact HALL.out j e' u hu
     ·obtain rfl:j=k:=by omega
      rw [HE.out] at hu
      cases hu
      exact HM.out
    case measure=>simp [intOf];omega
  ·obtain rfl:k=l.length:=by omega
   go_wp2_with fail
   go_ret
   refine ⟨ret_i (ixI_none fun j t ht=>HALL.out j (List.getElem?_eq_some_iff.1 ht).1 t ht),HP.out⟩
end Go.Proofs.YtpgdiceeimehiaaGreat.Ln
