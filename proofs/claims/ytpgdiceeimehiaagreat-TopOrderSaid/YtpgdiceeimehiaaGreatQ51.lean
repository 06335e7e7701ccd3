/- Part 51 of the proof that spotop.TopOrder returns true for all arguments and leaves what was there as it was. -/
import Derived.Test.YtpgdiceeimehiaaGreatQ31
import Derived.Test.YtpgdiceeimehiaaGreatQ50
set_option maxRecDepth 100000
set_option maxHeartbeats 16000000
open Go.Lib (hid)
namespace Go.Proofs.YtpgdiceeimehiaaGreat.Law
open Go.RowKit
open Ac (Vl OpD CT zeroVl opV opCells)
section
variable {w:World} {K:Cor.Q} {κ:Nat→Nat} {m:Cor.St} {b:Ac.B} {s:Ac.St} {yb hb lg:Nat} {y:Cyc.St}
theorem cnt_all:∀ l:List Tab.One,(∀ q∈l,q.st≤2)→Tab.cnt l 0+Tab.cnt l 1+Tab.cnt l 2=l.length:=by
 intro l
 induction l with
 | nil=>intro _;rfl
 | cons a l ih =>
  intro h
  have h1:=ih (fun q hq=>h q (List.mem_cons_of_mem _ hq))
  have h2:=h a (by simp)
  have e:∀ k,Tab.cnt (a :: l) k=Tab.cnt l k+if a.st=k then 1 else 0:=fun k=>by
   unfold Tab.cnt
   rw [List.countP_cons]
   by_cases e:a.st=k <;> simp [e]
  rw [e,e,e,List.length_cons]
  rcases (by omega:a.st=0∨a.st=1∨a.st=2) with h3 | h3 | h3 <;> rw [h3] <;> simp <;> omega
theorem setO_len {c:Cn} {csh:List Sh} {O:Nat→Prop} {fr:Nat→List Nat} (h:Vw.SetO m c csh O fr) (hc:c.frags≤2000) (i:Nat) (hi:O i):(fr i).length≤2000∧∀ x∈fr i,x≤1000000:=by
 obtain ⟨q,kd,md,s0,h1,h2,h3,h4,h5,h6,h7,h8,h9⟩:=h.ob i hi
 constructor
 ·have e1:=h8.size
  have e2:=h8.few
  unfold sizeI at e1
  split at e1
  ·omega
  ·simp at e1
   split at e1 <;> omega
 ·intro x hx
  have:=h8.lt x hx
  omega
theorem sound_fin (hK:Kok K) (h:Mac w c0 K κ m b s yb y hb lg) (hf:Fin m s y K.csh):Calls Tryz.prog 11 #[.pointer (some ⟨hb,0,none⟩)] w fun e w'=>e=.returned (.int .i64 0)∧Pure w w':=by
 obtain ⟨O,fr,h1,h2,h3,z,h4,h5⟩:=hf.set
 have h44:c0.frags=44:=rfl
 refine Vw.sound_s w h hK.few h1 (fun i hi=>by have:=h2 i hi;omega) rfl h3 (by decide) (by decide) 352 (by decide) (fun g hg=>?_) ?_ (by decide) (setO_len h1 (by decide))
 ·have hg0:g=0:=by have:(g:Int)<1:=hg;omega
  subst hg0
  exact ⟨z,h4,h5⟩
 ·rw [cnt_all m.s.l hf.sts,hf.len];rfl
theorem sound_k (hK:Kok1 K) (h:Mac w c1 K κ m b s yb y hb lg) {i:Nat} (hk:Kn m s i) (hi:17≤i):s.phase=4∧Calls Tryz.prog 11 #[.pointer (some ⟨hb,0,none⟩)] w fun e w'=>e=.returned (.int .i64 0)∧Pure w w':=by
 have h4:s.phase=4∧Kb m s t2:=by
  cases hk with
  | gone _ hi hb h1=>exact ⟨h1,hb⟩
  | wr j hj=>omega
  | _=>omega
 refine ⟨h4.1,Vw.sound_s (O:=fun _=>False) (fr:=fun _=>[]) w h hK.few ⟨fun _ f=>f.elim,fun _ f=>f.elim,fun _ f=>f.elim,fun _ _ f=>f.elim⟩ (fun _ f=>f.elim) rfl (fun _ h=>absurd h4.1 h) (by decide) (by decide) 32 (by decide) (fun g hg=>?_) ?_ (by decide) (fun _ f=>f.elim)⟩
 ·have:(g:Int)<0:=hg
  omega
 ·rw [h4.2.l];decide
end
end Go.Proofs.YtpgdiceeimehiaaGreat.Law
namespace Go.Proofs.YtpgdiceeimehiaaGreat.Law
open Go.RowKit
open Ac (Vl OpD CT zeroVl opV opCells)
theorem alike_mem {l n:List Sh} (h:alike l n) {s:Sh} (hs:s∈n):∃ t∈l,t.a=s.a∧t.bs=s.bs:=by
 have h1:(s.a,s.bs)∈n.map (fun s=>(s.a,s.bs)):=List.mem_map_of_mem hs
 rw [← show l.map (fun s=>(s.a,s.bs))=n.map (fun s=>(s.a,s.bs)) from h] at h1
 obtain ⟨t,ht,e⟩:=List.mem_map.1 h1
 injection e with e1 e2
 exact ⟨t,ht,e1,e2⟩
def shK:List Sh:=[⟨false,.slice none 0 0,[]⟩]
abbrev o1K:Obj:=.cells #[.bool false,.slice none 0 0] 35
abbrev o2K (B:Nat):Obj:=.cells #[.int .i64 4,.int .i64 0,.int .i64 0,.int .i64 1,.int .i64 1,.int .i64 0,.int .i64 1,.int .i64 0,.slice (some ⟨B,0,none⟩) 1 1] 24
abbrev o3K:Obj:=.cells #[.int .i64 1,.int .i64 0,.int .i64 0,.int .i64 0,.int .i64 0,.complex .f64 0 0,.int .i64 11,.int .i64 0,.int .i64 0,.int .i64 0,.int .i64 0,.complex .f64 0 0] 32
abbrev o4K (B:Nat):Obj:=.cells #[.slice (some ⟨B+1+1,0,none⟩) 2 2] 29
theorem new_k (w:World) (B:Nat) (hB:w.heap.size=B) (w4:World) (hw4:(((w.alloc o1K).alloc (o2K B)).alloc o3K).alloc (o4K B)=w4) :
  Pure w w4∧Calls Tryz.prog 9 #[.agg #[.int .i64 4,.int .i64 0,.int .i64 0,.int .i64 1,.int .i64 1,.int .i64 0,.int .i64 1,.int .i64 0,.slice (some ⟨B,0,none⟩) 1 1],.slice (some ⟨B+1+1+1,0,none⟩) 1 1] w4 fun e w'=>∃ K κ' hb lg yb b,e=.returned (.tuple #[.pointer (some ⟨hb,0,none⟩),.int .i64 0])∧Pure w4 w'∧Mt w' c1 K κ' (cor0 c1) b (act0 1) yb cyc0 hb lg none∧b.t=0∧b.ops=opsK∧Kok1 K∧∀ k,CM (κ' k)→w4.heap.size≤k:=by
 have hp1:Pure w (w.alloc o1K):=(Only.refl _ w).alloc _
 have hs1:(w.alloc o1K).heap.size=B+1:=by simp [hB]
 have hg1:=heap_alloc_new w o1K
 rw [hB] at hg1
 have hs2:((w.alloc o1K).alloc (o2K B)).heap.size=B+1+1:=by simp [hB]
 have hg3:=heap_alloc_new ((w.alloc o1K).alloc (o2K B)) o3K
 rw [hs2] at hg3
 have hs3:(((w.alloc o1K).alloc (o2K B)).alloc o3K).heap.size=B+1+1+1:=by simp [hB]
 have hg4:=heap_alloc_new (((w.alloc o1K).alloc (o2K B)).alloc o3K) (o4K B)
 rw [hs3] at hg4
 have hs4:w4.heap.size=B+1+1+1+1:=by rw [← hw4];simp [hB]
 have hq1:Pure (w.alloc o1K) w4:=by rw [← hw4];exact (((Only.refl _ _).alloc _).alloc _).alloc _
 have hq3:Pure (((w.alloc o1K).alloc (o2K B)).alloc o3K) w4:=by rw [← hw4];exact (Only.refl _ _).alloc _
 rw [hw4] at hg4
 have hg1:=hq1.blk hg1
 have hg3:=hq3.blk hg3
 refine ⟨hp1.then hq1,(heap_new c1 (.slice (some ⟨B,0,none⟩) 1 1) shK opsK 1 (B+1+1+1) 1 (B+1+1) 2 w4 ⟨⟨some ⟨B,0,none⟩,1,rfl,by decide,by omega,fun _=>⟨B,0,rfl,by omega,fun j s hj=>?_⟩⟩,fun s hs=>?_⟩ (by decide) rfl rfl (fun s hs=>?_) (by omega) ?_ (by omega) ⟨by decide,fun _=>?_⟩ (by decide)).mono ?_⟩
 ·cases j with
  | zero =>
   simp [shK] at hj
   subst hj
   refine ⟨?_,?_⟩ <;> (rw [cell_of_row w4 _ _ _ _ _ hg1];rfl)
  | succ j=>simp [shK] at hj
 ·simp [shK] at hs
  subst hs
  exact SlG.nil _ _
 ·simp [shK] at hs
  subst hs
  simp
 ·rw [cell_of_row w4 _ _ _ _ _ hg4];rfl
 ·refine ⟨B+1+1,0,rfl,fun j u hu=>?_⟩
  rw [cell_of_row w4 _ _ _ _ _ hg3,Nat.zero_add]
  simpa [opCells,Ac.opL,opsK] using hu
 ·rintro e w' ⟨K,κ',hb,lg,yb,b,rfl,hp,hm,h1,h2,h3,h4,h5,h6⟩
  refine ⟨K,κ',hb,lg,yb,b,rfl,hp,⟨hm,TrO.nil _ _ _ _ _⟩,h1,h2,⟨?_,?_,by rw [h4];omega⟩,h6⟩
  ·obtain ⟨t,ht,hta,htb⟩:=Vw.alike_get h5 (k:=0) (s0:=⟨false,.slice none 0 0,[]⟩) rfl
   obtain ⟨ta,tv,tb⟩:=t
   simp at hta htb
   subst hta;subst htb
   exact ⟨tv,ht⟩
  ·intro s hs
   obtain ⟨t,ht,-,htb⟩:=alike_mem h5 hs
   simp [shK] at ht
   subst ht
   rw [← htb];simp
structure Kl (w0:World) (K:Cor.Q) (b:Ac.B) (hb lg yb:Nat) (i:Nat) (wr:World):Prop where
 pu:Pure w0 wr
 st:∃ κ m s,Mt wr c1 K κ m b s yb cyc0 hb lg none∧Kn m s i∧OwnOk s i∧∀ k,CM (κ k)→w0.heap.size≤k
theorem Ext.out {w0 w w':World} {κ κ':Nat→Nat} (hp:Pure w0 w) (hc:∀ k,CM (κ k)→w0.heap.size≤k) (he:Ext CM w κ w' κ'):Pure w0 w'∧∀ k,CM (κ' k)→w0.heap.size≤k :=
 ⟨hp.trans he.only (fun q hq hx=>by have:=hc q hx;omega),fun k hk=>Decidable.byContradiction fun hlt=>by
  rw [he.same k (by have:=hp.size;omega)] at hk
  have:=hc k hk
  omega⟩
def dnK (i:Nat):Nat:=if i<12 then 0 else if i<14 then 1 else 2
theorem dnK_succ:∀ i,i<20→dnK (i+1)=dnK i+if (i=11∨i=13) then 1 else 0:=by decide
theorem dnK_le (i:Nat):dnK i≤2:=by unfold dnK;split <;> (try split) <;> omega
theorem Kl.pure {w0 w w':World} {K:Cor.Q} {b:Ac.B} {hb lg yb i:Nat} (h:Kl w0 K b hb lg yb i w) (hp:Pure w w'):Kl w0 K b hb lg yb i w':=by
 obtain ⟨κ,m,s,h1,h2,h3,h4⟩:=h.st
 exact ⟨h.pu.then hp,κ,m,s,h1.pure hp,h2,h3,h4⟩
theorem known_true (w:World):Calls Tryz.prog 5 #[] w fun e w'=>e=.returned (.bool true)∧Pure w w':=by
 obtain ⟨hp4,hnew⟩:=new_k w w.heap.size rfl _ rfl
 have HN:=hid (And.intro hp4 hnew)
 clear hp4 hnew
 go_enter Tryz.func5,Tryz.ntmps5
 go_wp2_with fail
 generalize (((w.alloc o1K).alloc (o2K w.heap.size)).alloc o3K).alloc (o4K w.heap.size)=w4 at *
 refine HN.out.2.mono ?_
 rintro e w5 ⟨K,κ',hb,lg,yb,b,rfl,hp5,hm,hb0,hbo,hK,hcl⟩
 have hsz:=HN.out.1.size
 have HL:Hid (Kl w K b hb lg yb 0 w5):=hid ⟨HN.out.1.then hp5,κ',_,_,hm,.out ⟨rfl,rfl,rfl,rfl,rfl,rfl,rfl,rfl,rfl⟩ rfl rfl rfl rfl,⟨0,rfl,Nat.le_refl _⟩,fun k hk=>by have:=hcl k hk;omega⟩
 have HB:=hid (And.intro hb0 (And.intro hbo hK))
 clear hp5 hm hb0 hbo hK hcl hsz HN
 go_wp2_with fail
 go_loopw [4,5] (fun d i wr=>∃ t:Nat,t≤20∧i=.int .i64 (t:Int)∧d=.int .i64 (dnK t:Int)∧Kl w K b hb lg yb t wr) (fun _ i _=>20-(intOf i).toNat)
 case atStart=>exact ⟨0,by omega,rfl,rfl,HL.out⟩
 case round =>
  clear HL
  obtain ⟨t,ht,rfl,rfl,hk⟩:=hrel
  have HK:=hid hk
  clear hk
  by_cases hlt:t<20
  ·have HLT:=hid hlt
   have hd20:=dnK_succ t hlt
   have hdle:=dnK_le t
   obtain ⟨κ,m,s,hm,hkn,hown,hcl⟩:=HK.out.st
   have hstep:=stepK (T:=t) HB.out.2.2 HB.out.2.1 HB.out.1 hm hkn hown (by omega)
   have HSTEP:=hid (And.intro hstep hcl)
   have hti:(t:Int)<20:=by omega
   clear hlt ht hm hkn hown hcl hstep
   by_cases hdd:t=11∨t=13
   ·rw [if_pos hdd] at hd20
    have HD:=hid (And.intro hdd hd20)
    clear hdd hd20
    go_wp2_with fail
    refine HSTEP.out.1.mono ?_
    rintro e w6 ⟨a1,a2,a3,v,rfl,κ',m',s',hext,hm',hkn',hown'⟩
    obtain ⟨v1,v2,v3⟩:=v
    rw [decide_eq_true HD.out.1]
    have hout:=Ext.out HK.out.pu HSTEP.out.2 hext
    have HK6:Hid (Kl w K b hb lg yb (t+1) w6):=hid ⟨hout.1,κ',m',s',hm',hkn',hown',hout.2⟩
    obtain ⟨hp7,-,hg7⟩:=Ac.one_new w6 #[.int .i64 1,.bool true,.int .i64 a1,.int .i64 a2,.int .i64 a3,.bool v1,.complex .f64 v2 v3] 48
    have HK7:=hid (HK6.out.pure hp7)
    have z1:=(tick_cells hg7).2.1
    clear hext hm' hkn' hown' hout HK6 hp7 hg7
    go_wp2_with fail
    generalize w6.alloc (.cells #[.int .i64 1,.bool true,.int .i64 a1,.int .i64 a2,.int .i64 a3,.bool v1,.complex .f64 v2 v3] 48)=w7 at *
    go_roundw
    case rel=>exact ⟨t+1,by have:=HLT.out;omega,by first | rfl | simp,by rw [HD.out.2];simp,HK7.out⟩
    case measure=>have:=HLT.out;simp [intOf];omega
   ·rw [if_neg hdd] at hd20
    have HD:=hid (And.intro hdd hd20)
    clear hdd hd20
    go_wp2_with fail
    refine HSTEP.out.1.mono ?_
    rintro e w6 ⟨a1,a2,a3,v,rfl,κ',m',s',hext,hm',hkn',hown'⟩
    obtain ⟨v1,v2,v3⟩:=v
    rw [decide_eq_false HD.out.1]
    have hout:=Ext.out HK.out.pu HSTEP.out.2 hext
    have HK6:Hid (Kl w K b hb lg yb (t+1) w6):=hid ⟨hout.1,κ',m',s',hm',hkn',hown',hout.2⟩
    obtain ⟨hp7,-,hg7⟩:=Ac.one_new w6 #[.int .i64 1,.bool false,.int .i64 a1,.int .i64 a2,.int .i64 a3,.bool v1,.complex .f64 v2 v3] 48
    have HK7:=hid (HK6.out.pure hp7)
    have z1:=(tick_cells hg7).2.1
    clear hext hm' hkn' hown' hout HK6 hp7 hg7
    go_wp2_with fail
    generalize w6.alloc (.cells #[.int .i64 1,.bool false,.int .i64 a1,.int .i64 a2,.int .i64 a3,.bool v1,.complex .f64 v2 v3] 48)=w7 at *
    go_roundw
    case rel=>exact ⟨t+1,by have:=HLT.out;omega,by first | rfl | simp,by rw [HD.out.2];simp,HK7.out⟩
    case measure=>have:=HLT.out;simp [intOf];omega
  ·obtain rfl:t=20:=by omega
   clear hlt ht
   obtain ⟨κ,m,s,hm,hkn,hown,hcl⟩:=HK.out.st
   obtain ⟨h4,-⟩:=sound_k HB.out.2.2 hm.mac hkn (by omega)
   have HM:=hid (And.intro hm.mac (And.intro hkn h4))
   have h2:(dnK 20:Int)=2:=by decide
   rw [h2]
   clear hm hkn hown hcl h4 h2
   go_wp2_with fail
   refine (thread_h wr HM.out.1).mono ?_
   rintro e w6 ⟨v',rfl,hp6,-⟩
   rw [HM.out.2.2]
   have HP6:=hid hp6
   have HS6:=hid (sound_k HB.out.2.2 (HM.out.1.pure hp6) HM.out.2.1 (by omega)).2
   clear hp6
   go_wp2_with fail
   refine HS6.out.mono ?_
   rintro e w7 ⟨rfl,hp7⟩
   have HP7:=hid hp7
   clear hp7
   go_wp2_with fail
   go_ret
   exact ⟨rfl,(HK.out.pu.then HP6.out).then HP7.out⟩
end Go.Proofs.YtpgdiceeimehiaaGreat.Law
