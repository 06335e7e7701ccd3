/- Part 32 of the proof that spotop.TopOrder returns true for all arguments and leaves what was there as it was. -/
import Derived.Deep.QuietTactic
import Derived.BigQuiet
import Derived.Deep.DeepCutAuto
import Derived.Deep.CutBlock
import Derived.Test.YtpgdiceeimehiaaGreatQ19
import Derived.Test.YtpgdiceeimehiaaGreatQ22
import Derived.Test.YtpgdiceeimehiaaGreatQ31
set_option maxRecDepth 100000
set_option maxHeartbeats 16000000
open Go.Lib (hid)
namespace Go.Proofs.YtpgdiceeimehiaaGreat
open Go.RowKit
namespace Vw
structure St where
 rv:Value
 bs:List Bool
 head:Nat
 kind:Nat
 fv:Value
 fs:List Int
 tv:Value
 ts:List Int
abbrev cs (hb:Nat) (c:Cn) (v:Value) (s:St):Array Value:=#[.pointer (some ⟨hb,0,none⟩),.int .i64 c.frags,.int .i64 c.spine,.int .i64 c.globals,.int .i64 c.threads,.int .i64 c.locals,.int .i64 c.cache,.int .i64 c.stack,.int .i64 c.low,v,.bool false,s.rv,.int .i64 (s.head:Int),.int .i64 (s.kind:Int),.int .i64 0,s.fv,.int .i64 (-1),.int .i64 0,s.tv]
structure At (w:World) (B vb hb:Nat) (c:Cn) (v:Value) (sh:List Sh) (s:St):Prop where
 me:w.heap[vb]?=some (.cells (cs hb c v s) 143 (0,0))
 conf:ShsR w w.heap.size v sh
 ok:checkI c sh=0
 refs:SlG w w.heap.size s.rv (bools s.bs)
 frags:w.ownsRow B 3 1 s.fv s.fs.length (ints s.fs)
 tos:w.ownsRow B 3 1 s.tv s.ts.length (ints s.ts)
 new:B≤vb
 ro:∀ k,CfS v sh k∨s.rv.ownBlock=some k→k≠vb∧s.fv.ownBlock≠some k∧s.tv.ownBlock≠some k∧k<w.heap.size
 two:∀ k,s.fv.ownBlock=some k→s.tv.ownBlock≠some k
section
variable {w w':World} {B vb hb:Nat} {c:Cn} {v:Value} {sh:List Sh} {s:St}
theorem At.p0 (h:At w B vb hb c v sh s):w.cell? ⟨vb,0,none⟩=some (.pointer (some ⟨hb,0,none⟩)):=by rw [cell_of_row w _ _ _ _ _ h.me];rfl
theorem At.p1 (h:At w B vb hb c v sh s):w.cell? ⟨vb,1,none⟩=some (.int .i64 c.frags):=by rw [cell_of_row w _ _ _ _ _ h.me];rfl
theorem At.p2 (h:At w B vb hb c v sh s):w.cell? ⟨vb,2,none⟩=some (.int .i64 c.spine):=by rw [cell_of_row w _ _ _ _ _ h.me];rfl
theorem At.p3 (h:At w B vb hb c v sh s):w.cell? ⟨vb,3,none⟩=some (.int .i64 c.globals):=by rw [cell_of_row w _ _ _ _ _ h.me];rfl
theorem At.p4 (h:At w B vb hb c v sh s):w.cell? ⟨vb,4,none⟩=some (.int .i64 c.threads):=by rw [cell_of_row w _ _ _ _ _ h.me];rfl
theorem At.p5 (h:At w B vb hb c v sh s):w.cell? ⟨vb,5,none⟩=some (.int .i64 c.locals):=by rw [cell_of_row w _ _ _ _ _ h.me];rfl
theorem At.p6 (h:At w B vb hb c v sh s):w.cell? ⟨vb,6,none⟩=some (.int .i64 c.cache):=by rw [cell_of_row w _ _ _ _ _ h.me];rfl
theorem At.p7 (h:At w B vb hb c v sh s):w.cell? ⟨vb,7,none⟩=some (.int .i64 c.stack):=by rw [cell_of_row w _ _ _ _ _ h.me];rfl
theorem At.p8 (h:At w B vb hb c v sh s):w.cell? ⟨vb,8,none⟩=some (.int .i64 c.low):=by rw [cell_of_row w _ _ _ _ _ h.me];rfl
theorem At.p9 (h:At w B vb hb c v sh s):w.cell? ⟨vb,9,none⟩=some (v):=by rw [cell_of_row w _ _ _ _ _ h.me];rfl
theorem At.p10 (h:At w B vb hb c v sh s):w.cell? ⟨vb,10,none⟩=some (.bool false):=by rw [cell_of_row w _ _ _ _ _ h.me];rfl
theorem At.p11 (h:At w B vb hb c v sh s):w.cell? ⟨vb,11,none⟩=some (s.rv):=by rw [cell_of_row w _ _ _ _ _ h.me];rfl
theorem At.p12 (h:At w B vb hb c v sh s):w.cell? ⟨vb,12,none⟩=some (.int .i64 (s.head:Int)):=by rw [cell_of_row w _ _ _ _ _ h.me];rfl
theorem At.p13 (h:At w B vb hb c v sh s):w.cell? ⟨vb,13,none⟩=some (.int .i64 (s.kind:Int)):=by rw [cell_of_row w _ _ _ _ _ h.me];rfl
theorem At.p14 (h:At w B vb hb c v sh s):w.cell? ⟨vb,14,none⟩=some (.int .i64 0):=by rw [cell_of_row w _ _ _ _ _ h.me];rfl
theorem At.p15 (h:At w B vb hb c v sh s):w.cell? ⟨vb,15,none⟩=some (s.fv):=by rw [cell_of_row w _ _ _ _ _ h.me];rfl
theorem At.p16 (h:At w B vb hb c v sh s):w.cell? ⟨vb,16,none⟩=some (.int .i64 (-1)):=by rw [cell_of_row w _ _ _ _ _ h.me];rfl
theorem At.p17 (h:At w B vb hb c v sh s):w.cell? ⟨vb,17,none⟩=some (.int .i64 0):=by rw [cell_of_row w _ _ _ _ _ h.me];rfl
theorem At.p18 (h:At w B vb hb c v sh s):w.cell? ⟨vb,18,none⟩=some (s.tv):=by rw [cell_of_row w _ _ _ _ _ h.me];rfl
theorem At.fz (h:At w B vb hb c v sh s) (k:Nat):w.frozen? ⟨vb,k,none⟩=false:=frozen_of_row w _ k _ _ h.me
theorem At.lt (h:At w B vb hb c v sh s):vb<w.heap.size:=(Array.getElem?_eq_some_iff.1 h.me).1
theorem At.pure (h:At w B vb hb c v sh s) (hp:Pure w w'):At w' B vb hb c v sh s :=
 ⟨hp.blk h.me,h.conf.pure hp,h.ok,h.refs.pure hp,hp.own h.frags (fun _ _ f=>f),hp.own h.tos (fun _ _ f=>f),h.new,fun k hk=>⟨(h.ro k hk).1,(h.ro k hk).2.1,(h.ro k hk).2.2.1,Nat.lt_of_lt_of_le (h.ro k hk).2.2.2 hp.size⟩,h.two⟩
end
section
variable {w:World} {B vb hb lg yb:Nat} {c:Cn} {v:Value} {sh:List Sh} {t:St} {K:Cor.Q} {κ:Nat→Nat} {m:Cor.St} {b:Ac.B} {s:Ac.St} {y:Cyc.St}
theorem word_v (i j:Nat) (z:Nat × Nat) (w:World) (h:At w B vb hb c v sh t) (hm:Mac w c K κ m b s yb y hb lg) (hi:(i:Int)<c.frags) (hj:j<8) (hz:m.words[8 * i+j]?=some z):Calls Tryz.prog 135 #[.pointer (some ⟨vb,0,none⟩),.int .i64 (i:Int),.int .i64 (j:Int)] w fun e w'=>e=.returned (.complex .f64 z.1 z.2)∧Pure w w':=by
 obtain ⟨A,cc,hv⟩:∃ A cc,v=.slice A sh.length cc:=by
  obtain ⟨⟨A,cc,e,_⟩,_⟩:=h.conf
  exact ⟨A,cc,e⟩
 subst hv
 have H:=hid h
 have HM:=hid hm
 have HZ:=hid hz
 have p1:=h.p1
 have p2:=h.p2
 have p3:=h.p3
 have p4:=h.p4
 have p5:=h.p5
 have p6:=h.p6
 have p7:=h.p7
 have p8:=h.p8
 have p9:=h.p9
 clear h hm hz
 go_enter Tryz.func135,Tryz.ntmps135
 go_wp2_with fail
 refine (frag_in c _ sh i j w H.out.conf H.out.ok (by omega) hi (by omega) (by omega)).mono ?_
 rintro e w2 ⟨rfl,hp2⟩
 have H2:=hid (H.out.pure hp2)
 have HM2:=hid (HM.out.pure hp2)
 have HP2:=hid hp2
 have e8:(8 * (i:Int)+(j:Int))=((8 * i+j:Nat):Int):=by omega
 rw [e8]
 obtain ⟨ad,had⟩:∃ ad:Nat,8 * i+j=ad:=⟨_,rfl⟩
 rw [had] at HZ ⊢
 have p0:=H2.out.p0
 clear p1 p2 p3 p4 p5 p6 p7 p8 p9 e8 hp2 had
 go_wp2_with fail
 refine (peek_h ad z w2 HM2.out HZ.out).mono ?_
 rintro e w3 ⟨rfl,rfl⟩
 go_wp2_with fail
 go_ret
 exact ⟨rfl,HP2.out⟩
theorem frag_v (i:Nat) (w:World) (h:At w B vb hb c v sh t) (hi:(i:Int)<c.frags):Calls Tryz.prog 206 #[.pointer (some ⟨vb,0,none⟩),.complex .f64 (refW i).1 (refW i).2] w fun e w'=>e=.returned (.tuple #[.int .i64 (i:Int),.bool true])∧Pure w w':=by
 have hfb:=check_bd h.ok
 have hi2:i≤1000000:=by omega
 have p1:=h.p1
 clear h
 go_enter Tryz.func206,Tryz.ntmps206
 go_wp2_with fail
 refine (index_ref i w hi2).mono ?_
 rintro e w2 ⟨rfl,rfl⟩
 go_wp2_with fail
 go_quiet (fail)
 go_wp2_with fail
 go_ret2
 exact ⟨rfl,(Only.refl (fun _=>False) w).drewN _⟩
theorem refers_none (w:World):Calls Tryz.prog 207 #[.pointer (some ⟨vb,0,none⟩),.complex .f64 noneW.1 noneW.2] w fun e w'=>e=.returned (.bool true)∧w=w':=by
 go_enter Tryz.func207,Tryz.ntmps207
 go_wp2_with fail
 refine (index_none w).mono ?_
 rintro e w2 ⟨rfl,rfl⟩
 go_wp2_with fail
 refine (is_none w).mono ?_
 rintro e w3 ⟨rfl,rfl⟩
 go_wp2_with fail
 go_ret
 exact ⟨rfl,rfl⟩
theorem refers_ref (i:Nat) (W0 w:World) (h:At w B vb hb c v sh t) (hp:Pure W0 w) (hB:W0.heap.size=B) (hi:i≤1000000) (hl:t.ts.length≤1000000):Calls Tryz.prog 207 #[.pointer (some ⟨vb,0,none⟩),.complex .f64 (refW i).1 (refW i).2] w fun e w'=>e=.returned (.bool true)∧Pure W0 w'∧∃ tv',At w' B vb hb c v sh { t with tv:=tv',ts:=t.ts++[(i:Int)] }:=by
 obtain ⟨i0,hi0,hz0,hz1,hz2⟩:=info_parts Po.int_info
 obtain ⟨A,cc,htv⟩:=own_form h.tos
 have H:=hid h
 have HP:=hid hp
 have HTV:=hid htv
 have p18:=h.p18
 rw [htv] at p18
 have hsz:Hid (B≤w.heap.size):=hid (by rw [← hB];exact hp.size)
 have HOWN:Hid (w.ownsRow B 3 1 (.slice A t.ts.length cc) t.ts.length (ints t.ts)):=hid (by rw [← htv];exact h.tos)
 have ff:=h.fz
 have HTL:=hid (show t.ts.length≤1000000 from hl)
 have HBB:=hid hB
 clear h hp htv hB
 go_enter Tryz.func207,Tryz.ntmps207
 go_wp2_with fail
 refine (index_ref i w hi).mono ?_
 rintro e w2 ⟨rfl,rfl⟩
 go_upto_region 4 with (at_builtin;refine wpList_app _ rfl (.tmp 17) (.tmp 19) _ rfl B 3 i0 _ 1 8 Tryz.underlying25 hi0 hz0 hz1 hz2 rfl (by omega) (.slice A t.ts.length cc) t.ts.length _ rfl (World.ownsRow.alloc HOWN.out _) _ 1 1 [.int .i64 (i:Int)] rfl (Src.row _ _ #[.int .i64 (i:Int)] 1 1 _ rfl rfl) (by simp [Value.oneCell']) (by simp only [maxLen];omega) (by omega) (by have:=hsz.out;simp;omega) ?_;intro v9 w9 hown9 hg9 hat9;obtain ⟨A9,n9,rfl⟩:=own_form hown9;have HO9:=hid hown9;have HG9:=hid hg9;have ho9:Only (fun q=>(Value.slice A t.ts.length cc).ownBlock=some q) w w9:=((Only.refl _ w).alloc _).grown hg9 (fun q _ hq=>hq);have ff9:∀ k,w9.frozen? ⟨vb,k,none⟩=false:=fun k=>frozen_of_row w9 vb k _ _ (ho9.blk H.out.me (fun e=>own_ne HOWN.out H.out.me (by decide) e));have q18:w9.cell? ⟨vb,18,none⟩=some (.slice A t.ts.length cc):=(ho9.cell (p:=⟨vb,18,none⟩) H.out.lt (fun e=>own_ne HOWN.out H.out.me (by decide) e)).trans p18;have HO:=hid ho9;have HAT9:=hid hat9;clear hown9 hg9 hat9 ho9;go_frame)
 have hnt:¬ (Value.slice A t.ts.length cc).ownBlock=some vb:=fun e=>own_ne HOWN.out H.out.me (by decide) e
 have hm9:=HO.out.blk H.out.me hnt
 have hm10:=set_me (i:=18) (u:=.slice A9 (t.ts.length+1) n9) hm9
 have hs10:Only (fun q=>q=vb) w9 (w9.setCell ⟨vb,18,none⟩ (.slice A9 (t.ts.length+1) n9)):=(Only.refl (fun q=>q=vb) w9).setCell (p:=⟨vb,18,none⟩) (fun _=>rfl) _
 have hT:Only (fun q=>q=vb∨(Value.slice A t.ts.length cc).ownBlock=some q) w (w9.setCell ⟨vb,18,none⟩ (.slice A9 (t.ts.length+1) n9)):=(HO.out.mono (T:=fun q=>q=vb∨(Value.slice A t.ts.length cc).ownBlock=some q) (fun _ _ hq=>.inr hq)).trans (hs10.mono (T:=fun q=>q=vb∨(Value.slice A t.ts.length cc).ownBlock=some q) (fun _ _ hq=>.inl hq)) (fun _ _ h=>h)
 have htb:∀ q,(Value.slice A t.ts.length cc).ownBlock=some q→t.tv.ownBlock=some q:=fun q hq=>by rw [HTV.out];exact hq
 have hro:∀ q,CfS v sh q∨t.rv.ownBlock=some q→¬ (q=vb∨(Value.slice A t.ts.length cc).ownBlock=some q):=fun q hq hq2=>by
  rcases hq2 with hq2 | hq2
  ·exact (H.out.ro q hq).1 hq2
  ·exact (H.out.ro q hq).2.2.1 (htb q hq2)
 have hnew9:∀ q,(Value.slice A9 (t.ts.length+1) n9).ownBlock=some q→(Value.slice A t.ts.length cc).ownBlock=some q∨w.heap.size≤q:=fun q hq=>by
  rcases HAT9.out with h1 | h1
  ·exact .inl (h1.symm.trans hq)
  ·rw [h1] at hq
   injection hq with hq
   exact .inr (by rw [← hq];simp)
 have hown10:(w9.setCell ⟨vb,18,none⟩ (.slice A9 (t.ts.length+1) n9)).ownsRow B 3 1 (.slice A9 (t.ts.length+1) n9) (t.ts.length+1) (ints (t.ts++[(i:Int)])):=by
  have h1:=hs10.own HO9.out (fun q hq e=>by rcases hnew9 q hq with h2 | h2;exact hnt (e ▸ h2);have:=H.out.lt;omega)
  simpa [ints] using h1
 have HRES:Hid (Pure W0 (w9.setCell ⟨vb,18,none⟩ (.slice A9 (t.ts.length+1) n9))∧At (w9.setCell ⟨vb,18,none⟩ (.slice A9 (t.ts.length+1) n9)) B vb hb c v sh { t with tv:=.slice A9 (t.ts.length+1) n9,ts:=t.ts++[(i:Int)] }):=hid (by
  refine ⟨HP.out.trans hT (fun q hq hq2=>?_),hm10,H.out.conf.only hT (fun q hq=>hro q (.inl hq)),H.out.ok,H.out.refs.only hT (fun q hq=>hro q (.inr hq)),hT.own H.out.frags (fun q hq hq2=>?_),by simpa using hown10,H.out.new,fun q hq=>⟨(H.out.ro q hq).1,(H.out.ro q hq).2.1,fun e=>?_,Nat.lt_of_lt_of_le (H.out.ro q hq).2.2.2 hT.size⟩,fun q hq e=>?_⟩
  ·rcases hq2 with hq2 | hq2
   ·have:=H.out.new;have:=HBB.out;omega
   ·have:=(HOWN.out.lt q hq2).1;have:=HBB.out;omega
  ·rcases hq2 with hq2 | hq2
   ·exact own_ne H.out.frags H.out.me (by decide) (hq2 ▸ hq)
   ·exact H.out.two q hq (htb q hq2)
  ·rcases hnew9 q e with h2 | h2
   ·exact (H.out.ro q hq).2.2.1 (htb q h2)
   ·have:=(H.out.ro q hq).2.2.2;omega
  ·rcases hnew9 q e with h2 | h2
   ·exact H.out.two q hq (htb q h2)
   ·have:=(H.out.frags.lt q hq).2;omega)
 clear hnt hm9 hm10 hs10 hT htb hro hnew9 hown10 ff9 q18 p18
 generalize w9.setCell ⟨vb,18,none⟩ (.slice A9 (t.ts.length+1) n9)=w10 at *
 go_wp2_with fail
 refine (is_ref i w10 hi).mono ?_
 rintro e w11 ⟨rfl,rfl⟩
 go_wp2_with fail
 go_ret
 exact ⟨rfl,HRES.out.1,_,HRES.out.2⟩
end
end Vw
open Go.RowKit
open Pl (natI)
namespace Vw
section
variable {w:World} {B vb hb lg yb:Nat} {c:Cn} {v:Value} {sh:List Sh} {t:St} {K:Cor.Q} {κ:Nat→Nat} {m:Cor.St} {b:Ac.B} {s:Ac.St} {y:Cyc.St}
theorem At.app_f {W0 w9:World} {A A9:Option Addr} {cc n9:Nat} {x:Int} (h:At w B vb hb c v sh t) (hp:Pure W0 w) (hB:W0.heap.size=B) (hfv:t.fv=.slice A t.fs.length cc)
  (ho:Only (fun q=>(Value.slice A t.fs.length cc).ownBlock=some q) w w9) (h9:w9.ownsRow B 3 1 (.slice A9 (t.fs.length+1) n9) (t.fs.length+1) (ints t.fs++[.int .i64 x]))
  (hat:(Value.slice A9 (t.fs.length+1) n9).ownBlock=(Value.slice A t.fs.length cc).ownBlock∨∃ q,w.heap.size≤q∧(Value.slice A9 (t.fs.length+1) n9).ownBlock=some q) :
  Pure W0 (w9.setCell ⟨vb,15,none⟩ (.slice A9 (t.fs.length+1) n9))∧At (w9.setCell ⟨vb,15,none⟩ (.slice A9 (t.fs.length+1) n9)) B vb hb c v sh { t with fv:=.slice A9 (t.fs.length+1) n9,fs:=t.fs++[x] }:=by
 have hown:w.ownsRow B 3 1 (.slice A t.fs.length cc) t.fs.length (ints t.fs):=by rw [← hfv];exact h.frags
 have hnt:¬ (Value.slice A t.fs.length cc).ownBlock=some vb:=fun e=>own_ne hown h.me (by decide) e
 have hm9:=ho.blk h.me hnt
 have hm10:=set_me (i:=15) (u:=.slice A9 (t.fs.length+1) n9) hm9
 have hs10:Only (fun q=>q=vb) w9 (w9.setCell ⟨vb,15,none⟩ (.slice A9 (t.fs.length+1) n9)):=(Only.refl (fun q=>q=vb) w9).setCell (p:=⟨vb,15,none⟩) (fun _=>rfl) _
 have hT:Only (fun q=>q=vb∨(Value.slice A t.fs.length cc).ownBlock=some q) w (w9.setCell ⟨vb,15,none⟩ (.slice A9 (t.fs.length+1) n9)):=(ho.mono (T:=fun q=>q=vb∨(Value.slice A t.fs.length cc).ownBlock=some q) (fun _ _ hq=>.inr hq)).trans (hs10.mono (T:=fun q=>q=vb∨(Value.slice A t.fs.length cc).ownBlock=some q) (fun _ _ hq=>.inl hq)) (fun _ _ h=>h)
 have htb:∀ q,(Value.slice A t.fs.length cc).ownBlock=some q→t.fv.ownBlock=some q:=fun q hq=>by rw [hfv];exact hq
 have hro:∀ q,CfS v sh q∨t.rv.ownBlock=some q→¬ (q=vb∨(Value.slice A t.fs.length cc).ownBlock=some q):=fun q hq hq2=>by
  rcases hq2 with hq2 | hq2
  ·exact (h.ro q hq).1 hq2
  ·exact (h.ro q hq).2.1 (htb q hq2)
 have hnew9:∀ q,(Value.slice A9 (t.fs.length+1) n9).ownBlock=some q→(Value.slice A t.fs.length cc).ownBlock=some q∨w.heap.size≤q:=fun q hq=>by
  rcases hat with h1 | ⟨q2,h2,h1⟩
  ·exact .inl (h1.symm.trans hq)
  ·rw [h1] at hq
   injection hq with hq
   exact .inr (by omega)
 have hown10:(w9.setCell ⟨vb,15,none⟩ (.slice A9 (t.fs.length+1) n9)).ownsRow B 3 1 (.slice A9 (t.fs.length+1) n9) (t.fs.length+1) (ints (t.fs++[x])):=by
  have h1:=hs10.own h9 (fun q hq e=>by rcases hnew9 q hq with h2 | h2;exact hnt (e ▸ h2);have:=h.lt;omega)
  simpa [ints] using h1
 refine ⟨hp.trans hT (fun q hq hq2=>?_),hm10,h.conf.only hT (fun q hq=>hro q (.inl hq)),h.ok,h.refs.only hT (fun q hq=>hro q (.inr hq)),by simpa using hown10,hT.own h.tos (fun q hq hq2=>?_),h.new,fun q hq=>⟨(h.ro q hq).1,fun e=>?_,(h.ro q hq).2.2.1,Nat.lt_of_lt_of_le (h.ro q hq).2.2.2 hT.size⟩,fun q hq e=>?_⟩
 ·rcases hq2 with hq2 | hq2
  ·have:=h.new;omega
  ·have:=(hown.lt q hq2).1;omega
 ·rcases hq2 with hq2 | hq2
  ·exact own_ne h.tos h.me (by decide) (hq2 ▸ hq)
  ·exact h.two q (htb q hq2) hq
 ·rcases hnew9 q e with h2 | h2
  ·exact (h.ro q hq).2.1 (htb q h2)
  ·have:=(h.ro q hq).2.2.2;omega
 ·rcases hnew9 q hq with h2 | h2
  ·exact h.two q (htb q h2) e
  ·have:=(h.tos.lt q e).2;omega
structure ObjW (words:List (Nat × Nat)) (frags:Int) (bs:List Bool) (xs:List Nat) (O:Nat→Prop):Prop where
 len:1≤xs.length
 size:sizeI false bs.length 0=(xs.length:Int)
 few:bs.length≤40
 lt:∀ x∈xs,(x:Int)<frags
 link:∀ j x z,xs[j]?=some x→xs[j+1]?=some z→words[8 * x]?=some (refW z)
 near:∀ k:Nat,bs[k]?=some true→k<6
 refs:∀ k x:Nat,bs[k]?=some true→xs[0]?=some x→words[8 * x+(2+k)]?=some noneW∨∃ i,O i∧i≤1000000∧words[8 * x+(2+k)]?=some (refW i)
structure Lk (W0:World) (B vb hb:Nat) (c:Cn) (v:Value) (sh:List Sh) (t0:St) (O:Nat→Prop) (j q:Nat) (xs:List Nat) (wr:World):Prop where
 pu:Pure W0 wr
 at_:∃ fv tv ts,At wr B vb hb c v sh { t0 with fv:=fv,fs:=natI (xs.take j),tv:=tv,ts:=ts }∧ts.length≤q∧∀ x∈ts,∃ i:Nat,x=(i:Int)∧O i
theorem object_v (xs:List Nat) (O:Nat→Prop) (W0 w:World) (h:At w B vb hb c v sh t) (hm:Mac W0 c K κ m b s yb y hb lg) (hp:Pure W0 w) (hB:W0.heap.size=B) (ht:t.fs=[]∧t.ts=[]) (ho:ObjW m.words c.frags t.bs xs O) (hx0:xs[0]?=some t.head) :
  Calls Tryz.prog 138 #[.pointer (some ⟨vb,0,none⟩)] w fun e w'=>e=.returned (.bool true)∧Lk W0 B vb hb c v sh t O xs.length 2000 xs w':=by
 obtain ⟨A,d,hrv,hd1,hd2,hsc⟩:=h.refs
 rw [bools_length] at hrv hd1 hsc
 have HM:=hid hm
 have HO:=hid ho
 have HX0:=hid hx0
 have HB:=hid hB
 have HRV:=hid hrv
 have hxl:xs.length≤7:=by
  have h1:=ho.size
  have h2:=ho.few
  unfold sizeI at h1
  split at h1
  ·omega
  ·simp at h1
   split at h1 <;> omega
 have hbf:=ho.few
 have hsz:=HO.out.size
 have HSZ:=hid hsz
 have HK0:Hid (Lk W0 B vb hb c v sh t O 0 0 xs w):=hid ⟨hp,t.fv,t.tv,t.ts,by rw [List.take_zero,show natI []=t.fs from ht.1.symm];exact h,by rw [ht.2];simp,by rw [ht.2];simp⟩
 have p12:=h.p12
 have p10:=h.p10
 have p11:=h.p11
 rw [hrv] at p11
 clear h hm hp hB ht ho hx0 hrv hsc hsz
 go_enter Tryz.func138,Tryz.ntmps138
 go_wp2_with fail
 refine (size_any false A t.bs.length d 0 w (by omega)).mono ?_
 rw [HSZ.out]
 rintro e w1 ⟨rfl,hp1⟩
 have HK1:Hid (Lk W0 B vb hb c v sh t O 0 0 xs w1):=hid ⟨HK0.out.pu.then hp1,by
  obtain ⟨fv,tv,ts,h1,h2,h3⟩:=HK0.out.at_
  exact ⟨fv,tv,ts,h1.pure hp1,h2,h3⟩⟩
 clear hp1 p12 p10 p11 HK0
 go_wp2_with fail
 go_loopw [3,22] (fun i j wr=>∃ jn x:Nat,jn≤xs.length∧j=.int .i64 (jn:Int)∧i=.int .i64 (x:Int)∧xs[jn-1]?=some x∧Lk W0 B vb hb c v sh t O jn (40 * jn) xs wr) (fun _ j _=>xs.length-(intOf j).toNat)
 case atStart=>exact ⟨0,t.head,Nat.zero_le _,rfl,rfl,HX0.out,HK1.out⟩
 case round =>
  obtain ⟨jn,x,hj,rfl,rfl,hx,hk⟩:=hrel
  have HK:=hid hk
  have HXX:=hid hx
  clear hk hx
  by_cases hlt:jn<xs.length
  ·obtain ⟨z,hz⟩:∃ z,xs[jn]?=some z:=⟨_,List.getElem?_eq_getElem hlt⟩
   have HZ:=hid hz
   have hji:(jn:Int)<(xs.length:Int):=by omega
   clear hz
   go_upto_if 26 with fail
   go_cut [3] (fun s3 wx=>s3=.int .i64 (z:Int)∧Lk W0 B vb hb c v sh t O jn (40 * jn) xs wx)
   case first =>
    cases jn with
    | zero =>
     go_wp2_with fail
     go_meet
     refine ⟨?_,HK.out⟩
     have h1:=HXX.out
     rw [show (0-1:Nat)=0 from rfl,HZ.out] at h1
     injection h1 with h1
     rw [h1]
    | succ p =>
     obtain ⟨fv,tv,ts,hat,ht1,ht2⟩:=HK.out.at_
     have HAT:=hid hat
     have HTS:=hid (And.intro ht1 ht2)
     have hxi:(x:Int)<c.frags:=HO.out.lt x (List.mem_of_getElem? HXX.out)
     have hzi:(z:Int)<c.frags:=HO.out.lt z (List.mem_of_getElem? HZ.out)
     have hpos:decide ((0:Int)<((p+1:Nat):Int))=true:=by simp
     clear hat ht1 ht2
     go_wp2_with fail
     refine (word_v x 0 (refW z) wr HAT.out (HM.out.pure HK.out.pu) hxi (by omega) (HO.out.link p x z (by simpa using HXX.out) HZ.out)).mono ?_
     rintro e w2 ⟨rfl,hp2⟩
     have HAT2:=hid (HAT.out.pure hp2)
     have HP2:=hid (HK.out.pu.then hp2)
     clear hp2
     go_wp2_with fail
     refine (frag_v z w2 HAT2.out hzi).mono ?_
     rintro e w3 ⟨rfl,hp3⟩
     have HAT3:=hid (HAT2.out.pure hp3)
     have HP3:=hid (HP2.out.then hp3)
     clear hp3
     go_wp2_with fail
     go_meet
     exact ⟨rfl,HP3.out,fv,tv,ts,HAT3.out,HTS.out.1,HTS.out.2⟩
   case rest =>
    obtain ⟨rfl,hk2⟩:=hcut
    obtain ⟨fv,tv,ts,hat,ht1,ht2⟩:=hk2.at_
    have HAT:=hid hat
    have HTS:=hid (And.intro ht1 ht2)
    have HPU:=hid hk2.pu
    clear hk2 hat ht1 ht2
    obtain ⟨i0,hi0,hz0,hz1,hz2⟩:=info_parts Po.int_info
    obtain ⟨Af,cf,hfv⟩:=own_form HAT.out.frags
    have hfl:(natI (xs.take jn)).length=jn:=by rw [Pl.natI_len,List.length_take];omega
    have p15:=HAT.out.p15
    simp only [] at p15 hfv
    rw [hfl] at hfv
    rw [hfv] at p15
    have HFV:=hid (And.intro hfv hfl)
    have HOWN:Hid (wc.ownsRow B 3 1 (.slice Af jn cf) jn (ints (natI (xs.take jn)))):=hid (by
     have h1:=HAT.out.frags
     simp only [] at h1
     rw [hfv,hfl] at h1
     exact h1)
    have hszB:Hid (B≤wc.heap.size):=hid (by rw [← HB.out];exact HPU.out.size)
    have hj7:jn≤7:=by omega
    clear hfv hfl
    go_upto_region 11 with (at_builtin;refine wpList_app _ rfl (.tmp 43) (.tmp 45) _ rfl B 3 i0 _ 1 8 Tryz.underlying25 hi0 hz0 hz1 hz2 rfl (by omega) (.slice Af jn cf) jn _ rfl (World.ownsRow.alloc HOWN.out _) _ 1 1 [.int .i64 (z:Int)] rfl (Src.row _ _ #[.int .i64 (z:Int)] 1 1 _ rfl rfl) (by simp [Value.oneCell']) (by simp only [maxLen];omega) (by omega) (by have:=hszB.out;simp;omega) ?_;intro v9 w9 hown9 hg9 hat9;obtain ⟨A9,n9,rfl⟩:=own_form hown9;have HO9:=hid hown9;have ho9:Only (fun q=>(Value.slice Af jn cf).ownBlock=some q) wc w9:=((Only.refl _ wc).alloc _).grown hg9 (fun q _ hq=>hq);have ff9:∀ k,w9.frozen? ⟨vb,k,none⟩=false:=fun k=>frozen_of_row w9 vb k _ _ (ho9.blk HAT.out.me (fun e=>own_ne HOWN.out HAT.out.me (by decide) e));have q15:w9.cell? ⟨vb,15,none⟩=some (.slice Af jn cf):=(ho9.cell (p:=⟨vb,15,none⟩) HAT.out.lt (fun e=>own_ne HOWN.out HAT.out.me (by decide) e)).trans p15;have HOO:=hid ho9;have HAT9:=hid hat9;clear hown9 hg9 hat9 ho9;go_frame)
    have hap:=HAT.out.app_f (A:=Af) (A9:=A9) (cc:=cf) (n9:=n9) (x:=(z:Int)) HPU.out HB.out (by simp only [];rw [HFV.out.2];exact HFV.out.1) (by simp only [];rw [HFV.out.2];exact HOO.out) (by simp only [];rw [HFV.out.2];exact HO9.out) (by
     simp only []
     rw [HFV.out.2]
     rcases HAT9.out with h1 | h1
     ·exact .inl h1
     ·exact .inr ⟨_,by simp,h1⟩)
    simp only [] at hap
    have htk:natI (xs.take jn)++[(z:Int)]=natI (xs.take (jn+1)):=by rw [List.take_add_one,HZ.out];simp [natI]
    rw [HFV.out.2,htk] at hap
    have HK3:Hid (Lk W0 B vb hb c v sh t O (jn+1) (40 * jn) xs (w9.setCell ⟨vb,15,none⟩ (.slice A9 (jn+1) n9))):=hid ⟨hap.1,_,tv,ts,hap.2,HTS.out.1,HTS.out.2⟩
    have p11:(w9.setCell ⟨vb,15,none⟩ (.slice A9 (jn+1) n9)).cell? ⟨vb,11,none⟩=some (.slice A t.bs.length d):=by
     have h1:=hap.2.p11
     simp only [] at h1
     rw [HRV.out] at h1
     exact h1
    clear hap htk q15 ff9 p15 hj7
    generalize w9.setCell ⟨vb,15,none⟩ (.slice A9 (jn+1) n9)=w10 at *
    go_wp2_with fail
    clear p11
    go_loopw [56] (fun k wr=>∃ kn:Nat,kn≤t.bs.length∧k=.int .i64 (kn:Int)∧Lk W0 B vb hb c v sh t O (jn+1) (40 * jn+kn) xs wr) (fun k _=>t.bs.length-(intOf k).toNat)
    case atStart=>exact ⟨0,Nat.zero_le _,rfl,HK3.out⟩
    case round =>
     obtain ⟨kn,hkn,rfl,hk⟩:=hrel
     have HKK:=hid hk
     obtain ⟨fv5,tv5,ts5,hat5,ht51,ht52⟩:=hk.at_
     have HAT5:=hid hat5
     have HTS5:=hid (And.intro ht51 ht52)
     clear hk hat5 ht51 ht52
     by_cases hklt:kn<t.bs.length
     ·obtain ⟨r,hr⟩:∃ r,t.bs[kn]?=some r:=⟨_,List.getElem?_eq_getElem hklt⟩
      have HRK:=hid hr
      obtain ⟨A5,d5,hrv5,hq1,hq2,hsc5⟩:=HAT5.out.refs
      simp only [] at hrv5 hsc5
      rw [bools_length] at hrv5 hq1 hsc5
      obtain ⟨g,off,hA5,hg5,hx5⟩:=hsc5 (by omega)
      have d0:wr.cell? ⟨g,off+kn,none⟩=some (.bool r):=hx5 kn _ (by simp [bools,hr])
      rw [HRV.out] at hrv5
      injection hrv5 with e1 e2 e3
      subst e1
      have HA5:=hid hA5
      subst hA5
      have p10:=HAT5.out.p10
      have p11:=HAT5.out.p11
      simp only [] at p11
      rw [HRV.out] at p11
      have k1:(kn:Int)<(t.bs.length:Int):=by omega
      have hbl:t.bs.length≤9223372036854775807:=by omega
      have hok:placeOk false t.bs.length (kn:Int)=true:=by simp [placeOk,mayB];omega
      have HOK:=hid hok
      obtain ⟨pf,hpf⟩:∃ pf,placeF (kn:Int)=pf:=⟨_,rfl⟩
      obtain ⟨pw,hpw⟩:∃ pw,placeW (kn:Int)=pw:=⟨_,rfl⟩
      have HPFW:=hid (And.intro hpf hpw)
      clear hr hsc5 hx5 hg5 hok hpf hpw e2 e3 hq1 hq2
      go_wp2_with fail
      refine (place_yes false _ t.bs.length d (kn:Int) wr hbl HOK.out).mono ?_
      rw [HPFW.out.1,HPFW.out.2]
      rintro e w5 ⟨rfl,hp5⟩
      have HK5:Hid (Pure W0 w5):=hid (HKK.out.pu.then hp5)
      have HAT6:=hid (HAT5.out.pure hp5)
      clear hp5 d0 p10 p11 HAT5
      cases r with
      | false =>
       go_wp2_with fail
       go_roundw
       case rel=>exact ⟨kn+1,by omega,by first | rfl | simp,⟨HK5.out,fv5,tv5,ts5,HAT6.out,by have:=HTS5.out.1;omega,HTS5.out.2⟩⟩
       case measure=>simp [intOf];omega
      | true =>
       have hk6:=HO.out.near kn HRK.out
       obtain rfl:pf=0:=by rw [← HPFW.out.1];exact if_pos (by omega)
       obtain ⟨pn,hpn⟩:∃ pn:Nat,2+kn=pn:=⟨_,rfl⟩
       obtain rfl:pw=(pn:Int):=by rw [← HPFW.out.2,placeW,if_pos (by omega)];omega
       have HPN:=hid hpn
       have hpn8:pn<8:=by omega
       clear hpn
       by_cases hj0:jn=0
       ·have HJ0:=hid hj0
        have heq0:((0:Int) == (jn:Int))=true:=by rw [hj0];rfl
        clear hj0
        have hzi:(z:Int)<c.frags:=HO.out.lt z (List.mem_of_getElem? HZ.out)
        have HREF:=hid (HO.out.refs kn z HRK.out (by have h1:=HZ.out;rw [HJ0.out] at h1;exact h1))
        rw [HPN.out] at HREF
        have htl:ts5.length≤1000000:=by have:=HTS5.out.1;omega
        have HTL:=hid htl
        clear htl
        rcases HREF.out with hw | ⟨i,hOi,hi,hw⟩
        ·have HW:=hid hw
         clear hw
         go_wp2_with fail
         refine (word_v z pn noneW w5 HAT6.out (HM.out.pure HK5.out) hzi hpn8 HW.out).mono ?_
         rintro e w6 ⟨rfl,hp6⟩
         have HAT7:=hid (HAT6.out.pure hp6)
         have HK7:=hid (HK5.out.then hp6)
         clear hp6
         go_wp2_with fail
         refine (refers_none w6).mono ?_
         rintro e w7 ⟨rfl,rfl⟩
         go_wp2_with fail
         go_roundw
         case rel=>exact ⟨kn+1,by omega,by first | rfl | simp,⟨HK7.out,fv5,tv5,ts5,HAT7.out,by have:=HTS5.out.1;omega,HTS5.out.2⟩⟩
         case measure=>simp [intOf];omega
        ·have HW:=hid (And.intro hw hOi)
         clear hw hOi
         go_wp2_with fail
         refine (word_v z pn (refW i) w5 HAT6.out (HM.out.pure HK5.out) hzi hpn8 HW.out.1).mono ?_
         rintro e w6 ⟨rfl,hp6⟩
         have HAT7:=hid (HAT6.out.pure hp6)
         have HK7:=hid (HK5.out.then hp6)
         clear hp6
         go_wp2_with fail
         refine (refers_ref i W0 w6 HAT7.out HK7.out HB.out hi HTL.out).mono ?_
         rintro e w7 ⟨rfl,hp7,tv7,h7⟩
         have HAT8:=hid h7
         have HK8:=hid hp7
         clear h7 hp7
         go_wp2_with fail
         go_roundw
         case rel =>
          refine ⟨kn+1,by omega,by first | rfl | simp,HK8.out,fv5,tv7,ts5++[(i:Int)],HAT8.out,by simp;have:=HTS5.out.1;omega,fun q hq=>?_⟩
          rcases List.mem_append.1 hq with hq | hq
          ·exact HTS5.out.2 q hq
          ·simp at hq;exact ⟨i,hq,HW.out.2⟩
         case measure=>simp [intOf];omega
       ·have hne:((0:Int) == (jn:Int))=false:=by simp;omega
        go_wp2_with fail
        go_roundw
        case rel=>exact ⟨kn+1,by omega,by first | rfl | simp,⟨HK5.out,fv5,tv5,ts5,HAT6.out,by have:=HTS5.out.1;omega,HTS5.out.2⟩⟩
        case measure=>simp [intOf];omega
     ·obtain rfl:kn=t.bs.length:=by omega
      go_wp2_with fail
      go_roundw
      case rel =>
       refine ⟨jn+1,z,by omega,by first | rfl | simp,rfl,by simpa using HZ.out,HKK.out.pu,fv5,tv5,ts5,HAT5.out,by have:=HTS5.out.1;omega,HTS5.out.2⟩
      case measure=>simp [intOf];omega
  ·obtain rfl:jn=xs.length:=by omega
   go_wp2_with fail
   go_ret
   refine ⟨rfl,HK.out.pu,?_⟩
   obtain ⟨fv,tv,ts,h1,h2,h3⟩:=HK.out.at_
   exact ⟨fv,tv,ts,h1,by omega,h3⟩
end
end Vw
end Go.Proofs.YtpgdiceeimehiaaGreat
