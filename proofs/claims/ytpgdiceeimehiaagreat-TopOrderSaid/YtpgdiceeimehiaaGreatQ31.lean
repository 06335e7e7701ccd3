/- Part 31 of the proof that spotop.TopOrder returns true for all arguments and leaves what was there as it was. -/
import Derived.Deep.QuietTactic
import Derived.BigQuiet
import Derived.Test.YtpgdiceeimehiaaGreatQ16
import Derived.Test.YtpgdiceeimehiaaGreatQ30
set_option maxRecDepth 100000
set_option maxHeartbeats 16000000
open Go.Lib (hid)
namespace Go.Proofs.YtpgdiceeimehiaaGreat
open Go.RowKit
namespace Cor
theorem table_any (tb:Nat) (w:World):Calls Tryz.prog 48 #[.agg #[.pointer (some ⟨tb,0,none⟩)]] w fun e w'=>e=.returned (.pointer (some ⟨tb,0,none⟩))∧Pure w w':=by
 go_enter Tryz.func48,Tryz.ntmps48
 go_wp2_with fail
 go_ret
 exact ⟨rfl,(Only.refl _ _).alloc _⟩
def none:Nat × Nat:=(0,4607182418800017408)
def words0 (n g j:Nat):List (Nat × Nat):=List.replicate n (0,0)++(List.replicate j none++List.replicate (g-j) (0,0))
theorem words0_length {n g j:Nat} (h:j≤g):(words0 n g j).length=n+g:=by simp [words0];omega
theorem words0_zero (n g:Nat):words0 n g 0=List.replicate (n+g) (0,0):=by simp [words0,List.replicate_append_replicate]
theorem words0_set {n g j:Nat} (h:j<g):(words0 n g j).set (n+j) none=words0 n g (j+1):=by
 unfold words0
 rw [List.set_append_right _ _ (by simp),List.length_replicate,Nat.add_sub_cancel_left,List.set_append_right _ _ (by simp),List.length_replicate,Nat.sub_self]
 obtain ⟨d,hd⟩:∃ d,g-j=d+1:=⟨g-j-1,by omega⟩
 rw [hd,show g-(j+1)=d from by omega,List.replicate_succ,List.set_cons_zero,List.replicate_succ',List.append_assoc]
 rfl
open Classical in
noncomputable def colF (B mb mg tb tg sb pb hb hg:Nat) (F:Nat→Prop) (k:Nat):Nat :=
 if k<B then 9 else if k=mb∨k=mg then 1 else if k=tb∨k=tg then 2 else if k=sb∨k=pb then 3 else if k=hb∨k=hg then 5 else if F k then 4 else 0
section
variable {B mb mg tb tg sb pb hb hg:Nat} {F:Nat→Prop} {k:Nat}
theorem colF_1 (h0:B≤k) (h:k=mb∨k=mg):colF B mb mg tb tg sb pb hb hg F k=1:=by
 unfold colF
 rw [if_neg (by omega),if_pos h]
theorem colF_2 (h0:B≤k) (h1:k≠mb∧k≠mg) (h:k=tb∨k=tg):colF B mb mg tb tg sb pb hb hg F k=2:=by
 unfold colF
 rw [if_neg (by omega),if_neg (by omega),if_pos h]
theorem colF_3 (h0:B≤k) (h1:k≠mb∧k≠mg) (h2:k≠tb∧k≠tg) (h:k=sb∨k=pb):colF B mb mg tb tg sb pb hb hg F k=3:=by
 unfold colF
 rw [if_neg (by omega),if_neg (by omega),if_neg (by omega),if_pos h]
theorem colF_5 (h0:B≤k) (h1:k≠mb∧k≠mg) (h2:k≠tb∧k≠tg) (h3:k≠sb∧k≠pb) (h:k=hb∨k=hg):colF B mb mg tb tg sb pb hb hg F k=5:=by
 unfold colF
 rw [if_neg (by omega),if_neg (by omega),if_neg (by omega),if_neg (by omega),if_pos h]
theorem colF_4 (h0:B≤k) (h1:k≠mb∧k≠mg) (h2:k≠tb∧k≠tg) (h3:k≠sb∧k≠pb) (h4:k≠hb∧k≠hg) (h:F k):colF B mb mg tb tg sb pb hb hg F k=4:=by
 unfold colF
 rw [if_neg (by omega),if_neg (by omega),if_neg (by omega),if_neg (by omega),if_neg (by omega),if_pos h]
theorem colF_0 (h0:B≤k) (h1:k≠mb∧k≠mg) (h2:k≠tb∧k≠tg) (h3:k≠sb∧k≠pb) (h4:k≠hb∧k≠hg) (h:¬ F k):colF B mb mg tb tg sb pb hb hg F k=0:=by
 unfold colF
 rw [if_neg (by omega),if_neg (by omega),if_neg (by omega),if_neg (by omega),if_neg (by omega),if_neg h]
theorem colF_old (h0:k<B):colF B mb mg tb tg sb pb hb hg F k=9:=by
 unfold colF
 rw [if_pos h0]
end
abbrev s0 (c:Cn) (f:Nat):Sp.St:=⟨List.replicate f ⟨0,false,false⟩,List.replicate f true,c.spine,0,fun _=>0,0,.slice Option.none 0 0,[],.slice Option.none 0 0,[],false⟩
theorem done_new {c:Cn} {w w5 w7 wr w8:World} {q:Sp.Q} {ssh m8:List Sh} {mg hg6 f sk n j l:Nat} {A8:Option Addr} {d8:Nat} (hB:w.heap.size+1≤mg) (h5:mg+6≤w5.heap.size) (htb:q.tb=mg+3) (htg:q.tg=mg+2)
  (hF:∀ k,Sp.F q (s0 c f) k→k=mg+3∨k=mg+2∨w5.heap.size≤k) (hR:∀ k,Sp.R q ssh k→w5.heap.size≤k) (hFl:∀ k,Sp.F q (s0 c f) k→k<hg6) (hRl:∀ k,Sp.R q ssh k→k<hg6)
  (hh:mg+6≤hg6) (h7:w7.heap.size=hg6+2) (hsd:Sd.At w7 (mg+2+3) (mg+2+1) (mg+2) (mg+2+2) (.slice Option.none 0 0) (List.replicate f ⟨0,false,false⟩) sk false [])
  (hsp:Sp.At w7 c ssh q (s0 c f)) (hha:Ha.At w7 (hg6+1) hg6 0 false (List.replicate 1 (-1))) (ho:Only (fun k=>k=mg+1∨k=mg) w7 wr) (hmm:Mm.At wr (mg+1) mg (words0 n j j)) (hp:Pure wr w8)
  (hs:ShsR w8 w8.heap.size (.slice A8 l d8) m8) (hf:∀ k,CfS (.slice A8 l d8) m8 k→hg6+2≤k∧k<w8.heap.size) (hz:hg6+2≤w8.heap.size) (hok:checkI c m8=0) (hal:alike m8 ssh) :
  At (w8.alloc (.cells #[.int .i64 c.frags,.int .i64 c.spine,.int .i64 c.globals,.int .i64 c.threads,.int .i64 c.locals,.int .i64 c.cache,.int .i64 c.stack,.int .i64 c.low,.slice A8 l d8,.pointer (some ⟨mg+1,0,Option.none⟩),.pointer (some ⟨mg+2+3,0,Option.none⟩),.pointer (some ⟨q.sp,0,Option.none⟩),.pointer (some ⟨hg6+1,0,Option.none⟩)] 123)) c
   ⟨w8.heap.size,mg+1,mg,mg+2+3,mg+2+2,hg6+1,hg6,sk,.slice A8 l d8,m8,ssh,q⟩ (colF w.heap.size (mg+1) mg (mg+3) (mg+2) (mg+2+3) (mg+2+2) (hg6+1) hg6 (Sp.F q (s0 c f)))
   ⟨words0 n j j,.slice Option.none 0 0,false,[],s0 c f,0,false,[-1]⟩:=by
 have hp8:Pure w8 (w8.alloc (.cells #[.int .i64 c.frags,.int .i64 c.spine,.int .i64 c.globals,.int .i64 c.threads,.int .i64 c.locals,.int .i64 c.cache,.int .i64 c.stack,.int .i64 c.low,.slice A8 l d8,.pointer (some ⟨mg+1,0,Option.none⟩),.pointer (some ⟨mg+2+3,0,Option.none⟩),.pointer (some ⟨q.sp,0,Option.none⟩),.pointer (some ⟨hg6+1,0,Option.none⟩)] 123)):=(Only.refl (fun _=>False) w8).alloc _
 have hpp:=hp.then hp8
 have hsz:w7.heap.size≤wr.heap.size:=ho.size
 have hsz8:wr.heap.size≤w8.heap.size:=hp.size
 have nF:∀ k,Sp.F q (s0 c f) k→¬ (k=mg+1∨k=mg):=fun k hk=>by have:=hF k hk;omega
 have nR:∀ k,Sp.R q ssh k→¬ (k=mg+1∨k=mg):=fun k hk=>by have:=hR k hk;omega
 have hsd':=(hsd.only ho (fun k hk=>by
  rcases hk with hk | hk | hk | hk | hk
  ·omega
  ·omega
  ·omega
  ·omega
  ·simp [Value.ownBlock] at hk)).pure hpp
 have h0:∀ k,k=w8.heap.size∨CfS (.slice A8 l d8) m8 k∨Sp.R q ssh k→mg+6≤k∧¬ Sp.F q (s0 c f) k∧k≠hg6+1∧k≠hg6∧k<w8.heap.size+1:=fun k hk=>by
  rcases hk with hk | hk | hk
  ·exact ⟨by omega,fun h=>by have:=hFl _ h;omega,by omega,by omega,by omega⟩
  ·have:=hf k hk
   exact ⟨by omega,fun h=>by have:=hFl _ h;omega,by omega,by omega,by omega⟩
  ·have:=hR k hk
   have h2:=hRl k hk
   exact ⟨by omega,(hsp.ro k hk).1,by omega,by omega,by omega⟩
 refine ⟨heap_alloc_new w8 _,hmm.only hpp (fun f=>f) (fun f=>f),?_,(hsp.only ho nF nR (fun e he=>by simp at he)).pure hpp,(hha.only ho (by omega) (by omega)).only hpp (fun f=>f) (fun f=>f),hs.pure hp8,hok,hal,fun k hk=>?_,?_,?_,fun k hk=>?_,fun k hk=>?_,?_⟩
 ·show Sd.At _ (mg+2+3) q.tb q.tg (mg+2+2) (.slice Option.none 0 0) (List.replicate f ⟨0,false,false⟩) sk false []
  rw [htb,htg]
  exact hsd'
 ·obtain ⟨a1,a2,a3,a4,a5⟩:=h0 k hk
  exact ⟨colF_0 (by omega) (by omega) (by omega) (by omega) (by omega) a2,by simpa using a5⟩
 ·exact ⟨colF_1 (by show w.heap.size≤mg+1;omega) (.inl rfl),colF_1 (by show w.heap.size≤mg;omega) (.inr rfl)⟩
 ·show colF _ _ _ _ _ _ _ _ _ _ q.tb=2∧colF _ _ _ _ _ _ _ _ _ _ q.tg=2
  rw [htb,htg]
  exact ⟨colF_2 (by omega) (by omega) (.inl rfl),colF_2 (by omega) (by omega) (.inr rfl)⟩
 ·have hk':k=mg+2+3∨k=mg+2+2:=by
   rcases hk with hk | hk | hk
   ·exact .inl hk
   ·exact .inr hk
   ·simp [Value.ownBlock] at hk
  exact colF_3 (by omega) (by omega) (by omega) hk'
 ·rcases hk with ⟨hk,h1,h2⟩ | ⟨e,he,_⟩
  ·have a1:=hF k hk
   have a2:=hFl k hk
   have h1':k≠mg+3:=fun e=>h1 (e.trans htb.symm)
   have h2':k≠mg+2:=fun e=>h2 (e.trans htg.symm)
   exact colF_4 (by omega) (by omega) (by omega) (by omega) (by omega) hk
  ·simp at he
 ·exact ⟨colF_5 (by show w.heap.size≤hg6+1;omega) (by show hg6+1≠_∧hg6+1≠_;omega) (by show hg6+1≠_∧hg6+1≠_;omega) (by show hg6+1≠_∧hg6+1≠_;omega) (.inl rfl),colF_5 (by show w.heap.size≤hg6;omega) (by show hg6≠_∧hg6≠_;omega) (by show hg6≠_∧hg6≠_;omega) (by show hg6≠_∧hg6≠_;omega) (.inr rfl)⟩
theorem new_one (c:Cn) (v:Value) (sh:List Sh) (w:World) (hc:ShsR w w.heap.size v sh) (hok:checkI c sh=0) (ht:c.threads=1) (hx:∀ s∈sh,s.bs.length≤1000000) :
  Calls Tryz.prog 21 #[cnV c v] w fun e w'=>∃ K κ,e=.returned (.tuple #[.pointer (some ⟨K.kb,0,Option.none⟩),.int .i64 0])∧Pure w w' ∧
   At w' c K κ ⟨words0 (8 * c.frags+2 * c.spine).toNat c.globals.toNat c.globals.toNat,.slice Option.none 0 0,false,[],⟨List.replicate c.frags.toNat ⟨0,false,false⟩,List.replicate c.frags.toNat true,c.spine,0,fun _=>0,0,.slice Option.none 0 0,[],.slice Option.none 0 0,[],false⟩,0,false,[-1]⟩ ∧
   K.most=c.stack.toNat∧K.q.ns=1∧alike sh K.csh∧∀ k,κ k≤5→w.heap.size≤k:=by
 obtain ⟨A,cc,rfl⟩:∃ A cc,v=.slice A sh.length cc:=by
  obtain ⟨⟨A,cc,rfl,_⟩,_⟩:=hc
  exact ⟨A,cc,rfl⟩
 have hb:=check_bd hok
 have hm:=check_more hok
 obtain ⟨f,hf⟩:∃ f:Nat,c.frags=f:=Int.eq_ofNat_of_zero_le (by omega)
 obtain ⟨sk,hsk⟩:∃ f:Nat,c.stack=f:=Int.eq_ofNat_of_zero_le (by omega)
 obtain ⟨g,hg⟩:∃ f:Nat,c.globals=f:=Int.eq_ofNat_of_zero_le (by omega)
 obtain ⟨n,hn⟩:∃ n:Nat,8 * c.frags+2 * c.spine=n:=Int.eq_ofNat_of_zero_le (by omega)
 rw [show c.frags.toNat=f from by omega,show c.stack.toNat=sk from by omega,show c.globals.toNat=g from by omega,show (8 * c.frags+2 * c.spine).toNat=n from by omega]
 have hr:=Row.new w c (.slice A sh.length cc)
 have HL:=hid (fun (w':World) (hp:Pure w w')=>hc.pure hp)
 have HX:=hid hx
 have HOK:=hid hok
 have HF:=hid hf
 have HSK:=hid hsk
 have HG:=hid hg
 have HN:=hid hn
 have HT:=hid ht
 have HR:=hid hr
 have HB:=hid hb
 have HM:=hid hm
 have hf1:f≤1024:=by omega
 have hs1:1≤sk:=by omega
 have hs2:sk≤256:=by omega
 have hg8:g≤8:=by omega
 have hn8:n≤20000:=by omega
 clear hc hx hr hok ht hf hsk hg hn hb hm
 go_enter Tryz.func21,Tryz.ntmps21
 go_upto_region 1 with fail
 have HZ0:Hid ((w.alloc (.cells #[.int .i64 c.frags,.int .i64 c.spine,.int .i64 c.globals,.int .i64 c.threads,.int .i64 c.locals,.int .i64 c.cache,.int .i64 c.stack,.int .i64 c.low,.slice A sh.length cc] 24)).heap.size=w.heap.size+1):=hid (by simp)
 generalize w.alloc (.cells #[.int .i64 c.frags,.int .i64 c.spine,.int .i64 c.globals,.int .i64 c.threads,.int .i64 c.locals,.int .i64 c.cache,.int .i64 c.stack,.int .i64 c.low,.slice A sh.length cc] 24)=W at *
 obtain ⟨k0,k1,k2,k3,k4,k5,k6,k7,k8,kf⟩:=HR.out.cells
 go_wp2_with fail
 refine (check_any c _ sh W (HL.out W HR.out.2.2)).mono ?_
 rw [HOK.out]
 rintro e w1 ⟨rfl,hp1⟩
 have hR1:=HR.out.keep hp1
 have R1:=hid hR1
 have HZ1:Hid (w.heap.size+1≤w1.heap.size):=hid (by have:=hp1.size;have:=HZ0.out;omega)
 clear k0 k1 k2 k3 k4 k5 k6 k7 k8 kf hp1 hR1
 obtain ⟨k0,k1,k2,k3,k4,k5,k6,k7,k8,kf⟩:=R1.out.cells
 go_wp2_with fail
 refine (words_any c _ sh w1 (HL.out w1 R1.out.2.2)).mono ?_
 rw [(z_ok HOK.out).1,(z_ok HOK.out).2.1,(z_ok HOK.out).2.2,show c.frags * 8+c.spine+c.spine+c.globals=((n+g:Nat):Int) from by have:=HN.out;have:=HG.out;omega]
 rintro e w2 ⟨rfl,hp2⟩
 have hR2:=R1.out.keep hp2
 have R2:=hid hR2
 have HZ2:Hid (w.heap.size+1≤w2.heap.size):=hid (by have:=hp2.size;have:=HZ1.out;omega)
 clear k0 k1 k2 k3 k4 k5 k6 k7 k8 kf hp2 hR2
 go_wp2_with fail
 refine (Mm.new_in (n+g) w2 (by omega)).mono ?_
 obtain ⟨mg,hmg⟩:∃ x,w2.heap.size=x:=⟨_,rfl⟩
 rw [hmg]
 rintro e w3 ⟨rfl,hp3,hz3,h3⟩
 have hR3:=R2.out.keep hp3
 have R3:=hid hR3
 have HMM3:=hid h3
 have HMG:Hid (w.heap.size+1≤mg):=hid (by have:=HZ2.out;omega)
 have HZ3:Hid (w3.heap.size=mg+2):=hid (by omega)
 clear hp3 hR3 h3 hz3 hmg R2 HZ2
 obtain ⟨k0,k1,k2,k3,k4,k5,k6,k7,k8,kf⟩:=R3.out.cells
 rw [HF.out] at k0
 rw [HSK.out] at k6
 go_wp2_with fail
 refine (Sd.new_in f sk w3 hf1 hs1 hs2).mono ?_
 rw [HZ3.out]
 rintro e w4 ⟨rfl,hp4,hz4,h4⟩
 have hR4:=R3.out.keep hp4
 have R4:=hid hR4
 have HMM4:=hid (HMM3.out.only hp4 (fun f=>f) (fun f=>f))
 have HSD4:=hid h4
 have HZ4:Hid (w4.heap.size=mg+6):=hid (by omega)
 clear k0 k1 k2 k3 k4 k5 k6 k7 k8 kf hp4 hR4 h4 hz4 R3 HMM3
 obtain ⟨k0,k1,k2,k3,k4,k5,k6,k7,k8,kf⟩:=R4.out.cells
 obtain ⟨s0,-,-⟩:=HSD4.out.cs
 have hlt:((List.replicate f (⟨0,false,false⟩:Tab.One)).length:Int)=c.frags:=by rw [List.length_replicate,HF.out]
 have HLT:=hid hlt
 clear hlt
 go_wp2_with fail
 go_region_with (first | (go_at_call 48;refine (table_any (mg+3) _).mono ?_;rintro e w5 ⟨rfl,hp5⟩;have hp45:Pure w4 w5:=Pure.then ((Only.refl (fun _=>False) w4).drewN 1) hp5;have HP45:=hid hp45;have hR5:=R4.out.keep hp45;obtain ⟨j0,j1,j2,j3,j4,j5,j6,j7,j8,jf⟩:=hR5.cells;clear hp5 hp45 hR5) | (go_at_call 47;refine (Sp.new_one c _ sh (mg+3) (mg+2) _ _ (HL.out _ (R4.out.keep HP45.out).2.2) HOK.out HT.out HX.out (HSD4.out.tab.only HP45.out (fun f=>f) (fun f=>f)) HLT.out).mono ?_;rintro e w6 ⟨q,ssh,rfl,hp6,h6⟩;have H6:=hid h6;have HP6:=hid (Pure.then HP45.out hp6);clear hp6 h6))
 all_goals
  obtain ⟨h6,etb,etg,ens,eal,hFq,hRq⟩:=H6.out
  have hR6:=R4.out.keep HP6.out
  have R6:=hid hR6
  have HMM6:=hid (HMM4.out.only HP6.out (fun f=>f) (fun f=>f))
  have HSD6:=hid (HSD4.out.pure HP6.out)
  have HSP6:=hid h6
  have HQ6:=hid (And.intro etb (And.intro etg (And.intro ens (And.intro eal (And.intro hFq hRq)))))
  have HZ5:Hid (mg+6≤w5.heap.size):=hid (by have:=HP45.out.size;have:=HZ4.out;omega)
  have HZ6:Hid (mg+6≤w6.heap.size):=hid (by have:=HP6.out.size;have:=HZ4.out;omega)
  clear h6 etb etg ens eal hFq hRq hR6 H6 k0 k1 k2 k3 k4 k5 k6 k7 k8 kf s0 R4 HMM4 HSD4 HP6 HP45
  obtain ⟨k0,k1,k2,k3,k4,k5,k6,k7,k8,kf⟩:=R6.out.cells
  rw [HT.out] at k3
  try clear j0 j1 j2 j3 j4 j5 j6 j7 j8 jf
  go_wp2_with fail
  refine (Ha.new_in 1 w6 (by omega) (by omega)).mono ?_
  obtain ⟨hg6,hhg⟩:∃ x,w6.heap.size=x:=⟨_,rfl⟩
  rw [hhg]
  rintro e w7 ⟨rfl,hp7,hz7,h7⟩
  have hR7:=R6.out.keep hp7
  have R7:=hid hR7
  have HMM7:=hid (words0_zero n g ▸ HMM6.out.only hp7 (fun f=>f) (fun f=>f))
  have HSD7:=hid (HSD6.out.pure hp7)
  have HSP7:=hid (HSP6.out.pure hp7)
  have HHA7:=hid h7
  have HHG:Hid (mg+6≤hg6∧w6.heap.size=hg6):=hid (by have:=HZ6.out;omega)
  have HZ7:Hid (w7.heap.size=hg6+2):=hid (by omega)
  have HSPL:=hid (And.intro (fun k hk=>hhg ▸ HSP6.out.lt k hk) (fun k hk=>hhg ▸ (HSP6.out.ro k hk).2))
  clear k0 k1 k2 k3 k4 k5 k6 k7 k8 kf hp7 hR7 h7 hz7 hhg R6 HMM6 HSD6 HSP6
  obtain ⟨k0,k1,k2,k3,k4,k5,k6,k7,k8,kf⟩:=R7.out.cells
  rw [HG.out] at k2
  go_wp2_with fail
  go_loopw [62] (fun i wr=>∃ j:Nat,j≤g∧i=.int .i64 (j:Int)∧Only (fun k=>k=mg+1∨k=mg) w7 wr∧Mm.At wr (mg+1) mg (words0 n g j)) (fun i _=>g-(intOf i).toNat)
  case atStart=>exact ⟨0,Nat.zero_le _,rfl,Only.refl _ _,HMM7.out⟩
  case round =>
   obtain ⟨j,hj,rfl,ho,hmm⟩:=hrel
   have hRr:Row w w.heap.size c (.slice A sh.length cc) wr:=⟨R7.out.1,ho.blk R7.out.2.1 (fun e=>by have:=HMG.out;omega),R7.out.2.2.trans ho (fun i hi e=>by have:=HMG.out;omega)⟩
   have RR:=hid hRr
   have HO:=hid ho
   have HMM:=hid hmm
   clear hRr ho hmm k0 k1 k2 k3 k4 k5 k6 k7 k8 kf
   obtain ⟨k0,k1,k2,k3,k4,k5,k6,k7,k8,kf⟩:=RR.out.cells
   by_cases hlt:j<g
   ·have hlt':(j:Int)<c.globals:=by rw [HG.out];omega
    have HLT2:=hid hlt'
    clear hlt'
    go_wp2_with fail
    refine (global_in c _ sh j wr (HL.out wr RR.out.2.2) HOK.out (by omega) HLT2.out).mono ?_
    rw [show 8 * c.frags+2 * c.spine+(j:Int)=((n+j:Nat):Int) from by have:=HN.out;omega]
    rintro e w8 ⟨rfl,hp8⟩
    have HP8:=hid hp8
    have HMM8:=hid (HMM.out.only hp8 (fun f=>f) (fun f=>f))
    clear hp8
    go_wp2_with fail
    refine (none_any w8).mono ?_
    rintro e w9 ⟨rfl,rfl⟩
    go_wp2_with fail
    refine (Mm.lay_in (mg+1) mg (words0 n g j) (n+j) 0 4607182418800017408 w8 HMM8.out (by rw [words0_length hj];omega)).mono ?_
    rw [show (0,4607182418800017408)=none from rfl,words0_set hlt]
    rintro e w9 ⟨rfl,o9,h9⟩
    have o9':Only (fun k=>k=mg+1∨k=mg) w7 w9:=(HO.out.trans (HP8.out.mono (fun _ _ f=>f.elim)) (fun _ _ h=>h)).trans o9 (fun _ _ h=>h)
    have O9:=hid o9'
    have H9:=hid h9
    clear o9 o9' h9
    go_wp2_with fail
    go_roundw
    case rel=>exact ⟨j+1,hlt,by go_num,O9.out,H9.out⟩
    case measure=>simp [intOf];omega
   ·obtain rfl:j=g:=by omega
    clear hlt
    go_wp2_with fail
    refine (copy_in c _ sh wr (HL.out wr RR.out.2.2) HOK.out HX.out).mono ?_
    rintro e w8 ⟨A8,d8,m8,rfl,hp8,hs8,hf8,ha8⟩
    have HP8:=hid hp8
    have HS8:=hid hs8
    have HF8:Hid (∀ k,CfS (.slice A8 sh.length d8) m8 k→hg6+2≤k∧k<w8.heap.size):=hid (fun k hk=>by have:=hf8 k hk;have:=HO.out.size;have:=HZ7.out;omega)
    have HA8:=hid ha8
    have HZ8:Hid (hg6+2≤w8.heap.size):=hid (by have:=hp8.size;have:=HO.out.size;have:=HZ7.out;omega)
    clear hp8 hs8 hf8 ha8 k0 k1 k2 k3 k4 k5 k6 k7 k8 kf
    go_wp2_with fail
    go_ret2
    have hpw:=RR.out.2.2.then HP8.out
    obtain ⟨etb,etg,ens,eal,hFq,hRq⟩:=HQ6.out
    have hrep:(List.replicate f (⟨0,false,false⟩:Tab.One)).length=f:=List.length_replicate
    have hsp:=HSP7.out
    have hlt:=HSPL.out
    rw [hrep] at hsp hFq hlt
    have hal:alike m8 ssh:=HA8.out.symm.trans eal
    refine ⟨⟨w8.heap.size,mg+1,mg,mg+2+3,mg+2+2,hg6+1,hg6,sk,.slice A8 sh.length d8,m8,ssh,q⟩,_,rfl,hpw.then ((Only.refl (fun _=>False) w8).alloc _),done_new HMG.out HZ5.out etb etg hFq hRq hlt.1 hlt.2 HHG.out.1 HZ7.out HSD7.out hsp HHA7.out HO.out HMM.out HP8.out HS8.out HF8.out HZ8.out (HA8.out.check c ▸ HOK.out) hal,rfl,ens,HA8.out,fun k hk=>?_⟩
    refine Nat.le_of_not_lt fun hlt=>?_
    rw [colF_old hlt] at hk
    omega
end Cor
open Go.RowKit
open Ac (Vl vals vlL OpD opCells opL)
theorem val_info:(Tryz.prog.info? 44).map (fun i=>(i.zero,i.size,i.bytes))=some (some (.agg #[.bool false,.complex .f64 0 0]),2,24):=by kernel_rfl
theorem op_info:(Tryz.prog.info? 32).map (fun i=>(i.zero,i.size,i.bytes))=some (some (.agg #[.int .i64 0,.int .i64 0,.int .i64 0,.int .i64 0,.int .i64 0,.complex .f64 0 0]),6,56):=by kernel_rfl
theorem vals_one (l:List Vl):∀ u∈vals l,u.oneCell'=true:=by
 intro u hu
 simp only [vals,List.mem_flatMap,vlL] at hu
 obtain ⟨v,_,hu⟩:=hu
 simp only [List.mem_cons,List.not_mem_nil,or_false] at hu
 rcases hu with rfl | rfl <;> rfl
theorem ops_one (l:List OpD):∀ u∈opCells l,u.oneCell'=true:=by
 intro u hu
 simp only [opCells,List.mem_flatMap,opL] at hu
 obtain ⟨v,_,hu⟩:=hu
 simp only [List.mem_cons,List.not_mem_nil,or_false] at hu
 rcases hu with rfl | rfl | rfl | rfl | rfl | rfl <;> rfl
theorem cloneV (l:List Vl) (g n c:Nat) (w:World) (hg:g<w.heap.size) (hs:Src w 2 (some ⟨g,0,none⟩) n (vals l)) (hx:n≤1000000) :
  Calls Tryz.prog 78 #[.slice (some ⟨g,0,none⟩) n c] w fun e w'=>∃ v',e=.returned v'∧Pure w w'∧w'.ownsRow w.heap.size 44 2 v' n (vals l):=by
 obtain ⟨i0,hi0,hz0,hz1,hz2⟩:=info_parts val_info
 have hs':Src (w.alloc (.cells #[] 44)) 2 (some ⟨g,0,none⟩) n (vals l):=hs.below ((Below.refl w.heap.size w).alloc (Nat.le_refl _) _) (fun b hm e=>by injection e with e;subst e;exact hg)
 have heq:=fun w:World=>Lib.run_eql_slice_nil (P:=Tryz.prog) w 61 44 (some ⟨g,0,none⟩) n c 0 0 Tryz.underlying61
 clear hs
 go_enter Tryz.func78,Tryz.ntmps78
 go_wp2_with (at_builtin;refine wpList_app _ rfl (.tmp 5) (.tmp 6) _ rfl w.heap.size 44 i0 _ 2 24 Tryz.underlying61 hi0 hz0 hz1 hz2 rfl (by omega) _ 0 [] rfl (World.ownsRow_made w #[] 0 (Nat.le_refl _) (by simp [maxLen]) rfl) _ _ _ _ rfl hs' (vals_one l) (by simp only [maxLen];omega) (by omega) (by simp) ?_;intro v1 w1 hown1 hg1 hat1)
 go_ret
 refine ⟨_,rfl,((Only.refl _ _).alloc _).grown hg1 (fun k hk e=>?_),by simpa using hown1⟩
 injection e with e
 exact absurd e (Nat.ne_of_gt hk)
theorem cloneO (l:List OpD) (g n c:Nat) (w:World) (hg:g<w.heap.size) (hs:Src w 6 (some ⟨g,0,none⟩) n (opCells l)) (hx:n≤1000000) :
  Calls Tryz.prog 54 #[.slice (some ⟨g,0,none⟩) n c] w fun e w'=>∃ v',e=.returned v'∧Pure w w'∧w'.ownsRow w.heap.size 32 6 v' n (opCells l):=by
 obtain ⟨i0,hi0,hz0,hz1,hz2⟩:=info_parts op_info
 have hs':Src (w.alloc (.cells #[] 32)) 6 (some ⟨g,0,none⟩) n (opCells l):=hs.below ((Below.refl w.heap.size w).alloc (Nat.le_refl _) _) (fun b hm e=>by injection e with e;subst e;exact hg)
 have heq:=fun w:World=>Lib.run_eql_slice_nil (P:=Tryz.prog) w 29 32 (some ⟨g,0,none⟩) n c 0 0 Tryz.underlying29
 clear hs
 go_enter Tryz.func54,Tryz.ntmps54
 go_wp2_with (at_builtin;refine wpList_app _ rfl (.tmp 5) (.tmp 6) _ rfl w.heap.size 32 i0 _ 6 56 Tryz.underlying29 hi0 hz0 hz1 hz2 rfl (by omega) _ 0 [] rfl (World.ownsRow_made w #[] 0 (Nat.le_refl _) (by simp [maxLen]) rfl) _ _ _ _ rfl hs' (ops_one l) (by simp only [maxLen];omega) (by omega) (by simp) ?_;intro v1 w1 hown1 hg1 hat1)
 go_ret
 refine ⟨_,rfl,((Only.refl _ _).alloc _).grown hg1 (fun k hk e=>?_),by simpa using hown1⟩
 injection e with e
 exact absurd e (Nat.ne_of_gt hk)
section
variable {w:World} {c:Cn} {K:Cor.Q} {κ:Nat→Nat} {m:Cor.St} {b:Ac.B} {s:Ac.St} {yb hb lg:Nat} {y:Cyc.St}
theorem started_in (w:World) (h:Cyc.At w yb y):Calls Tryz.prog 34 #[.pointer (some ⟨yb,0,none⟩)] w fun e w'=>e=.returned (.int .i64 (y.started:Int))∧w=w':=by
 have p:=h.p8
 clear h
 go_enter Tryz.func34,Tryz.ntmps34
 go_wp2_with fail
 go_ret
 exact ⟨rfl,rfl⟩
theorem finished_in (w:World) (h:Cyc.At w yb y):Calls Tryz.prog 35 #[.pointer (some ⟨yb,0,none⟩)] w fun e w'=>e=.returned (.int .i64 (y.finished:Int))∧w=w':=by
 have p:=h.p9
 clear h
 go_enter Tryz.func35,Tryz.ntmps35
 go_wp2_with fail
 go_ret
 exact ⟨rfl,rfl⟩
theorem cerrno_in (w:World) (h:Cyc.At w yb y):Calls Tryz.prog 71 #[.pointer (some ⟨yb,0,none⟩)] w fun e w'=>e=.returned (.int .i64 0)∧w=w':=by
 have p:=h.p13
 clear h
 go_enter Tryz.func71,Tryz.ntmps71
 go_wp2_with fail
 go_ret
 exact ⟨rfl,rfl⟩
theorem phase_in (w:World) (h:Ac.At w κ b s):Calls Tryz.prog 36 #[.pointer (some ⟨b.ab,0,none⟩)] w fun e w'=>e=.returned (.int .i64 s.phase)∧w=w':=by
 have p:=h.p3
 clear h
 go_enter Tryz.func36,Tryz.ntmps36
 go_wp2_with fail
 go_ret
 exact ⟨rfl,rfl⟩
theorem status_in (w:World) (h:Ac.At w κ b s):Calls Tryz.prog 37 #[.pointer (some ⟨b.ab,0,none⟩)] w fun e w'=>e=.returned (.int .i64 s.status)∧w=w':=by
 have p:=h.p4
 clear h
 go_enter Tryz.func37,Tryz.ntmps37
 go_wp2_with fail
 go_ret
 exact ⟨rfl,rfl⟩
theorem locals_in (w:World) (h:Ac.At w κ b s):Calls Tryz.prog 38 #[.pointer (some ⟨b.ab,0,none⟩)] w fun e w'=>∃ v',e=.returned v'∧Pure w w'∧w'.ownsRow w.heap.size 44 2 v' s.locals.length (vals s.locals):=by
 have p2:=h.p2
 have hll:=h.ll
 have hfew:=h.few
 have hs:Src w 2 (some ⟨b.lg,0,none⟩) s.locals.length (vals s.locals):=⟨Ac.vl_len _,fun _=>⟨b.lg,0,rfl,fun j u hu=>by rw [Nat.zero_add,cell_of_row w _ _ _ _ _ h.loc];simpa using hu⟩⟩
 have HS:=hid hs
 clear h hs
 go_enter Tryz.func38,Tryz.ntmps38
 go_wp2_with fail
 refine (cloneV s.locals b.lg s.locals.length s.locals.length w hll HS.out (by omega)).mono ?_
 rintro e w2 ⟨v2,rfl,hp2,ho2⟩
 obtain ⟨A2,c2,rfl⟩:=own_form ho2
 have HP:=hid (And.intro hp2 ho2)
 clear hp2 ho2
 go_wp2_with fail
 go_ret
 exact ⟨_,rfl,HP.out⟩
theorem cycles_in (w:World) (h:Cyc.At w yb y):Calls Tryz.prog 12 #[.agg #[.pointer (some ⟨yb,0,none⟩)]] w fun e w'=>e=.returned (.tuple #[.int .i64 (y.started:Int),.int .i64 (y.finished:Int)])∧Pure w w':=by
 obtain ⟨hp,-,hr⟩:=Ac.one_new w #[.pointer (some ⟨yb,0,none⟩)] 56
 have HP:=hid hp
 have HC:Hid (Cyc.At (w.alloc (.cells #[.pointer (some ⟨yb,0,none⟩)] 56)) yb y):=hid (h.only hp (fun f=>f))
 have c0:(w.alloc (.cells #[.pointer (some ⟨yb,0,none⟩)] 56)).cell? ⟨w.heap.size,0,none⟩=some (.pointer (some ⟨yb,0,none⟩)):=by rw [cell_of_row _ _ _ _ _ _ hr];rfl
 clear hp hr h
 go_enter Tryz.func12,Tryz.ntmps12
 go_upto_region 1 with fail
 generalize w.alloc (.cells #[.pointer (some ⟨yb,0,none⟩)] 56)=w1 at *
 generalize w.heap.size=X at *
 go_wp2_with fail
 go_quiet ((first | (go_at_call 34;exact Calls.quiet_of_same ((started_in _ (HC.out.only ((Only.refl (fun _=>False) w1).drewN _) (fun f=>f))).mono fun _ _ h=>⟨h.1,h.2.symm⟩)) | (go_at_call 35;exact Calls.quiet_of_same ((finished_in _ (HC.out.only ((Only.refl (fun _=>False) w1).drewN _) (fun f=>f))).mono fun _ _ h=>⟨h.1,h.2.symm⟩))))
 go_wp2_with fail
 go_ret2
 exact ⟨rfl,HP.out.then ((Only.refl (fun _=>False) w1).drewN _)⟩
theorem herrno_in (w:World) (h:Cyc.At w yb y):Calls Tryz.prog 27 #[.agg #[.pointer (some ⟨yb,0,none⟩)]] w fun e w'=>e=.returned (.int .i64 0)∧Pure w w':=by
 obtain ⟨hp,-,hr⟩:=Ac.one_new w #[.pointer (some ⟨yb,0,none⟩)] 56
 have HP:=hid hp
 have HC:Hid (Cyc.At (w.alloc (.cells #[.pointer (some ⟨yb,0,none⟩)] 56)) yb y):=hid (h.only hp (fun f=>f))
 have c0:(w.alloc (.cells #[.pointer (some ⟨yb,0,none⟩)] 56)).cell? ⟨w.heap.size,0,none⟩=some (.pointer (some ⟨yb,0,none⟩)):=by rw [cell_of_row _ _ _ _ _ _ hr];rfl
 clear hp hr h
 go_enter Tryz.func27,Tryz.ntmps27
 go_upto_region 1 with fail
 generalize w.alloc (.cells #[.pointer (some ⟨yb,0,none⟩)] 56)=w1 at *
 generalize w.heap.size=X at *
 go_wp2_with fail
 refine (cerrno_in w1 HC.out).mono ?_
 rintro e w2 ⟨rfl,rfl⟩
 go_wp2_with fail
 go_ret
 exact ⟨rfl,HP.out⟩
theorem counts_h (w:World) (h:Mac w c K κ m b s yb y hb lg):Calls Tryz.prog 26 #[.pointer (some ⟨hb,0,none⟩)] w fun e w'=>e=.returned (.tuple #[.int .i64 (Tab.cnt m.s.l 0:Int),.int .i64 (Tab.cnt m.s.l 1:Int),.int .i64 (Tab.cnt m.s.l 2:Int)])∧Pure w w':=by
 have g0:=h.hp.p0
 have q10:=h.cys.sys.cor.q10
 have t0:=h.cys.sys.cor.shade.cs.1
 have HM:=hid h
 clear h
 go_enter Tryz.func26,Tryz.ntmps26
 go_wp2_with fail
 refine (Cor.table_any K.q.tb w).mono ?_
 rintro e w1 ⟨rfl,hp1⟩
 have HM1:=hid (HM.out.pure hp1)
 have HP1:=hid hp1
 clear hp1 g0 q10 t0
 go_wp2_with fail
 refine (Tab.counts_any K.q.tb K.q.tg m.s.l w1 HM1.out.cys.sys.cor.shade.tab).mono ?_
 rintro e w2 ⟨rfl,hp2⟩
 go_wp2_with fail
 go_ret3
 exact ⟨rfl,HP1.out.then hp2⟩
theorem state_h (j:Nat) (o:Tab.One) (w:World) (h:Mac w c K κ m b s yb y hb lg) (hj:m.s.l[j]?=some o):Calls Tryz.prog 32 #[.pointer (some ⟨hb,0,none⟩),.int .i64 (j:Int)] w fun e w'=>e=.returned (.int .i64 o.st)∧Pure w w':=by
 have g0:=h.hp.p0
 have q10:=h.cys.sys.cor.q10
 have t0:=h.cys.sys.cor.shade.cs.1
 have HM:=hid h
 clear h
 go_enter Tryz.func32,Tryz.ntmps32
 go_wp2_with fail
 refine (Cor.table_any K.q.tb w).mono ?_
 rintro e w1 ⟨rfl,hp1⟩
 have HM1:=hid (HM.out.pure hp1)
 have HP1:=hid hp1
 clear hp1 g0 q10 t0
 go_wp2_with fail
 refine (Tab.state_in K.q.tb K.q.tg m.s.l j o w1 HM1.out.cys.sys.cor.shade.tab hj).mono ?_
 rintro e w2 ⟨rfl,rfl⟩
 go_wp2_with fail
 go_ret
 exact ⟨rfl,HP1.out⟩
theorem head_h (j:Nat) (o:Tab.One) (w:World) (h:Mac w c K κ m b s yb y hb lg) (hj:m.s.l[j]?=some o):Calls Tryz.prog 133 #[.pointer (some ⟨hb,0,none⟩),.int .i64 (j:Int)] w fun e w'=>e=.returned (.bool o.head)∧Pure w w':=by
 have g0:=h.hp.p0
 have q10:=h.cys.sys.cor.q10
 have t0:=h.cys.sys.cor.shade.cs.1
 have HM:=hid h
 clear h
 go_enter Tryz.func133,Tryz.ntmps133
 go_wp2_with fail
 refine (Cor.table_any K.q.tb w).mono ?_
 rintro e w1 ⟨rfl,hp1⟩
 have HM1:=hid (HM.out.pure hp1)
 have HP1:=hid hp1
 clear hp1 g0 q10 t0
 go_wp2_with fail
 refine (Tab.head_in K.q.tb K.q.tg m.s.l j o w1 HM1.out.cys.sys.cor.shade.tab hj).mono ?_
 rintro e w2 ⟨rfl,rfl⟩
 go_wp2_with fail
 go_ret
 exact ⟨rfl,HP1.out⟩
theorem peek_h (j:Nat) (z:Nat × Nat) (w:World) (h:Mac w c K κ m b s yb y hb lg) (hz:m.words[j]?=some z):Calls Tryz.prog 132 #[.pointer (some ⟨hb,0,none⟩),.int .i64 (j:Int)] w fun e w'=>e=.returned (.complex .f64 z.1 z.2)∧w=w':=by
 have g0:=h.hp.p0
 have q9:=h.cys.sys.cor.q9
 have HM:=hid h
 clear h
 go_enter Tryz.func132,Tryz.ntmps132
 go_wp2_with fail
 refine (Cor.peek j z w HM.out.cys.sys.cor hz).mono ?_
 rintro e w2 ⟨rfl,rfl⟩
 go_wp2_with fail
 go_ret
 exact ⟨rfl,rfl⟩
theorem thread_h (w:World) (h:Mac w c K κ m b s yb y hb lg):Calls Tryz.prog 13 #[.pointer (some ⟨hb,0,none⟩),.int .i64 0] w fun e w'=>∃ v',e=.returned (.tuple #[.int .i64 s.phase,.int .i64 s.status,v'])∧Pure w w'∧w'.ownsRow w.heap.size 44 2 v' s.locals.length (vals s.locals):=by
 obtain ⟨cc,g2⟩:=h.hp.p2
 have gr:=h.hp.row
 have HM:=hid h
 clear h
 go_enter Tryz.func13,Tryz.ntmps13
 go_wp2_with fail
 refine (phase_in w HM.out.cys.sys.act).mono ?_
 rintro e w2 ⟨rfl,rfl⟩
 go_wp2_with fail
 refine (status_in w HM.out.cys.sys.act).mono ?_
 rintro e w2 ⟨rfl,rfl⟩
 go_wp2_with fail
 refine (locals_in w HM.out.cys.sys.act).mono ?_
 rintro e w2 ⟨v2,rfl,hp2,ho2⟩
 obtain ⟨A2,c2,rfl⟩:=own_form ho2
 have HP:=hid (And.intro hp2 ho2)
 clear hp2 ho2
 go_wp2_with fail
 go_ret3
 exact ⟨_,rfl,HP.out⟩
theorem conf_h (w:World) (h:Mac w c K κ m b s yb y hb lg) (hx:∀ s∈K.csh,s.bs.length≤1000000):Calls Tryz.prog 28 #[.pointer (some ⟨hb,0,none⟩)] w fun e w'=>∃ A d n,e=.returned (cnV c (.slice A K.csh.length d))∧Pure w w'∧ShsR w' w'.heap.size (.slice A K.csh.length d) n∧alike K.csh n∧(∀ k,CfS (.slice A K.csh.length d) n k→w.heap.size≤k∧k<w'.heap.size):=by
 obtain ⟨Av,cv,hcv⟩:∃ A cc,K.cv=.slice A K.csh.length cc:=by
  obtain ⟨⟨A,cc,h,_⟩,_⟩:=h.cys.sys.cor.conf
  exact ⟨A,cc,h⟩
 obtain ⟨hp,-,hr⟩:=Ac.one_new w #[.int .i64 0,.int .i64 0,.int .i64 0,.int .i64 0,.int .i64 0,.int .i64 0,.int .i64 0,.int .i64 0,.slice none 0 0] 24
 have HP:=hid hp
 have HM:=hid (h.pure hp)
 have HR:=hid hr
 have HCV:=hid hcv
 have HX:=hid hx
 have HSZ:Hid ((w.alloc (.cells #[.int .i64 0,.int .i64 0,.int .i64 0,.int .i64 0,.int .i64 0,.int .i64 0,.int .i64 0,.int .i64 0,.slice none 0 0] 24)).heap.size=w.heap.size+1):=hid (by simp)
 clear hp hr h hcv hx
 go_enter Tryz.func28,Tryz.ntmps28
 go_upto_region 1 with fail
 generalize w.alloc (.cells #[.int .i64 0,.int .i64 0,.int .i64 0,.int .i64 0,.int .i64 0,.int .i64 0,.int .i64 0,.int .i64 0,.slice none 0 0] 24)=w1 at *
 obtain ⟨k0,k1,k2,k3,k4,k5,k6,k7,k8⟩:=HM.out.cys.sys.cor.qc
 rw [HCV.out] at k8
 have g0:=HM.out.hp.p0
 go_wp2_with fail
 refine (copy_in c _ K.csh w1 (HCV.out ▸ HM.out.cys.sys.cor.conf) HM.out.cys.sys.cor.ok HX.out).mono ?_
 rintro e w2 ⟨A2,d2,m2,rfl,hp2,hs2,hf2,ha2⟩
 have HR2:=hid (hp2.blk HR.out)
 have HF2:=hid (And.intro (HP.out.then hp2) (And.intro hs2 (And.intro ha2 hf2)))
 clear hp2 hs2 hf2 ha2 k0 k1 k2 k3 k4 k5 k6 k7 k8 g0 HR
 have zc:∀ j u,(#[.int .i64 0,.int .i64 0,.int .i64 0,.int .i64 0,.int .i64 0,.int .i64 0,.int .i64 0,.int .i64 0,.slice none 0 0]:Array Value)[j]?=some u→w2.cell? ⟨w.heap.size,j,none⟩=some u:=fun j u hu=>by rw [cell_of_row w2 _ _ _ _ _ HR2.out];exact hu
 have z0:=zc 0 _ rfl
 have z1:=zc 1 _ rfl
 have z2:=zc 2 _ rfl
 have z3:=zc 3 _ rfl
 have z4:=zc 4 _ rfl
 have z5:=zc 5 _ rfl
 have z6:=zc 6 _ rfl
 have z7:=zc 7 _ rfl
 have z8:=zc 8 _ rfl
 have f1:=fun k=>frozen_of_row w2 w.heap.size k _ _ HR2.out
 clear zc
 go_wp2_with fail
 have hw1:=HSZ.out
 refine bodyPost_ret (v:=cnV c (.slice A2 K.csh.length d2)) (by simp [results,Tryz.results28,go_sem,z0,z1,z2,z3,z4,z5,z6,z7,z8]) rfl ⟨A2,d2,m2,rfl,(Ac.Only.new (Ac.Only.new (Ac.Only.new (Ac.Only.new (Ac.Only.new (Ac.Only.new (Ac.Only.new (Ac.Only.new (Ac.Only.new HF2.out.1 w.heap.size 0 (.int .i64 c.frags) (Nat.le_refl _)) w.heap.size 1 (.int .i64 c.spine) (Nat.le_refl _)) w.heap.size 2 (.int .i64 c.globals) (Nat.le_refl _)) w.heap.size 3 (.int .i64 c.threads) (Nat.le_refl _)) w.heap.size 4 (.int .i64 c.locals) (Nat.le_refl _)) w.heap.size 5 (.int .i64 c.cache) (Nat.le_refl _)) w.heap.size 6 (.int .i64 c.stack) (Nat.le_refl _)) w.heap.size 7 (.int .i64 c.low) (Nat.le_refl _)) w.heap.size 8 (.slice A2 K.csh.length d2) (Nat.le_refl _)),HF2.out.2.1.only ((((((((((Only.refl (fun q=>q=w.heap.size) w2).setCell (p:=⟨w.heap.size,0,none⟩) (fun _=>rfl) (.int .i64 c.frags)).setCell (p:=⟨w.heap.size,1,none⟩) (fun _=>rfl) (.int .i64 c.spine)).setCell (p:=⟨w.heap.size,2,none⟩) (fun _=>rfl) (.int .i64 c.globals)).setCell (p:=⟨w.heap.size,3,none⟩) (fun _=>rfl) (.int .i64 c.threads)).setCell (p:=⟨w.heap.size,4,none⟩) (fun _=>rfl) (.int .i64 c.locals)).setCell (p:=⟨w.heap.size,5,none⟩) (fun _=>rfl) (.int .i64 c.cache)).setCell (p:=⟨w.heap.size,6,none⟩) (fun _=>rfl) (.int .i64 c.stack)).setCell (p:=⟨w.heap.size,7,none⟩) (fun _=>rfl) (.int .i64 c.low)).setCell (p:=⟨w.heap.size,8,none⟩) (fun _=>rfl) (.slice A2 K.csh.length d2)) (fun k hk e=>by have:=(HF2.out.2.2.2 k hk).1;omega),HF2.out.2.2.1,fun k hk=>⟨by have:=(HF2.out.2.2.2 k hk).1;omega,by have:=(HF2.out.2.2.2 k hk).2;simpa [World.setCell] using this⟩⟩
end
end Go.Proofs.YtpgdiceeimehiaaGreat
