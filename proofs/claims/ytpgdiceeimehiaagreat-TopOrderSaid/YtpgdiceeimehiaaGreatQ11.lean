/- Part 11 of the proof that spotop.TopOrder returns true for all arguments and leaves what was there as it was. -/
import Derived.Test.YtpgdiceeimehiaaGreatQ10
set_option maxRecDepth 100000
set_option maxHeartbeats 16000000
open Go.Lib (hid)
namespace Go.Proofs.YtpgdiceeimehiaaGreat
open Go.RowKit
namespace Po
theorem lowF_lt (l:List Bool) (k:Nat):∀ (q p:Nat) (acc:List Nat),(∀ x∈acc,x<p)→∀ x∈lowF l k q p acc,x<p+q:=by
 intro q
 induction q with
 | zero=>intro p acc h x hx;exact h x hx
 | succ q ih =>
  intro p acc h x hx
  unfold lowF at hx
  split at hx
  ·have:=ih (p+1) _ (by
    intro y hy
    split at hy
    ·rcases List.mem_append.1 hy with hy | hy
     ·have:=h y hy;omega
     ·simp at hy;omega
    ·have:=h y hy;omega) x hx
   omega
  ·have:=h x hx;omega
theorem low_lt (l:List Bool) (k:Nat):∀ x∈low l k,x<l.length:=fun x hx=>by
 have:=lowF_lt l k l.length 0 [] (by simp) x hx
 omega
theorem take_lt (l:List Bool) (k:Nat) (hk:1≤k):∀ x∈take l k,x<l.length:=fun x hx=>by
 unfold take at hx
 split at hx
 ·rename_i i hi
  have hm:=List.mem_range'_1.1 hx
  have:=run_spec hk hi (x-i) (by omega)
  rw [show i+(x-i)=x from by omega] at this
  exact (List.getElem?_eq_some_iff.1 this).1
 ·exact low_lt l k x hx
theorem lowF_len (l:List Bool) (k:Nat):∀ (q p:Nat) (acc:List Nat),acc.length≤k→(lowF l k q p acc).length≤k:=by
 intro q
 induction q with
 | zero=>intro p acc h;exact h
 | succ q ih =>
  intro p acc h
  unfold lowF
  split
  ·refine ih _ _ ?_
   split
   ·simp;omega
   ·exact h
  ·exact h
theorem low_len (l:List Bool) (k:Nat):(low l k).length≤k:=lowF_len l k _ _ _ (by simp)
theorem natI_range (xs:List Nat) (h:∀ x∈xs,x<1000000):∀ x∈natI xs,-9223372036854775808≤x∧x≤9223372036854775807:=by
 intro x hx
 obtain ⟨y,hy,rfl⟩:=List.mem_map.1 hx
 have:=h y hy
 omega
theorem lowF_full (l:List Bool) (k:Nat):∀ (q p:Nat) (acc:List Nat),p+q=l.length→acc.length≤k→k≤acc.length+cnt (l.drop p)→(lowF l k q p acc).length=k:=by
 intro q
 induction q with
 | zero =>
  intro p acc hp h1 h2
  rw [List.drop_of_length_le (by omega)] at h2
  simp only [cnt,List.countP_nil] at h2
  show acc.length=k
  omega
 | succ q ih =>
  intro p acc hp h1 h2
  have hpl:p<l.length:=by omega
  have hd:l.drop p=l[p] :: l.drop (p+1):=List.drop_eq_getElem_cons hpl
  have hg:l.getD p false=l[p]:=by simp [List.getD,List.getElem?_eq_getElem hpl]
  unfold lowF
  split
  ·rw [hd] at h2
   rw [hg]
   by_cases hb:l[p]=true
   ·rw [if_pos hb]
    refine ih (p+1) _ (by omega) (by simp;omega) ?_
    simp only [cnt,List.countP_cons,hb,id,if_true] at h2 ⊢
    simp;omega
   ·rw [if_neg hb]
    refine ih (p+1) _ (by omega) h1 ?_
    simp only [cnt,List.countP_cons,id,hb] at h2 ⊢
    simpa using h2
  ·omega
theorem take_len (l:List Bool) (k:Nat) (hc:k≤cnt l):(take l k).length=k:=by
 unfold take
 split
 ·simp
 ·exact lowF_full l k l.length 0 [] (by omega) (by simp) (by simpa using hc)
theorem take_pos (l:List Bool) (k:Nat) (hk:1≤k) (hc:k≤cnt l):0<(take l k).length:=by
 rw [take_len l k hc];omega
end Po
namespace Sp
section
variable (c:Cn) (sh:List Sh) (q:Q) (s:St)
theorem ask_yes (k:Nat) (se:Bool) (w:World) (h:At w c sh q s) (hn:0<q.ns) (hk:1≤k) (hsx:s.sx.length<k) (hen:s.en=[]) (hfit:k≤Po.cnt s.fr) (hll:s.fr.length=s.l.length) :
  Calls Tryz.prog 248 #[.pointer (some ⟨q.sp,0,none⟩),.int .i64 0,.int .i64 (k:Int),.int .i64 0,.bool se] w fun e w'=>∃ v sv',e=.returned (.agg #[.int .i64 1,v,.int .i64 (-1)])∧Only (F q s) w w' ∧
   At w' c sh q { s with l:=setAll (setAll s.l (Po.take s.fr k) 2 se) (Po.low (Po.off s.fr (Po.take s.fr k)) (c.cache.toNat-s.sx.length)) 1 se,fr:=Po.off (Po.off s.fr (Po.take s.fr k)) (Po.low (Po.off s.fr (Po.take s.fr k)) (c.cache.toNat-s.sx.length)),sv:=sv',sx:=s.sx++Po.natI (Po.low (Po.off s.fr (Po.take s.fr k)) (c.cache.toNat-s.sx.length)) } ∧
   (sv'.ownBlock=s.sv.ownBlock∨∃ k,sv'.ownBlock=some k∧w.heap.size≤k)∧w'.ownsRow w.heap.size 3 1 v (Po.take s.fr k).length (ints (Po.natI (Po.take s.fr k)))∧sv'.ownBlock≠v.ownBlock:=by
 obtain ⟨rows,hfr⟩:∃ x,Po.take s.fr k=x:=⟨_,rfl⟩
 obtain ⟨r,hr⟩:∃ r,c.cache.toNat-s.sx.length=r:=⟨_,rfl⟩
 have hr1:c.cache-(s.sx.length:Int)=(r:Int):=by have:=h.stk.le;have:=h.stk.h0;omega
 have hr2:r≤8:=by have:=h.stk.h8;omega
 rw [hr,hfr]
 have HR:=hid hr
 have HR1:=hid hr1
 clear hr hr1
 have hle:=Po.cnt_le s.fr
 have hfew:=h.pool.mid.few
 have H0:=hid h
 have HEN:=hid hen
 have hG:=heap_alloc_new w (.cells #[.int .i64 0,.slice none 0 0,.int .i64 0] 191)
 have hpG:=(Only.refl (fun _=>False) w).alloc (.cells #[.int .i64 0,.slice none 0 0,.int .i64 0] 191)
 have hW:=h.pure hpG
 have HPG:=hid hpG
 have HHG:=hid hG
 obtain ⟨-,-,-,⟨n,c3⟩,-⟩:=hW.cs
 have fb:=hW.fb
 have hszG:(w.alloc (.cells #[.int .i64 0,.slice none 0 0,.int .i64 0] 191)).heap.size=w.heap.size+1:=by simp
 have H1:=hid (hW.count (wrap64 (n+1)))
 have O1:Hid (Only (F q s) w ((w.alloc (.cells #[.int .i64 0,.slice none 0 0,.int .i64 0] 191)).setCell ⟨q.sp,3,none⟩ (.int .i64 (wrap64 (n+1))))):=hid (only_sp (pure_F hpG) 3 _)
 clear h hW hpG hG hen
 go_enter Tryz.func248,Tryz.ntmps248
 go_upto_region 2 with fail
 have hspX:w.heap.size≠q.sp:=fun e=>by have:=H0.out.lt q.sp (.inl rfl);omega
 have HG1:Hid (((w.alloc (.cells #[.int .i64 0,.slice none 0 0,.int .i64 0] 191)).setCell ⟨q.sp,3,none⟩ (.int .i64 (wrap64 (n+1)))).heap[w.heap.size]?=some (.cells #[.int .i64 0,.slice none 0 0,.int .i64 0] 191 (0,0))):=hid (set_other HHG.out hspX)
 have HZ1:Hid (((w.alloc (.cells #[.int .i64 0,.slice none 0 0,.int .i64 0] 191)).setCell ⟨q.sp,3,none⟩ (.int .i64 (wrap64 (n+1)))).heap.size=w.heap.size+1):=hid (by simp [World.setCell])
 generalize (w.alloc (.cells #[.int .i64 0,.slice none 0 0,.int .i64 0] 191)).setCell ⟨q.sp,3,none⟩ (.int .i64 (wrap64 (n+1)))=w1 at *
 clear c3 fb HHG HPG hszG
 have HFX:Hid (∀ k,F q s k→k<w.heap.size):=hid (fun k hk=>H0.out.lt k hk)
 obtain ⟨-,-,-,-,-,-,-,c15⟩:=H1.out.cs
 go_wp2_with fail
 refine (stock_0 c sh q s w1 H1.out hn).mono ?_
 rintro e w2 ⟨rfl,rfl⟩
 have hof:Calls Tryz.prog 197 #[.pointer (some ⟨q.li,0,none⟩),.int .i64 0] w1 fun e' w'=>e'=.returned (.tuple #[.agg #[.int .i64 0,.int .i64 0,.int .i64 0,.int .i64 0,.int .i64 0,.int .i64 0,.slice none 0 0],.bool false])∧Pure w1 w':=Ln.lineOf_no q.li s.lv s.en 0 w1 H1.out.line (by rw [HEN.out];rfl)
 have HOF:=hid hof
 clear hof
 go_wp2_with fail
 refine HOF.out.mono ?_
 rintro e w2 ⟨rfl,hp2⟩
 have hp3:=Pure.then hp2 ((Only.refl (fun _=>False) _).alloc (.cells #[.int .i64 0,.int .i64 0,.int .i64 0,.int .i64 0,.int .i64 0,.int .i64 0,.slice none 0 0] 229))
 have H3:=hid (H1.out.pure hp3)
 have HG3:=hid (Pure.blk hp3 HG1.out)
 have O3:Hid (Only (F q s) w (w2.alloc (.cells #[.int .i64 0,.int .i64 0,.int .i64 0,.int .i64 0,.int .i64 0,.int .i64 0,.slice none 0 0] 229))):=hid (O1.out.trans (pure_F hp3) (fun _ _ h=>h))
 have hz3:w.heap.size+1≤(w2.alloc (.cells #[.int .i64 0,.int .i64 0,.int .i64 0,.int .i64 0,.int .i64 0,.int .i64 0,.slice none 0 0] 229)).heap.size:=by have:=hp3.size;have:=HZ1.out;omega
 have HZ3:=hid hz3
 clear hp2 hp3 HOF c15 hz3
 have d1:decide ((k:Int)<1)=false:=by simp;omega
 go_upto_region 7 with fail
 generalize w2.alloc (.cells #[.int .i64 0,.int .i64 0,.int .i64 0,.int .i64 0,.int .i64 0,.int .i64 0,.slice none 0 0] 229)=w3 at *
 go_wp2_with fail
 refine (Sk.take_no q.s0 c.cache (k:Int) s.sv s.sx w3 H3.out.stk (.inr (by omega))).mono ?_
 rintro e w4 ⟨rfl,rfl⟩
 obtain ⟨-,-,-,-,-,c13,c14,c15⟩:=H3.out.cs
 obtain ⟨d4,d5,d6,d7,d8,d9,d10,d11,d12⟩:=H3.out.cc
 have hwt:=waits_any c sh q s w3 H3.out
 rw [HEN.out] at hwt
 have HWT:=hid hwt
 clear hwt
 go_wp2_with fail
 refine HWT.out.mono ?_
 rintro e w4 ⟨rfl,hp4⟩
 have H4:=hid (H3.out.pure hp4)
 have HG4:=hid (Pure.blk hp4 HG3.out)
 have O4:Hid (Only (F q s) w w4):=hid (O3.out.trans (pure_F hp4) (fun _ _ h=>h))
 have HZ4:Hid (w.heap.size+1≤w4.heap.size):=hid (Nat.le_trans HZ3.out hp4.size)
 clear hp4 HWT c13 c14 c15 d4 d5 d6 d7 d8 d9 d10 d11 d12 H3 HG3 O3 HZ3
 simp only [List.countP_nil]
 obtain ⟨-,-,-,-,-,c13,c14,c15⟩:=H4.out.cs
 obtain ⟨d4,d5,d6,d7,d8,d9,d10,d11,d12⟩:=H4.out.cc
 have hft:=fits_0 c sh q s k w4 H4.out hk (by omega)
 rw [decide_eq_true hfit] at hft
 have HFT:=hid hft
 clear hft
 go_wp2_with fail
 refine HFT.out.mono ?_
 rintro e w5 ⟨rfl,hp5⟩
 have H5:=hid (H4.out.pure hp5)
 have HG5:=hid (Pure.blk hp5 HG4.out)
 have O5:Hid (Only (F q s) w w5):=hid (O4.out.trans (pure_F hp5) (fun _ _ h=>h))
 have HZ5:Hid (w.heap.size+1≤w5.heap.size):=hid (Nat.le_trans HZ4.out hp5.size)
 clear hp5 HFT c13 c14 c15 d4 d5 d6 d7 d8 d9 d10 d11 d12 H4 HG4 O4 HZ4
 obtain ⟨-,-,-,-,-,c13,c14,c15⟩:=H5.out.cs
 obtain ⟨d4,d5,d6,d7,d8,d9,d10,d11,d12⟩:=H5.out.cc
 go_wp2_with fail
 refine (takes_0 c sh q s k w5 H5.out hk hfit).mono ?_
 rw [hfr]
 rintro e w6 ⟨v,rfl,o6,own6,h6⟩
 have hxs:∀ x∈rows,x<s.l.length:=fun x hx=>by rw [← hll];rw [← hfr] at hx;exact Po.take_lt _ _ hk x hx
 have hvF:∀ k,v.ownBlock=some k→w.heap.size+1≤k:=fun k hk=>Nat.le_trans HZ5.out (own6.lt k hk).1
 have HVF:=hid hvF
 have HXS:=hid hxs
 have H6:=hid h6
 have OWN6:=hid own6
 have HG6:=hid (o6.blk HG5.out (fun hk=>by have:=HFX.out _ hk;omega))
 have O6:Hid (Only (F q s) w w6):=hid (O5.out.trans o6 (fun _ _ h=>h))
 have HZ6:Hid (w.heap.size+1≤w6.heap.size):=hid (Nat.le_trans HZ5.out o6.size)
 clear o6 own6 h6 hvF hxs c13 c14 c15 d4 d5 d6 d7 d8 d9 d10 d11 d12 H5 HG5 O5
 go_wp2_with fail
 have hsl:SlI w6 w6.heap.size v (Po.natI rows):=SlI.of_own (by have:=OWN6.out;simpa [Po.natI] using this) (Po.natI_range _ (fun x hx=>by have:=HXS.out x hx;omega))
 refine (set_in c sh q { s with fr:=Po.off s.fr rows } v rows 2 (by omega) se w6 H6.out hsl (fun k hk hF=>by have:=HFX.out k hF;have:=HVF.out k hk;omega) HXS.out).mono ?_
 rintro e w7 ⟨rfl,o7,h7⟩
 have o7':Only (F q s) w6 w7:=o7
 have H7:=hid h7
 have OWN7:=hid (o7'.own OWN6.out (fun k hk hF=>by have:=HFX.out k hF;have:=HVF.out k hk;omega))
 have HG7:=hid (o7'.blk HG6.out (fun hk=>by have:=HFX.out _ hk;omega))
 have O7:Hid (Only (F q s) w w7):=hid (O6.out.trans o7' (fun _ _ h=>h))
 have HZ7:Hid (w.heap.size+1≤w7.heap.size):=hid (Nat.le_trans HZ6.out o7'.size)
 clear o7 o7' h7 hsl H6 OWN6 HG6 O6
 obtain ⟨As,cs',hsv,hsl⟩:=H7.out.stk.form
 have hroom:Calls Tryz.prog 295 #[.pointer (some ⟨q.s0,0,none⟩)] w7.drew fun e w'=>e=.returned (.int .i64 (r:Int))∧∃ d,w'=w7.drew.drewN d:=by
  have hst:Sk.Stk w7.drew q.s0 (.slice As s.sx.length cs') c.cache:=by rw [← hsv];exact H7.out.stk.at_
  have:=Sk.room_any q.s0 As s.sx.length cs' c.cache w7.drew hst hsl H7.out.stk.h0 H7.out.stk.h8
  rwa [HR1.out] at this
 have HROOM:=hid hroom
 obtain ⟨-,-,-,-,-,c13,-⟩:=H7.out.cs
 clear hroom hsv hsl
 go_wp2_with fail
 have HPO:=hid (fun d=>H7.out.pure ((Only.refl (fun _=>False) w7).drewN d))
 go_region_with (first | (go_at_call 295;refine HROOM.out.mono ?_;rintro e w8 ⟨rfl,d,rfl⟩) | (go_at_call 288;refine (Po.low_in q.po q.pg (Po.off s.fr rows) r _ (HPO.out (1+d)).pool (by omega)).mono ?_;rintro e w8 ⟨v2,rfl,ht8⟩;have HT8:=hid ht8;clear ht8))
 all_goals
  obtain ⟨more,hmore⟩:∃ x,Po.low (Po.off s.fr rows) r=x:=⟨_,rfl⟩
  rw [hmore] at HT8
  have hml:more.length≤r:=by rw [← hmore];exact Po.low_len _ _
  have hmx:∀ x∈more,x<(setAll s.l rows 2 se).length:=fun x hx=>by rw [setAll_len,← hll,← Po.off_len s.fr rows];rw [← hmore] at hx;exact Po.low_lt _ _ x hx
  have hlfew:s.l.length≤1024:=by omega
  have hm6:∀ x∈more,x<1000000:=fun x hx=>by have:=hmx x hx;rw [setAll_len] at this;omega
  have HMX:=hid hmx
  have HM6:=hid hm6
  have HMORE:=hid hmore
  have o8:Only (F q s) w7 w8:=((Only.refl (F q s) w7).drewN (1+d)).trans (pool_F HT8.out.only) (fun _ _ h=>h)
  have H8:=hid ((HPO.out (1+d)).pooled HT8.out.only HT8.out.at_)
  have OWN8:=hid (o8.own OWN7.out (fun k hk hF=>by have:=HFX.out k hF;have:=HVF.out k hk;omega))
  have HG8:=hid (o8.blk HG7.out (fun hk=>by have:=HFX.out _ hk;omega))
  have O8:Hid (Only (F q s) w w8):=hid (O7.out.trans o8 (fun _ _ h=>h))
  have HZ8:Hid (w.heap.size+1≤w8.heap.size):=hid (Nat.le_trans HZ7.out o8.size)
  have V2:Hid (w8.ownsRow w7.heap.size 3 1 v2 more.length (ints (Po.natI more))):=hid HT8.out.own
  clear o8 hmore hmx hm6 HT8 HPO H7 c13
  go_wp2_with fail
  have hsl2:SlI w8 w8.heap.size v2 (Po.natI more):=SlI.of_own (by have:=V2.out;simpa [Po.natI] using this) (Po.natI_range _ HM6.out)
  refine (set_in c sh q _ v2 more 1 (by omega) se w8 H8.out hsl2 (fun k hk hF=>by have:=HFX.out k hF;have:=(V2.out.lt k hk).1;have:=HZ7.out;omega) HMX.out).mono ?_
  rintro e w9 ⟨rfl,o9,h9⟩
  have o9':Only (F q s) w8 w9:=o9
  have H9:=hid h9
  have OWN9:=hid (o9'.own OWN8.out (fun k hk hF=>by have:=HFX.out k hF;have:=HVF.out k hk;omega))
  have V29:=hid (o9'.own V2.out (fun k hk hF=>by have:=HFX.out k hF;have:=(V2.out.lt k hk).1;have:=HZ7.out;omega))
  have HG9:=hid (o9'.blk HG8.out (fun hk=>by have:=HFX.out _ hk;omega))
  have O9:Hid (Only (F q s) w w9):=hid (O8.out.trans o9' (fun _ _ h=>h))
  have HZ9:Hid (w.heap.size+1≤w9.heap.size):=hid (Nat.le_trans HZ8.out o9'.size)
  clear o9 o9' h9 hsl2 H8 OWN8 HG8 O8 V2
  go_wp2_with fail
  have hsl3:SlI w9 w9.heap.size v2 (Po.natI more):=SlI.of_own (by have:=V29.out;simpa [Po.natI] using this) (Po.natI_range _ HM6.out)
  refine (Sk.put_ok q.s0 c.cache s.sv v2 s.sx (Po.natI more) w9 H9.out.stk hsl3 (by have:=HR1.out;simp [Po.natI];omega)).mono ?_
  rintro e w10 ⟨sv',rfl,h10,o10,hf10⟩
  have o10':Only (F q s) w9 w10:=o10.mono fun k _ hk=>.inr (.inr (.inr (.inr (.inr (.inr (.inr hk))))))
  have H10:=hid (H9.out.stocked o10 h10 hf10)
  have OWN10:=hid (o10'.own OWN9.out (fun k hk hF=>by have:=HFX.out k hF;have:=HVF.out k hk;omega))
  have HG10:=hid (o10'.blk HG9.out (fun hk=>by have:=HFX.out _ hk;omega))
  have O10:Hid (Only (F q s) w w10):=hid (O9.out.trans o10' (fun _ _ h=>h))
  have HF10:=hid hf10
  have HVB:Hid (∀ k,v.ownBlock=some k→k<w9.heap.size):=hid (fun k hk=>(OWN9.out.lt k hk).2)
  clear o10 o10' h10 hf10 hsl3 H9 HG9 OWN9
  obtain ⟨g0,g1,g2⟩:=grant_cells HG10.out
  have gf:=fun i=>frozen_of_row w10 w.heap.size i _ _ HG10.out
  obtain ⟨Av,cv,rfl⟩:=own_form OWN10.out
  go_wp2_with fail
  have hX:∀ x y z:Value,Only (fun k=>k=w.heap.size) w10 (((w10.setCell ⟨w.heap.size,0,none⟩ x).setCell ⟨w.heap.size,1,none⟩ y).setCell ⟨w.heap.size,2,none⟩ z):=fun x y z=>(((Only.refl (fun k=>k=w.heap.size) w10).setCell (p:=⟨w.heap.size,0,none⟩) (fun _=>rfl) x).setCell (p:=⟨w.heap.size,1,none⟩) (fun _=>rfl) y).setCell (p:=⟨w.heap.size,2,none⟩) (fun _=>rfl) z
  have hsvF:∀ b,s.sv.ownBlock=some b→b<w.heap.size:=fun b hb=>HFX.out b (.inr (.inr (.inr (.inr (.inr (.inr (.inr (.inr hb))))))))
  have hsv:∀ b,sv'.ownBlock=some b→b<w.heap.size∨w9.heap.size≤b:=fun b hb=>by
   rcases HF10.out with h | ⟨b',h,hlt⟩
   ·exact .inl (hsvF b (h ▸ hb))
   ·rw [h] at hb;injection hb with hb;exact .inr (hb ▸ hlt)
  have hF':∀ b,F q { s with l:=setAll (setAll s.l rows 2 se) more 1 se,fr:=Po.off (Po.off s.fr rows) more,sv:=sv',sx:=s.sx++Po.natI more } b→b<w.heap.size∨w9.heap.size≤b:=fun b hb=>by
   rcases hb with hb | hb | hb | hb | hb | hb | hb | hb | hb
   ·exact .inl (HFX.out b (.inl hb))
   ·exact .inl (HFX.out b (.inr (.inl hb)))
   ·exact .inl (HFX.out b (.inr (.inr (.inl hb))))
   ·exact .inl (HFX.out b (.inr (.inr (.inr (.inl hb)))))
   ·exact .inl (HFX.out b (.inr (.inr (.inr (.inr (.inl hb))))))
   ·exact .inl (HFX.out b (.inr (.inr (.inr (.inr (.inr (.inl hb)))))))
   ·exact .inl (HFX.out b (.inr (.inr (.inr (.inr (.inr (.inr (.inl hb))))))))
   ·exact .inl (HFX.out b (.inr (.inr (.inr (.inr (.inr (.inr (.inr (.inl hb)))))))))
   ·exact hsv b hb
  have hz9:=HZ9.out
  refine bodyPost_ret (v:=.agg #[.int .i64 1,.slice Av rows.length cv,.int .i64 (-1)]) (by simp [results,Tryz.results248,go_sem,g0,g1,g2]) rfl ⟨.slice Av rows.length cv,sv',rfl,?_,?_,?_,?_,?_⟩
  ·exact O10.out.trans (hX _ _ _) (fun b hb e=>absurd hb (by omega))
  ·rw [HMORE.out]
   refine H10.out.only (hX _ _ _) (fun b hb e=>?_) (fun b hb e=>?_) (fun e he=>?_)
   ·have:=hF' b hb;omega
   ·have:=(H0.out.ro b hb).2;omega
   ·rw [show ({ s with l:=setAll (setAll s.l rows 2 se) more 1 se,fr:=Po.off (Po.off s.fr rows) more,sv:=sv',sx:=s.sx++Po.natI more }:St).en=[] from HEN.out] at he
    cases he
  ·rcases HF10.out with h | ⟨b',h,hlt⟩
   ·exact .inl h
   ·exact .inr ⟨b',h,by omega⟩
  ·exact own_mono ((hX _ _ _).own OWN10.out (fun b hb e=>by have:=HVF.out b hb;omega)) (by have:=HZ5.out;omega)
  ·intro e
   rcases hv':(Value.slice Av rows.length cv).ownBlock with _ | b
   ·rcases Av with _ | a
    ·have:=OWN10.out.2
     rcases this with ⟨h1,h2⟩ | ⟨g,cap,cur,h1,-⟩
     ·have:=hfr ▸ Po.take_pos s.fr k hk hfit
      omega
     ·cases h1
    ·cases hv'
   ·have h1:=HVF.out b hv'
    have h2:=HVB.out b hv'
    have:=hsv b (e ▸ hv')
    omega
end
end Sp
open Go.RowKit
namespace Sp
section
variable (c:Cn) (sh:List Sh) (q:Q) (s:St)
theorem ask_wait (k:Nat) (se:Bool) (w:World) (h:At w c sh q s) (hn:0<q.ns) (hk:1≤k) (hk2:k≤1024) (hsx:s.sx.length<k) (hen:s.en=[]) (hfit:¬ k≤Po.cnt s.fr) :
  Calls Tryz.prog 248 #[.pointer (some ⟨q.sp,0,none⟩),.int .i64 0,.int .i64 (k:Int),.int .i64 0,.bool se] w fun e w'=>∃ lv',e=.returned (.agg #[.int .i64 0,.slice none 0 0,.int .i64 (-1)])∧Only (F q s) w w' ∧
   At w' c sh q { s with lv:=lv',en:=[⟨0,k,0,0,0,-1,.slice none 0 0,[],false⟩] }∧(lv'.ownBlock=s.lv.ownBlock∨∃ k,lv'.ownBlock=some k∧w.heap.size≤k):=by
 have hle:=Po.cnt_le s.fr
 have hfew:=h.pool.mid.few
 have H0:=hid h
 have HEN:=hid hen
 have hG:=heap_alloc_new w (.cells #[.int .i64 0,.slice none 0 0,.int .i64 0] 191)
 have hpG:=(Only.refl (fun _=>False) w).alloc (.cells #[.int .i64 0,.slice none 0 0,.int .i64 0] 191)
 have hW:=h.pure hpG
 have HPG:=hid hpG
 have HHG:=hid hG
 obtain ⟨-,-,-,⟨n,c3⟩,-⟩:=hW.cs
 have fb:=hW.fb
 have hszG:(w.alloc (.cells #[.int .i64 0,.slice none 0 0,.int .i64 0] 191)).heap.size=w.heap.size+1:=by simp
 have H1:=hid (hW.count (wrap64 (n+1)))
 have O1:Hid (Only (F q s) w ((w.alloc (.cells #[.int .i64 0,.slice none 0 0,.int .i64 0] 191)).setCell ⟨q.sp,3,none⟩ (.int .i64 (wrap64 (n+1))))):=hid (only_sp (pure_F hpG) 3 _)
 clear h hW hpG hG hen
 go_enter Tryz.func248,Tryz.ntmps248
 go_upto_region 2 with fail
 have hspX:w.heap.size≠q.sp:=fun e=>by have:=H0.out.lt q.sp (.inl rfl);omega
 have HG1:Hid (((w.alloc (.cells #[.int .i64 0,.slice none 0 0,.int .i64 0] 191)).setCell ⟨q.sp,3,none⟩ (.int .i64 (wrap64 (n+1)))).heap[w.heap.size]?=some (.cells #[.int .i64 0,.slice none 0 0,.int .i64 0] 191 (0,0))):=hid (set_other HHG.out hspX)
 have HZ1:Hid (((w.alloc (.cells #[.int .i64 0,.slice none 0 0,.int .i64 0] 191)).setCell ⟨q.sp,3,none⟩ (.int .i64 (wrap64 (n+1)))).heap.size=w.heap.size+1):=hid (by simp [World.setCell])
 generalize (w.alloc (.cells #[.int .i64 0,.slice none 0 0,.int .i64 0] 191)).setCell ⟨q.sp,3,none⟩ (.int .i64 (wrap64 (n+1)))=w1 at *
 clear c3 fb HHG HPG hszG
 have HFX:Hid (∀ k,F q s k→k<w.heap.size):=hid (fun k hk=>H0.out.lt k hk)
 obtain ⟨-,-,-,-,-,-,-,c15⟩:=H1.out.cs
 go_wp2_with fail
 refine (stock_0 c sh q s w1 H1.out hn).mono ?_
 rintro e w2 ⟨rfl,rfl⟩
 have hof:Calls Tryz.prog 197 #[.pointer (some ⟨q.li,0,none⟩),.int .i64 0] w1 fun e' w'=>e'=.returned (.tuple #[.agg #[.int .i64 0,.int .i64 0,.int .i64 0,.int .i64 0,.int .i64 0,.int .i64 0,.slice none 0 0],.bool false])∧Pure w1 w':=Ln.lineOf_no q.li s.lv s.en 0 w1 H1.out.line (by rw [HEN.out];rfl)
 have HOF:=hid hof
 clear hof
 go_wp2_with fail
 refine HOF.out.mono ?_
 rintro e w2 ⟨rfl,hp2⟩
 have hp3:=Pure.then hp2 ((Only.refl (fun _=>False) _).alloc (.cells #[.int .i64 0,.int .i64 0,.int .i64 0,.int .i64 0,.int .i64 0,.int .i64 0,.slice none 0 0] 229))
 have H3:=hid (H1.out.pure hp3)
 have HG3:=hid (Pure.blk hp3 HG1.out)
 have O3:Hid (Only (F q s) w (w2.alloc (.cells #[.int .i64 0,.int .i64 0,.int .i64 0,.int .i64 0,.int .i64 0,.int .i64 0,.slice none 0 0] 229))):=hid (O1.out.trans (pure_F hp3) (fun _ _ h=>h))
 have hz3:w.heap.size+1≤(w2.alloc (.cells #[.int .i64 0,.int .i64 0,.int .i64 0,.int .i64 0,.int .i64 0,.int .i64 0,.slice none 0 0] 229)).heap.size:=by have:=hp3.size;have:=HZ1.out;omega
 have HZ3:=hid hz3
 clear hp2 hp3 HOF c15 hz3
 have d1:decide ((k:Int)<1)=false:=by simp;omega
 go_upto_region 7 with fail
 generalize w2.alloc (.cells #[.int .i64 0,.int .i64 0,.int .i64 0,.int .i64 0,.int .i64 0,.int .i64 0,.slice none 0 0] 229)=w3 at *
 go_wp2_with fail
 refine (Sk.take_no q.s0 c.cache (k:Int) s.sv s.sx w3 H3.out.stk (.inr (by omega))).mono ?_
 rintro e w4 ⟨rfl,rfl⟩
 obtain ⟨-,-,-,-,-,c13,c14,c15⟩:=H3.out.cs
 obtain ⟨d4,d5,d6,d7,d8,d9,d10,d11,d12⟩:=H3.out.cc
 have hwt:=waits_any c sh q s w3 H3.out
 rw [HEN.out] at hwt
 have HWT:=hid hwt
 clear hwt
 go_wp2_with fail
 refine HWT.out.mono ?_
 rintro e w4 ⟨rfl,hp4⟩
 have H4:=hid (H3.out.pure hp4)
 have HG4:=hid (Pure.blk hp4 HG3.out)
 have O4:Hid (Only (F q s) w w4):=hid (O3.out.trans (pure_F hp4) (fun _ _ h=>h))
 have HZ4:Hid (w.heap.size+1≤w4.heap.size):=hid (Nat.le_trans HZ3.out hp4.size)
 clear hp4 HWT c13 c14 c15 d4 d5 d6 d7 d8 d9 d10 d11 d12 H3 HG3 O3 HZ3
 simp only [List.countP_nil]
 obtain ⟨-,-,-,-,-,c13,c14,c15⟩:=H4.out.cs
 obtain ⟨d4,d5,d6,d7,d8,d9,d10,d11,d12⟩:=H4.out.cc
 have hft:=fits_0 c sh q s k w4 H4.out hk (by omega)
 rw [decide_eq_false hfit] at hft
 have HFT:=hid hft
 clear hft
 go_wp2_with fail
 refine HFT.out.mono ?_
 rintro e w5 ⟨rfl,hp5⟩
 have H5:=hid (H4.out.pure hp5)
 have HG5:=hid (Pure.blk hp5 HG4.out)
 have O5:Hid (Only (F q s) w w5):=hid (O4.out.trans (pure_F hp5) (fun _ _ h=>h))
 have HZ5:Hid (w.heap.size+1≤w5.heap.size):=hid (Nat.le_trans HZ4.out hp5.size)
 clear hp5 HFT c13 c14 c15 d4 d5 d6 d7 d8 d9 d10 d11 d12 H4 HG4 O4 HZ4
 obtain ⟨-,-,-,-,-,-,-,c15⟩:=H5.out.cs
 have hadd:Calls Tryz.prog 294 #[.pointer (some ⟨q.li,0,none⟩),.agg #[.int .i64 0,.int .i64 (k:Int),.int .i64 0,.int .i64 0,.int .i64 0,.int .i64 0,.slice none 0 0]] w5 _:=Ln.add_yes q.li s.lv s.en ⟨0,k,0,0,0,0,.slice none 0 0,[],false⟩ none 0 0 w5 H5.out.line (by rw [HEN.out];rfl) (by rw [HEN.out];simp)
 have HADD:=hid hadd
 clear hadd
 go_wp2_with fail
 refine HADD.out.mono ?_
 rintro e w6 ⟨lv',rfl,h6,o6,hf6⟩
 rw [show s.en++[Ln.fresh ⟨0,k,0,0,0,0,.slice none 0 0,[],false⟩]=[⟨0,k,0,0,0,-1,.slice none 0 0,[],false⟩] from by rw [HEN.out];rfl] at h6
 have H6:=hid (H5.out.lined o6 h6 hf6 (fun e he b hb=>by rw [List.mem_singleton] at he;subst he;cases hb))
 have o6':Only (F q s) w5 w6:=line_F o6
 have HG6:=hid (o6'.blk HG5.out (fun hk=>by have:=HFX.out _ hk;omega))
 have O6:Hid (Only (F q s) w w6):=hid (O5.out.trans o6' (fun _ _ h=>h))
 have HF6:=hid hf6
 clear o6 o6' h6 hf6 HADD c15 H5 HG5 O5
 go_wp2_with fail
 refine (none_any 0 w6).mono ?_
 rintro e w7 ⟨rfl,hp7⟩
 have H7:=hid (H6.out.pure hp7)
 have HG7:=hid (Pure.blk hp7 HG6.out)
 have O7:Hid (Only (F q s) w w7):=hid (O6.out.trans (pure_F hp7) (fun _ _ h=>h))
 clear hp7 H6 HG6 O6
 obtain ⟨g0,g1,g2⟩:=grant_cells HG7.out
 have gf:=fun i=>frozen_of_row w7 w.heap.size i _ _ HG7.out
 go_wp2_with fail
 have hX:∀ x y z:Value,Only (fun k=>k=w.heap.size) w7 (((w7.setCell ⟨w.heap.size,0,none⟩ x).setCell ⟨w.heap.size,1,none⟩ y).setCell ⟨w.heap.size,2,none⟩ z):=fun x y z=>(((Only.refl (fun k=>k=w.heap.size) w7).setCell (p:=⟨w.heap.size,0,none⟩) (fun _=>rfl) x).setCell (p:=⟨w.heap.size,1,none⟩) (fun _=>rfl) y).setCell (p:=⟨w.heap.size,2,none⟩) (fun _=>rfl) z
 have hz5:=HZ5.out
 have hlv:∀ b,lv'.ownBlock=some b→b<w.heap.size∨w5.heap.size≤b:=fun b hb=>by
  rcases HF6.out with h | ⟨b',h,hlt⟩
  ·exact .inl (HFX.out b (.inr (.inr (.inr (.inr (.inr (.inr (.inl (.inr (h ▸ hb))))))))))
  ·rw [h] at hb;injection hb with hb;exact .inr (hb ▸ hlt)
 refine bodyPost_ret (v:=.agg #[.int .i64 0,.slice none 0 0,.int .i64 (-1)]) (by simp [results,Tryz.results248,go_sem,g0,g1,g2]) rfl ⟨lv',rfl,?_,?_,?_⟩
 ·exact O7.out.trans (hX _ _ _) (fun b hb e=>absurd hb (by omega))
 ·refine H7.out.only (hX _ _ _) (fun b hb e=>?_) (fun b hb e=>?_) (fun e he b hb=>?_)
  ·subst e
   rcases hb with hb | hb | hb | hb | hb | hb | (hb | hb) | hb
   ·have:=HFX.out w.heap.size (.inl hb);omega
   ·have:=HFX.out w.heap.size (.inr (.inl hb));omega
   ·have:=HFX.out w.heap.size (.inr (.inr (.inl hb)));omega
   ·have:=HFX.out w.heap.size (.inr (.inr (.inr (.inl hb))));omega
   ·have:=HFX.out w.heap.size (.inr (.inr (.inr (.inr (.inl hb)))));omega
   ·have:=HFX.out w.heap.size (.inr (.inr (.inr (.inr (.inr (.inl hb))))));omega
   ·have:=HFX.out w.heap.size (.inr (.inr (.inr (.inr (.inr (.inr (.inl (.inl hb))))))));omega
   ·have:=hlv _ hb;omega
   ·have:=HFX.out w.heap.size (.inr (.inr (.inr (.inr (.inr (.inr (.inr hb)))))));omega
  ·have:=(H0.out.ro b hb).2;omega
  ·have he':e∈[(⟨0,k,0,0,0,-1,.slice none 0 0,[],false⟩:Ln.En)]:=he
   rw [List.mem_singleton] at he'
   subst he'
   cases hb
 ·rcases HF6.out with h | ⟨b',h,hlt⟩
  ·exact .inl h
  ·exact .inr ⟨b',h,by omega⟩
end
end Sp
end Go.Proofs.YtpgdiceeimehiaaGreat
