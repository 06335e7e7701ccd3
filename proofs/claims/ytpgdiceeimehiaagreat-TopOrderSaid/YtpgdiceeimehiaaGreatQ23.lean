/- Part 23 of the proof that spotop.TopOrder returns true for all arguments and leaves what was there as it was. -/
import Derived.Deep.RegionHeld3
import Derived.StillTailTactics
import Derived.Test.YtpgdiceeimehiaaGreatQ18
import Derived.Test.YtpgdiceeimehiaaGreatQ22
set_option maxRecDepth 100000
set_option maxHeartbeats 16000000
open Go.Lib (hid)
namespace Go.Proofs.YtpgdiceeimehiaaGreat.Tr
open Go.RowKit
open Go.Proofs.YtpgdiceeimehiaaGreat.Fd (shp_cells)
section
variable {w w':World} {xb:Nat} {c:Cn} {v:Value} {sh:List Sh} {s:St}
theorem goes_more (x:Int) (l:List Int) (w:World) (h:At w xb c v sh s) (hw:s.words=x :: l):Calls Tryz.prog 307 #[.pointer (some ⟨xb,0,none⟩)] w fun e w'=>e=.returned (.int .i64 1)∧w=w':=by
 obtain ⟨A,d,hwv,-,-⟩:=h.wr.form
 have p16:=h.p16
 rw [hwv,hw] at p16
 simp only [List.length_cons] at p16
 have h0:decide ((0:Int)<(l.length+1:Int))=true:=by simp
 clear h hwv hw
 go_enter Tryz.func307,Tryz.ntmps307
 go_wp2_with fail
 go_ret
 exact ⟨rfl,rfl⟩
theorem goes_end (w:World) (h:At w xb c v sh s) (hw:s.words=[]) (hb:s.bs.length≤6):Calls Tryz.prog 307 #[.pointer (some ⟨xb,0,none⟩)] w fun e w'=>e=.returned (.int .i64 9)∧Pure w w':=by
 obtain ⟨A,d,hwv,-,-⟩:=h.wr.form
 have p16:=h.p16
 rw [hwv,hw] at p16
 simp only [List.length_nil] at p16
 have H:=hid h
 have p15:=h.p15
 clear h hwv hw
 go_enter Tryz.func307,Tryz.ntmps307
 go_wp2_with fail
 clear p16
 go_region_held3 (fun w'=>w'.cell? ⟨xb,15,none⟩=some (.int .i64 0)) (go_keep) (first | (go_at_call 310;refine (fragments_1 _ (H.out.pure ((Only.refl (fun _=>False) w).drewN 1)) hb).mono ?_;rintro e w2 ⟨rfl,hp2⟩;have hp12:=Pure.then (b:=w.drew) ((Only.refl (fun _=>False) w).drewN 1) hp2;have HP2:=hid hp12;have t0:=(H.out.pure hp12).p15;clear hp2 hp12))
 all_goals
  go_wp2_with fail
  go_ret
  exact ⟨rfl,HP2.out⟩
theorem wl_rng (n:Nat) (h:n≤1000):InR (wl n):=fun x hx=>by
 simp only [wl,List.mem_map,List.mem_range] at hx
 obtain ⟨k,hk,rfl⟩:=hx
 omega
theorem first_1 (kd md nb:Nat) (s0:Sh) (w:World) (h:At w xb c v sh s) (hkd:sh[kd]?=some s0) (ha:s0.a=false) (hmd:md≤1) (hkn:kd≤1000) (hnb:s0.bs.length=nb+1) (hb:nb+1≤6) (hat:∀ (j:Nat) (b:Bool),s0.bs[j]?=some b→b=true) :
  Calls Tryz.prog 277 #[.pointer (some ⟨xb,0,none⟩),.complex .f64 (headW kd md).1 (headW kd md).2] w fun e w'=>e=.returned (.bool true)∧Only (fun k=>k=xb) w w'∧∃ rv' wv',At w' xb c v sh { s with pc:=1,rv:=rv',bs:=s0.bs,wv:=wv',words:=wl (nb+1) }∧∀ k,rv'.ownBlock=some k∨wv'.ownBlock=some k→w.heap.size≤k:=by
 obtain ⟨A,cc,hv⟩:∃ A cc,v=.slice A sh.length cc:=by
  obtain ⟨⟨A,cc,e,_⟩,_⟩:=h.conf
  exact ⟨A,cc,e⟩
 subst hv
 have H:=hid h
 have HH:=hid (And.intro hkd (And.intro ha hat))
 have HNB:=hid hnb
 have hl6:s0.bs.length≤6:=by omega
 have p0:=H.out.p0
 have p1:=H.out.p1
 have p2:=H.out.p2
 have p3:=H.out.p3
 have p4:=H.out.p4
 have p5:=H.out.p5
 have p6:=H.out.p6
 have p7:=H.out.p7
 have p8:=H.out.p8
 clear h hkd ha hat hnb
 go_enter Tryz.func277,Tryz.ntmps277
 go_wp2_with fail
 refine (tell_w kd md w (by omega) (by omega)).mono ?_
 rintro e w1 ⟨rfl,rfl⟩
 go_wp2_with fail
 refine (shape_in c _ sh kd s0 w H.out.conf HH.out.1 (by omega)).mono ?_
 rw [HH.out.2.1]
 rintro e w2 ⟨A2,d2,rfl,hp2,hs2,hf2⟩
 have H2:=hid (H.out.pure hp2)
 have O2:Hid (Only (fun k=>k=xb) w w2):=hid (hp2.mono (fun _ _ f=>f.elim))
 have HS2:=hid hs2
 have HF2:=hid hf2
 have HLT:=hid H.out.lt
 clear p0 p1 p2 p3 p4 p5 p6 p7 p8 hp2 hs2 hf2
 go_upto_region 3 with fail
 obtain ⟨hp3,-,hx3⟩:=Ac.one_new w2 #[.bool false,.slice A2 s0.bs.length d2] 35
 have H3:=hid (H2.out.pure hp3)
 have O3:=hid (O2.out.trans (hp3.mono (T:=fun k=>k=xb) (fun _ _ f=>f.elim)) (fun _ _ h=>h))
 have HS3:=hid (HS2.out.pure hp3)
 have HX3:=hid hx3
 have HF3:Hid (∀ k,(Value.slice A2 s0.bs.length d2).ownBlock=some k→w.heap.size≤k∧k<(w2.alloc (.cells #[.bool false,.slice A2 s0.bs.length d2] 35)).heap.size):=hid (fun k hk=>⟨(HF2.out k hk).1,Nat.lt_of_lt_of_le (HF2.out k hk).2 hp3.size⟩)
 clear hp3 hx3 H2 O2 HS2 HF2
 generalize w2.alloc (.cells #[.bool false,.slice A2 s0.bs.length d2] 35)=w3 at *
 generalize w2.heap.size=X3 at *
 obtain ⟨y0,y1⟩:=shp_cells HX3.out
 have p12:=H3.out.p12
 have p13:=H3.out.p13
 have ff:=H3.out.fz
 rcases (by omega:md=0∨md=1) with rfl | rfl
 all_goals
  go_upto_region 9 with fail
  have h4:=(H3.out.put 12 (.bool false) s (fun n=>⟨n,rfl⟩) ⟨rfl,rfl,rfl,rfl⟩).putx 13 (.slice A2 s0.bs.length d2) { s with rv:=.slice A2 s0.bs.length d2,bs:=s0.bs } (fun n=>⟨n,rfl⟩) (HS3.out.only ((Only.refl (fun k=>k=xb) w3).setCell (p:=⟨xb,12,none⟩) (fun _=>rfl) _) (fun k hk e=>by have:=(HF3.out k hk).1;have:=HLT.out;omega)) (H3.out.put 12 (.bool false) s (fun n=>⟨n,rfl⟩) ⟨rfl,rfl,rfl,rfl⟩).wr (fun k hk=>by
   rcases hk with hk | hk | hk
   ·exact (H3.out.put 12 (.bool false) s (fun n=>⟨n,rfl⟩) ⟨rfl,rfl,rfl,rfl⟩).ro k (.inl hk)
   ·exact ⟨fun e=>by have:=(HF3.out k hk).1;have:=HLT.out;omega,by simpa [World.setCell] using (HF3.out k hk).2⟩
   ·exact (H3.out.put 12 (.bool false) s (fun n=>⟨n,rfl⟩) ⟨rfl,rfl,rfl,rfl⟩).ro k (.inr (.inr hk)))
  have H4:=hid h4
  have O4:=hid (only_x (only_x O3.out 12 (.bool false)) 13 (.slice A2 s0.bs.length d2))
  clear h4 y0 y1 p12 p13 ff H3 O3
  generalize (w3.setCell ⟨xb,12,none⟩ (.bool false)).setCell ⟨xb,13,none⟩ (.slice A2 s0.bs.length d2)=w4 at *
  go_wp2_with fail
  refine (refs_1 w4 H4.out (by show s0.bs.length≤6;omega) HH.out.2.2).mono ?_
  rintro e w5 ⟨u,rfl,hp5,ho5⟩
  obtain ⟨A5,d5,rfl⟩:=own_form ho5
  have hT:=TailI.of_own (base:=w4.heap.size) (xs:=wl s0.bs.length) (by rw [wl_len];exact ho5) (wl_rng _ (by omega))
  have h5:=H4.out.pure hp5
  have H5:=hid h5
  have HT5:=hid hT
  have O5:=hid (O4.out.trans (hp5.mono (T:=fun k=>k=xb) (fun _ _ f=>f.elim)) (fun _ _ h=>h))
  have HSZ:Hid (xb<w4.heap.size∧w.heap.size≤w4.heap.size):=hid ⟨H4.out.lt,O4.out.size⟩
  have p16:=h5.p16
  have ff:=h5.fz
  clear hp5 ho5 hT h5
  go_upto_region 10 with fail
  have h6:=H5.out.putx 16 (.slice A5 s0.bs.length d5) { s with rv:=.slice A2 s0.bs.length d2,bs:=s0.bs,wv:=.slice A5 s0.bs.length d5,words:=wl s0.bs.length } (fun n=>⟨n,rfl⟩) H5.out.refs (HT5.out.mono (Nat.zero_le _)) (fun k hk=>by
   rcases hk with hk | hk | hk
   ·exact H5.out.ro k (.inl hk)
   ·exact H5.out.ro k (.inr (.inl hk))
   ·have:=HT5.out.lt k hk;exact ⟨fun e=>by have:=HSZ.out;omega,this.2⟩)
  have H6:=hid h6
  have O6:=hid (only_x O5.out 16 (.slice A5 s0.bs.length d5))
  have HF6:Hid (∀ k,(Value.slice A5 s0.bs.length d5).ownBlock=some k→w.heap.size≤k):=hid (fun k hk=>by have:=HT5.out.lt k hk;have:=HSZ.out;omega)
  clear h6 p16 ff H5 O5 HT5 H4 O4 HSZ
  generalize w5.setCell ⟨xb,16,none⟩ (.slice A5 s0.bs.length d5)=w6 at *
  go_wp2_with fail
  refine (goes_more 2 ((wl (nb+1)).tail) w6 H6.out (by show wl s0.bs.length=_;rw [HNB.out];simp [wl,List.range_succ_eq_map])).mono ?_
  rintro e w7 ⟨rfl,rfl⟩
  have p11:=H6.out.p11
  have ff:=H6.out.fz
  have h7:=H6.out.put 11 (.int .i64 1) { s with pc:=1,rv:=.slice A2 s0.bs.length d2,bs:=s0.bs,wv:=.slice A5 s0.bs.length d5,words:=wl s0.bs.length } (fun n=>⟨n,rfl⟩) ⟨rfl,rfl,rfl,rfl⟩
  have H7:=hid h7
  have O7:=hid (only_x O6.out 11 (.int .i64 1))
  clear h7
  go_wp2_with fail
  go_ret
  refine ⟨rfl,O7.out,.slice A2 s0.bs.length d2,.slice A5 s0.bs.length d5,by rw [← HNB.out];exact H7.out,fun k hk=>?_⟩
  rcases hk with hk | hk
  ·exact (HF3.out k hk).1
  ·exact HF6.out k hk
theorem new_in (head:Nat) (se:Bool) (w:World) (hl:ShsR w w.heap.size v sh) (hok:checkI c sh=0) (hx:∀ s∈sh,s.bs.length≤1000000) :
  Calls Tryz.prog 100 #[cnV c v,.int .i64 (head:Int),.bool se] w fun e w'=>∃ xb v' m,e=.returned (.pointer (some ⟨xb,0,none⟩))∧Pure w w'∧w.heap.size≤xb∧(∀ k,CfS v' m k→w.heap.size≤k)∧alike sh m∧At w' xb c v' m ⟨head,se,0,.slice none 0 0,[],.slice none 0 0,[],0⟩:=by
 obtain ⟨A,cc,rfl⟩:∃ A cc,v=.slice A sh.length cc:=by
  obtain ⟨⟨A,cc,e,_⟩,_⟩:=hl
  exact ⟨A,cc,e⟩
 have hr:=Row.new w c (.slice A sh.length cc)
 have HR:=hid hr
 have HL:=hid (fun (w':World) (hp:Pure w w')=>hl.pure hp)
 have HX:=hid hx
 have HOK:=hid hok
 clear hr hl hx hok
 go_enter Tryz.func100,Tryz.ntmps100
 go_upto_region 1 with fail
 have HZ0:Hid ((w.alloc (.cells #[.int .i64 c.frags,.int .i64 c.spine,.int .i64 c.globals,.int .i64 c.threads,.int .i64 c.locals,.int .i64 c.cache,.int .i64 c.stack,.int .i64 c.low,.slice A sh.length cc] 24)).heap.size=w.heap.size+1):=hid (by simp)
 generalize w.alloc (.cells #[.int .i64 c.frags,.int .i64 c.spine,.int .i64 c.globals,.int .i64 c.threads,.int .i64 c.locals,.int .i64 c.cache,.int .i64 c.stack,.int .i64 c.low,.slice A sh.length cc] 24)=W at *
 obtain ⟨k0,k1,k2,k3,k4,k5,k6,k7,k8,kf⟩:=HR.out.cells
 go_wp2_with fail
 refine (copy_in c _ sh W (HL.out W HR.out.2.2) HOK.out HX.out).mono ?_
 rintro e w2 ⟨A2,d2,m2,rfl,hp2,hs2,hf2,ha2⟩
 have HP2:=hid (HR.out.2.2.then hp2)
 have HS2:=hid hs2
 have HF2:Hid (∀ k,CfS (.slice A2 sh.length d2) m2 k→w.heap.size≤k∧k<w2.heap.size):=hid (fun k hk=>by have:=hf2 k hk;have:=HZ0.out;omega)
 have HA2:=hid ha2
 clear hp2 hs2 hf2 ha2 k0 k1 k2 k3 k4 k5 k6 k7 k8 kf
 go_wp2_with fail
 go_ret
 have hm:=heap_alloc_new w2 (.cells (cs c (.slice A2 sh.length d2) ⟨head,se,0,.slice none 0 0,[],.slice none 0 0,[],0⟩ 0) 224)
 have hp:=(Only.refl (fun _=>False) w2).alloc (.cells (cs c (.slice A2 sh.length d2) ⟨head,se,0,.slice none 0 0,[],.slice none 0 0,[],0⟩ 0) 224)
 refine ⟨w2.heap.size,_,m2,rfl,HP2.out.then hp,HP2.out.size,fun k hk=>(HF2.out k hk).1,HA2.out,⟨0,hm⟩,HS2.out.pure hp,by rw [← HA2.out.check];exact HOK.out,SlG.nil _ _,TailI.nil _ _,fun k hk=>?_⟩
 rcases hk with hk | hk | hk
 ·have:=HF2.out k hk;exact ⟨by omega,by simp;omega⟩
 ·simp [Value.ownBlock] at hk
 ·simp [Value.ownBlock] at hk
end
end Go.Proofs.YtpgdiceeimehiaaGreat.Tr
namespace Go.Proofs.YtpgdiceeimehiaaGreat.Ac
open Go.RowKit
section
variable {w w':World} {κ:Nat→Nat} {b:B} {s:St}
theorem res_kept {C:Nat→Prop} {W w2:World} {κ1 κ2:Nat→Nat} {X:Nat} {u1 u2 u3 u4 u5:Value} (he:Ext C W κ1 w2 κ2) (hX:κ1 X=9) (h9:¬ C 9) (hr:W.heap[X]?=some (.cells #[u1,u2,u3,u4,u5] 46 (0,0))) :
  w2.heap[X]?=some (.cells #[u1,u2,u3,u4,u5] 46 (0,0))∧κ2 X=9:=⟨he.blk hr (by rw [hX];exact h9),(he.col (Array.getElem?_eq_some_iff.1 hr).1).trans hX⟩
theorem n67:¬ C67 9:=by unfold C67;omega
theorem nT:¬ CT 9:=by unfold CT;omega
theorem fails_any (e:Int) (w:World) (h:At w κ b s) (hph:s.phase≠4) (he:(e == 0)=false) (hnx:s.next≤100000):Calls Tryz.prog 131 #[.pointer (some ⟨b.ab,0,none⟩),.int .i64 e] w fun r w' =>
  r=.returned (.tuple #[resV s.next s.own e zeroVl,.bool true])∧∃ κ',Ext C67 w κ w' κ'∧At w' κ' b { s with next:=s.next+1,phase:=1,pc:=0 }:=by
 obtain ⟨hp,hz,hr⟩:=one_new w #[.int .i64 0,.int .i64 0,.int .i64 0,.bool false,.complex .f64 0 0] 46
 have H1:=hid (h.pure9 hp)
 have E1:Hid (Ext C67 w κ _ (paint w.heap.size κ 9)):=hid (ext9 hp)
 have HR:=hid hr
 have HE:=hid he
 have HP:=hid hph
 have hX:Hid (paint w.heap.size κ 9 w.heap.size=9):=hid (paint_new (Nat.le_refl _))
 clear hp hz hr h he hph
 go_enter Tryz.func131,Tryz.ntmps131
 go_wp2_with fail
 generalize w.alloc (.cells #[.int .i64 0,.int .i64 0,.int .i64 0,.bool false,.complex .f64 0 0] 46)=W at *
 refine (done_any zeroVl e W H1.out HP.out (.inr HE.out) zeroVl (by split <;> rfl) hnx).mono ?_
 rintro r w2 ⟨rfl,ho2,h2⟩
 have E2:=hid (E1.out.trans (ext_me H1.out.k6 ho2))
 obtain ⟨hr2,-⟩:=res_kept (ext_me H1.out.k6 ho2) hX.out n67 HR.out
 obtain ⟨z0,z1,z2,z3,z4⟩:=res_cells hr2
 have f1:=fun k=>frozen_of_row w2 w.heap.size k _ _ hr2
 have H2:=hid h2
 clear ho2 h2 hr2
 go_wp2_with fail
 refine bodyPost_ret (v:=.tuple #[.agg #[.int .i64 (s.next:Int),.int .i64 s.own,.int .i64 e,.bool false,.complex .f64 0 0],.bool true]) (by simp [results,Tryz.results131,go_sem,z0,z1,z2,z3,z4]) rfl ⟨rfl,_,((((E2.out.new (Nat.le_refl _) _ _).new (Nat.le_refl _) _ _).new (Nat.le_refl _) _ _).new (Nat.le_refl _) _ _).new (Nat.le_refl _) _ _,((((H2.out.cell9 hX.out _ _).cell9 hX.out _ _).cell9 hX.out _ _).cell9 hX.out _ _).cell9 hX.out _ _⟩
theorem lays_any (j:Nat) (v:Vl) (w:World) (h:At w κ b s) (hph:s.phase≠4) (hj:j<s.locals.length) (hnx:s.next≤100000):Calls Tryz.prog 180 #[.pointer (some ⟨b.ab,0,none⟩),.int .i64 (j:Int),vlV v] w fun r w' =>
  r=.returned (.tuple #[resV s.next s.own 0 v,.bool true])∧∃ κ',Ext C67 w κ w' κ'∧At w' κ' b { s with next:=s.next+1,phase:=1,pc:=0,locals:=s.locals.set j v }:=by
 obtain ⟨v1,v2,v3⟩:=v
 obtain ⟨hp,hz,hv,hr⟩:=two_new w #[.bool v1,.complex .f64 v2 v3] #[.int .i64 0,.int .i64 0,.int .i64 0,.bool false,.complex .f64 0 0] 44 46
 have H1:=hid (h.pure9 hp)
 have E1:Hid (Ext C67 w κ _ (paint w.heap.size κ 9)):=hid (ext9 hp)
 have HR:=hid hr
 have HV:=hid hv
 have HP:=hid hph
 have HL:=hid h.ll
 have hX:Hid (paint w.heap.size κ 9 (w.heap.size+1)=9):=hid (paint_new (by omega))
 have hY:Hid (paint w.heap.size κ 9 w.heap.size=9):=hid (paint_new (by omega))
 clear hp hz hr h hph hv
 go_enter Tryz.func180,Tryz.ntmps180
 go_wp2_with fail
 generalize (w.alloc (vlO v1 v2 v3)).alloc resZ=W at *
 have c2:=H1.out.p2
 obtain ⟨x,hx⟩:∃ x,s.locals[j]?=some x:=⟨_,List.getElem?_eq_getElem hj⟩
 obtain ⟨l0,l1⟩:=H1.out.local_ hx
 have fl:=H1.out.fl
 have i0:(0:Int)≤(j:Int):=by omega
 have i1:(j:Int)<(s.locals.length:Int):=by omega
 have v0:W.cell? ⟨w.heap.size,0,none⟩=some (.bool v1):=by rw [cell_of_row W _ _ _ _ _ HV.out];rfl
 have v1':W.cell? ⟨w.heap.size,1,none⟩=some (.complex .f64 v2 v3):=by rw [cell_of_row W _ _ _ _ _ HV.out];rfl
 clear hx
 go_region
 have n1:b.lg≠w.heap.size+1:=by have:=HL.out;omega
 have n2:b.lg≠w.heap.size:=by have:=HL.out;omega
 have h2:=(H1.out.lay j (v1,v2,v3) hj).drew
 have o2:Only (fun k=>k=b.lg) W ((W.setCell ⟨b.lg,j * 2,none⟩ (.bool v1)).setCell ⟨b.lg,j * 2+1,none⟩ (.complex .f64 v2 v3)).drew:=(((Only.refl (fun k=>k=b.lg) W).setCell (p:=⟨b.lg,j * 2,none⟩) (fun _=>rfl) _).setCell (p:=⟨b.lg,j * 2+1,none⟩) (fun _=>rfl) _).drewN 1
 have E2:=hid (E1.out.trans (ext_lg H1.out.k7 o2))
 have HR2:=hid (o2.blk HR.out (Ne.symm n1))
 have HV2:=hid (o2.blk HV.out (Ne.symm n2))
 have H2:=hid h2
 clear h2 o2 c2 l0 l1 fl v0 v1' i0 i1 HR HV E1 H1
 generalize ((W.setCell ⟨b.lg,j * 2,none⟩ (.bool v1)).setCell ⟨b.lg,j * 2+1,none⟩ (.complex .f64 v2 v3)).drew=W2 at *
 have v0:W2.cell? ⟨w.heap.size,0,none⟩=some (.bool v1):=by rw [cell_of_row W2 _ _ _ _ _ HV2.out];rfl
 have v1':W2.cell? ⟨w.heap.size,1,none⟩=some (.complex .f64 v2 v3):=by rw [cell_of_row W2 _ _ _ _ _ HV2.out];rfl
 go_wp2_with fail
 refine (done_any (v1,v2,v3) 0 W2 H2.out HP.out (.inl rfl) (v1,v2,v3) rfl hnx).mono ?_
 rintro r w3 ⟨rfl,ho3,h3⟩
 have E3:=hid (E2.out.trans (ext_me H2.out.k6 ho3))
 obtain ⟨hr2,-⟩:=res_kept (ext_me H2.out.k6 ho3) hX.out n67 HR2.out
 obtain ⟨z0,z1,z2,z3,z4⟩:=res_cells hr2
 have f1:=fun k=>frozen_of_row w3 (w.heap.size+1) k _ _ hr2
 have H3:=hid h3
 clear ho3 h3 hr2 v0 v1'
 go_wp2_with fail
 have hle:w.heap.size≤w.heap.size+1:=by omega
 refine bodyPost_ret (v:=.tuple #[.agg #[.int .i64 (s.next:Int),.int .i64 s.own,.int .i64 0,.bool v1,.complex .f64 v2 v3],.bool true]) (by simp [results,Tryz.results180,go_sem,z0,z1,z2,z3,z4]) rfl ⟨rfl,_,((((E3.out.new hle _ _).new hle _ _).new hle _ _).new hle _ _).new hle _ _,((((H3.out.cell9 hX.out _ _).cell9 hX.out _ _).cell9 hX.out _ _).cell9 hX.out _ _).cell9 hX.out _ _⟩
theorem head_ref (j i:Nat) (w:World) (h:At w κ b s) (hj:s.locals[j]?=some (true,refW i)) (hi:i≤1000000):Calls Tryz.prog 183 #[.pointer (some ⟨b.ab,0,none⟩),.int .i64 (j:Int)] w fun r w'=>r=.returned (.int .i64 (i:Int))∧w=w':=by
 have c2:=h.p2
 obtain ⟨l0,l1⟩:=h.local_ hj
 have hjl:=(List.getElem?_eq_some_iff.1 hj).1
 have i1:(j:Int)<(s.locals.length:Int):=by omega
 clear hj h
 go_enter Tryz.func183,Tryz.ntmps183
 go_wp2_with fail
 refine (index_ref i w hi).mono ?_
 rintro r w2 ⟨rfl,rfl⟩
 go_wp2_with fail
 go_ret
 exact ⟨rfl,rfl⟩
theorem both_any (w:World) (h:At w κ b s) (x:Bool) (hx:x=(s.status == 1 || s.status == 2)):Calls Tryz.prog 249 #[.pointer (some ⟨b.ab,0,none⟩)] w fun r w'=>r=.returned (.bool x)∧w=w':=by
 have c4:=h.p4
 have HX:=hid hx
 clear hx h
 by_cases h1:s.status=1
 ·rw [h1] at c4
  go_enter Tryz.func249,Tryz.ntmps249
  go_wp2_with fail
  go_ret
  exact ⟨by rw [HX.out,h1];rfl,rfl⟩
 ·have hb:(s.status == 1)=false:=by simpa using h1
  go_enter Tryz.func249,Tryz.ntmps249
  go_wp2_with fail
  go_ret
  exact ⟨by rw [HX.out,hb];rfl,rfl⟩
theorem shades_no (w:World) (h:At w κ b s) (h0:s.status=0∨s.status=4):Calls Tryz.prog 252 #[.pointer (some ⟨b.ab,0,none⟩)] w fun r w'=>r=.returned (.bool false)∧w=w':=by
 have c4:=h.p4
 clear h
 rcases h0 with h0 | h0
 all_goals
  rw [h0] at c4
  go_enter Tryz.func252,Tryz.ntmps252
  go_wp2_with fail
  go_ret
  exact ⟨rfl,rfl⟩
end
end Go.Proofs.YtpgdiceeimehiaaGreat.Ac
namespace Go.Proofs.YtpgdiceeimehiaaGreat.Ac
open Go.RowKit
section
variable {w w':World} {κ:Nat→Nat} {b:B} {s:St}
theorem op_cells {w:World} {X:Nat} {o:OpD} (h:w.heap[X]?=some (.cells #[.int .i64 (o.kind:Int),.int .i64 o.a,.int .i64 o.b,.int .i64 o.c,.int .i64 o.n,.complex .f64 o.x o.y] 32 (0,0))) :
  w.cell? ⟨X,0,none⟩=some (.int .i64 (o.kind:Int))∧w.cell? ⟨X,1,none⟩=some (.int .i64 o.a)∧w.cell? ⟨X,2,none⟩=some (.int .i64 o.b)∧w.cell? ⟨X,3,none⟩=some (.int .i64 o.c)∧w.cell? ⟨X,4,none⟩=some (.int .i64 o.n)∧w.cell? ⟨X,5,none⟩=some (.complex .f64 o.x o.y):=by
 refine ⟨?_,?_,?_,?_,?_,?_⟩ <;> (rw [cell_of_row w _ _ _ _ _ h];rfl)
abbrev opO (o:OpD):Obj:=.cells #[.int .i64 (o.kind:Int),.int .i64 o.a,.int .i64 o.b,.int .i64 o.c,.int .i64 o.n,.complex .f64 o.x o.y] 32
theorem chooses_plain (o:OpD) (j:Nat) (v:Vl) (w:World) (h:At w κ b s) (hb:o.b=(j:Int)) (hj:s.locals[j]?=some v) (h0:s.status=0∨s.status=4):Calls Tryz.prog 184 #[.pointer (some ⟨b.ab,0,none⟩),opV o] w fun r w' =>
  r=.returned (.tuple #[])∧∃ κ',Ext C67 w κ w' κ'∧At w' κ' b { s with w:=v.2,at_:=6 }:=by
 obtain ⟨v1,v2,v3⟩:=v
 obtain ⟨hp,hz,hr⟩:=one_new w #[.int .i64 (o.kind:Int),.int .i64 o.a,.int .i64 o.b,.int .i64 o.c,.int .i64 o.n,.complex .f64 o.x o.y] 32
 have H1:=hid (h.pure9 hp)
 have E1:Hid (Ext C67 w κ _ (paint w.heap.size κ 9)):=hid (ext9 hp)
 have HR:=hid hr
 have HL:=hid h.lb
 have H0:=hid h0
 have HB:=hid hb
 clear hp hz hr h h0 hb
 go_enter Tryz.func184,Tryz.ntmps184
 go_wp2_with fail
 generalize w.alloc (opO o)=W at *
 generalize w.heap.size=X at *
 have c2:=H1.out.p2
 have c16:=H1.out.p16
 have c11:=H1.out.p11
 have fb:=H1.out.fb
 obtain ⟨l0,l1⟩:=H1.out.local_ hj
 obtain ⟨-,-,o2,-⟩:=op_cells HR.out
 rw [HB.out] at o2
 have hjl:=(List.getElem?_eq_some_iff.1 hj).1
 have i0:(0:Int)≤(j:Int):=by omega
 have i1:(j:Int)<(s.locals.length:Int):=by omega
 clear hj
 go_region
 have h2:=((H1.out.put 16 (.complex .f64 v2 v3) { s with w:=(v2,v3) } rfl rfl ⟨rfl,rfl,rfl,rfl,rfl,rfl⟩).put 11 (.int .i64 6) { s with w:=(v2,v3),at_:=6 } rfl rfl ⟨rfl,rfl,rfl,rfl,rfl,rfl⟩).drew
 have o2':Only (fun k=>k=b.ab) W ((W.setCell ⟨b.ab,16,none⟩ (.complex .f64 v2 v3)).setCell ⟨b.ab,11,none⟩ (.int .i64 6)).drew:=(Only.me (Only.me (Only.refl _ W) _ _) _ _).drewN 1
 have E2:=hid (E1.out.trans (ext_me H1.out.k6 o2'))
 have H2:=hid h2
 clear h2 o2' c2 c16 c11 fb l0 l1 o2 i0 i1 HR E1 H1
 generalize ((W.setCell ⟨b.ab,16,none⟩ (.complex .f64 v2 v3)).setCell ⟨b.ab,11,none⟩ (.int .i64 6)).drew=W2 at *
 obtain ⟨x,hx⟩:∃ x,s.ref=x:=⟨_,rfl⟩
 have c14:=H2.out.p14
 simp only [hx] at c14
 have HX:=hid hx
 clear hx
 cases x
 ·go_wp2_with fail
  go_end0
  exact ⟨rfl,_,E2.out,H2.out⟩
 ·go_wp2_with fail
  refine (shades_no W2 H2.out H0.out).mono ?_
  rintro r w3 ⟨rfl,rfl⟩
  go_wp2_with fail
  go_end0
  exact ⟨rfl,_,E2.out,H2.out⟩
end
end Go.Proofs.YtpgdiceeimehiaaGreat.Ac
namespace Go.Proofs.YtpgdiceeimehiaaGreat
open Go.RowKit
open Ac (OpD opV opO op_cells Vl Wr resV resZ zeroVl res_cells res_kept nT one_new two_new lays_any done_any CT)
section
variable {w w':World} {c:Cn} {K:Cor.Q} {κ:Nat→Nat} {m:Cor.St} {b:Ac.B} {s:Ac.St}
theorem reads_ref (o:OpD) (j a:Nat) (z:Nat × Nat) (w:World) (h:Sys w c K κ m b s) (hz:RefW z) (had:s.addr=(j:Int)) (hj:m.words[j]?=some z) (hr:s.ref=true) (ha:o.a=(a:Int)) (hal:a<s.locals.length) (hph:s.phase≠4) (hnx:s.next≤100000):Calls Tryz.prog 123 #[.pointer (some ⟨b.ab,0,none⟩),.pointer (some ⟨K.kb,0,none⟩),opV o] w fun r w' =>
  r=.returned (.tuple #[resV s.next s.own 0 (true,z),.bool true])∧∃ κ',Ext CT w κ w' κ'∧Sys w' c K κ' m b { s with next:=s.next+1,phase:=1,pc:=0,locals:=s.locals.set a (true,z) }:=by
 obtain ⟨hp,-,hv,hrz⟩:=two_new w #[.int .i64 (o.kind:Int),.int .i64 o.a,.int .i64 o.b,.int .i64 o.c,.int .i64 o.n,.complex .f64 o.x o.y] #[.int .i64 0,.int .i64 0,.int .i64 0,.bool false,.complex .f64 0 0] 32 46
 have H1:=hid (h.pure9 hp)
 have HR:=hid hrz
 have HV:=hid hv
 have HH:=hid (And.intro hz (And.intro had (And.intro hj (And.intro hr (And.intro ha hph)))))
 have hX:Hid (paint w.heap.size κ 9 (w.heap.size+1)=9):=hid (paint_new (by omega))
 have hY:Hid (paint w.heap.size κ 9 w.heap.size=9):=hid (paint_new (by omega))
 have hle:w.heap.size≤w.heap.size+1:=by omega
 clear hp hrz h hv hz had hj hr ha hph
 go_enter Tryz.func123,Tryz.ntmps123
 go_wp2_with fail
 generalize (w.alloc (opO o)).alloc resZ=W at *
 generalize paint w.heap.size κ 9=κ1 at *
 obtain ⟨E1,S1⟩:=H1.out
 have q9:=S1.cor.q9
 have c13:=S1.act.p13
 rw [HH.out.2.1] at c13
 have HE1:=hid E1
 have HS1:=hid S1
 clear E1 S1 H1
 go_region_with (go_at_call 97;refine (Cor.read j z _ HS1.out.drew.cor HH.out.2.2.1).mono ?_;rintro r w2 ⟨rfl,he2,hc2⟩)
 all_goals
  obtain ⟨e2,S2⟩:=HS1.out.drew.cored he2 hc2
  have E2:=hid (HE1.out.trans e2.drewl)
  obtain ⟨hr2,hx2⟩:=res_kept e2.drewl hX.out nT HR.out
  have HX2:=hid hx2
  have hv2:=e2.drewl.blk HV.out (by rw [hY.out];exact nT)
  have c14:=S2.act.p14
  rw [HH.out.2.2.2.1] at c14
  obtain ⟨-,o1,-,-,-,-⟩:=op_cells hv2
  rw [HH.out.2.2.2.2.1] at o1
  have HR2:=hid hr2
  have HS2:=hid S2
  clear he2 hc2 S2 e2 hr2 hv2 hx2 c13 q9
  go_upto_region 2 with fail
  go_wp2_with fail
  refine (is_okw z w2 HH.out.1).mono ?_
  rintro r w3 ⟨rfl,rfl⟩
  go_wp2_with fail
  obtain ⟨z0,z1,z2,z3,z4⟩:=res_cells HR2.out
  have f1:=fun k=>frozen_of_row w2 (w.heap.size+1) k _ _ HR2.out
  go_region_with (go_at_call 180;refine (lays_any a (true,z) _ HS2.out.drew.act HH.out.2.2.2.2.2 hal hnx).mono ?_;rintro r w3 ⟨rfl,κ3,he3,ha3⟩;obtain ⟨e3,S3⟩:=HS2.out.drew.acted he3 ha3;have HE3:=hid e3.drewl;have HS3:=hid S3;obtain ⟨hr3,hx3⟩:=res_kept e3.drewl HX2.out nT HR2.out;obtain ⟨z0,z1,z2,z3,z4⟩:=res_cells hr3;have f1:=fun k=>frozen_of_row w3 (w.heap.size+1) k _ _ hr3;have HX3:=hid hx3;clear he3 ha3 e3 S3 hr3 hx3)
  all_goals
   go_wp2_with fail
   refine bodyPost_ret (v:=.tuple #[.agg #[.int .i64 (s.next:Int),.int .i64 s.own,.int .i64 0,.bool true,.complex .f64 z.1 z.2],.bool true]) (by simp [results,Tryz.results123,go_sem,z0,z1,z2,z3,z4]) rfl ⟨rfl,_,(((((E2.out.trans HE3.out).new hle _ _).new hle _ _).new hle _ _).new hle _ _).new hle _ _,((((HS3.out.cell9 HX3.out _ _).cell9 HX3.out _ _).cell9 HX3.out _ _).cell9 HX3.out _ _).cell9 HX3.out _ _⟩
end
open Go.RowKit
open Ac (wrs OpD opV opO op_cells Vl Wr resV resZ zeroVl res_cells res_kept nT one_new two_new lays_any done_any fails_any CT)
section
variable {w w':World} {c:Cn} {K:Cor.Q} {κ:Nat→Nat} {m:Cor.St} {b:Ac.B} {s:Ac.St}
theorem stores_write (j:Nat) (w:World) (h:Sys w c K κ m b s) (hat:s.at_=6) (had:s.addr=(j:Int)) (hj:j<m.words.length) (hph:s.phase≠4) (hnx:s.next≤100000):Calls Tryz.prog 128 #[.pointer (some ⟨b.ab,0,none⟩),.pointer (some ⟨K.kb,0,none⟩)] w fun r w' =>
  r=.returned (.tuple #[resV s.next s.own 0 zeroVl,.bool true])∧∃ κ',Ext CT w κ w' κ'∧Sys w' c K κ' { m with words:=m.words.set j s.w } b { s with next:=s.next+1,phase:=1,pc:=0 }:=by
 obtain ⟨hp,-,hrz⟩:=one_new w #[.int .i64 0,.int .i64 0,.int .i64 0,.bool false,.complex .f64 0 0] 46
 have c11:=h.act.p11
 rw [hat] at c11
 have hlb:=h.act.lb
 have H1:=hid (h.pure9 hp)
 have HR:=hid hrz
 have HX1:Hid (paint w.heap.size κ 9 (w.heap.size)=9):=hid (paint_new (by omega))
 have HLE:Hid (w.heap.size≤w.heap.size):=hid (by omega)
 have HH:=hid (And.intro hat (And.intro had hph))
 clear hp hrz h hat had hph
 go_enter Tryz.func128,Tryz.ntmps128
 go_wp2_with fail
 generalize w.alloc resZ=W at *
 generalize paint w.heap.size κ 9=κ1 at *
 obtain ⟨E1,S1⟩:=H1.out
 have HE1:=hid E1
 have HS1:=hid S1
 clear E1 S1 H1
 clear c11 hlb
 have c11:=HS1.out.act.p11
 rw [HH.out.1] at c11
 refine wp_scope_hop 1 (fun C HC0=>?_)
 have HC:=hid HC0
 clear HC0
 go_wp2_with fail
 go_step3
 refine Hop_goto ((congrArg (fun d=>findLabel d 2) HC.out).trans rfl) ?_
 clear HC
 go_wp2_with fail
 have c13:=HS1.out.act.p13
 rw [HH.out.2.1] at c13
 have c16:=HS1.out.act.p16
 have q9:=HS1.out.cor.q9
 go_region_with (go_at_call 192;refine (Cor.write j s.w.1 s.w.2 _ HS1.out.drew.cor hj).mono ?_;rintro r w2 ⟨rfl,he2,hc2⟩)
 all_goals
  obtain ⟨e2,S2⟩:=HS1.out.drew.cored he2 hc2
  have HS2:=hid S2
  have HE2:=hid (HE1.out.trans e2.drewl)
  obtain ⟨hr2,hx2⟩:=res_kept e2.drewl HX1.out nT HR.out
  have HR2:=hid hr2
  have HX2:=hid hx2
  clear he2 hc2 S2 e2 hr2 hx2 c13 c16 q9
  go_wp2_with fail
  refine (done_any zeroVl 0 w2 HS2.out.act HH.out.2.2 (.inl rfl) zeroVl rfl hnx).mono ?_
  rintro r w3 ⟨rfl,ho3,h3⟩
  obtain ⟨e3,S3⟩:=HS2.out.acted (Ac.ext_me HS2.out.act.k6 ho3) h3
  have HS3:=hid S3
  have HE3:=hid (HE2.out.trans e3)
  obtain ⟨hr2,hx2⟩:=res_kept e3 HX2.out nT HR2.out
  have HR3:=hid hr2
  have HX3:=hid hx2
  clear ho3 h3 e3 S3 hr2 hx2
  obtain ⟨z0,z1,z2,z3,z4⟩:=res_cells HR3.out
  have f1:=fun k=>frozen_of_row w3 w.heap.size k _ _ HR3.out
  go_wp2_with fail
  simp only [Hop_ret]
  refine bodyPost_ret (v:=.tuple #[.agg #[.int .i64 (s.next:Int),.int .i64 s.own,.int .i64 0,.bool false,.complex .f64 0 0],.bool true]) (by simp [results,Tryz.results128,go_sem,z0,z1,z2,z3,z4]) rfl ⟨rfl,_,(((((HE3.out.new HLE.out _ _).new HLE.out _ _).new HLE.out _ _).new HLE.out _ _).new HLE.out _ _),(((((HS3.out.cell9 HX3.out _ _).cell9 HX3.out _ _).cell9 HX3.out _ _).cell9 HX3.out _ _).cell9 HX3.out _ _)⟩
theorem makes_any (j:Nat) (v:Nat × Nat) (l:List Wr) (w:World) (h:Sys w c K κ m b s) (hw:s.writes=((j:Int),v) :: l) (hj:j<m.words.length) (hat:s.at_=7) (x:Int) (hx:x=if l=[] then 8 else 7):Calls Tryz.prog 124 #[.pointer (some ⟨b.ab,0,none⟩),.pointer (some ⟨K.kb,0,none⟩)] w fun r w' =>
  r=.returned (.tuple #[resV 0 0 0 zeroVl,.bool false])∧∃ κ',Ext CT w κ w' κ'∧∃ wv',Sys w' c K κ' { m with words:=m.words.set j v } b { s with wv:=wv',writes:=l,at_:=x }:=by
 obtain ⟨hp,-,hrz⟩:=one_new w #[.int .i64 0,.int .i64 0,.int .i64 0,.bool false,.complex .f64 0 0] 46
 have H1:=hid (h.pure9 hp)
 have HR:=hid hrz
 have HX1:Hid (paint w.heap.size κ 9 (w.heap.size)=9):=hid (paint_new (by omega))
 have HLE:Hid (w.heap.size≤w.heap.size):=hid (by omega)
 have HH:=hid (And.intro hw (And.intro hat hx))
 clear hp hrz h hw hat hx
 go_enter Tryz.func124,Tryz.ntmps124
 go_wp2_with fail
 generalize w.alloc resZ=W at *
 generalize paint w.heap.size κ 9=κ1 at *
 obtain ⟨E1,S1⟩:=H1.out
 have HE1:=hid E1
 have HS1:=hid S1
 clear E1 S1 H1
 obtain ⟨A,cw,hwv,hlen,hlt,hcs⟩:=HS1.out.act.rd.wr
 obtain ⟨g,off,rfl,hg⟩:=hcs (by rw [HH.out.1];simp)
 have w0:W.cell? ⟨g,off,none⟩=some (.int .i64 (j:Int)):=hg 0 _ (by rw [HH.out.1];rfl)
 have w1:W.cell? ⟨g,off+1,none⟩=some (.complex .f64 v.1 v.2):=hg 1 _ (by rw [HH.out.1];rfl)
 have HG:=hid hg
 have HLT:=hid hlt
 have hlen2:s.writes.length=l.length+1:=by rw [HH.out.1];rfl
 rw [hlen2] at hwv hlen
 have HWV:=hid hwv
 have c18:=HS1.out.act.p18
 rw [hwv] at c18
 have q9:=HS1.out.cor.q9
 clear hcs hg hlt hwv hlen2
 go_still_tail 20,(by kernel_rfl)
 change wpList _ _ _ _ _ W.drew
 have HS1d:=hid HS1.out.drew
 have HRd:=hid (show W.drew.heap[w.heap.size]?=_ from HR.out)
 have HGd:=hid (show ∀ j u,(wrs s.writes)[j]?=some u→W.drew.cell? ⟨g,off+j,none⟩=some u from HG.out)
 have HE1d:Hid (Ext CT w κ W.drew κ1):=hid (HE1.out.trans (Ext.pure ((Only.refl (fun _=>False) W).drewN 1)))
 clear HG HR HS1 HE1 w0 w1 q9 c18
 generalize W.drew=W1 at *
 go_wp2_with fail
 refine (Cor.write j v.1 v.2 _ HS1d.out.cor hj).mono ?_
 rintro r w2 ⟨rfl,he2,hc2⟩
 obtain ⟨e2,S2⟩:=HS1d.out.cored he2 hc2
 have HS2:=hid S2
 have HE2:=hid (HE1d.out.trans e2)
 obtain ⟨hr2,hx2⟩:=res_kept e2 HX1.out nT HRd.out
 have HR2:=hid hr2
 have HX2:=hid hx2
 have c18:=S2.act.p18
 have c11:=S2.act.p11
 rw [HWV.out] at c18
 have fb:=S2.act.fb
 clear he2 hc2 S2 e2 hr2 hx2
 simp only []
 obtain ⟨A2,hA2⟩:∃ A2,(if cw=1 then some (⟨g,off,none⟩:Addr) else some ⟨g,off+2,none⟩)=A2:=⟨_,rfl⟩
 go_upto_region 4 with fail
 have hT:=HS2.out.act.rd.wr
 rw [HWV.out,HH.out.1] at hT
 have hT2:=hT.tail A2 hA2
 have h8:∀ k,(Value.slice A2 l.length (cw-1)).ownBlock=some k→κ1 k=8:=fun k hk=>by
  rw [hT2.2 k hk]
  exact HS2.out.act.rd.k8 g (.inr (.inr (.inr (by rw [HWV.out];rfl))))
 have h3:=HS2.out.act.putw _ l hT2.1 h8
 have o3:Only (fun k=>k=b.ab) w2 (w2.setCell ⟨b.ab,18,none⟩ (.slice A2 l.length (cw-1))):=Ac.Only.me (Only.refl _ w2) _ _
 obtain ⟨e3,S3⟩:=HS2.out.acted (Ac.ext_me HS2.out.act.k6 o3) h3
 have HS3:=hid S3
 have HE3:=hid (HE2.out.trans e3)
 obtain ⟨hr2,hx2⟩:=res_kept e3 HX2.out nT HR2.out
 have HR3:=hid hr2
 have HX3:=hid hx2
 clear hA2 hT hT2 h8 h3 o3 c18 c11 fb e3 S3 hr2 hx2 HS2 HE2 HR2 HX2
 generalize w2.setCell ⟨b.ab,18,none⟩ (.slice A2 l.length (cw-1))=w3 at *
 have c18:=HS3.out.act.p18
 have c11:=HS3.out.act.p11
 have fb:=HS3.out.act.fb
 obtain ⟨z0,z1,z2,z3,z4⟩:=res_cells HR3.out
 have f1:=fun k=>frozen_of_row w3 w.heap.size k _ _ HR3.out
 cases l with
 | nil =>
  have h4:=HS3.out.act.put 11 (.int .i64 8) { s with wv:=.slice A2 0 (cw-1),writes:=[],at_:=8 } rfl rfl ⟨rfl,rfl,rfl,rfl,rfl,rfl⟩
  have o4:Only (fun k=>k=b.ab) w3 (w3.setCell ⟨b.ab,11,none⟩ (.int .i64 8)):=Ac.Only.me (Only.refl _ w3) _ _
  obtain ⟨e4,S4⟩:=HS3.out.acted (Ac.ext_me HS3.out.act.k6 o4) h4
  have HS4:=hid S4
  have HE4:=hid (HE3.out.trans e4)
  obtain ⟨hr2,hx2⟩:=res_kept e4 HX3.out nT HR3.out
  have HR4:=hid hr2
  have HX4:=hid hx2
  clear h4 o4 e4 S4 hr2 hx2
  go_upto_region 6 with fail
  generalize w3.setCell ⟨b.ab,11,none⟩ (.int .i64 8)=w4 at *
  clear z0 z1 z2 z3 z4 f1 c18 c11 fb
  obtain ⟨z0,z1,z2,z3,z4⟩:=res_cells HR4.out
  have f1:=fun k=>frozen_of_row w4 w.heap.size k _ _ HR4.out
  go_wp2_with fail
  refine bodyPost_ret (v:=.tuple #[.agg #[.int .i64 0,.int .i64 0,.int .i64 0,.bool false,.complex .f64 0 0],.bool false]) (by simp [results,Tryz.results124,go_sem,z0,z1,z2,z3,z4]) rfl ⟨rfl,_,(((((HE4.out.new HLE.out _ _).new HLE.out _ _).new HLE.out _ _).new HLE.out _ _).new HLE.out _ _),_,by rw [show x=8 from HH.out.2.2];exact (((((HS4.out.cell9 HX4.out _ _).cell9 HX4.out _ _).cell9 HX4.out _ _).cell9 HX4.out _ _).cell9 HX4.out _ _)⟩
 | cons y l =>
  have hne:((((y :: l).length:Nat):Int) == 0)=false:=by simp;omega
  simp only [List.length_cons] at hne c18
  go_wp2_with fail
  refine bodyPost_ret (v:=.tuple #[.agg #[.int .i64 0,.int .i64 0,.int .i64 0,.bool false,.complex .f64 0 0],.bool false]) (by simp [results,Tryz.results124,go_sem,z0,z1,z2,z3,z4]) rfl ⟨rfl,_,(((((HE3.out.new HLE.out _ _).new HLE.out _ _).new HLE.out _ _).new HLE.out _ _).new HLE.out _ _),_,by rw [show x=s.at_ from HH.out.2.2.trans HH.out.2.1.symm];exact (((((HS3.out.cell9 HX3.out _ _).cell9 HX3.out _ _).cell9 HX3.out _ _).cell9 HX3.out _ _).cell9 HX3.out _ _)⟩
end
end Go.Proofs.YtpgdiceeimehiaaGreat
