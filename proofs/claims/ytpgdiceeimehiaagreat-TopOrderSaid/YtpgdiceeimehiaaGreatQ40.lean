/- Part 40 of the proof that spotop.TopOrder returns true for all arguments and leaves what was there as it was. -/
import Derived.Test.YtpgdiceeimehiaaGreatQ36
import Derived.Test.YtpgdiceeimehiaaGreatQ37
import Derived.Test.YtpgdiceeimehiaaGreatQ39
set_option maxRecDepth 100000
set_option maxHeartbeats 16000000
open Go.Lib (hid)
namespace Go.Proofs.YtpgdiceeimehiaaGreat
open Go.RowKit
open Ac (wrs OpD opV opO op_cells Vl Wr resV resZ zeroVl res_cells res_kept nT one_new two_new lays_any done_any fails_any CT)
section
variable {w w':World} {c:Cn} {K:Cor.Q} {κ:Nat→Nat} {m:Cor.St} {b:Ac.B} {s:Ac.St}
open Ac (vals vlV vlL op_cells)
theorem finds_store (o:OpD) (fb i k kd md:Nat) (s0:Sh) (v:Value) (sh:List Sh) (j2:Nat) (z2:Nat × Nat) (w:World) (h:Sys w c K κ m b s) (hk:o.kind=4) (hf:s.f=.pointer (some ⟨fb,0,none⟩)) (hF:FdOk w c K κ fb v sh i k) (ho2:o.b=(j2:Int)) (hj2:s.locals[j2]?=some (true,z2)) (hst:s.status=0∨s.status=4) (hz:m.words[8 * i+1]?=some (headW kd md)) (hkd:K.csh[kd]?=some s0) (ha:s0.a=false) (hmd:md≤1) (hk0:k<s0.bs.length) (hb:s0.bs.length≤40) (hk6:k<6) (hh:(i:Int)<c.frags) (hkn:kd≤1000) (hr:s0.bs[k]?=some true) :
  Calls Tryz.prog 122 #[.pointer (some ⟨b.ab,0,none⟩),.pointer (some ⟨K.kb,0,none⟩),opV o] w fun r w'=>r=.returned (.tuple #[resV 0 0 0 zeroVl,.bool false])∧∃ κ',Ext CT w κ w' κ'∧Sys w' c K κ' m b { s with w:=z2,at_:=6,addr:=((8 * i+(2+k):Nat):Int),ref:=true }:=by
 obtain ⟨hp,-,hv,hrz⟩:=two_new w #[.int .i64 (o.kind:Int),.int .i64 o.a,.int .i64 o.b,.int .i64 o.c,.int .i64 o.n,.complex .f64 o.x o.y] #[.int .i64 0,.int .i64 0,.int .i64 0,.bool false,.complex .f64 0 0] 32 46
 have H1:=hid (h.pure9 hp)
 have hF2:=(hF.recol (κ':=paint w.heap.size κ 9) (fun k hk=>paint_old hk)).only hp (fun _ f=>f.elim)
 have HR:=hid hrz
 have HV:=hid hv
 have HY1:Hid (paint w.heap.size κ 9 w.heap.size=9):=hid (paint_new (by omega))
 have HX1:Hid (paint w.heap.size κ 9 (w.heap.size+1)=9):=hid (paint_new (by omega))
 have HLE:Hid (w.heap.size≤w.heap.size+1):=hid (by omega)
 have HK:=hid hk
 have HFP:=hid hf
 have HZ:=hid (And.intro hz (And.intro hkd (And.intro ha hr)))
 have HFK:=hid hF2
 have HO2:=hid ho2
 have HJ2:=hid hj2
 have HST:=hid hst
 clear hp hrz h hv hk hf hF hF2 hz hkd ha hr ho2 hj2 hst
 go_enter Tryz.func122,Tryz.ntmps122
 go_upto_region 1 with fail
 generalize (w.alloc (opO o)).alloc resZ=W at *
 generalize paint w.heap.size κ 9=κ1 at *
 generalize w.heap.size+1=X at *
 obtain ⟨E1,S1⟩:=H1.out
 have HE1:=hid E1
 have HS1:=hid S1
 clear E1 S1 H1
 have c11:=HS1.out.act.p11
 have fz:=HS1.out.act.fb
 go_upto_region 2 with fail
 have h2:=HS1.out.act.put 11 (.int .i64 1) { s with at_:=1 } rfl rfl ⟨rfl,rfl,rfl,rfl,rfl,rfl⟩
 have o2:Only (fun k=>k=b.ab) W (W.setCell ⟨b.ab,11,none⟩ (.int .i64 1)):=Ac.Only.me (Only.refl _ W) _ _
 obtain ⟨e2,S2⟩:=HS1.out.acted (Ac.ext_me HS1.out.act.k6 o2) h2
 have HS2:=hid S2
 have HF2:=hid (HFK.out.only o2 (fun k hk=>by rw [hk,HS1.out.act.k6];omega))
 have HE2:=hid (HE1.out.trans e2)
 obtain ⟨hr2,hx2⟩:=res_kept e2 HX1.out nT HR.out
 have HR2:=hid hr2
 have HX2:=hid hx2
 have hv2:=(e2).blk HV.out (by rw [HY1.out];exact nT)
 have hy2:=((e2).col (Array.getElem?_eq_some_iff.1 HV.out).1).trans HY1.out
 have HV2:=hid hv2
 have HY2:=hid hy2
 clear h2 o2 e2 S2 hr2 hx2 hv2 hy2 c11 fz HFK
 generalize W.setCell ⟨b.ab,11,none⟩ (.int .i64 1)=w2 at *
 have c12:=HS2.out.act.p12
 rw [HFP.out] at c12
 have q9:=HS2.out.cor.q9
 go_still_tail 9,(by kernel_rfl)
 change wpList _ _ _ _ _ w2.drew
 have HS3:=hid HS2.out.drew
 have HF3:Hid (FdOk w2.drew c K κ1 fb v sh i k):=hid (HF2.out.only ((Only.refl (fun _=>False) w2).drewN 1) (fun _ f=>f.elim))
 have HR3:=hid (show w2.drew.heap[X]?=_ from HR2.out)
 have HV3:=hid (show w2.drew.heap[w.heap.size]?=_ from HV2.out)
 have HE3:Hid (Ext CT w κ w2.drew κ1):=hid (HE2.out.trans (Ext.pure ((Only.refl (fun _=>False) w2).drewN 1)))
 have HX3:=HX2
 have HY3:=HY2
 clear HS2 HF2 HR2 HV2 HE2 c12 q9 HX2 HY2
 generalize w2.drew=w3 at *
 go_wp2_with fail
 obtain ⟨t0,ht0,hta,htb⟩:=HF3.out.like.get HZ.out.2.1
 have tk0:k<t0.bs.length:=by rw [htb];exact hk0
 have tk1:t0.bs.length≤40:=by rw [htb];exact hb
 have tk2:t0.bs[k]?=some true:=by rw [htb];exact HZ.out.2.2.2
 have tk3:t0.a=false:=by rw [hta];exact HZ.out.2.2.1
 refine (Fd.step_near (s:=⟨i,k,0,-1,false,0⟩) kd md t0 true K.mb K.mg m.words w3 HF3.out.at_ HS3.out.cor.mem HF3.out.ne.1 HF3.out.ne.2 HF3.out.nc rfl HZ.out.1 ht0 tk3 hmd tk0 tk1 hk6 hh hkn tk2).mono ?_
 rintro e w4 ⟨rfl,ho4,hf4,hm4⟩
 have hT:∀ q,(q=fb∨q=K.mb)→κ1 q=1:=fun q hq=>by rcases hq with rfl | rfl;exact HF3.out.k1;exact HS3.out.cor.k1.1
 have e4:Ext CT w3 κ1 w4 κ1:=Ext.of (ho4.mono (fun q _ hq=>by rw [hT q hq];unfold CT;omega))
 have s4:Sys w4 c K κ1 m b { s with at_:=1 }:=⟨HS3.out.cor.memmed1 ho4 hT hm4,HS3.out.act.keep ho4 (fun q hq hq2=>by rw [hT q hq2] at hq;omega) (fun _ _=>rfl)⟩
 have HS4:=hid s4
 have HF4:=hid hf4
 have HE4:=hid (HE3.out.trans e4)
 obtain ⟨hr2,hx2⟩:=res_kept e4 HX3.out nT HR3.out
 have HR4:=hid hr2
 have HX4:=hid hx2
 have hv2:=(e4).blk HV3.out (by rw [HY3.out];exact nT)
 have hy2:=((e4).col (Array.getElem?_eq_some_iff.1 HV3.out).1).trans HY3.out
 have HV4:=hid hv2
 have HY4:=hid hy2
 have c12:=s4.act.p12
 rw [HFP.out] at c12
 clear ho4 hf4 hm4 hT e4 s4 tk0 tk1 tk2 tk3 ht0 hta htb t0 hr2 hx2 hv2 hy2
 go_wp2_with fail
 refine (Fd.errno_in w4 HF4.out).mono ?_
 rintro e w5 ⟨rfl,rfl⟩
 obtain ⟨ad,had⟩:∃ ad:Nat,8 * i+(2+k)=ad:=⟨_,rfl⟩
 rw [had] at HF4 ⊢
 have HAD:=hid had
 clear had
 have c11:=HS4.out.act.p11
 have c13:=HS4.out.act.p13
 have c14:=HS4.out.act.p14
 have fz:=HS4.out.act.fb
 go_upto_region 7 with fail
 go_cut [7] (fun _ wx=>wx=(((w4.drewN 1).setCell ⟨b.ab,13,none⟩ (.int .i64 (ad:Int))).setCell ⟨b.ab,14,none⟩ (.bool true)).setCell ⟨b.ab,11,none⟩ (.int .i64 2))
 case first =>
  go_wp2_with fail
  go_region_with (first | (go_at_call 189;refine (Fd.at_in _ (HF4.out.pure ((Only.refl (fun _=>False) w4).drewN 1))).mono ?_;rintro e w6 ⟨rfl,rfl⟩) | (go_at_call 190;refine (Fd.ref_in_ ad _ (HF4.out.pure ((Only.refl (fun _=>False) w4).drewN 1)) rfl).mono ?_;rintro e w6 ⟨rfl,rfl⟩))
  all_goals
   go_wp2_with fail
   go_meet
   rfl
 case rest =>
  subst hcut
  have h6:=((HS4.out.act.drew.put 13 (.int .i64 (ad:Int)) { s with at_:=1,addr:=(ad:Int) } rfl rfl ⟨rfl,rfl,rfl,rfl,rfl,rfl⟩).put 14 (.bool true) { s with at_:=1,addr:=(ad:Int),ref:=true } rfl rfl ⟨rfl,rfl,rfl,rfl,rfl,rfl⟩).put 11 (.int .i64 2) { s with at_:=2,addr:=(ad:Int),ref:=true } rfl rfl ⟨rfl,rfl,rfl,rfl,rfl,rfl⟩
  have o6:Only (fun k=>k=b.ab) w4.drew ((((w4.drewN 1).setCell ⟨b.ab,13,none⟩ (.int .i64 (ad:Int))).setCell ⟨b.ab,14,none⟩ (.bool true)).setCell ⟨b.ab,11,none⟩ (.int .i64 2)):=Ac.Only.me (Ac.Only.me (Ac.Only.me (Only.refl _ _) _ _) _ _) _ _
  obtain ⟨e6,S6⟩:=HS4.out.drew.acted (Ac.ext_me HS4.out.act.k6 o6) h6
  have HS6:=hid S6
  have HE6:=hid (HE4.out.trans e6.drewl)
  obtain ⟨hr2,hx2⟩:=res_kept e6.drewl HX4.out nT HR4.out
  have HR6:=hid hr2
  have HX6:=hid hx2
  have hv2:=(e6.drewl).blk HV4.out (by rw [HY4.out];exact nT)
  have hy2:=((e6.drewl).col (Array.getElem?_eq_some_iff.1 HV4.out).1).trans HY4.out
  have HV6:=hid hv2
  have HY6:=hid hy2
  clear h6 o6 e6 S6 hr2 hx2 hv2 hy2 c11 c13 c14 fz c12 HF4
  generalize (((w4.drewN 1).setCell ⟨b.ab,13,none⟩ (.int .i64 (ad:Int))).setCell ⟨b.ab,14,none⟩ (.bool true)).setCell ⟨b.ab,11,none⟩ (.int .i64 2)=w6 at *
  have o0:=(op_cells HV6.out).1
  rw [HK.out] at o0
  have o2:=(op_cells HV6.out).2.2.1
  rw [HO2.out] at o2
  have c2:=HS6.out.act.p2
  have c14:=HS6.out.act.p14
  obtain ⟨l0,l1⟩:=HS6.out.act.local_ HJ2.out
  have hjl:j2<s.locals.length:=(List.getElem?_eq_some_iff.1 HJ2.out).1
  have i0:(0:Int)≤(j2:Int):=by omega
  have i1:(j2:Int)<(s.locals.length:Int):=by omega
  go_wp2_with fail
  go_quiet (fail)
  have HS7:Hid (Sys (w6.drewN nq) c K κ1 m b { s with at_:=2,addr:=(ad:Int),ref:=true }):=hid ⟨HS6.out.cor.pure ((Only.refl (fun _=>False) w6).drewN nq),HS6.out.act.pure ((Only.refl (fun _=>False) w6).drewN nq)⟩
  have HR7:=hid (show (w6.drewN nq).heap[X]?=_ from HR6.out)
  have HV7:=hid (show (w6.drewN nq).heap[w.heap.size]?=_ from HV6.out)
  have HE7:Hid (Ext CT w κ (w6.drewN nq) κ1):=hid (HE6.out.trans (Ext.pure ((Only.refl (fun _=>False) w6).drewN nq)))
  have HX7:=HX6
  have HY7:=HY6
  clear HS6 HR6 HV6 HE6 HX6 HY6 o0 o2 c2 c14 l0 l1 i0 i1 hjl
  generalize w6.drewN nq=w7 at *
  obtain ⟨o0,o1,o2,o3,o4,o5⟩:=op_cells HV7.out
  go_wp2_with fail
  refine (Ac.chooses_plain o j2 (true,z2) w7 HS7.out.act HO2.out HJ2.out HST.out).mono ?_
  rintro r w8 ⟨rfl,κ8,he8,ha8⟩
  obtain ⟨e8,S8⟩:=HS7.out.acted he8 ha8
  have HS8:=hid S8
  have HE8:=hid (HE7.out.trans e8)
  obtain ⟨hr2,hx2⟩:=res_kept e8 HX7.out nT HR7.out
  have HR8:=hid hr2
  have HX8:=hid hx2
  have hv2:=(e8).blk HV7.out (by rw [HY7.out];exact nT)
  have hy2:=((e8).col (Array.getElem?_eq_some_iff.1 HV7.out).1).trans HY7.out
  have HV8:=hid hv2
  have HY8:=hid hy2
  clear he8 ha8 e8 S8 hr2 hx2 hv2 hy2 o0 o1 o2 o3 o4 o5
  obtain ⟨z0,z1,z2,z3,z4⟩:=res_cells HR8.out
  have f1:=fun k=>frozen_of_row w8 X k _ _ HR8.out
  go_wp2_with fail
  refine bodyPost_ret (v:=.tuple #[.agg #[.int .i64 0,.int .i64 0,.int .i64 0,.bool false,.complex .f64 0 0],.bool false]) (by simp [results,Tryz.results122,go_sem,z0,z1,z2,z3,z4]) rfl ⟨rfl,_,(((((HE8.out.new HLE.out _ _).new HLE.out _ _).new HLE.out _ _).new HLE.out _ _).new HLE.out _ _),by rw [HAD.out];exact (((((HS8.out.cell9 HX8.out _ _).cell9 HX8.out _ _).cell9 HX8.out _ _).cell9 HX8.out _ _).cell9 HX8.out _ _)⟩
end
open Go.RowKit
open Ac (wrs OpD opV opO op_cells Vl Wr resV resZ zeroVl res_cells res_kept nT one_new two_new lays_any done_any fails_any CT)
section
variable {w w':World} {c:Cn} {K:Cor.Q} {κ:Nat→Nat} {m:Cor.St} {b:Ac.B} {s:Ac.St}
open Ac (op_cells vlV vlL)
open Opn (SgOk Made kn need_new)
theorem starts_load (o:OpD) (i j k kd md:Nat) (s0:Sh) (w:World) (h:Sys w c K κ m b s) (hk:o.kind=3) (hsg:∀ x∈kn o.kind,SgOk c o x) (ho:o.b=(j:Int)) (hn:o.n=(k:Int)) (hj:s.locals[j]?=some (true,refW i)) (hi:i≤1000000) (hz:m.words[8 * i+1]?=some (headW kd md)) (hkd:K.csh[kd]?=some s0) (hsa:s0.a=false) (hmd:md≤1) (hk0:k<s0.bs.length) (hb:s0.bs.length≤40) (hk6:k<6) (hh:(i:Int)<c.frags) (hkn:kd≤1000) (hr:s0.bs[k]?=some true) (hx:∀ s∈K.csh,s.bs.length≤1000000) :
  Calls Tryz.prog 121 #[.pointer (some ⟨b.ab,0,none⟩),.pointer (some ⟨K.kb,0,none⟩),opV o] w fun r w'=>r=.returned (.tuple #[resV 0 0 0 zeroVl,.bool false])∧∃ κ',Ext CT w κ w' κ'∧∃ fv,Sys w' c K κ' m b { s with f:=fv,at_:=2,addr:=((8 * i+(2+k):Nat):Int),ref:=true }:=by
 obtain ⟨hp,-,hv,hrz⟩:=two_new w #[.int .i64 (o.kind:Int),.int .i64 o.a,.int .i64 o.b,.int .i64 o.c,.int .i64 o.n,.complex .f64 o.x o.y] #[.int .i64 0,.int .i64 0,.int .i64 0,.bool false,.complex .f64 0 0] 32 46
 have H1:=hid (h.pure9 hp)
 have HR:=hid hrz
 have HV:=hid hv
 have HY1:Hid (paint w.heap.size κ 9 w.heap.size=9):=hid (paint_new (by omega))
 have HX1:Hid (paint w.heap.size κ 9 (w.heap.size+1)=9):=hid (paint_new (by omega))
 have HLE:Hid (w.heap.size≤w.heap.size+1):=hid (by omega)
 have HK:=hid hk
 have HSG:=hid hsg
 have HO:=hid (And.intro ho hn)
 have HJ:=hid hj
 have HZ:=hid (And.intro hz (And.intro hkd (And.intro hsa hr)))
 have HB:=hid (And.intro hb (And.intro hh hx))
 clear hp hrz h hv hk hsg ho hn hj hz hkd hsa hb hh hr hx
 go_enter Tryz.func121,Tryz.ntmps121
 go_upto_region 1 with fail
 generalize (w.alloc (opO o)).alloc resZ=W at *
 generalize paint w.heap.size κ 9=κ1 at *
 generalize w.heap.size+1=X at *
 obtain ⟨E1,S1⟩:=H1.out
 have HE1:=hid E1
 have HS1:=hid S1
 clear E1 S1 H1
 obtain ⟨Av,cv,hcv⟩:∃ A cc,K.cv=.slice A K.csh.length cc:=by
  obtain ⟨⟨A,cc,h,_⟩,_⟩:=HS1.out.cor.conf
  exact ⟨A,cc,h⟩
 have HCV:=hid hcv
 obtain ⟨k0,k1,k2,k3,k4,k5,k6,k7,k8⟩:=HS1.out.cor.qc
 rw [hcv] at k8
 obtain ⟨o0,o1,o2,o3,o4,o5⟩:=op_cells HV.out
 clear hcv
 go_still_tail 5,(by kernel_rfl)
 change wpList _ _ _ _ _ W.drew
 have HS2:=hid HS1.out.drew
 have HR2:=hid (show W.drew.heap[X]?=_ from HR.out)
 have HV2:=hid (show W.drew.heap[w.heap.size]?=_ from HV.out)
 have HE2:Hid (Ext CT w κ W.drew κ1):=hid (HE1.out.trans (Ext.pure ((Only.refl (fun _=>False) W).drewN 1)))
 have HX2:=HX1
 have HY2:=HY1
 clear HS1 HR HV HE1 HX1 HY1 k0 k1 k2 k3 k4 k5 k6 k7 k8 o0 o1 o2 o3 o4 o5
 generalize W.drew=w2 at *
 go_wp2_with fail
 refine (HCV.out ▸ Opn.check_ok c _ K.csh o w2 HS2.out.cor.conf HS2.out.cor.ok (by rw [HK.out];decide) (by rw [HK.out];decide) HSG.out (fun h=>absurd h (by rw [HK.out];decide))).mono ?_
 rintro r w3 ⟨rfl,hp3⟩
 obtain ⟨e3,S3⟩:=HS2.out.pure9 hp3
 have HS3:=hid S3
 have HE3:=hid (HE2.out.trans e3)
 obtain ⟨hr2,hx2⟩:=res_kept e3 HX2.out nT HR2.out
 have HR3:=hid hr2
 have HX3:=hid hx2
 have hv2:=(e3).blk HV2.out (by rw [HY2.out];exact nT)
 have hy2:=((e3).col (Array.getElem?_eq_some_iff.1 HV2.out).1).trans HY2.out
 have HV3:=hid hv2
 have HY3:=hid hy2
 clear e3 S3 hr2 hx2 hv2 hy2 hp3
 generalize paint w2.heap.size κ1 9=κ3 at *
 obtain ⟨o0,o1,o2,o3,o4,o5⟩:=op_cells HV3.out
 go_wp2_with fail
 refine (operands_load o j (true,refW i) w3 HS3.out.act HK.out HO.out.1 HJ.out rfl (noneV_ref i hi)).mono ?_
 rintro r w4 ⟨rfl,hp4⟩
 obtain ⟨e4,S4⟩:=HS3.out.pure9 hp4
 have HS4:=hid S4
 have HE4:=hid (HE3.out.trans e4)
 obtain ⟨hr2,hx2⟩:=res_kept e4 HX3.out nT HR3.out
 have HR4:=hid hr2
 have HX4:=hid hx2
 have hv2:=(e4).blk HV3.out (by rw [HY3.out];exact nT)
 have hy2:=((e4).col (Array.getElem?_eq_some_iff.1 HV3.out).1).trans HY3.out
 have HV4:=hid hv2
 have HY4:=hid hy2
 clear e4 S4 hr2 hx2 hv2 hy2 hp4 o0 o1 o2 o3 o4 o5
 generalize paint w3.heap.size κ3 9=κ4 at *
 obtain ⟨o0,o1,o2,o3,o4,o5⟩:=op_cells HV4.out
 go_wp2_with fail
 refine (plain_load o w4 HS4.out.act HK.out).mono ?_
 rintro r w5 ⟨rfl,hp5⟩
 obtain ⟨e5,S5⟩:=HS4.out.pure9 hp5
 have HS5:=hid S5
 have HE5:=hid (HE4.out.trans e5)
 obtain ⟨hr2,hx2⟩:=res_kept e5 HX4.out nT HR4.out
 have HR5:=hid hr2
 have HX5:=hid hx2
 have hv2:=(e5).blk HV4.out (by rw [HY4.out];exact nT)
 have hy2:=((e5).col (Array.getElem?_eq_some_iff.1 HV4.out).1).trans HY4.out
 have HV5:=hid hv2
 have HY5:=hid hy2
 clear e5 S5 hr2 hx2 hv2 hy2 hp5 o0 o1 o2 o3 o4 o5
 generalize paint w4.heap.size κ4 9=κ5 at *
 go_upto_region 7 with fail
 obtain ⟨hp6,-,hg6⟩:=one_new w5 #[.bool false,.complex .f64 0 0] 44
 obtain ⟨e6,S6⟩:=HS5.out.pure9 hp6
 have HS6:=hid S6
 have HE6:=hid (HE5.out.trans e6)
 obtain ⟨hr2,hx2⟩:=res_kept e6 HX5.out nT HR5.out
 have HR6:=hid hr2
 have HX6:=hid hx2
 have hv2:=(e6).blk HV5.out (by rw [HY5.out];exact nT)
 have hy2:=((e6).col (Array.getElem?_eq_some_iff.1 HV5.out).1).trans HY5.out
 have HV6:=hid hv2
 have HY6:=hid hy2
 have HG6:=hid hg6
 clear e6 S6 hr2 hx2 hv2 hy2 hp6 hg6
 generalize w5.alloc (.cells #[.bool false,.complex .f64 0 0] 44)=w6 at *
 generalize paint w5.heap.size κ5 9=κ6 at *
 generalize w5.heap.size=X6 at *
 obtain ⟨o0,o1,o2,o3,o4,o5⟩:=op_cells HV6.out
 have e1:((o.kind:Int) == 1)=false:=by rw [HK.out];rfl
 have e2:((o.kind:Int) == 2)=false:=by rw [HK.out];rfl
 have e3:((o.kind:Int) == 3)=true:=by rw [HK.out];rfl
 have e4:((o.kind:Int) == 4)=false:=by rw [HK.out];rfl
 have e5:((o.kind:Int) == 5)=false:=by rw [HK.out];rfl
 have e6:((o.kind:Int) == 6)=false:=by rw [HK.out];rfl
 have e7:((o.kind:Int) == 7)=false:=by rw [HK.out];rfl
 have e8:((o.kind:Int) == 8)=false:=by rw [HK.out];rfl
 have e10:((o.kind:Int) == 10)=false:=by rw [HK.out];rfl
 have e11:((o.kind:Int) == 11)=false:=by rw [HK.out];rfl
 have e17:((o.kind:Int) == 17)=false:=by rw [HK.out];rfl
 go_wp2_with fail
 refine (program_load o j i k w6 HS6.out HK.out HO.out.1 HO.out.2 HJ.out hi HB.out.2.2).mono ?_
 rintro r w7 ⟨fb,v7,n7,rfl,hp7,hle7,hcf7,hal7,hf7⟩
 obtain ⟨e7,S7⟩:=HS6.out.paintc 1 hp7
 have hmb:=HS6.out.cor.mem.lb
 have hmg:=HS6.out.cor.mem.lg
 have F7:FdOk w7 c K (paint w6.heap.size κ6 1) fb v7 n7 i k:=⟨hf7,paint_new hle7,fun q hq=>paint_new (hcf7 q hq).1,⟨fun e=>by omega,fun e=>by omega⟩,fun q hq=>⟨fun e=>by have:=(hcf7 q hq).1;omega,fun e=>by have:=(hcf7 q hq).1;omega⟩,hal7,fun q hq=>(hcf7 q hq).2⟩
 have HS7:=hid S7
 have HF7:=hid F7
 have HE7:=hid (HE6.out.trans e7)
 obtain ⟨hr2,hx2⟩:=res_kept e7 HX6.out nT HR6.out
 have HR7:=hid hr2
 have HX7:=hid hx2
 have hv2:=(e7).blk HV6.out (by rw [HY6.out];exact nT)
 have hy2:=((e7).col (Array.getElem?_eq_some_iff.1 HV6.out).1).trans HY6.out
 have HV7:=hid hv2
 have HY7:=hid hy2
 clear e7 S7 F7 hp7 hle7 hcf7 hal7 hf7 hmb hmg hr2 hx2 hv2 hy2 o0 o1 o2 o3 o4 o5
 generalize paint w6.heap.size κ6 1=κ7 at *
 have c12:=HS7.out.act.p12
 have fz:=HS7.out.act.fb
 go_upto_region 18 with fail
 have h8:=HS7.out.act.put 12 (.pointer (some ⟨fb,0,none⟩)) { s with f:=.pointer (some ⟨fb,0,none⟩) } rfl rfl ⟨rfl,rfl,rfl,rfl,rfl,rfl⟩
 have o8:Only (fun k=>k=b.ab) w7 (w7.setCell ⟨b.ab,12,none⟩ (.pointer (some ⟨fb,0,none⟩))):=Ac.Only.me (Only.refl _ _) _ _
 obtain ⟨e8,S8⟩:=HS7.out.acted (Ac.ext_me HS7.out.act.k6 o8) h8
 have HS8:=hid S8
 have HF8:=hid (HF7.out.only o8 (fun q hq=>by rw [hq,HS7.out.act.k6];omega))
 have HE8:=hid (HE7.out.trans e8)
 obtain ⟨hr2,hx2⟩:=res_kept e8 HX7.out nT HR7.out
 have HR8:=hid hr2
 have HX8:=hid hx2
 have hv2:=(e8).blk HV7.out (by rw [HY7.out];exact nT)
 have hy2:=((e8).col (Array.getElem?_eq_some_iff.1 HV7.out).1).trans HY7.out
 have HV8:=hid hv2
 have HY8:=hid hy2
 clear h8 o8 e8 S8 hr2 hx2 hv2 hy2 c12 fz HF7
 generalize w7.setCell ⟨b.ab,12,none⟩ (.pointer (some ⟨fb,0,none⟩))=w8 at *
 obtain ⟨o0,o1,o2,o3,o4,o5⟩:=op_cells HV8.out
 go_wp2_with fail
 refine (finds_load o fb i k kd md s0 v7 n7 w8 HS8.out HK.out rfl HF8.out HZ.out.1 HZ.out.2.1 HZ.out.2.2.1 hmd hk0 HB.out.1 hk6 HB.out.2.1 hkn HZ.out.2.2.2).mono ?_
 rintro r w9 ⟨rfl,κ9,e9,S9⟩
 have HS9:=hid S9
 have HE9:=hid (HE8.out.trans e9)
 obtain ⟨hr2,hx2⟩:=res_kept e9 HX8.out nT HR8.out
 have HR9:=hid hr2
 have HX9:=hid hx2
 have hv2:=(e9).blk HV8.out (by rw [HY8.out];exact nT)
 have hy2:=((e9).col (Array.getElem?_eq_some_iff.1 HV8.out).1).trans HY8.out
 have HV9:=hid hv2
 have HY9:=hid hy2
 clear e9 S9 hr2 hx2 hv2 hy2 o0 o1 o2 o3 o4 o5
 obtain ⟨z0,z1,z2,z3,z4⟩:=res_cells HR9.out
 have f1:=fun k=>frozen_of_row w9 X k _ _ HR9.out
 go_wp2_with fail
 refine bodyPost_ret (v:=.tuple #[.agg #[.int .i64 0,.int .i64 0,.int .i64 0,.bool false,.complex .f64 0 0],.bool false]) (by simp [results,Tryz.results121,go_sem,z0,z1,z2,z3,z4]) rfl ⟨rfl,_,(((((HE9.out.new HLE.out _ _).new HLE.out _ _).new HLE.out _ _).new HLE.out _ _).new HLE.out _ _),_,(((((HS9.out.cell9 HX9.out _ _).cell9 HX9.out _ _).cell9 HX9.out _ _).cell9 HX9.out _ _).cell9 HX9.out _ _)⟩
end
open Go.RowKit
open Ac (wrs OpD opV opO op_cells Vl Wr resV resZ zeroVl res_cells res_kept nT one_new two_new lays_any done_any fails_any CT)
section
variable {w w':World} {c:Cn} {K:Cor.Q} {κ:Nat→Nat} {m:Cor.St} {b:Ac.B} {s:Ac.St}
open Ac (op_cells vlV vlL)
open Opn (SgOk Made kn need_new)
theorem starts_store (o:OpD) (i j k kd md j2:Nat) (z2:Nat × Nat) (s0:Sh) (w:World) (h:Sys w c K κ m b s) (hk:o.kind=4) (hsg:∀ x∈kn o.kind,SgOk c o x) (ho:o.a=(j:Int)) (ho2:o.b=(j2:Int)) (hj2:s.locals[j2]?=some (true,z2)) (hst:s.status=0∨s.status=4) (hn:o.n=(k:Int)) (hj:s.locals[j]?=some (true,refW i)) (hi:i≤1000000) (hz:m.words[8 * i+1]?=some (headW kd md)) (hkd:K.csh[kd]?=some s0) (hsa:s0.a=false) (hmd:md≤1) (hk0:k<s0.bs.length) (hb:s0.bs.length≤40) (hk6:k<6) (hh:(i:Int)<c.frags) (hkn:kd≤1000) (hr:s0.bs[k]?=some true) (hx:∀ s∈K.csh,s.bs.length≤1000000) :
  Calls Tryz.prog 121 #[.pointer (some ⟨b.ab,0,none⟩),.pointer (some ⟨K.kb,0,none⟩),opV o] w fun r w'=>r=.returned (.tuple #[resV 0 0 0 zeroVl,.bool false])∧∃ κ',Ext CT w κ w' κ'∧∃ fv,Sys w' c K κ' m b { s with f:=fv,w:=z2,at_:=6,addr:=((8 * i+(2+k):Nat):Int),ref:=true }:=by
 obtain ⟨hp,-,hv,hrz⟩:=two_new w #[.int .i64 (o.kind:Int),.int .i64 o.a,.int .i64 o.b,.int .i64 o.c,.int .i64 o.n,.complex .f64 o.x o.y] #[.int .i64 0,.int .i64 0,.int .i64 0,.bool false,.complex .f64 0 0] 32 46
 have H1:=hid (h.pure9 hp)
 have HR:=hid hrz
 have HV:=hid hv
 have HY1:Hid (paint w.heap.size κ 9 w.heap.size=9):=hid (paint_new (by omega))
 have HX1:Hid (paint w.heap.size κ 9 (w.heap.size+1)=9):=hid (paint_new (by omega))
 have HLE:Hid (w.heap.size≤w.heap.size+1):=hid (by omega)
 have HK:=hid hk
 have HSG:=hid hsg
 have HO:=hid (And.intro ho hn)
 have HJ:=hid hj
 have HZ:=hid (And.intro hz (And.intro hkd (And.intro hsa hr)))
 have HB:=hid (And.intro hb (And.intro hh hx))
 have HO2:=hid ho2
 have HJ2:=hid hj2
 have HST:=hid hst
 clear hp hrz h hv hk hsg ho ho2 hj2 hst hn hj hz hkd hsa hb hh hr hx
 go_enter Tryz.func121,Tryz.ntmps121
 go_upto_region 1 with fail
 generalize (w.alloc (opO o)).alloc resZ=W at *
 generalize paint w.heap.size κ 9=κ1 at *
 generalize w.heap.size+1=X at *
 obtain ⟨E1,S1⟩:=H1.out
 have HE1:=hid E1
 have HS1:=hid S1
 clear E1 S1 H1
 obtain ⟨Av,cv,hcv⟩:∃ A cc,K.cv=.slice A K.csh.length cc:=by
  obtain ⟨⟨A,cc,h,_⟩,_⟩:=HS1.out.cor.conf
  exact ⟨A,cc,h⟩
 have HCV:=hid hcv
 obtain ⟨k0,k1,k2,k3,k4,k5,k6,k7,k8⟩:=HS1.out.cor.qc
 rw [hcv] at k8
 obtain ⟨o0,o1,o2,o3,o4,o5⟩:=op_cells HV.out
 clear hcv
 go_still_tail 5,(by kernel_rfl)
 change wpList _ _ _ _ _ W.drew
 have HS2:=hid HS1.out.drew
 have HR2:=hid (show W.drew.heap[X]?=_ from HR.out)
 have HV2:=hid (show W.drew.heap[w.heap.size]?=_ from HV.out)
 have HE2:Hid (Ext CT w κ W.drew κ1):=hid (HE1.out.trans (Ext.pure ((Only.refl (fun _=>False) W).drewN 1)))
 have HX2:=HX1
 have HY2:=HY1
 clear HS1 HR HV HE1 HX1 HY1 k0 k1 k2 k3 k4 k5 k6 k7 k8 o0 o1 o2 o3 o4 o5
 generalize W.drew=w2 at *
 go_wp2_with fail
 refine (HCV.out ▸ Opn.check_ok c _ K.csh o w2 HS2.out.cor.conf HS2.out.cor.ok (by rw [HK.out];decide) (by rw [HK.out];decide) HSG.out (fun h=>absurd h (by rw [HK.out];decide))).mono ?_
 rintro r w3 ⟨rfl,hp3⟩
 obtain ⟨e3,S3⟩:=HS2.out.pure9 hp3
 have HS3:=hid S3
 have HE3:=hid (HE2.out.trans e3)
 obtain ⟨hr2,hx2⟩:=res_kept e3 HX2.out nT HR2.out
 have HR3:=hid hr2
 have HX3:=hid hx2
 have hv2:=(e3).blk HV2.out (by rw [HY2.out];exact nT)
 have hy2:=((e3).col (Array.getElem?_eq_some_iff.1 HV2.out).1).trans HY2.out
 have HV3:=hid hv2
 have HY3:=hid hy2
 clear e3 S3 hr2 hx2 hv2 hy2 hp3
 generalize paint w2.heap.size κ1 9=κ3 at *
 obtain ⟨o0,o1,o2,o3,o4,o5⟩:=op_cells HV3.out
 go_wp2_with fail
 refine (operands_store o j (true,refW i) w3 HS3.out.act HK.out HO.out.1 HJ.out rfl (noneV_ref i hi)).mono ?_
 rintro r w4 ⟨rfl,hp4⟩
 obtain ⟨e4,S4⟩:=HS3.out.pure9 hp4
 have HS4:=hid S4
 have HE4:=hid (HE3.out.trans e4)
 obtain ⟨hr2,hx2⟩:=res_kept e4 HX3.out nT HR3.out
 have HR4:=hid hr2
 have HX4:=hid hx2
 have hv2:=(e4).blk HV3.out (by rw [HY3.out];exact nT)
 have hy2:=((e4).col (Array.getElem?_eq_some_iff.1 HV3.out).1).trans HY3.out
 have HV4:=hid hv2
 have HY4:=hid hy2
 clear e4 S4 hr2 hx2 hv2 hy2 hp4 o0 o1 o2 o3 o4 o5
 generalize paint w3.heap.size κ3 9=κ4 at *
 obtain ⟨o0,o1,o2,o3,o4,o5⟩:=op_cells HV4.out
 go_wp2_with fail
 refine (plain_store o w4 HS4.out.act HK.out).mono ?_
 rintro r w5 ⟨rfl,hp5⟩
 obtain ⟨e5,S5⟩:=HS4.out.pure9 hp5
 have HS5:=hid S5
 have HE5:=hid (HE4.out.trans e5)
 obtain ⟨hr2,hx2⟩:=res_kept e5 HX4.out nT HR4.out
 have HR5:=hid hr2
 have HX5:=hid hx2
 have hv2:=(e5).blk HV4.out (by rw [HY4.out];exact nT)
 have hy2:=((e5).col (Array.getElem?_eq_some_iff.1 HV4.out).1).trans HY4.out
 have HV5:=hid hv2
 have HY5:=hid hy2
 clear e5 S5 hr2 hx2 hv2 hy2 hp5 o0 o1 o2 o3 o4 o5
 generalize paint w4.heap.size κ4 9=κ5 at *
 go_upto_region 7 with fail
 obtain ⟨hp6,-,hg6⟩:=one_new w5 #[.bool false,.complex .f64 0 0] 44
 obtain ⟨e6,S6⟩:=HS5.out.pure9 hp6
 have HS6:=hid S6
 have HE6:=hid (HE5.out.trans e6)
 obtain ⟨hr2,hx2⟩:=res_kept e6 HX5.out nT HR5.out
 have HR6:=hid hr2
 have HX6:=hid hx2
 have hv2:=(e6).blk HV5.out (by rw [HY5.out];exact nT)
 have hy2:=((e6).col (Array.getElem?_eq_some_iff.1 HV5.out).1).trans HY5.out
 have HV6:=hid hv2
 have HY6:=hid hy2
 have HG6:=hid hg6
 clear e6 S6 hr2 hx2 hv2 hy2 hp6 hg6
 generalize w5.alloc (.cells #[.bool false,.complex .f64 0 0] 44)=w6 at *
 generalize paint w5.heap.size κ5 9=κ6 at *
 generalize w5.heap.size=X6 at *
 obtain ⟨o0,o1,o2,o3,o4,o5⟩:=op_cells HV6.out
 have e1:((o.kind:Int) == 1)=false:=by rw [HK.out];rfl
 have e2:((o.kind:Int) == 2)=false:=by rw [HK.out];rfl
 have e3:((o.kind:Int) == 3)=false:=by rw [HK.out];rfl
 have e4:((o.kind:Int) == 4)=true:=by rw [HK.out];rfl
 have e5:((o.kind:Int) == 5)=false:=by rw [HK.out];rfl
 have e6:((o.kind:Int) == 6)=false:=by rw [HK.out];rfl
 have e7:((o.kind:Int) == 7)=false:=by rw [HK.out];rfl
 have e8:((o.kind:Int) == 8)=false:=by rw [HK.out];rfl
 have e10:((o.kind:Int) == 10)=false:=by rw [HK.out];rfl
 have e11:((o.kind:Int) == 11)=false:=by rw [HK.out];rfl
 have e17:((o.kind:Int) == 17)=false:=by rw [HK.out];rfl
 go_wp2_with fail
 refine (program_store o j i k w6 HS6.out HK.out HO.out.1 HO.out.2 HJ.out hi HB.out.2.2).mono ?_
 rintro r w7 ⟨fb,v7,n7,rfl,hp7,hle7,hcf7,hal7,hf7⟩
 obtain ⟨e7,S7⟩:=HS6.out.paintc 1 hp7
 have hmb:=HS6.out.cor.mem.lb
 have hmg:=HS6.out.cor.mem.lg
 have F7:FdOk w7 c K (paint w6.heap.size κ6 1) fb v7 n7 i k:=⟨hf7,paint_new hle7,fun q hq=>paint_new (hcf7 q hq).1,⟨fun e=>by omega,fun e=>by omega⟩,fun q hq=>⟨fun e=>by have:=(hcf7 q hq).1;omega,fun e=>by have:=(hcf7 q hq).1;omega⟩,hal7,fun q hq=>(hcf7 q hq).2⟩
 have HS7:=hid S7
 have HF7:=hid F7
 have HE7:=hid (HE6.out.trans e7)
 obtain ⟨hr2,hx2⟩:=res_kept e7 HX6.out nT HR6.out
 have HR7:=hid hr2
 have HX7:=hid hx2
 have hv2:=(e7).blk HV6.out (by rw [HY6.out];exact nT)
 have hy2:=((e7).col (Array.getElem?_eq_some_iff.1 HV6.out).1).trans HY6.out
 have HV7:=hid hv2
 have HY7:=hid hy2
 clear e7 S7 F7 hp7 hle7 hcf7 hal7 hf7 hmb hmg hr2 hx2 hv2 hy2 o0 o1 o2 o3 o4 o5
 generalize paint w6.heap.size κ6 1=κ7 at *
 have c12:=HS7.out.act.p12
 have fz:=HS7.out.act.fb
 go_upto_region 18 with fail
 have h8:=HS7.out.act.put 12 (.pointer (some ⟨fb,0,none⟩)) { s with f:=.pointer (some ⟨fb,0,none⟩) } rfl rfl ⟨rfl,rfl,rfl,rfl,rfl,rfl⟩
 have o8:Only (fun k=>k=b.ab) w7 (w7.setCell ⟨b.ab,12,none⟩ (.pointer (some ⟨fb,0,none⟩))):=Ac.Only.me (Only.refl _ _) _ _
 obtain ⟨e8,S8⟩:=HS7.out.acted (Ac.ext_me HS7.out.act.k6 o8) h8
 have HS8:=hid S8
 have HF8:=hid (HF7.out.only o8 (fun q hq=>by rw [hq,HS7.out.act.k6];omega))
 have HE8:=hid (HE7.out.trans e8)
 obtain ⟨hr2,hx2⟩:=res_kept e8 HX7.out nT HR7.out
 have HR8:=hid hr2
 have HX8:=hid hx2
 have hv2:=(e8).blk HV7.out (by rw [HY7.out];exact nT)
 have hy2:=((e8).col (Array.getElem?_eq_some_iff.1 HV7.out).1).trans HY7.out
 have HV8:=hid hv2
 have HY8:=hid hy2
 clear h8 o8 e8 S8 hr2 hx2 hv2 hy2 c12 fz HF7
 generalize w7.setCell ⟨b.ab,12,none⟩ (.pointer (some ⟨fb,0,none⟩))=w8 at *
 obtain ⟨o0,o1,o2,o3,o4,o5⟩:=op_cells HV8.out
 go_wp2_with fail
 refine (finds_store o fb i k kd md s0 v7 n7 j2 z2 w8 HS8.out HK.out rfl HF8.out HO2.out HJ2.out HST.out HZ.out.1 HZ.out.2.1 HZ.out.2.2.1 hmd hk0 HB.out.1 hk6 HB.out.2.1 hkn HZ.out.2.2.2).mono ?_
 rintro r w9 ⟨rfl,κ9,e9,S9⟩
 have HS9:=hid S9
 have HE9:=hid (HE8.out.trans e9)
 obtain ⟨hr2,hx2⟩:=res_kept e9 HX8.out nT HR8.out
 have HR9:=hid hr2
 have HX9:=hid hx2
 have hv2:=(e9).blk HV8.out (by rw [HY8.out];exact nT)
 have hy2:=((e9).col (Array.getElem?_eq_some_iff.1 HV8.out).1).trans HY8.out
 have HV9:=hid hv2
 have HY9:=hid hy2
 clear e9 S9 hr2 hx2 hv2 hy2 o0 o1 o2 o3 o4 o5
 obtain ⟨z0,z1,z2,z3,z4⟩:=res_cells HR9.out
 have f1:=fun k=>frozen_of_row w9 X k _ _ HR9.out
 go_wp2_with fail
 refine bodyPost_ret (v:=.tuple #[.agg #[.int .i64 0,.int .i64 0,.int .i64 0,.bool false,.complex .f64 0 0],.bool false]) (by simp [results,Tryz.results121,go_sem,z0,z1,z2,z3,z4]) rfl ⟨rfl,_,(((((HE9.out.new HLE.out _ _).new HLE.out _ _).new HLE.out _ _).new HLE.out _ _).new HLE.out _ _),_,(((((HS9.out.cell9 HX9.out _ _).cell9 HX9.out _ _).cell9 HX9.out _ _).cell9 HX9.out _ _).cell9 HX9.out _ _)⟩
end
end Go.Proofs.YtpgdiceeimehiaaGreat
