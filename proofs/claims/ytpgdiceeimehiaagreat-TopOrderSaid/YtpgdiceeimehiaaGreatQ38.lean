/- Part 38 of the proof that spotop.TopOrder returns true for all arguments and leaves what was there as it was. -/
import Derived.Deep.DeepCutAuto
import Derived.Deep.CutBlock
import Derived.Test.YtpgdiceeimehiaaGreatQ36
import Derived.Test.YtpgdiceeimehiaaGreatQ37
set_option maxRecDepth 100000
set_option maxHeartbeats 16000000
open Go.Lib (hid)
namespace Go.Proofs.YtpgdiceeimehiaaGreat
open Go.RowKit
open Ac (wrs OpD opV opO op_cells Vl Wr resV resZ zeroVl res_cells res_kept nT one_new two_new lays_any done_any fails_any CT)
section
variable {w w':World} {c:Cn} {K:Cor.Q} {κ:Nat→Nat} {m:Cor.St} {b:Ac.B} {s:Ac.St}
open Ac (op_cells vlV vlL)
open Opn (SgOk Made kn need_new)
theorem starts_clear (o:OpD) (ja:Nat) (w:World) (h:Sys w c K κ m b s) (hk:o.kind=13) (hsg:∀ x∈kn o.kind,SgOk c o x) (ho:o.a=(ja:Int)) (hja:ja<s.locals.length) (hph:s.phase≠4) (hnx:s.next≤100000) :
  Calls Tryz.prog 121 #[.pointer (some ⟨b.ab,0,none⟩),.pointer (some ⟨K.kb,0,none⟩),opV o] w fun r w'=>r=.returned (.tuple #[resV s.next s.own 0 (true,noneW),.bool true])∧∃ κ',Ext CT w κ w' κ'∧Sys w' c K κ' m b { s with next:=s.next+1,phase:=1,pc:=0,locals:=s.locals.set ja (true,noneW) }:=by
 obtain ⟨hp,-,hv,hrz⟩:=two_new w #[.int .i64 (o.kind:Int),.int .i64 o.a,.int .i64 o.b,.int .i64 o.c,.int .i64 o.n,.complex .f64 o.x o.y] #[.int .i64 0,.int .i64 0,.int .i64 0,.bool false,.complex .f64 0 0] 32 46
 have H1:=hid (h.pure9 hp)
 have HR:=hid hrz
 have HV:=hid hv
 have HY1:Hid (paint w.heap.size κ 9 w.heap.size=9):=hid (paint_new (by omega))
 have HX1:Hid (paint w.heap.size κ 9 (w.heap.size+1)=9):=hid (paint_new (by omega))
 have HLE:Hid (w.heap.size≤w.heap.size+1):=hid (by omega)
 have HK:=hid hk
 have HSG:=hid hsg
 have HO:=hid ho
 have HP:=hid hph
 have HJA:=hid hja
 have HNX:=hid hnx
 clear hp hrz h hv hk hsg ho hja hph hnx
 go_enter Tryz.func121,Tryz.ntmps121
 go_upto_region 1 with fail
 generalize (w.alloc (opO o)).alloc resZ=W at *
 generalize paint w.heap.size κ 9=κ1 at *
 generalize w.heap.size+1=X at *
 obtain ⟨E1,S1⟩:=H1.out
 have HE1:=hid E1
 have HS1:=hid S1
 clear E1 S1 H1
 obtain ⟨Av,cv,hcv⟩:∃ A cc,K.cv=.slice A K.csh.length cc:=by
  obtain ⟨⟨A,cc,h,_⟩,_⟩:=HS1.out.cor.conf
  exact ⟨A,cc,h⟩
 have HCV:=hid hcv
 obtain ⟨k0,k1,k2,k3,k4,k5,k6,k7,k8⟩:=HS1.out.cor.qc
 rw [hcv] at k8
 obtain ⟨o0,o1,o2,o3,o4,o5⟩:=op_cells HV.out
 clear hcv
 go_still_tail 5,(by kernel_rfl)
 change wpList _ _ _ _ _ W.drew
 have HS2:=hid HS1.out.drew
 have HR2:=hid (show W.drew.heap[X]?=_ from HR.out)
 have HV2:=hid (show W.drew.heap[w.heap.size]?=_ from HV.out)
 have HE2:Hid (Ext CT w κ W.drew κ1):=hid (HE1.out.trans (Ext.pure ((Only.refl (fun _=>False) W).drewN 1)))
 have HX2:=HX1
 have HY2:=HY1
 clear HS1 HR HV HE1 HX1 HY1 k0 k1 k2 k3 k4 k5 k6 k7 k8 o0 o1 o2 o3 o4 o5
 generalize W.drew=w2 at *
 go_wp2_with fail
 refine (HCV.out ▸ Opn.check_ok c _ K.csh o w2 HS2.out.cor.conf HS2.out.cor.ok (by rw [HK.out];decide) (by rw [HK.out];decide) HSG.out (fun h=>absurd h (by rw [HK.out];decide))).mono ?_
 rintro r w3 ⟨rfl,hp3⟩
 obtain ⟨e3,S3⟩:=HS2.out.pure9 hp3
 have HS3:=hid S3
 have HE3:=hid (HE2.out.trans e3)
 obtain ⟨hr2,hx2⟩:=res_kept e3 HX2.out nT HR2.out
 have HR3:=hid hr2
 have HX3:=hid hx2
 have hv2:=(e3).blk HV2.out (by rw [HY2.out];exact nT)
 have hy2:=((e3).col (Array.getElem?_eq_some_iff.1 HV2.out).1).trans HY2.out
 have HV3:=hid hv2
 have HY3:=hid hy2
 clear e3 S3 hr2 hx2 hv2 hy2 hp3
 generalize paint w2.heap.size κ1 9=κ3 at *
 obtain ⟨o0,o1,o2,o3,o4,o5⟩:=op_cells HV3.out
 go_wp2_with fail
 refine (operands_clear o w3 HS3.out.act HK.out).mono ?_
 rintro r w4 ⟨rfl,hp4⟩
 obtain ⟨e4,S4⟩:=HS3.out.pure9 hp4
 have HS4:=hid S4
 have HE4:=hid (HE3.out.trans e4)
 obtain ⟨hr2,hx2⟩:=res_kept e4 HX3.out nT HR3.out
 have HR4:=hid hr2
 have HX4:=hid hx2
 have hv2:=(e4).blk HV3.out (by rw [HY3.out];exact nT)
 have hy2:=((e4).col (Array.getElem?_eq_some_iff.1 HV3.out).1).trans HY3.out
 have HV4:=hid hv2
 have HY4:=hid hy2
 clear e4 S4 hr2 hx2 hv2 hy2 hp4 o0 o1 o2 o3 o4 o5
 generalize paint w3.heap.size κ3 9=κ4 at *
 obtain ⟨o0,o1,o2,o3,o4,o5⟩:=op_cells HV4.out
 go_wp2_with fail
 refine (plain_clear o w4 HS4.out.act HK.out).mono ?_
 rintro r w5 ⟨rfl,hp5⟩
 obtain ⟨e5,S5⟩:=HS4.out.pure9 hp5
 have HS5:=hid S5
 have HE5:=hid (HE4.out.trans e5)
 obtain ⟨hr2,hx2⟩:=res_kept e5 HX4.out nT HR4.out
 have HR5:=hid hr2
 have HX5:=hid hx2
 have hv2:=(e5).blk HV4.out (by rw [HY4.out];exact nT)
 have hy2:=((e5).col (Array.getElem?_eq_some_iff.1 HV4.out).1).trans HY4.out
 have HV5:=hid hv2
 have HY5:=hid hy2
 clear e5 S5 hr2 hx2 hv2 hy2 hp5 o0 o1 o2 o3 o4 o5
 generalize paint w4.heap.size κ4 9=κ5 at *
 go_upto_region 7 with fail
 obtain ⟨hp6,-,hg6⟩:=one_new w5 #[.bool true,.complex .f64 noneW.1 noneW.2] 44
 obtain ⟨e6,S6⟩:=HS5.out.pure9 hp6
 have HS6:=hid S6
 have HE6:=hid (HE5.out.trans e6)
 obtain ⟨hr2,hx2⟩:=res_kept e6 HX5.out nT HR5.out
 have HR6:=hid hr2
 have HX6:=hid hx2
 have hv2:=(e6).blk HV5.out (by rw [HY5.out];exact nT)
 have hy2:=((e6).col (Array.getElem?_eq_some_iff.1 HV5.out).1).trans HY5.out
 have HV6:=hid hv2
 have HY6:=hid hy2
 have HG6:=hid hg6
 clear e6 S6 hr2 hx2 hv2 hy2 hp6 hg6
 generalize w5.alloc (.cells #[.bool true,.complex .f64 noneW.1 noneW.2] 44)=w6 at *
 generalize paint w5.heap.size κ5 9=κ6 at *
 generalize w5.heap.size=X6 at *
 obtain ⟨o0,o1,o2,o3,o4,o5⟩:=op_cells HV6.out
 rw [HO.out] at o1
 obtain ⟨y0,y1⟩:=v_cells HG6.out
 go_wp2_with fail
 refine (Ac.lays_any ja (true,noneW) w6 HS6.out.act HP.out HJA.out HNX.out).mono ?_
 rintro r w7 ⟨rfl,κ7,he7,ha7⟩
 obtain ⟨e7,S7⟩:=HS6.out.acted he7 ha7
 have HS7:=hid S7
 have HE7:=hid (HE6.out.trans e7)
 obtain ⟨hr2,hx2⟩:=res_kept e7 HX6.out nT HR6.out
 have HR7:=hid hr2
 have HX7:=hid hx2
 have hv2:=(e7).blk HV6.out (by rw [HY6.out];exact nT)
 have hy2:=((e7).col (Array.getElem?_eq_some_iff.1 HV6.out).1).trans HY6.out
 have HV7:=hid hv2
 have HY7:=hid hy2
 clear he7 ha7 e7 S7 hr2 hx2 hv2 hy2
 clear o0 o1 o2 o3 o4 o5 y0 y1
 obtain ⟨z0,z1,z2,z3,z4⟩:=res_cells HR7.out
 have f1:=fun k=>frozen_of_row w7 X k _ _ HR7.out
 go_wp2_with fail
 refine bodyPost_ret (v:=.tuple #[.agg #[.int .i64 (s.next:Int),.int .i64 s.own,.int .i64 0,.bool true,.complex .f64 noneW.1 noneW.2],.bool true]) (by simp [results,Tryz.results121,go_sem,z0,z1,z2,z3,z4]) rfl ⟨rfl,_,(((((HE7.out.new HLE.out _ _).new HLE.out _ _).new HLE.out _ _).new HLE.out _ _).new HLE.out _ _),(((((HS7.out.cell9 HX7.out _ _).cell9 HX7.out _ _).cell9 HX7.out _ _).cell9 HX7.out _ _).cell9 HX7.out _ _)⟩
theorem starts_kind_no (o:OpD) (j:Nat) (x:Vl) (w:World) (h:Sys w c K κ m b s) (hk:o.kind=11) (hsg:∀ x∈kn o.kind,SgOk c o x) (ho:o.b=(j:Int)) (hj:s.locals[j]?=some x) (hx:x.1=false) (hph:s.phase≠4) (hnx:s.next≤100000) :
  Calls Tryz.prog 121 #[.pointer (some ⟨b.ab,0,none⟩),.pointer (some ⟨K.kb,0,none⟩),opV o] w fun r w'=>r=.returned (.tuple #[resV s.next s.own 4 zeroVl,.bool true])∧∃ κ',Ext CT w κ w' κ'∧Sys w' c K κ' m b { s with next:=s.next+1,phase:=1,pc:=0 }:=by
 obtain ⟨hp,-,hv,hrz⟩:=two_new w #[.int .i64 (o.kind:Int),.int .i64 o.a,.int .i64 o.b,.int .i64 o.c,.int .i64 o.n,.complex .f64 o.x o.y] #[.int .i64 0,.int .i64 0,.int .i64 0,.bool false,.complex .f64 0 0] 32 46
 have H1:=hid (h.pure9 hp)
 have HR:=hid hrz
 have HV:=hid hv
 have HY1:Hid (paint w.heap.size κ 9 w.heap.size=9):=hid (paint_new (by omega))
 have HX1:Hid (paint w.heap.size κ 9 (w.heap.size+1)=9):=hid (paint_new (by omega))
 have HLE:Hid (w.heap.size≤w.heap.size+1):=hid (by omega)
 have HK:=hid hk
 have HSG:=hid hsg
 have HO:=hid ho
 have HJ:=hid hj
 have HXX:=hid hx
 have HP:=hid hph
 have HNX:=hid hnx
 clear hp hrz h hv hk hsg ho hj hx hph hnx
 go_enter Tryz.func121,Tryz.ntmps121
 go_upto_region 1 with fail
 generalize (w.alloc (opO o)).alloc resZ=W at *
 generalize paint w.heap.size κ 9=κ1 at *
 generalize w.heap.size+1=X at *
 obtain ⟨E1,S1⟩:=H1.out
 have HE1:=hid E1
 have HS1:=hid S1
 clear E1 S1 H1
 obtain ⟨Av,cv,hcv⟩:∃ A cc,K.cv=.slice A K.csh.length cc:=by
  obtain ⟨⟨A,cc,h,_⟩,_⟩:=HS1.out.cor.conf
  exact ⟨A,cc,h⟩
 have HCV:=hid hcv
 obtain ⟨k0,k1,k2,k3,k4,k5,k6,k7,k8⟩:=HS1.out.cor.qc
 rw [hcv] at k8
 obtain ⟨o0,o1,o2,o3,o4,o5⟩:=op_cells HV.out
 clear hcv
 go_still_tail 5,(by kernel_rfl)
 change wpList _ _ _ _ _ W.drew
 have HS2:=hid HS1.out.drew
 have HR2:=hid (show W.drew.heap[X]?=_ from HR.out)
 have HV2:=hid (show W.drew.heap[w.heap.size]?=_ from HV.out)
 have HE2:Hid (Ext CT w κ W.drew κ1):=hid (HE1.out.trans (Ext.pure ((Only.refl (fun _=>False) W).drewN 1)))
 have HX2:=HX1
 have HY2:=HY1
 clear HS1 HR HV HE1 HX1 HY1 k0 k1 k2 k3 k4 k5 k6 k7 k8 o0 o1 o2 o3 o4 o5
 generalize W.drew=w2 at *
 go_wp2_with fail
 refine (HCV.out ▸ Opn.check_ok c _ K.csh o w2 HS2.out.cor.conf HS2.out.cor.ok (by rw [HK.out];decide) (by rw [HK.out];decide) HSG.out (fun h=>absurd h (by rw [HK.out];decide))).mono ?_
 rintro r w3 ⟨rfl,hp3⟩
 obtain ⟨e3,S3⟩:=HS2.out.pure9 hp3
 have HS3:=hid S3
 have HE3:=hid (HE2.out.trans e3)
 obtain ⟨hr2,hx2⟩:=res_kept e3 HX2.out nT HR2.out
 have HR3:=hid hr2
 have HX3:=hid hx2
 have hv2:=(e3).blk HV2.out (by rw [HY2.out];exact nT)
 have hy2:=((e3).col (Array.getElem?_eq_some_iff.1 HV2.out).1).trans HY2.out
 have HV3:=hid hv2
 have HY3:=hid hy2
 clear e3 S3 hr2 hx2 hv2 hy2 hp3
 generalize paint w2.heap.size κ1 9=κ3 at *
 obtain ⟨o0,o1,o2,o3,o4,o5⟩:=op_cells HV3.out
 go_wp2_with fail
 refine (operands_kind_no o j x w3 HS3.out.act HK.out HO.out HJ.out HXX.out).mono ?_
 rintro r w4 ⟨rfl,hp4⟩
 obtain ⟨e4,S4⟩:=HS3.out.pure9 hp4
 have HS4:=hid S4
 have HE4:=hid (HE3.out.trans e4)
 obtain ⟨hr2,hx2⟩:=res_kept e4 HX3.out nT HR3.out
 have HR4:=hid hr2
 have HX4:=hid hx2
 have hv2:=(e4).blk HV3.out (by rw [HY3.out];exact nT)
 have hy2:=((e4).col (Array.getElem?_eq_some_iff.1 HV3.out).1).trans HY3.out
 have HV4:=hid hv2
 have HY4:=hid hy2
 clear e4 S4 hr2 hx2 hv2 hy2 hp4 o0 o1 o2 o3 o4 o5
 generalize paint w3.heap.size κ3 9=κ4 at *
 obtain ⟨o0,o1,o2,o3,o4,o5⟩:=op_cells HV4.out
 go_wp2_with fail
 refine (Ac.fails_any 4 w4 HS4.out.act HP.out rfl HNX.out).mono ?_
 rintro r w5 ⟨rfl,κ5,he5,ha5⟩
 obtain ⟨e5,S5⟩:=HS4.out.acted he5 ha5
 have HS5:=hid S5
 have HE5:=hid (HE4.out.trans e5)
 obtain ⟨hr2,hx2⟩:=res_kept e5 HX4.out nT HR4.out
 have HR5:=hid hr2
 have HX5:=hid hx2
 have hv2:=(e5).blk HV4.out (by rw [HY4.out];exact nT)
 have hy2:=((e5).col (Array.getElem?_eq_some_iff.1 HV4.out).1).trans HY4.out
 have HV5:=hid hv2
 have HY5:=hid hy2
 clear he5 ha5 e5 S5 hr2 hx2 hv2 hy2 o0 o1 o2 o3 o4 o5
 obtain ⟨z0,z1,z2,z3,z4⟩:=res_cells HR5.out
 have f1:=fun k=>frozen_of_row w5 X k _ _ HR5.out
 go_wp2_with fail
 refine bodyPost_ret (v:=.tuple #[.agg #[.int .i64 (s.next:Int),.int .i64 s.own,.int .i64 4,.bool false,.complex .f64 0 0],.bool true]) (by simp [results,Tryz.results121,go_sem,z0,z1,z2,z3,z4]) rfl ⟨rfl,_,(((((HE5.out.new HLE.out _ _).new HLE.out _ _).new HLE.out _ _).new HLE.out _ _).new HLE.out _ _),(((((HS5.out.cell9 HX5.out _ _).cell9 HX5.out _ _).cell9 HX5.out _ _).cell9 HX5.out _ _).cell9 HX5.out _ _)⟩
theorem starts_kind (o:OpD) (i j jo kd md:Nat) (s0:Sh) (w:World) (h:Sys w c K κ m b s) (hk:o.kind=11) (hsg:∀ x∈kn o.kind,SgOk c o x) (ho:o.a=(jo:Int)) (ho2:o.b=(j:Int)) (hj:s.locals[j]?=some (true,refW i)) (hjo:jo<s.locals.length) (hi:i≤1000000) (hph:s.phase≠4) (hnx:s.next≤100000) (hz:m.words[8 * i+1]?=some (headW kd md)) (hkd:K.csh[kd]?=some s0) (hsa:s0.a=false) (hmd:md≤1) (hb:s0.bs.length≤1000000) (hh:(i:Int)<c.frags) (hkn:kd≤1000) :
  Calls Tryz.prog 121 #[.pointer (some ⟨b.ab,0,none⟩),.pointer (some ⟨K.kb,0,none⟩),opV o] w fun r w'=>r=.returned (.tuple #[resV s.next s.own 0 (false,wholeW kd),.bool true])∧∃ κ',Ext CT w κ w' κ'∧Sys w' c K κ' m b { s with next:=s.next+1,phase:=1,pc:=0,locals:=s.locals.set jo (false,wholeW kd) }:=by
 obtain ⟨hp,-,hv,hrz⟩:=two_new w #[.int .i64 (o.kind:Int),.int .i64 o.a,.int .i64 o.b,.int .i64 o.c,.int .i64 o.n,.complex .f64 o.x o.y] #[.int .i64 0,.int .i64 0,.int .i64 0,.bool false,.complex .f64 0 0] 32 46
 have H1:=hid (h.pure9 hp)
 have HR:=hid hrz
 have HV:=hid hv
 have HY1:Hid (paint w.heap.size κ 9 w.heap.size=9):=hid (paint_new (by omega))
 have HX1:Hid (paint w.heap.size κ 9 (w.heap.size+1)=9):=hid (paint_new (by omega))
 have HLE:Hid (w.heap.size≤w.heap.size+1):=hid (by omega)
 have HK:=hid hk
 have HSG:=hid hsg
 have HO:=hid (And.intro ho ho2)
 have HJ:=hid (And.intro hj (And.intro hjo hi))
 have HP:=hid (And.intro hph hnx)
 have HZ:=hid (And.intro hz (And.intro hkd (And.intro hsa hmd)))
 have HB:=hid (And.intro hb (And.intro hh hkn))
 clear hp hrz h hv hk hsg ho ho2 hj hjo hi hph hnx hz hkd hsa hmd hb hh hkn
 go_enter Tryz.func121,Tryz.ntmps121
 go_upto_region 1 with fail
 generalize (w.alloc (opO o)).alloc resZ=W at *
 generalize paint w.heap.size κ 9=κ1 at *
 generalize w.heap.size+1=X at *
 obtain ⟨E1,S1⟩:=H1.out
 have HE1:=hid E1
 have HS1:=hid S1
 clear E1 S1 H1
 obtain ⟨Av,cv,hcv⟩:∃ A cc,K.cv=.slice A K.csh.length cc:=by
  obtain ⟨⟨A,cc,h,_⟩,_⟩:=HS1.out.cor.conf
  exact ⟨A,cc,h⟩
 have HCV:=hid hcv
 obtain ⟨k0,k1,k2,k3,k4,k5,k6,k7,k8⟩:=HS1.out.cor.qc
 rw [hcv] at k8
 obtain ⟨o0,o1,o2,o3,o4,o5⟩:=op_cells HV.out
 clear hcv
 go_still_tail 5,(by kernel_rfl)
 change wpList _ _ _ _ _ W.drew
 have HS2:=hid HS1.out.drew
 have HR2:=hid (show W.drew.heap[X]?=_ from HR.out)
 have HV2:=hid (show W.drew.heap[w.heap.size]?=_ from HV.out)
 have HE2:Hid (Ext CT w κ W.drew κ1):=hid (HE1.out.trans (Ext.pure ((Only.refl (fun _=>False) W).drewN 1)))
 have HX2:=HX1
 have HY2:=HY1
 clear HS1 HR HV HE1 HX1 HY1 k0 k1 k2 k3 k4 k5 k6 k7 k8 o0 o1 o2 o3 o4 o5
 generalize W.drew=w2 at *
 go_wp2_with fail
 refine (HCV.out ▸ Opn.check_ok c _ K.csh o w2 HS2.out.cor.conf HS2.out.cor.ok (by rw [HK.out];decide) (by rw [HK.out];decide) HSG.out (fun h=>absurd h (by rw [HK.out];decide))).mono ?_
 rintro r w3 ⟨rfl,hp3⟩
 obtain ⟨e3,S3⟩:=HS2.out.pure9 hp3
 have HS3:=hid S3
 have HE3:=hid (HE2.out.trans e3)
 obtain ⟨hr2,hx2⟩:=res_kept e3 HX2.out nT HR2.out
 have HR3:=hid hr2
 have HX3:=hid hx2
 have hv2:=(e3).blk HV2.out (by rw [HY2.out];exact nT)
 have hy2:=((e3).col (Array.getElem?_eq_some_iff.1 HV2.out).1).trans HY2.out
 have HV3:=hid hv2
 have HY3:=hid hy2
 clear e3 S3 hr2 hx2 hv2 hy2 hp3
 generalize paint w2.heap.size κ1 9=κ3 at *
 obtain ⟨o0,o1,o2,o3,o4,o5⟩:=op_cells HV3.out
 go_wp2_with fail
 refine (operands_kind o j (true,refW i) w3 HS3.out.act HK.out HO.out.2 HJ.out.1 rfl (noneV_ref i HJ.out.2.2)).mono ?_
 rintro r w4 ⟨rfl,hp4⟩
 obtain ⟨e4,S4⟩:=HS3.out.pure9 hp4
 have HS4:=hid S4
 have HE4:=hid (HE3.out.trans e4)
 obtain ⟨hr2,hx2⟩:=res_kept e4 HX3.out nT HR3.out
 have HR4:=hid hr2
 have HX4:=hid hx2
 have hv2:=(e4).blk HV3.out (by rw [HY3.out];exact nT)
 have hy2:=((e4).col (Array.getElem?_eq_some_iff.1 HV3.out).1).trans HY3.out
 have HV4:=hid hv2
 have HY4:=hid hy2
 clear e4 S4 hr2 hx2 hv2 hy2 hp4 o0 o1 o2 o3 o4 o5
 generalize paint w3.heap.size κ3 9=κ4 at *
 obtain ⟨o0,o1,o2,o3,o4,o5⟩:=op_cells HV4.out
 go_wp2_with fail
 refine (plain_kind o w4 HS4.out.act HK.out).mono ?_
 rintro r w5 ⟨rfl,hp5⟩
 obtain ⟨e5,S5⟩:=HS4.out.pure9 hp5
 have HS5:=hid S5
 have HE5:=hid (HE4.out.trans e5)
 obtain ⟨hr2,hx2⟩:=res_kept e5 HX4.out nT HR4.out
 have HR5:=hid hr2
 have HX5:=hid hx2
 have hv2:=(e5).blk HV4.out (by rw [HY4.out];exact nT)
 have hy2:=((e5).col (Array.getElem?_eq_some_iff.1 HV4.out).1).trans HY4.out
 have HV5:=hid hv2
 have HY5:=hid hy2
 clear e5 S5 hr2 hx2 hv2 hy2 hp5 o0 o1 o2 o3 o4 o5
 generalize paint w4.heap.size κ4 9=κ5 at *
 go_upto_region 7 with fail
 obtain ⟨hp6,-,hg6⟩:=one_new w5 #[.bool false,.complex .f64 0 0] 44
 obtain ⟨e6,S6⟩:=HS5.out.pure9 hp6
 have HS6:=hid S6
 have HE6:=hid (HE5.out.trans e6)
 obtain ⟨hr2,hx2⟩:=res_kept e6 HX5.out nT HR5.out
 have HR6:=hid hr2
 have HX6:=hid hx2
 have hv2:=(e6).blk HV5.out (by rw [HY5.out];exact nT)
 have hy2:=((e6).col (Array.getElem?_eq_some_iff.1 HV5.out).1).trans HY5.out
 have HV6:=hid hv2
 have HY6:=hid hy2
 have HG6:=hid hg6
 clear e6 S6 hr2 hx2 hv2 hy2 hp6 hg6
 generalize w5.alloc (.cells #[.bool false,.complex .f64 0 0] 44)=w6 at *
 generalize paint w5.heap.size κ5 9=κ6 at *
 generalize w5.heap.size=X6 at *
 obtain ⟨o0,o1,o2,o3,o4,o5⟩:=op_cells HV6.out
 have e1:((o.kind:Int) == 1)=false:=by rw [HK.out];rfl
 have e2:((o.kind:Int) == 2)=false:=by rw [HK.out];rfl
 have e3:((o.kind:Int) == 3)=false:=by rw [HK.out];rfl
 have e4:((o.kind:Int) == 4)=false:=by rw [HK.out];rfl
 have e5:((o.kind:Int) == 5)=false:=by rw [HK.out];rfl
 have e6:((o.kind:Int) == 6)=false:=by rw [HK.out];rfl
 have e7:((o.kind:Int) == 7)=false:=by rw [HK.out];rfl
 have e8:((o.kind:Int) == 8)=false:=by rw [HK.out];rfl
 have e10:((o.kind:Int) == 10)=false:=by rw [HK.out];rfl
 have e11:((o.kind:Int) == 11)=true:=by rw [HK.out];rfl
 have e17:((o.kind:Int) == 17)=false:=by rw [HK.out];rfl
 go_wp2_with fail
 refine (tells_kind o i j jo kd md s0 w6 HS6.out HK.out HO.out.1 HO.out.2 HJ.out.1 HJ.out.2.1 HJ.out.2.2 HP.out.1 HP.out.2 HZ.out.1 HZ.out.2.1 HZ.out.2.2.1 HZ.out.2.2.2 HB.out.1 HB.out.2.1 HB.out.2.2).mono ?_
 rintro r w7 ⟨rfl,κ7,e7,S7⟩
 have HS7:=hid S7
 have HE7:=hid (HE6.out.trans e7)
 obtain ⟨hr2,hx2⟩:=res_kept e7 HX6.out nT HR6.out
 have HR7:=hid hr2
 have HX7:=hid hx2
 have hv2:=(e7).blk HV6.out (by rw [HY6.out];exact nT)
 have hy2:=((e7).col (Array.getElem?_eq_some_iff.1 HV6.out).1).trans HY6.out
 have HV7:=hid hv2
 have HY7:=hid hy2
 clear e7 S7 hr2 hx2 hv2 hy2 o0 o1 o2 o3 o4 o5
 obtain ⟨z0,z1,z2,z3,z4⟩:=res_cells HR7.out
 have f1:=fun k=>frozen_of_row w7 X k _ _ HR7.out
 go_wp2_with fail
 refine bodyPost_ret (v:=.tuple #[.agg #[.int .i64 (s.next:Int),.int .i64 s.own,.int .i64 0,.bool false,.complex .f64 (wholeW kd).1 (wholeW kd).2],.bool true]) (by simp [results,Tryz.results121,go_sem,z0,z1,z2,z3,z4]) rfl ⟨rfl,_,(((((HE7.out.new HLE.out _ _).new HLE.out _ _).new HLE.out _ _).new HLE.out _ _).new HLE.out _ _),(((((HS7.out.cell9 HX7.out _ _).cell9 HX7.out _ _).cell9 HX7.out _ _).cell9 HX7.out _ _).cell9 HX7.out _ _)⟩
end
open Go.RowKit
open Ac (wrs OpD opV opO op_cells Vl Wr resV resZ zeroVl res_cells res_kept nT one_new two_new lays_any done_any fails_any CT)
section
variable {w w':World} {c:Cn} {K:Cor.Q} {κ:Nat→Nat} {m:Cor.St} {b:Ac.B} {s:Ac.St}
open Ac (op_cells vlV vlL)
open Opn (SgOk Made kn need_new)
theorem starts_look (o:OpD) (gi ad jo:Nat) (z:Nat × Nat) (w:World) (h:Sys w c K κ m b s) (hk:o.kind=7) (hsg:∀ x∈kn o.kind,SgOk c o x) (hn:o.n=(gi:Int)) (hg:(gi:Int)<c.globals) (had:8 * c.frags+2 * c.spine+(gi:Int)=(ad:Int)) (hz:RefW z) (hzz:m.words[ad]?=some z) (ho:o.a=(jo:Int)) (hjo:jo<s.locals.length) (hph:s.phase≠4) (hnx:s.next≤100000) :
  Calls Tryz.prog 121 #[.pointer (some ⟨b.ab,0,none⟩),.pointer (some ⟨K.kb,0,none⟩),opV o] w fun r w'=>r=.returned (.tuple #[resV s.next s.own 0 (true,z),.bool true])∧∃ κ',Ext CT w κ w' κ'∧Sys w' c K κ' m b { s with addr:=(ad:Int),ref:=true,next:=s.next+1,phase:=1,pc:=0,locals:=s.locals.set jo (true,z) }:=by
 obtain ⟨hp,-,hv,hrz⟩:=two_new w #[.int .i64 (o.kind:Int),.int .i64 o.a,.int .i64 o.b,.int .i64 o.c,.int .i64 o.n,.complex .f64 o.x o.y] #[.int .i64 0,.int .i64 0,.int .i64 0,.bool false,.complex .f64 0 0] 32 46
 have H1:=hid (h.pure9 hp)
 have HR:=hid hrz
 have HV:=hid hv
 have HY1:Hid (paint w.heap.size κ 9 w.heap.size=9):=hid (paint_new (by omega))
 have HX1:Hid (paint w.heap.size κ 9 (w.heap.size+1)=9):=hid (paint_new (by omega))
 have HLE:Hid (w.heap.size≤w.heap.size+1):=hid (by omega)
 have HK:=hid hk
 have HSG:=hid hsg
 have HN:=hid hn
 have HG:=hid hg
 have HAD:=hid had
 have HZ:=hid (And.intro hz hzz)
 have HO:=hid ho
 have HP:=hid (And.intro hjo (And.intro hph hnx))
 clear hp hrz h hv hk hsg hn hg had hz hzz ho hjo hph hnx
 go_enter Tryz.func121,Tryz.ntmps121
 go_upto_region 1 with fail
 generalize (w.alloc (opO o)).alloc resZ=W at *
 generalize paint w.heap.size κ 9=κ1 at *
 generalize w.heap.size+1=X at *
 obtain ⟨E1,S1⟩:=H1.out
 have HE1:=hid E1
 have HS1:=hid S1
 clear E1 S1 H1
 obtain ⟨Av,cv,hcv⟩:∃ A cc,K.cv=.slice A K.csh.length cc:=by
  obtain ⟨⟨A,cc,h,_⟩,_⟩:=HS1.out.cor.conf
  exact ⟨A,cc,h⟩
 have HCV:=hid hcv
 obtain ⟨k0,k1,k2,k3,k4,k5,k6,k7,k8⟩:=HS1.out.cor.qc
 rw [hcv] at k8
 obtain ⟨o0,o1,o2,o3,o4,o5⟩:=op_cells HV.out
 clear hcv
 go_still_tail 5,(by kernel_rfl)
 change wpList _ _ _ _ _ W.drew
 have HS2:=hid HS1.out.drew
 have HR2:=hid (show W.drew.heap[X]?=_ from HR.out)
 have HV2:=hid (show W.drew.heap[w.heap.size]?=_ from HV.out)
 have HE2:Hid (Ext CT w κ W.drew κ1):=hid (HE1.out.trans (Ext.pure ((Only.refl (fun _=>False) W).drewN 1)))
 have HX2:=HX1
 have HY2:=HY1
 clear HS1 HR HV HE1 HX1 HY1 k0 k1 k2 k3 k4 k5 k6 k7 k8 o0 o1 o2 o3 o4 o5
 generalize W.drew=w2 at *
 go_wp2_with fail
 refine (HCV.out ▸ Opn.check_ok c _ K.csh o w2 HS2.out.cor.conf HS2.out.cor.ok (by rw [HK.out];decide) (by rw [HK.out];decide) HSG.out (fun h=>absurd h (by rw [HK.out];decide))).mono ?_
 rintro r w3 ⟨rfl,hp3⟩
 obtain ⟨e3,S3⟩:=HS2.out.pure9 hp3
 have HS3:=hid S3
 have HE3:=hid (HE2.out.trans e3)
 obtain ⟨hr2,hx2⟩:=res_kept e3 HX2.out nT HR2.out
 have HR3:=hid hr2
 have HX3:=hid hx2
 have hv2:=(e3).blk HV2.out (by rw [HY2.out];exact nT)
 have hy2:=((e3).col (Array.getElem?_eq_some_iff.1 HV2.out).1).trans HY2.out
 have HV3:=hid hv2
 have HY3:=hid hy2
 clear e3 S3 hr2 hx2 hv2 hy2 hp3
 generalize paint w2.heap.size κ1 9=κ3 at *
 obtain ⟨o0,o1,o2,o3,o4,o5⟩:=op_cells HV3.out
 go_wp2_with fail
 refine (operands_look o w3 HS3.out.act HK.out).mono ?_
 rintro r w4 ⟨rfl,hp4⟩
 obtain ⟨e4,S4⟩:=HS3.out.pure9 hp4
 have HS4:=hid S4
 have HE4:=hid (HE3.out.trans e4)
 obtain ⟨hr2,hx2⟩:=res_kept e4 HX3.out nT HR3.out
 have HR4:=hid hr2
 have HX4:=hid hx2
 have hv2:=(e4).blk HV3.out (by rw [HY3.out];exact nT)
 have hy2:=((e4).col (Array.getElem?_eq_some_iff.1 HV3.out).1).trans HY3.out
 have HV4:=hid hv2
 have HY4:=hid hy2
 clear e4 S4 hr2 hx2 hv2 hy2 hp4 o0 o1 o2 o3 o4 o5
 generalize paint w3.heap.size κ3 9=κ4 at *
 obtain ⟨o0,o1,o2,o3,o4,o5⟩:=op_cells HV4.out
 go_wp2_with fail
 refine (plain_look o w4 HS4.out.act HK.out).mono ?_
 rintro r w5 ⟨rfl,hp5⟩
 obtain ⟨e5,S5⟩:=HS4.out.pure9 hp5
 have HS5:=hid S5
 have HE5:=hid (HE4.out.trans e5)
 obtain ⟨hr2,hx2⟩:=res_kept e5 HX4.out nT HR4.out
 have HR5:=hid hr2
 have HX5:=hid hx2
 have hv2:=(e5).blk HV4.out (by rw [HY4.out];exact nT)
 have hy2:=((e5).col (Array.getElem?_eq_some_iff.1 HV4.out).1).trans HY4.out
 have HV5:=hid hv2
 have HY5:=hid hy2
 clear e5 S5 hr2 hx2 hv2 hy2 hp5 o0 o1 o2 o3 o4 o5
 generalize paint w4.heap.size κ4 9=κ5 at *
 go_upto_region 7 with fail
 obtain ⟨hp6,-,hg6⟩:=one_new w5 #[.bool false,.complex .f64 0 0] 44
 obtain ⟨e6,S6⟩:=HS5.out.pure9 hp6
 have HS6:=hid S6
 have HE6:=hid (HE5.out.trans e6)
 obtain ⟨hr2,hx2⟩:=res_kept e6 HX5.out nT HR5.out
 have HR6:=hid hr2
 have HX6:=hid hx2
 have hv2:=(e6).blk HV5.out (by rw [HY5.out];exact nT)
 have hy2:=((e6).col (Array.getElem?_eq_some_iff.1 HV5.out).1).trans HY5.out
 have HV6:=hid hv2
 have HY6:=hid hy2
 have HG6:=hid hg6
 clear e6 S6 hr2 hx2 hv2 hy2 hp6 hg6
 generalize w5.alloc (.cells #[.bool false,.complex .f64 0 0] 44)=w6 at *
 generalize paint w5.heap.size κ5 9=κ6 at *
 generalize w5.heap.size=X6 at *
 obtain ⟨o0,o1,o2,o3,o4,o5⟩:=op_cells HV6.out
 have e1:((o.kind:Int) == 1)=false:=by rw [HK.out];rfl
 have e2:((o.kind:Int) == 2)=false:=by rw [HK.out];rfl
 have e3:((o.kind:Int) == 3)=false:=by rw [HK.out];rfl
 have e4:((o.kind:Int) == 4)=false:=by rw [HK.out];rfl
 have e5:((o.kind:Int) == 5)=false:=by rw [HK.out];rfl
 have e6:((o.kind:Int) == 6)=false:=by rw [HK.out];rfl
 have e7:((o.kind:Int) == 7)=true:=by rw [HK.out];rfl
 have e8:((o.kind:Int) == 8)=false:=by rw [HK.out];rfl
 have e10:((o.kind:Int) == 10)=false:=by rw [HK.out];rfl
 have e11:((o.kind:Int) == 11)=false:=by rw [HK.out];rfl
 have e17:((o.kind:Int) == 17)=false:=by rw [HK.out];rfl
 obtain ⟨Aw,cw,hcw⟩:∃ A cc,K.cv=.slice A K.csh.length cc:=⟨_,_,HCV.out⟩
 obtain ⟨k0,k1,k2,k3,k4,k5,k6,k7,k8⟩:=HS6.out.cor.qc
 rw [HCV.out] at k8
 rw [HN.out] at o4
 have hg0:(0:Int)≤(gi:Int):=by omega
 have c13:=HS6.out.act.p13
 have fz:=HS6.out.act.fb
 clear hcw
 go_upto_region 21 with fail
 go_cut [7] (fun _ wx=>∃ W7,Pure w6 W7∧wx=W7.setCell ⟨b.ab,13,none⟩ (.int .i64 (ad:Int)))
 case first =>
  go_wp2_with fail
  go_region_with (go_at_call 50;refine (HCV.out ▸ global_in c _ K.csh (gi:Int) _ HS6.out.drew.cor.conf HS6.out.cor.ok hg0 HG.out).mono ?_;rw [HAD.out];rintro e w7 ⟨rfl,hp7⟩;have s7:=HS6.out.pure (Pure.then (b:=w6.drew) ((Only.refl (fun _=>False) w6).drewN 1) hp7);have d13:=s7.act.p13;have dz:=s7.act.fb;clear s7)
  all_goals
   go_wp2_with fail
   go_meet
   exact ⟨_,Pure.then (b:=w6.drew) ((Only.refl (fun _=>False) w6).drewN 1) hp7,rfl⟩
 case rest =>
  obtain ⟨W7,hpw,rfl⟩:=hcut
  obtain ⟨e7,S7⟩:=HS6.out.pure9 hpw
  have h8:=S7.act.put 13 (.int .i64 (ad:Int)) { s with addr:=(ad:Int) } rfl rfl ⟨rfl,rfl,rfl,rfl,rfl,rfl⟩
  have o8:Only (fun k=>k=b.ab) W7 (W7.setCell ⟨b.ab,13,none⟩ (.int .i64 (ad:Int))):=Ac.Only.me (Only.refl _ _) _ _
  obtain ⟨e8,S8⟩:=S7.acted (Ac.ext_me S7.act.k6 o8) h8
  have e78:=e7.trans e8
  have HS8:=hid S8
  have HE8:=hid (HE6.out.trans e78)
  obtain ⟨hr2,hx2⟩:=res_kept e78 HX6.out nT HR6.out
  have HR8:=hid hr2
  have HX8:=hid hx2
  have hv2:=(e78).blk HV6.out (by rw [HY6.out];exact nT)
  have hy2:=((e78).col (Array.getElem?_eq_some_iff.1 HV6.out).1).trans HY6.out
  have HV8:=hid hv2
  have HY8:=hid hy2
  clear e7 S7 h8 o8 e8 S8 e78 hpw hr2 hx2 hv2 hy2 k0 k1 k2 k3 k4 k5 k6 k7 k8 o0 o1 o2 o3 o4 o5 c13 fz
  generalize paint w6.heap.size κ6 9=κ8 at *
  generalize W7.setCell ⟨b.ab,13,none⟩ (.int .i64 (ad:Int))=w8 at *
  have c14:=HS8.out.act.p14
  have fz:=HS8.out.act.fb
  go_upto_region 23 with fail
  have h9:=HS8.out.act.put 14 (.bool true) { s with addr:=(ad:Int),ref:=true } rfl rfl ⟨rfl,rfl,rfl,rfl,rfl,rfl⟩
  have o9:Only (fun k=>k=b.ab) w8 (w8.setCell ⟨b.ab,14,none⟩ (.bool true)):=Ac.Only.me (Only.refl _ _) _ _
  obtain ⟨e9,S9⟩:=HS8.out.acted (Ac.ext_me HS8.out.act.k6 o9) h9
  have HS9:=hid S9
  have HE9:=hid (HE8.out.trans e9)
  obtain ⟨hr2,hx2⟩:=res_kept e9 HX8.out nT HR8.out
  have HR9:=hid hr2
  have HX9:=hid hx2
  have hv2:=(e9).blk HV8.out (by rw [HY8.out];exact nT)
  have hy2:=((e9).col (Array.getElem?_eq_some_iff.1 HV8.out).1).trans HY8.out
  have HV9:=hid hv2
  have HY9:=hid hy2
  clear h9 o9 e9 S9 hr2 hx2 hv2 hy2 c14 fz
  generalize w8.setCell ⟨b.ab,14,none⟩ (.bool true)=w9 at *
  obtain ⟨o0,o1,o2,o3,o4,o5⟩:=op_cells HV9.out
  go_wp2_with fail
  refine (reads_ref o ad jo z w9 HS9.out HZ.out.1 rfl HZ.out.2 rfl HO.out HP.out.1 HP.out.2.1 HP.out.2.2).mono ?_
  rintro r w10 ⟨rfl,κ10,e10,S10⟩
  have HS10:=hid S10
  have HE10:=hid (HE9.out.trans e10)
  obtain ⟨hr2,hx2⟩:=res_kept e10 HX9.out nT HR9.out
  have HR10:=hid hr2
  have HX10:=hid hx2
  have hv2:=(e10).blk HV9.out (by rw [HY9.out];exact nT)
  have hy2:=((e10).col (Array.getElem?_eq_some_iff.1 HV9.out).1).trans HY9.out
  have HV10:=hid hv2
  have HY10:=hid hy2
  clear e10 S10 hr2 hx2 hv2 hy2 o0 o1 o2 o3 o4 o5
  obtain ⟨z0,z1,z2,z3,z4⟩:=res_cells HR10.out
  have f1:=fun k=>frozen_of_row w10 X k _ _ HR10.out
  go_wp2_with fail
  refine bodyPost_ret (v:=.tuple #[.agg #[.int .i64 (s.next:Int),.int .i64 s.own,.int .i64 0,.bool true,.complex .f64 z.1 z.2],.bool true]) (by simp [results,Tryz.results121,go_sem,z0,z1,z2,z3,z4]) rfl ⟨rfl,_,(((((HE10.out.new HLE.out _ _).new HLE.out _ _).new HLE.out _ _).new HLE.out _ _).new HLE.out _ _),(((((HS10.out.cell9 HX10.out _ _).cell9 HX10.out _ _).cell9 HX10.out _ _).cell9 HX10.out _ _).cell9 HX10.out _ _)⟩
end
end Go.Proofs.YtpgdiceeimehiaaGreat
