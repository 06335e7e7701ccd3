/- Part 41 of the proof that spotop.TopOrder returns true for all arguments and leaves what was there as it was. -/
import Derived.Deep.DeepCutAuto
import Derived.Deep.CutBlock
import Derived.Test.YtpgdiceeimehiaaGreatQ28
import Derived.Test.YtpgdiceeimehiaaGreatQ29
import Derived.Test.YtpgdiceeimehiaaGreatQ35
import Derived.Test.YtpgdiceeimehiaaGreatQ36
import Derived.Test.YtpgdiceeimehiaaGreatQ37
import Derived.Test.YtpgdiceeimehiaaGreatQ38
import Derived.Test.YtpgdiceeimehiaaGreatQ39
import Derived.Test.YtpgdiceeimehiaaGreatQ40
set_option maxRecDepth 100000
set_option maxHeartbeats 16000000
open Go.Lib (hid)
namespace Go.Proofs.YtpgdiceeimehiaaGreat
open Go.RowKit
open Ac (wrs OpD opV opO op_cells Vl Wr resV resZ zeroVl res_cells res_kept nT one_new two_new lays_any done_any fails_any CT)
section
variable {w w':World} {c:Cn} {K:Cor.Q} {κ:Nat→Nat} {m:Cor.St} {b:Ac.B} {s:Ac.St}
open Ac (op_cells vlV vlL)
open Opn (SgOk Made kn need_new)
open Pl (natI objJ)
theorem starts_new (o:OpD) (kd:Nat) (sh0:Sh) (n:Nat) (xs:List Nat) (sd:Bool) (w:World) (h:Sys w c K κ m b s) (hk:o.kind=1) (hsg:∀ x∈kn o.kind,SgOk c o x) (hm:Made c K.csh o kd sh0) (hz:sizeI false sh0.bs.length 0=(n:Int)) (hb0:b.t=0) (hns:0<K.q.ns) (hn1:1≤n) (hsx:m.s.sx.length<n) (hen:m.s.en=[]) (hll:m.s.fr.length=m.s.l.length) (hfit:n≤Po.cnt m.s.fr) (hxs:Po.take m.s.fr n=xs) (hob:ObjOk c K.csh kd sh0.bs xs sd) :
  Calls Tryz.prog 121 #[.pointer (some ⟨b.ab,0,none⟩),.pointer (some ⟨K.kb,0,none⟩),opV o] w fun r w'=>r=.returned (.tuple #[resV 0 0 0 zeroVl,.bool false])∧∃ κ',Ext CT w κ w' κ'∧∃ sv' wv' tv',Sys w' c K κ' { m with s:={ m.s with l:=Sp.setAll (Sp.setAll m.s.l xs 2 (col s)) (Po.low (Po.off m.s.fr xs) (c.cache.toNat-m.s.sx.length)) 1 (col s),fr:=Po.off (Po.off m.s.fr xs) (Po.low (Po.off m.s.fr xs) (c.cache.toNat-m.s.sx.length)),sv:=sv',sx:=m.s.sx++Po.natI (Po.low (Po.off m.s.fr xs) (c.cache.toNat-m.s.sx.length)) } } b { s with phase:=2,at_:=7,wv:=wv',writes:=objJ kd sd xs sh0.bs xs.length,tv:=tv',got:=natI xs }:=by
 obtain ⟨hp,-,hv,hrz⟩:=two_new w #[.int .i64 (o.kind:Int),.int .i64 o.a,.int .i64 o.b,.int .i64 o.c,.int .i64 o.n,.complex .f64 o.x o.y] #[.int .i64 0,.int .i64 0,.int .i64 0,.bool false,.complex .f64 0 0] 32 46
 have H1:=hid (h.pure9 hp)
 have HR:=hid hrz
 have HV:=hid hv
 have HY1:Hid (paint w.heap.size κ 9 w.heap.size=9):=hid (paint_new (by omega))
 have HX1:Hid (paint w.heap.size κ 9 (w.heap.size+1)=9):=hid (paint_new (by omega))
 have HLE:Hid (w.heap.size≤w.heap.size+1):=hid (by omega)
 have HK:=hid hk
 have HSG:=hid hsg
 have HM:=hid hm
 have HN:=hid (And.intro hz (And.intro hb0 (And.intro hns hn1)))
 have HQ:=hid (And.intro hsx (And.intro hen hll))
 have HFIT:=hid hfit
 have HXS:=hid hxs
 have HOB:=hid hob
 clear hp hrz h hv hk hsg hm hz hb0 hns hn1 hsx hen hll hfit hxs hob
 go_enter Tryz.func121,Tryz.ntmps121
 go_upto_region 1 with fail
 generalize (w.alloc (opO o)).alloc resZ=W at *
 generalize paint w.heap.size κ 9=κ1 at *
 generalize w.heap.size+1=X at *
 obtain ⟨E1,S1⟩:=H1.out
 have HE1:=hid E1
 have HS1:=hid S1
 clear E1 S1 H1
 obtain ⟨Av,cv,hcv⟩:∃ A cc,K.cv=.slice A K.csh.length cc:=by
  obtain ⟨⟨A,cc,h,_⟩,_⟩:=HS1.out.cor.conf
  exact ⟨A,cc,h⟩
 have HCV:=hid hcv
 obtain ⟨k0,k1,k2,k3,k4,k5,k6,k7,k8⟩:=HS1.out.cor.qc
 rw [hcv] at k8
 obtain ⟨o0,o1,o2,o3,o4,o5⟩:=op_cells HV.out
 clear hcv
 go_still_tail 5,(by kernel_rfl)
 change wpList _ _ _ _ _ W.drew
 have HS2:=hid HS1.out.drew
 have HR2:=hid (show W.drew.heap[X]?=_ from HR.out)
 have HV2:=hid (show W.drew.heap[w.heap.size]?=_ from HV.out)
 have HE2:Hid (Ext CT w κ W.drew κ1):=hid (HE1.out.trans (Ext.pure ((Only.refl (fun _=>False) W).drewN 1)))
 have HX2:=HX1
 have HY2:=HY1
 clear HS1 HR HV HE1 HX1 HY1 k0 k1 k2 k3 k4 k5 k6 k7 k8 o0 o1 o2 o3 o4 o5
 generalize W.drew=w2 at *
 go_wp2_with fail
 refine (HCV.out ▸ Opn.check_ok c _ K.csh o w2 HS2.out.cor.conf HS2.out.cor.ok (by rw [HK.out];decide) (by rw [HK.out];decide) HSG.out (fun _=>⟨kd,sh0,HM.out⟩)).mono ?_
 rintro r w3 ⟨rfl,hp3⟩
 obtain ⟨e3,S3⟩:=HS2.out.pure9 hp3
 have HS3:=hid S3
 have HE3:=hid (HE2.out.trans e3)
 obtain ⟨hr2,hx2⟩:=res_kept e3 HX2.out nT HR2.out
 have HR3:=hid hr2
 have HX3:=hid hx2
 have hv2:=(e3).blk HV2.out (by rw [HY2.out];exact nT)
 have hy2:=((e3).col (Array.getElem?_eq_some_iff.1 HV2.out).1).trans HY2.out
 have HV3:=hid hv2
 have HY3:=hid hy2
 clear e3 S3 hr2 hx2 hv2 hy2 hp3
 generalize paint w2.heap.size κ1 9=κ3 at *
 obtain ⟨o0,o1,o2,o3,o4,o5⟩:=op_cells HV3.out
 go_wp2_with fail
 refine (operands_new o w3 HS3.out.act HK.out).mono ?_
 rintro r w4 ⟨rfl,hp4⟩
 obtain ⟨e4,S4⟩:=HS3.out.pure9 hp4
 have HS4:=hid S4
 have HE4:=hid (HE3.out.trans e4)
 obtain ⟨hr2,hx2⟩:=res_kept e4 HX3.out nT HR3.out
 have HR4:=hid hr2
 have HX4:=hid hx2
 have hv2:=(e4).blk HV3.out (by rw [HY3.out];exact nT)
 have hy2:=((e4).col (Array.getElem?_eq_some_iff.1 HV3.out).1).trans HY3.out
 have HV4:=hid hv2
 have HY4:=hid hy2
 clear e4 S4 hr2 hx2 hv2 hy2 hp4 o0 o1 o2 o3 o4 o5
 generalize paint w3.heap.size κ3 9=κ4 at *
 obtain ⟨o0,o1,o2,o3,o4,o5⟩:=op_cells HV4.out
 go_wp2_with fail
 refine (plain_new o w4 HS4.out.act HK.out).mono ?_
 rintro r w5 ⟨rfl,hp5⟩
 obtain ⟨e5,S5⟩:=HS4.out.pure9 hp5
 have HS5:=hid S5
 have HE5:=hid (HE4.out.trans e5)
 obtain ⟨hr2,hx2⟩:=res_kept e5 HX4.out nT HR4.out
 have HR5:=hid hr2
 have HX5:=hid hx2
 have hv2:=(e5).blk HV4.out (by rw [HY4.out];exact nT)
 have hy2:=((e5).col (Array.getElem?_eq_some_iff.1 HV4.out).1).trans HY4.out
 have HV5:=hid hv2
 have HY5:=hid hy2
 clear e5 S5 hr2 hx2 hv2 hy2 hp5 o0 o1 o2 o3 o4 o5
 generalize paint w4.heap.size κ4 9=κ5 at *
 go_upto_region 7 with fail
 obtain ⟨hp6,-,hg6⟩:=one_new w5 #[.bool false,.complex .f64 0 0] 44
 obtain ⟨e6,S6⟩:=HS5.out.pure9 hp6
 have HS6:=hid S6
 have HE6:=hid (HE5.out.trans e6)
 obtain ⟨hr2,hx2⟩:=res_kept e6 HX5.out nT HR5.out
 have HR6:=hid hr2
 have HX6:=hid hx2
 have hv2:=(e6).blk HV5.out (by rw [HY5.out];exact nT)
 have hy2:=((e6).col (Array.getElem?_eq_some_iff.1 HV5.out).1).trans HY5.out
 have HV6:=hid hv2
 have HY6:=hid hy2
 have HG6:=hid hg6
 clear e6 S6 hr2 hx2 hv2 hy2 hp6 hg6
 generalize w5.alloc (.cells #[.bool false,.complex .f64 0 0] 44)=w6 at *
 generalize paint w5.heap.size κ5 9=κ6 at *
 generalize w5.heap.size=X6 at *
 obtain ⟨o0,o1,o2,o3,o4,o5⟩:=op_cells HV6.out
 have e1:((o.kind:Int) == 1)=true:=by rw [HK.out];rfl
 have e2:((o.kind:Int) == 2)=false:=by rw [HK.out];rfl
 have e3:((o.kind:Int) == 3)=false:=by rw [HK.out];rfl
 have e4:((o.kind:Int) == 4)=false:=by rw [HK.out];rfl
 have e5:((o.kind:Int) == 5)=false:=by rw [HK.out];rfl
 have e6:((o.kind:Int) == 6)=false:=by rw [HK.out];rfl
 have e7:((o.kind:Int) == 7)=false:=by rw [HK.out];rfl
 have e8:((o.kind:Int) == 8)=false:=by rw [HK.out];rfl
 have e10:((o.kind:Int) == 10)=false:=by rw [HK.out];rfl
 have e11:((o.kind:Int) == 11)=false:=by rw [HK.out];rfl
 have e17:((o.kind:Int) == 17)=false:=by rw [HK.out];rfl
 go_wp2_with fail
 refine (asks_got o kd sh0 n w6 HS6.out HK.out HSG.out HM.out HN.out.1 HN.out.2.1 HN.out.2.2.1 HN.out.2.2.2 HQ.out.1 HQ.out.2.1 HQ.out.2.2 HFIT.out xs HXS.out sd HOB.out).mono ?_
 rintro r w9 ⟨rfl,κ9,e9,sv9,wv9,tv9,S9⟩
 have HS9:=hid S9
 have HE9:=hid (HE6.out.trans e9)
 obtain ⟨hr2,hx2⟩:=res_kept e9 HX6.out nT HR6.out
 have HR9:=hid hr2
 have HX9:=hid hx2
 have hv2:=(e9).blk HV6.out (by rw [HY6.out];exact nT)
 have hy2:=((e9).col (Array.getElem?_eq_some_iff.1 HV6.out).1).trans HY6.out
 have HV9:=hid hv2
 have HY9:=hid hy2
 clear e9 S9 hr2 hx2 hv2 hy2 o0 o1 o2 o3 o4 o5
 obtain ⟨z0,z1,z2,z3,z4⟩:=res_cells HR9.out
 have f1:=fun k=>frozen_of_row w9 X k _ _ HR9.out
 go_wp2_with fail
 refine bodyPost_ret (v:=.tuple #[.agg #[.int .i64 0,.int .i64 0,.int .i64 0,.bool false,.complex .f64 0 0],.bool false]) (by simp [results,Tryz.results121,go_sem,z0,z1,z2,z3,z4]) rfl ⟨rfl,_,(((((HE9.out.new HLE.out _ _).new HLE.out _ _).new HLE.out _ _).new HLE.out _ _).new HLE.out _ _),_,_,_,(((((HS9.out.cell9 HX9.out _ _).cell9 HX9.out _ _).cell9 HX9.out _ _).cell9 HX9.out _ _).cell9 HX9.out _ _)⟩
theorem starts_newwait (o:OpD) (kd:Nat) (sh0:Sh) (n:Nat) (w:World) (h:Sys w c K κ m b s) (hk:o.kind=1) (hsg:∀ x∈kn o.kind,SgOk c o x) (hm:Made c K.csh o kd sh0) (hz:sizeI false sh0.bs.length 0=(n:Int)) (hb0:b.t=0) (hns:0<K.q.ns) (hn1:1≤n) (hsx:m.s.sx.length<n) (hen:m.s.en=[]) (hll:m.s.fr.length=m.s.l.length) (hfit:¬ n≤Po.cnt m.s.fr) (hn2:n≤1024) :
  Calls Tryz.prog 121 #[.pointer (some ⟨b.ab,0,none⟩),.pointer (some ⟨K.kb,0,none⟩),opV o] w fun r w'=>r=.returned (.tuple #[resV 0 0 0 zeroVl,.bool false])∧∃ κ',Ext CT w κ w' κ'∧∃ lv',Sys w' c K κ' { m with s:={ m.s with lv:=lv',en:=[⟨0,n,0,0,0,-1,.slice none 0 0,[],false⟩] } } b { s with phase:=3,pc:=5 }:=by
 obtain ⟨hp,-,hv,hrz⟩:=two_new w #[.int .i64 (o.kind:Int),.int .i64 o.a,.int .i64 o.b,.int .i64 o.c,.int .i64 o.n,.complex .f64 o.x o.y] #[.int .i64 0,.int .i64 0,.int .i64 0,.bool false,.complex .f64 0 0] 32 46
 have H1:=hid (h.pure9 hp)
 have HR:=hid hrz
 have HV:=hid hv
 have HY1:Hid (paint w.heap.size κ 9 w.heap.size=9):=hid (paint_new (by omega))
 have HX1:Hid (paint w.heap.size κ 9 (w.heap.size+1)=9):=hid (paint_new (by omega))
 have HLE:Hid (w.heap.size≤w.heap.size+1):=hid (by omega)
 have HK:=hid hk
 have HSG:=hid hsg
 have HM:=hid hm
 have HN:=hid (And.intro hz (And.intro hb0 (And.intro hns hn1)))
 have HQ:=hid (And.intro hsx (And.intro hen hll))
 have HFIT:=hid (And.intro hfit hn2)
 clear hp hrz h hv hk hsg hm hz hb0 hns hn1 hsx hen hll hfit hn2
 go_enter Tryz.func121,Tryz.ntmps121
 go_upto_region 1 with fail
 generalize (w.alloc (opO o)).alloc resZ=W at *
 generalize paint w.heap.size κ 9=κ1 at *
 generalize w.heap.size+1=X at *
 obtain ⟨E1,S1⟩:=H1.out
 have HE1:=hid E1
 have HS1:=hid S1
 clear E1 S1 H1
 obtain ⟨Av,cv,hcv⟩:∃ A cc,K.cv=.slice A K.csh.length cc:=by
  obtain ⟨⟨A,cc,h,_⟩,_⟩:=HS1.out.cor.conf
  exact ⟨A,cc,h⟩
 have HCV:=hid hcv
 obtain ⟨k0,k1,k2,k3,k4,k5,k6,k7,k8⟩:=HS1.out.cor.qc
 rw [hcv] at k8
 obtain ⟨o0,o1,o2,o3,o4,o5⟩:=op_cells HV.out
 clear hcv
 go_still_tail 5,(by kernel_rfl)
 change wpList _ _ _ _ _ W.drew
 have HS2:=hid HS1.out.drew
 have HR2:=hid (show W.drew.heap[X]?=_ from HR.out)
 have HV2:=hid (show W.drew.heap[w.heap.size]?=_ from HV.out)
 have HE2:Hid (Ext CT w κ W.drew κ1):=hid (HE1.out.trans (Ext.pure ((Only.refl (fun _=>False) W).drewN 1)))
 have HX2:=HX1
 have HY2:=HY1
 clear HS1 HR HV HE1 HX1 HY1 k0 k1 k2 k3 k4 k5 k6 k7 k8 o0 o1 o2 o3 o4 o5
 generalize W.drew=w2 at *
 go_wp2_with fail
 refine (HCV.out ▸ Opn.check_ok c _ K.csh o w2 HS2.out.cor.conf HS2.out.cor.ok (by rw [HK.out];decide) (by rw [HK.out];decide) HSG.out (fun _=>⟨kd,sh0,HM.out⟩)).mono ?_
 rintro r w3 ⟨rfl,hp3⟩
 obtain ⟨e3,S3⟩:=HS2.out.pure9 hp3
 have HS3:=hid S3
 have HE3:=hid (HE2.out.trans e3)
 obtain ⟨hr2,hx2⟩:=res_kept e3 HX2.out nT HR2.out
 have HR3:=hid hr2
 have HX3:=hid hx2
 have hv2:=(e3).blk HV2.out (by rw [HY2.out];exact nT)
 have hy2:=((e3).col (Array.getElem?_eq_some_iff.1 HV2.out).1).trans HY2.out
 have HV3:=hid hv2
 have HY3:=hid hy2
 clear e3 S3 hr2 hx2 hv2 hy2 hp3
 generalize paint w2.heap.size κ1 9=κ3 at *
 obtain ⟨o0,o1,o2,o3,o4,o5⟩:=op_cells HV3.out
 go_wp2_with fail
 refine (operands_new o w3 HS3.out.act HK.out).mono ?_
 rintro r w4 ⟨rfl,hp4⟩
 obtain ⟨e4,S4⟩:=HS3.out.pure9 hp4
 have HS4:=hid S4
 have HE4:=hid (HE3.out.trans e4)
 obtain ⟨hr2,hx2⟩:=res_kept e4 HX3.out nT HR3.out
 have HR4:=hid hr2
 have HX4:=hid hx2
 have hv2:=(e4).blk HV3.out (by rw [HY3.out];exact nT)
 have hy2:=((e4).col (Array.getElem?_eq_some_iff.1 HV3.out).1).trans HY3.out
 have HV4:=hid hv2
 have HY4:=hid hy2
 clear e4 S4 hr2 hx2 hv2 hy2 hp4 o0 o1 o2 o3 o4 o5
 generalize paint w3.heap.size κ3 9=κ4 at *
 obtain ⟨o0,o1,o2,o3,o4,o5⟩:=op_cells HV4.out
 go_wp2_with fail
 refine (plain_new o w4 HS4.out.act HK.out).mono ?_
 rintro r w5 ⟨rfl,hp5⟩
 obtain ⟨e5,S5⟩:=HS4.out.pure9 hp5
 have HS5:=hid S5
 have HE5:=hid (HE4.out.trans e5)
 obtain ⟨hr2,hx2⟩:=res_kept e5 HX4.out nT HR4.out
 have HR5:=hid hr2
 have HX5:=hid hx2
 have hv2:=(e5).blk HV4.out (by rw [HY4.out];exact nT)
 have hy2:=((e5).col (Array.getElem?_eq_some_iff.1 HV4.out).1).trans HY4.out
 have HV5:=hid hv2
 have HY5:=hid hy2
 clear e5 S5 hr2 hx2 hv2 hy2 hp5 o0 o1 o2 o3 o4 o5
 generalize paint w4.heap.size κ4 9=κ5 at *
 go_upto_region 7 with fail
 obtain ⟨hp6,-,hg6⟩:=one_new w5 #[.bool false,.complex .f64 0 0] 44
 obtain ⟨e6,S6⟩:=HS5.out.pure9 hp6
 have HS6:=hid S6
 have HE6:=hid (HE5.out.trans e6)
 obtain ⟨hr2,hx2⟩:=res_kept e6 HX5.out nT HR5.out
 have HR6:=hid hr2
 have HX6:=hid hx2
 have hv2:=(e6).blk HV5.out (by rw [HY5.out];exact nT)
 have hy2:=((e6).col (Array.getElem?_eq_some_iff.1 HV5.out).1).trans HY5.out
 have HV6:=hid hv2
 have HY6:=hid hy2
 have HG6:=hid hg6
 clear e6 S6 hr2 hx2 hv2 hy2 hp6 hg6
 generalize w5.alloc (.cells #[.bool false,.complex .f64 0 0] 44)=w6 at *
 generalize paint w5.heap.size κ5 9=κ6 at *
 generalize w5.heap.size=X6 at *
 obtain ⟨o0,o1,o2,o3,o4,o5⟩:=op_cells HV6.out
 have e1:((o.kind:Int) == 1)=true:=by rw [HK.out];rfl
 have e2:((o.kind:Int) == 2)=false:=by rw [HK.out];rfl
 have e3:((o.kind:Int) == 3)=false:=by rw [HK.out];rfl
 have e4:((o.kind:Int) == 4)=false:=by rw [HK.out];rfl
 have e5:((o.kind:Int) == 5)=false:=by rw [HK.out];rfl
 have e6:((o.kind:Int) == 6)=false:=by rw [HK.out];rfl
 have e7:((o.kind:Int) == 7)=false:=by rw [HK.out];rfl
 have e8:((o.kind:Int) == 8)=false:=by rw [HK.out];rfl
 have e10:((o.kind:Int) == 10)=false:=by rw [HK.out];rfl
 have e11:((o.kind:Int) == 11)=false:=by rw [HK.out];rfl
 have e17:((o.kind:Int) == 17)=false:=by rw [HK.out];rfl
 go_wp2_with fail
 refine (asks_wait o kd sh0 n w6 HS6.out HK.out HSG.out HM.out HN.out.1 HN.out.2.1 HN.out.2.2.1 HN.out.2.2.2 HQ.out.1 HQ.out.2.1 HQ.out.2.2 HFIT.out.1 HFIT.out.2).mono ?_
 rintro r w9 ⟨rfl,κ9,e9,lv9,S9⟩
 have HS9:=hid S9
 have HE9:=hid (HE6.out.trans e9)
 obtain ⟨hr2,hx2⟩:=res_kept e9 HX6.out nT HR6.out
 have HR9:=hid hr2
 have HX9:=hid hx2
 have hv2:=(e9).blk HV6.out (by rw [HY6.out];exact nT)
 have hy2:=((e9).col (Array.getElem?_eq_some_iff.1 HV6.out).1).trans HY6.out
 have HV9:=hid hv2
 have HY9:=hid hy2
 clear e9 S9 hr2 hx2 hv2 hy2 o0 o1 o2 o3 o4 o5
 obtain ⟨z0,z1,z2,z3,z4⟩:=res_cells HR9.out
 have f1:=fun k=>frozen_of_row w9 X k _ _ HR9.out
 go_wp2_with fail
 refine bodyPost_ret (v:=.tuple #[.agg #[.int .i64 0,.int .i64 0,.int .i64 0,.bool false,.complex .f64 0 0],.bool false]) (by simp [results,Tryz.results121,go_sem,z0,z1,z2,z3,z4]) rfl ⟨rfl,_,(((((HE9.out.new HLE.out _ _).new HLE.out _ _).new HLE.out _ _).new HLE.out _ _).new HLE.out _ _),_,(((((HS9.out.cell9 HX9.out _ _).cell9 HX9.out _ _).cell9 HX9.out _ _).cell9 HX9.out _ _).cell9 HX9.out _ _)⟩
end
open Go.RowKit
open Ac (wrs OpD opV opO op_cells Vl Wr resV resZ zeroVl res_cells res_kept nT one_new two_new lays_any done_any fails_any CT)
section
variable {w w':World} {c:Cn} {K:Cor.Q} {κ:Nat→Nat} {m:Cor.St} {b:Ac.B} {s:Ac.St}
open Ac (op_cells)
open Pl (natI objJ)
theorem sl_lt {w:World} {B:Nat} {v:Value} {xs:List Int} (h:SlI w B v xs) (h0:0<xs.length) (q:Nat) (hq:v.ownBlock=some q):q<B:=by
 obtain ⟨A,c,rfl,_,_,_,hx⟩:=h
 obtain ⟨b,off,rfl,hb,_⟩:=hx h0
 injection hq with hq
 rw [← hq];exact hb
theorem waiting_granted (e:Ln.En) (o:OpD) (kd:Nat) (bs:List Bool) (xs:List Nat) (sd:Bool) (w:World) (h:Sys w c K κ m b s) (hpc:s.pc=5) (hb0:b.t=0) (hen:m.s.en=[e]) (hth:e.thread=0) (hst:e.state=1) (hgot:e.got=natI xs) (hoo:b.ops[s.next]?=some o) (hk:o.kind=1) (hb:o.b=(kd:Int)) (ho:ObjOk c K.csh kd bs xs sd) (hx1:0<xs.length):Calls Tryz.prog 69 #[.pointer (some ⟨b.ab,0,none⟩),.pointer (some ⟨K.kb,0,none⟩)] w (Ans w κ 0 0 0 zeroVl false (fun w' κ'=>∃ lv' wv' tv',Sys w' c K κ' { m with s:={ m.s with lv:=lv',en:=[] } } b { s with phase:=2,at_:=7,wv:=wv',writes:=objJ kd sd xs bs xs.length,tv:=tv',got:=natI xs })):=by
 obtain ⟨hp,-,hrz⟩:=one_new w #[.int .i64 0,.int .i64 0,.int .i64 0,.bool false,.complex .f64 0 0] 46
 have H1:=hid (h.pure9 hp)
 have HR:=hid hrz
 have HX1:Hid (paint w.heap.size κ 9 (w.heap.size)=9):=hid (paint_new (by omega))
 have HLE:Hid (w.heap.size≤w.heap.size):=hid (by omega)
 have HPC:=hid hpc
 have HB0:=hid hb0
 have HEN:=hid (And.intro hen (And.intro hth hst))
 have HGT:=hid hgot
 have HO:=hid hoo
 have HK:=hid (And.intro hk hb)
 have HOB:=hid ho
 clear hp hrz h hpc hb0 hen hth hst hgot hoo hk hb ho
 go_enter Tryz.func69,Tryz.ntmps69
 go_upto_region 1 with fail
 generalize w.alloc resZ=W at *
 generalize paint w.heap.size κ 9=κ1 at *
 obtain ⟨E1,S1⟩:=H1.out
 have HE1:=hid E1
 have HS1:=hid S1
 clear E1 S1 H1
 have c7:=HS1.out.act.p7
 rw [HPC.out] at c7
 obtain ⟨ea,hea⟩:∃ ea,e.at_=ea:=⟨_,rfl⟩
 have HEA:=hid hea
 clear hea
 have hgl:e.got.length=xs.length:=by rw [HGT.out,Pl.natI_len]
 have HGL:=hid hgl
 clear hgl
 go_upto_region 5 with fail
 have HPD:Hid (Pure W W.drew):=hid ((Only.refl (fun _=>False) W).drewN 1)
 have HPA:Hid (Pure W (W.drew.alloc (.cells #[.int .i64 0,.slice none 0 0,.int .i64 0] 191))):=hid (HPD.out.alloc _)
 have HGA:Hid ((W.drew.alloc (.cells #[.int .i64 0,.slice none 0 0,.int .i64 0] 191)).heap[W.heap.size]?=some (.cells #[.int .i64 0,.slice none 0 0,.int .i64 0] 191 (0,0))):=hid (heap_alloc_new W.drew _)
 have hlb:=HS1.out.act.lb
 have hlk:=HS1.out.cor.lkb
 have hn1':=Nat.ne_of_lt HS1.out.act.lb
 have hn2':=Nat.ne_of_lt HS1.out.cor.lkb
 have q11:=HS1.out.cor.q11
 have c0:=HS1.out.act.p0
 rw [HB0.out] at c0
 go_cut [6] (fun s6 wx=>∃ Y κ' Ag cg lv',s6=.pointer (some ⟨Y,0,none⟩)∧Ext CT W κ1 wx κ'∧κ' Y=9∧wx.heap[Y]?=some (.cells #[.int .i64 1,.slice Ag xs.length cg,.int .i64 ea] 191 (0,0))∧Sys wx c K κ' { m with s:={ m.s with lv:=lv',en:=[] } } b s∧SlI wx wx.heap.size (.slice Ag xs.length cg) (natI xs)∧∀ k,(Value.slice Ag xs.length cg).ownBlock=some k→κ' k=8∧k<wx.heap.size)
 case first =>
  go_region_held3 (fun w'=>w'.cell? ⟨K.kb,11,none⟩=some (.pointer (some ⟨K.q.sp,0,none⟩))∧w'.cell? ⟨b.ab,0,none⟩=some (.int .i64 0)) (first | go_keep | exact ⟨(cell3g hn2' _ _ _).trans t0,(cell3g hn1' _ _ _).trans t1⟩ | exact ⟨(cell3g t6 _ _ _).trans ((World.cell?_of_block (Below.heap_alloc _ _ _ t4)).trans t0),(cell3g t5 _ _ _).trans ((World.cell?_of_block (Below.heap_alloc _ _ _ t3)).trans t1)⟩) (first | (go_at_call 129;first | (refine (Cor.look_granted e W.drew (HS1.out.pure9 HPD.out).2.cor HEN.out.1 HEN.out.2.1 HEN.out.2.2).mono ?_;rw [HEA.out,HGL.out,HGT.out];rintro r w3 ⟨Ag,cg,lv3,κ3,rfl,he3,hc3,hsl3,h83⟩;have HSL3:=hid hsl3;have H83:Hid (∀ q,(Value.slice Ag xs.length cg).ownBlock=some q→κ3 q=8∧q<w3.heap.size∧W.heap.size≤q):=hid (fun q hq=>⟨(h83 q hq).1,sl_lt hsl3 (by rw [Pl.natI_len];exact hx1) q hq,by have:=(h83 q hq).2;simp at this;omega⟩);clear hsl3 h83;obtain ⟨e3,S3⟩:=(HS1.out.pure9 HPD.out).2.cored he3 hc3;have t0:=S3.cor.q11;have t1:=S3.act.p0;rw [HB0.out] at t1;have t3:=S3.act.lb;have t4:=S3.cor.lkb;have t5:=Nat.ne_of_lt S3.act.lb;have t6:=Nat.ne_of_lt S3.cor.lkb;have HA:=hid (And.intro ((HS1.out.pure9 HPD.out).1.trans e3) S3);clear e3 S3;clear he3 hc3) | (refine (Cor.look_granted e (W.drew.alloc (.cells #[.int .i64 0,.slice none 0 0,.int .i64 0] 191)) (HS1.out.pure9 HPA.out).2.cor HEN.out.1 HEN.out.2.1 HEN.out.2.2).mono ?_;rw [HEA.out,HGL.out,HGT.out];rintro r w3 ⟨Ag,cg,lv3,κ3,rfl,he3,hc3,hsl3,h83⟩;have HSL3:=hid hsl3;have H83:Hid (∀ q,(Value.slice Ag xs.length cg).ownBlock=some q→κ3 q=8∧q<w3.heap.size∧W.heap.size≤q):=hid (fun q hq=>⟨(h83 q hq).1,sl_lt hsl3 (by rw [Pl.natI_len];exact hx1) q hq,by have:=(h83 q hq).2;simp at this;omega⟩);clear hsl3 h83;have hg3:=he3.blk HGA.out (by rw [paint_new (Nat.le_refl _)];unfold Cor.C5;omega);have hx3:=(he3.col (X:=W.heap.size) (by simp)).trans (paint_new (Nat.le_refl _));have HG3:=hid (And.intro hg3 hx3);obtain ⟨gz0,gz1,gz2⟩:=grant_row hg3;have gf:=fun k=>frozen_of_row w3 W.heap.size k _ _ hg3;obtain ⟨e3,S3⟩:=(HS1.out.pure9 HPA.out).2.cored he3 hc3;have t0:=S3.cor.q11;have t1:=S3.act.p0;rw [HB0.out] at t1;have t3:=S3.act.lb;have t4:=S3.cor.lkb;have t5:=Nat.ne_of_lt S3.act.lb;have t6:=Nat.ne_of_lt S3.cor.lkb;have HA:=hid (And.intro ((HS1.out.pure9 HPA.out).1.trans e3) S3);clear e3 S3;clear he3 hc3 hg3 hx3)))
  ·go_wp2_with fail
   go_meet
   obtain ⟨hp4,-,hg4⟩:=one_new w3 #[.int .i64 1,.slice Ag xs.length cg,.int .i64 ea] 191
   have hs4:=HA.out.2.pure9 hp4
   exact ⟨_,_,Ag,cg,lv3,rfl,HA.out.1.trans hs4.1,paint_new (Nat.le_refl _),hg4,hs4.2,HSL3.out.only hp4 (fun _ _ f=>f),fun q hq=>⟨(paint_old (H83.out q hq).2.1).trans (H83.out q hq).1,Nat.lt_of_lt_of_le (H83.out q hq).2.1 hp4.size⟩⟩
  all_goals
   go_wp2_with fail
   go_meet
   have hg4:(((w3.setCell ⟨W.heap.size,0,none⟩ (.int .i64 1)).setCell ⟨W.heap.size,1,none⟩ (.slice Ag xs.length cg)).setCell ⟨W.heap.size,2,none⟩ (.int .i64 ea)).heap[W.heap.size]?=some (.cells #[.int .i64 1,.slice Ag xs.length cg,.int .i64 ea] 191 (0,0)):=by
    have:=set_me (i:=2) (u:=(.int .i64 ea)) (set_me (i:=1) (u:=(.slice Ag xs.length cg)) (set_me (i:=0) (u:=(.int .i64 1)) (HG3.out.1)))
    simpa using this
   exact ⟨_,_,Ag,cg,lv3,rfl,(((HA.out.1.new (Nat.le_refl _) 0 (.int .i64 1)).new (Nat.le_refl _) 1 (.slice Ag xs.length cg)).new (Nat.le_refl _) 2 (.int .i64 ea)),HG3.out.2,hg4,((HA.out.2.cell9 HG3.out.2 0 (.int .i64 1)).cell9 HG3.out.2 1 (.slice Ag xs.length cg)).cell9 HG3.out.2 2 (.int .i64 ea),HSL3.out.only ((((Only.refl (fun q=>q=W.heap.size) w3).setCell (p:=⟨W.heap.size,0,none⟩) (fun _=>rfl) (.int .i64 1)).setCell (p:=⟨W.heap.size,1,none⟩) (fun _=>rfl) (.slice Ag xs.length cg)).setCell (p:=⟨W.heap.size,2,none⟩) (fun _=>rfl) (.int .i64 ea)) (fun q hq e=>by rw [e] at hq;have:=(H83.out _ hq).1;rw [HG3.out.2] at this;omega),fun q hq=>⟨(H83.out q hq).1,by have:=(H83.out q hq).2.1;simpa [World.setCell] using this⟩⟩
 case rest =>
  obtain ⟨Y,κ2,Ag,cg,lv2,rfl,e2,hy2,hg2,S2,hsl,h8⟩:=hcut
  have HS2:=hid S2
  have HSL:=hid hsl
  have H8:=hid h8
  have HE2:=hid (HE1.out.trans e2)
  obtain ⟨hr2,hx2⟩:=res_kept e2 HX1.out nT HR.out
  have HR2:=hid hr2
  have HX2:=hid hx2
  obtain ⟨g0,g1,g2⟩:=grant_row hg2
  obtain ⟨g,cgo,hov,hgo8,o0,o1,o2,o3,o4,o5⟩:=HS2.out.act.rd.op HO.out
  have c1:=HS2.out.act.p1
  rw [hov] at c1
  have c6:=HS2.out.act.p6
  have hnl:=(List.getElem?_eq_some_iff.1 HO.out).1
  have i0:(0:Int)≤(s.next:Int):=by omega
  have i1:(s.next:Int)<(b.ops.length:Int):=by omega
  clear e2 S2 hsl h8 hr2 hx2 hy2 hg2 q11 c0 hlb hlk hn1' hn2' c7 hov hgo8
  go_wp2_with fail
  go_still_tail 13,(by kernel_rfl)
  change wpList _ _ _ _ _ wc.drew
  have HS3:=hid HS2.out.drew
  have HR3:=hid (show wc.drew.heap[w.heap.size]?=_ from HR2.out)
  have HE3:Hid (Ext CT w κ wc.drew κ2):=hid (HE2.out.trans (Ext.pure ((Only.refl (fun _=>False) wc).drewN 1)))
  have HX3:=HX2
  have HSL3:Hid (SlI wc.drew wc.drew.heap.size (.slice Ag xs.length cg) (natI xs)):=hid HSL.out
  have H83:Hid (∀ k,(Value.slice Ag xs.length cg).ownBlock=some k→κ2 k=8∧k<wc.drew.heap.size):=hid H8.out
  clear HS2 HR2 HE2 HX2 HSL H8 c1 c6 hnl i0 i1 o0 o1 o2 o3 o4 o5 g0 g1 g2
  generalize wc.drew=w3 at *
  go_wp2_with fail
  refine (takes_new o kd bs xs sd Ag cg ea w3 HS3.out HK.out.1 HK.out.2 HOB.out HSL3.out H83.out).mono ?_
  rintro r w4 ⟨rfl,κ4,e4,wv4,S4⟩
  have HS4:=hid S4
  have HE4:=hid (HE3.out.trans e4)
  obtain ⟨hr2,hx2⟩:=res_kept e4 HX3.out nT HR3.out
  have HR4:=hid hr2
  have HX4:=hid hx2
  clear e4 S4 hr2 hx2
  obtain ⟨z0,z1,z2,z3,z4⟩:=res_cells HR4.out
  have f1:=fun k=>frozen_of_row w4 w.heap.size k _ _ HR4.out
  go_wp2_with fail
  refine bodyPost_ret (v:=.tuple #[.agg #[.int .i64 0,.int .i64 0,.int .i64 0,.bool false,.complex .f64 0 0],.bool false]) (by simp [results,Tryz.results69,go_sem,z0,z1,z2,z3,z4]) rfl ⟨rfl,_,(((((HE4.out.new HLE.out _ _).new HLE.out _ _).new HLE.out _ _).new HLE.out _ _).new HLE.out _ _),_,_,_,(((((HS4.out.cell9 HX4.out _ _).cell9 HX4.out _ _).cell9 HX4.out _ _).cell9 HX4.out _ _).cell9 HX4.out _ _)⟩
end
end Go.Proofs.YtpgdiceeimehiaaGreat
namespace Go.Proofs.YtpgdiceeimehiaaGreat.Law
open Go.RowKit
open Ac (Vl OpD CT zeroVl)
open Opn (SgOk Made kn)
def TickOk (L:List OpD) (q:Nat) (d:Bool) (a1 a3:Int):Prop:=d=true→0≤a1∧a1+1≤L.length∧(a1+2<L.length→a3=0)∧(a1+2=L.length→a3=if 38<q then 6 else 0)
def OwnOk (s:Ac.St) (T:Nat):Prop:=∃ n:Nat,s.own=(n:Int)∧n≤T
def StepOk (L:List OpD) (q T:Nat) (K:Cor.Q) (b:Ac.B) (hb lg yb:Nat) (w:World) (κ:Nat→Nat) (j:Int) (e:Ending) (w':World):Prop :=
 ∃ d a1 a2 a3 v,e=.returned (tickV j d a1 a2 a3 v)∧TickOk L q d a1 a3∧∃ κ' m' s' y' o',Ext CM w κ w' κ'∧Mt w' c0 K κ' m' b s' yb y' hb lg o'∧Fin m' s' y' K.csh∧(¬ (d=true∧a1+1=L.length)→Sx L q m' s' y' o'∧OwnOk s' T)
section
variable {w:World} {K:Cor.Q} {κ:Nat→Nat} {m:Cor.St} {b:Ac.B} {s:Ac.St} {yb hb lg:Nat} {y:Cyc.St} {o:Option Tr.St} {L:List OpD} {q T:Nat}
def Tq (L:List OpD) (q T:Nat) (K:Cor.Q) (b:Ac.B) (y:Cyc.St) (o:Option Tr.St) (w':World) (κ':Nat→Nat):Prop:=∃ m' s',Sys w' c0 K κ' m' b s'∧(Sx L q m' s' y o∧OwnOk s' T)
theorem keep_t:Keep9 (Tq L q T K b y o):=keep9_ex fun _=>keep9_ex fun _=>fun w κ X i u hX ⟨h1,h2⟩=>⟨h1.cell9 hX i u,h2⟩
theorem go_1 (hK:Kok K) (h:Mt w c0 K κ m b s yb y hb lg o)
  (hc:∀ w1 κ1,Sys w1 c0 K κ1 m b s→Calls Tryz.prog 25 #[.pointer (some ⟨b.ab,0,none⟩),.pointer (some ⟨K.kb,0,none⟩)] w1 (Ans w1 κ1 0 0 0 zeroVl false (Tq L q T K b y o))) :
  Calls Tryz.prog 10 #[.pointer (some ⟨hb,0,none⟩),.int .i64 1] w (StepOk L q T K b hb lg yb w κ 1):=by
 refine (mstep_1 0 0 0 zeroVl false _ w h hc).mono ?_
 rintro e w' ⟨he,κ',m',s',hext,hm,hx,ho⟩
 exact ⟨false,0,0,0,zeroVl,he,fun e=>by simp at e,κ',m',s',y,o,hext,hm,hx.fin hK,fun _=>⟨hx,ho⟩⟩
theorem go_1d (hK:Kok K) (h:Mt w c0 K κ m b s yb y hb lg o) (v:Vl) (a1 a2 a3:Int) (ht:TickOk L q true a1 a3)
  (hc:∀ w1 κ1,Sys w1 c0 K κ1 m b s→Calls Tryz.prog 25 #[.pointer (some ⟨b.ab,0,none⟩),.pointer (some ⟨K.kb,0,none⟩)] w1 (Ans w1 κ1 a1 a2 a3 v true (Tq L q T K b y o))) :
  Calls Tryz.prog 10 #[.pointer (some ⟨hb,0,none⟩),.int .i64 1] w (StepOk L q T K b hb lg yb w κ 1):=by
 refine (mstep_1 a1 a2 a3 v true _ w h hc).mono ?_
 rintro e w' ⟨he,κ',m',s',hext,hm,hx,ho⟩
 exact ⟨true,a1,a2,a3,v,he,ht,κ',m',s',y,o,hext,hm,hx.fin hK,fun _=>⟨hx,ho⟩⟩
theorem Ta.short {a:A} {r:List TOp} (h:Ta L q a r m s y):s.next+r.length+2=L.length:=by
 have h1:=congrArg List.length h.drop
 simp only [List.length_drop,List.length_map,List.length_append,List.length_cons,List.length_nil] at h1
 omega
theorem Ta.op {a:A} {r r':List TOp} {t:TOp} (h:Ta L q a r m s y) (hr:r=t :: r'):L[s.next]?=some (opD t):=by
 have h1:=congrArg (fun l=>l[0]?) h.drop
 simp only [List.getElem?_drop,Nat.add_zero,hr] at h1
 simpa using h1
theorem ex_det {a b1 b2:A} {t:TOp} (k1:Ex a t b1) (k2:Ex a t b2):b1=b2:=by
 cases k1 with
 | new0=>cases k2;rfl
 | look1=>cases k2;rfl
 | store01 h h2 =>
  cases k2 with
  | store01 h' h2'=>rw [h] at h';rw [h2] at h2';injection h' with h';injection h' with h';injection h2' with h2';subst h';subst h2';rfl
 | set0 h=>cases k2 with | set0 h'=>rw [h] at h';injection h' with h';subst h';rfl
 | load11 h=>cases k2 with | load11 h'=>rw [h] at h';injection h' with h';injection h' with h';subst h';rfl
 | load21 h=>cases k2 with | load21 h'=>rw [h] at h';injection h' with h';injection h' with h';subst h';rfl
 | load22 h=>cases k2 with | load22 h'=>rw [h] at h';injection h' with h';injection h' with h';subst h';rfl
 | store12 h h2 =>
  cases k2 with
  | store12 h' h2'=>rw [h] at h';rw [h2] at h2';injection h' with h';injection h' with h';injection h2' with h2';subst h';subst h2';rfl
 | clear0=>cases k2;rfl
 | clear1=>cases k2;rfl
 | clear2=>cases k2;rfl
theorem Ta.next {a a':A} {r':List TOp} {t:TOp} {m':Cor.St} {s':Ac.St} (h:Ta L q a (t :: r') m s y) (hx:Ex a t a') (hn:s'.next=s.next+1) (hl:s'.locals=locs a') (hme:Me a' m'.words) (h1:s'.sense=s.sense) (h2:m'.se=m.se) (h3:m'.xs=m.xs) (h4:m'.s.en=m.s.en):Ta L q a' r' m' s' y:=by
 obtain ⟨e,l,n,hr,hrest⟩:=h.run
 have hrun:Run a' r' e:=by
  cases hr with
  | cons hh ht =>
   rw [ex_det hx hh]
   exact ht
 refine ⟨?_,⟨e,l,n,hrun,hrest⟩,hx.ok h.ok,hme,hl,h1.trans h.sn,h2.trans h.se,h3.trans h.xs,h4.trans h.en,h.y0⟩
 have hd:=congrArg (List.drop 1) h.drop
 rw [List.drop_drop] at hd
 rw [hn]
 simpa using hd
theorem Ta.like {a:A} {r:List TOp} {m':Cor.St} {s':Ac.St} (h:Ta L q a r m s y) (hn:s'.next=s.next) (hl:s'.locals=s.locals) (hme:Me a m'.words) (h1:s'.sense=s.sense) (h2:m'.se=m.se) (h3:m'.xs=m.xs) (h4:m'.s.en=m.s.en):Ta L q a r m' s' y :=
 ⟨by rw [hn];exact h.drop,h.run,h.ok,hme,hl.trans h.loc,h1.trans h.sn,h2.trans h.se,h3.trans h.xs,h4.trans h.en,h.y0⟩
theorem Ta.tick {a:A} {r':List TOp} {t:TOp} (h:Ta L q a (t :: r') m s y):TickOk L q true (s.next:Int) 0:=fun _=>by
 have h1:=h.short
 simp only [List.length_cons] at h1
 exact ⟨by omega,by omega,fun _=>rfl,fun e=>by omega⟩
theorem Cm.same {m':Cor.St} {tf:Nat→Tab.One} (h:Cm m tf) (h1:m'.s=m.s) (h2:m'.lost=m.lost):Cm m' tf :=
 ⟨by rw [h1];exact h.l,by rw [h1];exact h.fr,h2.trans h.lost,by rw [h1];exact h.u,by rw [h1];exact h.kept,by rw [h1];exact h.sx,by rw [h1];exact h.forced,h.st2⟩
theorem tA_st (n:Nat):(fun i=>decide ((tA n i).st=0))=fun i=>decide (i<44-n):=by
 funext i
 unfold tA
 split
 ·rename_i h;simp [h]
 ·rename_i h;simp [h]
theorem Cm.grant {tf:Nat→Tab.One} (h:Cm m tf) (xs:List Nat) (col:Bool) (m':Cor.St) (hl:m'.s.l=Sp.setAll m.s.l xs 2 col) (hf:m'.s.fr=Po.off m.s.fr xs) (h1:m'.lost=m.lost) (h2:m'.s.u=m.s.u) (h3:m'.s.kept=m.s.kept) (h4:m'.s.sx=m.s.sx) (h5:m'.s.forced=m.s.forced):Cm m' (fun i=>if i∈xs then ⟨2,false,col⟩ else tf i):=by
 refine ⟨by rw [hl,h.l,setAll_tb],?_,h1.trans h.lost,by rw [h2];exact h.u,h3.trans h.kept,h4.trans h.sx,h5.trans h.forced,fun i=>?_⟩
 ·rw [hf,h.fr,off_tb]
  refine tb_ext (fun j _=>?_)
  by_cases e:j∈xs
  ·simp [e]
  ·simp [e]
 ·show (if i∈xs then _ else _:Tab.One).st≤2
  split
  ·exact Nat.le_refl _
  ·exact h.st2 i
theorem grant_low (l:List Tab.One) (fr:List Bool) (xs:List Nat) (col:Bool) (n:Nat) (hn:n=0):Sp.setAll (Sp.setAll l xs 2 col) (Po.low (Po.off fr xs) n) 1 col=Sp.setAll l xs 2 col∧Po.off (Po.off fr xs) (Po.low (Po.off fr xs) n)=Po.off fr xs∧Po.natI (Po.low (Po.off fr xs) n)=[]:=by
 subst hn
 rw [low_zero]
 exact ⟨rfl,rfl,rfl⟩
end
end Go.Proofs.YtpgdiceeimehiaaGreat.Law
