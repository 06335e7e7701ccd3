/- Part 39 of the proof that spotop.TopOrder returns true for all arguments and leaves what was there as it was. -/
import Derived.Deep.DeepCutAuto
import Derived.Deep.CutBlock
import Derived.Deep.RegionHeld3
import Derived.Test.YtpgdiceeimehiaaGreatQ02
import Derived.Test.YtpgdiceeimehiaaGreatQ15
import Derived.Test.YtpgdiceeimehiaaGreatQ18
import Derived.Test.YtpgdiceeimehiaaGreatQ22
import Derived.Test.YtpgdiceeimehiaaGreatQ28
import Derived.Test.YtpgdiceeimehiaaGreatQ36
import Derived.Test.YtpgdiceeimehiaaGreatQ37
set_option maxRecDepth 100000
set_option maxHeartbeats 16000000
open Go.Lib (hid)
namespace Go.Proofs.YtpgdiceeimehiaaGreat
open Go.RowKit
open Ac (wrs OpD opV opO op_cells Vl Wr resV resZ zeroVl res_cells res_kept nT one_new two_new lays_any done_any fails_any CT)
section
variable {w w':World} {c:Cn} {K:Cor.Q} {κ:Nat→Nat} {m:Cor.St} {b:Ac.B} {s:Ac.St}
open Ac (op_cells vlV vlL)
open Opn (SgOk Made kn need_new)
theorem starts_set (o:OpD) (gi ad j:Nat) (x:Vl) (w:World) (h:Sys w c K κ m b s) (hk:o.kind=8) (hsg:∀ x∈kn o.kind,SgOk c o x) (hn:o.n=(gi:Int)) (hg:(gi:Int)<c.globals) (had:8 * c.frags+2 * c.spine+(gi:Int)=(ad:Int)) (hadl:ad<m.words.length) (ho:o.b=(j:Int)) (hj:s.locals[j]?=some x) (hx:x.1=true) (hst:s.status=0∨s.status=4) (hph:s.phase≠4) (hnx:s.next≤100000) :
  Calls Tryz.prog 121 #[.pointer (some ⟨b.ab,0,none⟩),.pointer (some ⟨K.kb,0,none⟩),opV o] w fun r w'=>r=.returned (.tuple #[resV s.next s.own 0 zeroVl,.bool true])∧∃ κ',Ext CT w κ w' κ'∧Sys w' c K κ' { m with words:=m.words.set ad x.2 } b { s with addr:=(ad:Int),ref:=true,w:=x.2,at_:=6,next:=s.next+1,phase:=1,pc:=0 }:=by
 obtain ⟨hp,-,hv,hrz⟩:=two_new w #[.int .i64 (o.kind:Int),.int .i64 o.a,.int .i64 o.b,.int .i64 o.c,.int .i64 o.n,.complex .f64 o.x o.y] #[.int .i64 0,.int .i64 0,.int .i64 0,.bool false,.complex .f64 0 0] 32 46
 have H1:=hid (h.pure9 hp)
 have HR:=hid hrz
 have HV:=hid hv
 have HY1:Hid (paint w.heap.size κ 9 w.heap.size=9):=hid (paint_new (by omega))
 have HX1:Hid (paint w.heap.size κ 9 (w.heap.size+1)=9):=hid (paint_new (by omega))
 have HLE:Hid (w.heap.size≤w.heap.size+1):=hid (by omega)
 have HK:=hid hk
 have HSG:=hid hsg
 have HN:=hid hn
 have HG:=hid hg
 have HAD:=hid had
 have HO:=hid ho
 have HJ:=hid hj
 have HXX:=hid hx
 have HST:=hid hst
 have HP:=hid (And.intro hadl (And.intro hph hnx))
 clear hp hrz h hv hk hsg hn hg had hadl ho hj hx hst hph hnx
 go_enter Tryz.func121,Tryz.ntmps121
 go_upto_region 1 with fail
 generalize (w.alloc (opO o)).alloc resZ=W at *
 generalize paint w.heap.size κ 9=κ1 at *
 generalize w.heap.size+1=X at *
 obtain ⟨E1,S1⟩:=H1.out
 have HE1:=hid E1
 have HS1:=hid S1
 clear E1 S1 H1
 obtain ⟨Av,cv,hcv⟩:∃ A cc,K.cv=.slice A K.csh.length cc:=by
  obtain ⟨⟨A,cc,h,_⟩,_⟩:=HS1.out.cor.conf
  exact ⟨A,cc,h⟩
 have HCV:=hid hcv
 obtain ⟨k0,k1,k2,k3,k4,k5,k6,k7,k8⟩:=HS1.out.cor.qc
 rw [hcv] at k8
 obtain ⟨o0,o1,o2,o3,o4,o5⟩:=op_cells HV.out
 clear hcv
 go_still_tail 5,(by kernel_rfl)
 change wpList _ _ _ _ _ W.drew
 have HS2:=hid HS1.out.drew
 have HR2:=hid (show W.drew.heap[X]?=_ from HR.out)
 have HV2:=hid (show W.drew.heap[w.heap.size]?=_ from HV.out)
 have HE2:Hid (Ext CT w κ W.drew κ1):=hid (HE1.out.trans (Ext.pure ((Only.refl (fun _=>False) W).drewN 1)))
 have HX2:=HX1
 have HY2:=HY1
 clear HS1 HR HV HE1 HX1 HY1 k0 k1 k2 k3 k4 k5 k6 k7 k8 o0 o1 o2 o3 o4 o5
 generalize W.drew=w2 at *
 go_wp2_with fail
 refine (HCV.out ▸ Opn.check_ok c _ K.csh o w2 HS2.out.cor.conf HS2.out.cor.ok (by rw [HK.out];decide) (by rw [HK.out];decide) HSG.out (fun h=>absurd h (by rw [HK.out];decide))).mono ?_
 rintro r w3 ⟨rfl,hp3⟩
 obtain ⟨e3,S3⟩:=HS2.out.pure9 hp3
 have HS3:=hid S3
 have HE3:=hid (HE2.out.trans e3)
 obtain ⟨hr2,hx2⟩:=res_kept e3 HX2.out nT HR2.out
 have HR3:=hid hr2
 have HX3:=hid hx2
 have hv2:=(e3).blk HV2.out (by rw [HY2.out];exact nT)
 have hy2:=((e3).col (Array.getElem?_eq_some_iff.1 HV2.out).1).trans HY2.out
 have HV3:=hid hv2
 have HY3:=hid hy2
 clear e3 S3 hr2 hx2 hv2 hy2 hp3
 generalize paint w2.heap.size κ1 9=κ3 at *
 obtain ⟨o0,o1,o2,o3,o4,o5⟩:=op_cells HV3.out
 go_wp2_with fail
 refine (operands_set o j x w3 HS3.out.act HK.out HO.out HJ.out HXX.out).mono ?_
 rintro r w4 ⟨rfl,hp4⟩
 obtain ⟨e4,S4⟩:=HS3.out.pure9 hp4
 have HS4:=hid S4
 have HE4:=hid (HE3.out.trans e4)
 obtain ⟨hr2,hx2⟩:=res_kept e4 HX3.out nT HR3.out
 have HR4:=hid hr2
 have HX4:=hid hx2
 have hv2:=(e4).blk HV3.out (by rw [HY3.out];exact nT)
 have hy2:=((e4).col (Array.getElem?_eq_some_iff.1 HV3.out).1).trans HY3.out
 have HV4:=hid hv2
 have HY4:=hid hy2
 clear e4 S4 hr2 hx2 hv2 hy2 hp4 o0 o1 o2 o3 o4 o5
 generalize paint w3.heap.size κ3 9=κ4 at *
 obtain ⟨o0,o1,o2,o3,o4,o5⟩:=op_cells HV4.out
 go_wp2_with fail
 refine (plain_set o w4 HS4.out.act HK.out).mono ?_
 rintro r w5 ⟨rfl,hp5⟩
 obtain ⟨e5,S5⟩:=HS4.out.pure9 hp5
 have HS5:=hid S5
 have HE5:=hid (HE4.out.trans e5)
 obtain ⟨hr2,hx2⟩:=res_kept e5 HX4.out nT HR4.out
 have HR5:=hid hr2
 have HX5:=hid hx2
 have hv2:=(e5).blk HV4.out (by rw [HY4.out];exact nT)
 have hy2:=((e5).col (Array.getElem?_eq_some_iff.1 HV4.out).1).trans HY4.out
 have HV5:=hid hv2
 have HY5:=hid hy2
 clear e5 S5 hr2 hx2 hv2 hy2 hp5 o0 o1 o2 o3 o4 o5
 generalize paint w4.heap.size κ4 9=κ5 at *
 go_upto_region 7 with fail
 obtain ⟨hp6,-,hg6⟩:=one_new w5 #[.bool false,.complex .f64 0 0] 44
 obtain ⟨e6,S6⟩:=HS5.out.pure9 hp6
 have HS6:=hid S6
 have HE6:=hid (HE5.out.trans e6)
 obtain ⟨hr2,hx2⟩:=res_kept e6 HX5.out nT HR5.out
 have HR6:=hid hr2
 have HX6:=hid hx2
 have hv2:=(e6).blk HV5.out (by rw [HY5.out];exact nT)
 have hy2:=((e6).col (Array.getElem?_eq_some_iff.1 HV5.out).1).trans HY5.out
 have HV6:=hid hv2
 have HY6:=hid hy2
 have HG6:=hid hg6
 clear e6 S6 hr2 hx2 hv2 hy2 hp6 hg6
 generalize w5.alloc (.cells #[.bool false,.complex .f64 0 0] 44)=w6 at *
 generalize paint w5.heap.size κ5 9=κ6 at *
 generalize w5.heap.size=X6 at *
 obtain ⟨o0,o1,o2,o3,o4,o5⟩:=op_cells HV6.out
 have e1:((o.kind:Int) == 1)=false:=by rw [HK.out];rfl
 have e2:((o.kind:Int) == 2)=false:=by rw [HK.out];rfl
 have e3:((o.kind:Int) == 3)=false:=by rw [HK.out];rfl
 have e4:((o.kind:Int) == 4)=false:=by rw [HK.out];rfl
 have e5:((o.kind:Int) == 5)=false:=by rw [HK.out];rfl
 have e6:((o.kind:Int) == 6)=false:=by rw [HK.out];rfl
 have e7:((o.kind:Int) == 7)=false:=by rw [HK.out];rfl
 have e8:((o.kind:Int) == 8)=true:=by rw [HK.out];rfl
 have e10:((o.kind:Int) == 10)=false:=by rw [HK.out];rfl
 have e11:((o.kind:Int) == 11)=false:=by rw [HK.out];rfl
 have e17:((o.kind:Int) == 17)=false:=by rw [HK.out];rfl
 obtain ⟨Aw,cw,hcw⟩:∃ A cc,K.cv=.slice A K.csh.length cc:=⟨_,_,HCV.out⟩
 obtain ⟨k0,k1,k2,k3,k4,k5,k6,k7,k8⟩:=HS6.out.cor.qc
 rw [HCV.out] at k8
 rw [HN.out] at o4
 have hg0:(0:Int)≤(gi:Int):=by omega
 have c13:=HS6.out.act.p13
 have fz:=HS6.out.act.fb
 clear hcw
 go_upto_region 21 with fail
 go_cut [7] (fun _ wx=>∃ W7,Pure w6 W7∧wx=W7.setCell ⟨b.ab,13,none⟩ (.int .i64 (ad:Int)))
 case first =>
  go_wp2_with fail
  go_region_with (go_at_call 50;refine (HCV.out ▸ global_in c _ K.csh (gi:Int) _ HS6.out.drew.cor.conf HS6.out.cor.ok hg0 HG.out).mono ?_;rw [HAD.out];rintro e w7 ⟨rfl,hp7⟩;have s7:=HS6.out.pure (Pure.then (b:=w6.drew) ((Only.refl (fun _=>False) w6).drewN 1) hp7);have d13:=s7.act.p13;have dz:=s7.act.fb;clear s7)
  all_goals
   go_wp2_with fail
   go_meet
   exact ⟨_,Pure.then (b:=w6.drew) ((Only.refl (fun _=>False) w6).drewN 1) hp7,rfl⟩
 case rest =>
  obtain ⟨W7,hpw,rfl⟩:=hcut
  obtain ⟨e7,S7⟩:=HS6.out.pure9 hpw
  have h8:=S7.act.put 13 (.int .i64 (ad:Int)) { s with addr:=(ad:Int) } rfl rfl ⟨rfl,rfl,rfl,rfl,rfl,rfl⟩
  have o8:Only (fun k=>k=b.ab) W7 (W7.setCell ⟨b.ab,13,none⟩ (.int .i64 (ad:Int))):=Ac.Only.me (Only.refl _ _) _ _
  obtain ⟨e8,S8⟩:=S7.acted (Ac.ext_me S7.act.k6 o8) h8
  have e78:=e7.trans e8
  have HS8:=hid S8
  have HE8:=hid (HE6.out.trans e78)
  obtain ⟨hr2,hx2⟩:=res_kept e78 HX6.out nT HR6.out
  have HR8:=hid hr2
  have HX8:=hid hx2
  have hv2:=(e78).blk HV6.out (by rw [HY6.out];exact nT)
  have hy2:=((e78).col (Array.getElem?_eq_some_iff.1 HV6.out).1).trans HY6.out
  have HV8:=hid hv2
  have HY8:=hid hy2
  clear e7 S7 h8 o8 e8 S8 e78 hpw hr2 hx2 hv2 hy2 k0 k1 k2 k3 k4 k5 k6 k7 k8 o0 o1 o2 o3 o4 o5 c13 fz
  generalize paint w6.heap.size κ6 9=κ8 at *
  generalize W7.setCell ⟨b.ab,13,none⟩ (.int .i64 (ad:Int))=w8 at *
  have c14:=HS8.out.act.p14
  have fz:=HS8.out.act.fb
  go_upto_region 23 with fail
  have h9:=HS8.out.act.put 14 (.bool true) { s with addr:=(ad:Int),ref:=true } rfl rfl ⟨rfl,rfl,rfl,rfl,rfl,rfl⟩
  have o9:Only (fun k=>k=b.ab) w8 (w8.setCell ⟨b.ab,14,none⟩ (.bool true)):=Ac.Only.me (Only.refl _ _) _ _
  obtain ⟨e9,S9⟩:=HS8.out.acted (Ac.ext_me HS8.out.act.k6 o9) h9
  have HS9:=hid S9
  have HE9:=hid (HE8.out.trans e9)
  obtain ⟨hr2,hx2⟩:=res_kept e9 HX8.out nT HR8.out
  have HR9:=hid hr2
  have HX9:=hid hx2
  have hv2:=(e9).blk HV8.out (by rw [HY8.out];exact nT)
  have hy2:=((e9).col (Array.getElem?_eq_some_iff.1 HV8.out).1).trans HY8.out
  have HV9:=hid hv2
  have HY9:=hid hy2
  clear h9 o9 e9 S9 hr2 hx2 hv2 hy2 c14 fz
  generalize w8.setCell ⟨b.ab,14,none⟩ (.bool true)=w9 at *
  obtain ⟨o0,o1,o2,o3,o4,o5⟩:=op_cells HV9.out
  go_wp2_with fail
  refine (Ac.chooses_plain o j x w9 HS9.out.act HO.out HJ.out HST.out).mono ?_
  rintro r w10 ⟨rfl,κ10,he10,ha10⟩
  obtain ⟨e10,S10⟩:=HS9.out.acted he10 ha10
  have HS10:=hid S10
  have HE10:=hid (HE9.out.trans e10)
  obtain ⟨hr2,hx2⟩:=res_kept e10 HX9.out nT HR9.out
  have HR10:=hid hr2
  have HX10:=hid hx2
  have hv2:=(e10).blk HV9.out (by rw [HY9.out];exact nT)
  have hy2:=((e10).col (Array.getElem?_eq_some_iff.1 HV9.out).1).trans HY9.out
  have HV10:=hid hv2
  have HY10:=hid hy2
  clear he10 ha10 e10 S10 hr2 hx2 hv2 hy2 o0 o1 o2 o3 o4 o5
  go_wp2_with fail
  refine (stores_write ad w10 HS10.out rfl rfl HP.out.1 HP.out.2.1 HP.out.2.2).mono ?_
  rintro r w11 ⟨rfl,κ11,e11,S11⟩
  have HS11:=hid S11
  have HE11:=hid (HE10.out.trans e11)
  obtain ⟨hr2,hx2⟩:=res_kept e11 HX10.out nT HR10.out
  have HR11:=hid hr2
  have HX11:=hid hx2
  have hv2:=(e11).blk HV10.out (by rw [HY10.out];exact nT)
  have hy2:=((e11).col (Array.getElem?_eq_some_iff.1 HV10.out).1).trans HY10.out
  have HV11:=hid hv2
  have HY11:=hid hy2
  clear e11 S11 hr2 hx2 hv2 hy2
  obtain ⟨z0,z1,z2,z3,z4⟩:=res_cells HR11.out
  have f1:=fun k=>frozen_of_row w11 X k _ _ HR11.out
  go_wp2_with fail
  refine bodyPost_ret (v:=.tuple #[.agg #[.int .i64 (s.next:Int),.int .i64 s.own,.int .i64 0,.bool false,.complex .f64 0 0],.bool true]) (by simp [results,Tryz.results121,go_sem,z0,z1,z2,z3,z4]) rfl ⟨rfl,_,(((((HE11.out.new HLE.out _ _).new HLE.out _ _).new HLE.out _ _).new HLE.out _ _).new HLE.out _ _),(((((HS11.out.cell9 HX11.out _ _).cell9 HX11.out _ _).cell9 HX11.out _ _).cell9 HX11.out _ _).cell9 HX11.out _ _)⟩
end
end Go.Proofs.YtpgdiceeimehiaaGreat
namespace Go.Proofs.YtpgdiceeimehiaaGreat.Fd
open Go.RowKit
section
variable {w w':World} {fb:Nat} {c:Cn} {v:Value} {sh:List Sh} {s:St}
theorem begins_near (kd md:Nat) (s0:Sh) (r:Bool) (mb mg:Nat) (words:List (Nat × Nat)) (w:World) (h:At w fb c v sh s) (hm:Mm.At w mb mg words) (hf1:fb≠mb) (hf2:fb≠mg) (hcm:∀ k,CfS v sh k→k≠mb∧k≠mg) (hpc:s.pc=0) (hz:words[8 * s.head+1]?=some (headW kd md)) (hkd:sh[kd]?=some s0) (ha:s0.a=false) (hmd:md≤1) (hk:s.k<s0.bs.length) (hb:s0.bs.length≤40) (hk6:s.k<6) (hh:(s.head:Int)<c.frags) (hkn:kd≤1000) (hr:s0.bs[s.k]?=some r) :
  Calls Tryz.prog 254 #[.pointer (some ⟨fb,0,none⟩),.pointer (some ⟨mb,0,none⟩)] w fun e w'=>e=.returned (.bool true)∧Only (fun k=>k=fb∨k=mb) w w'∧At w' fb c v sh { s with pc:=6,at_:=((8 * s.head+(2+s.k):Nat):Int),ref:=r }∧Mm.At w' mb mg words:=by
 have H:=hid h
 have HM:=hid hm
 have HH:=hid (And.intro hkd (And.intro ha (And.intro hr hcm)))
 have HZ:=hid hz
 have p1:=H.out.p9
 have p4:=H.out.p12
 rw [hpc] at p4
 clear h hm hkd ha hr hcm hz
 go_enter Tryz.func254,Tryz.ntmps254
 go_wp2_with fail
 refine wp_scope_hop 0 (fun C HC0=>?_)
 clear HC0
 go_wp2_with fail
 refine (read_in s.head 1 mb mg words (headW kd md) w H.out HM.out hh (by omega) HZ.out).mono ?_
 rintro e w1 ⟨rfl,ho1,hm1⟩
 have H1:=hid (H.out.only ho1 hf1 (fun k hk=>(HH.out.2.2.2 k hk).1))
 have HM1:=hid hm1
 have O1:=hid ho1
 clear p1 p4 ho1 hm1
 go_wp2_with fail
 refine (first_near kd md s0 w1 H1.out HH.out.1 HH.out.2.1 hmd hk hb hk6 hh hkn r HH.out.2.2.1).mono ?_
 rintro e w2 ⟨rfl,ho2,h2⟩
 have O2:=hid ((O1.out.mono (T:=fun k=>k=fb∨k=mb) (fun _ _ h=>.inr h)).trans (ho2.mono (T:=fun k=>k=fb∨k=mb) (fun _ _ h=>.inl h)) (fun _ _ h=>h))
 have H2:=hid h2
 have HM2:=hid (HM1.out.only ho2 (fun e=>hf1 e.symm) (fun e=>hf2 e.symm))
 clear ho2 h2
 go_wp2_with fail
 simp only [Hop_ret]
 go_ret
 exact ⟨rfl,O2.out,H2.out,HM2.out⟩
theorem step_near (kd md:Nat) (s0:Sh) (r:Bool) (mb mg:Nat) (words:List (Nat × Nat)) (w:World) (h:At w fb c v sh s) (hm:Mm.At w mb mg words) (hf1:fb≠mb) (hf2:fb≠mg) (hcm:∀ k,CfS v sh k→k≠mb∧k≠mg) (hpc:s.pc=0) (hz:words[8 * s.head+1]?=some (headW kd md)) (hkd:sh[kd]?=some s0) (ha:s0.a=false) (hmd:md≤1) (hk:s.k<s0.bs.length) (hb:s0.bs.length≤40) (hk6:s.k<6) (hh:(s.head:Int)<c.frags) (hkn:kd≤1000) (hr:s0.bs[s.k]?=some r) :
  Calls Tryz.prog 187 #[.pointer (some ⟨fb,0,none⟩),.pointer (some ⟨mb,0,none⟩)] w fun e w'=>e=.returned (.bool true)∧Only (fun k=>k=fb∨k=mb) w w'∧At w' fb c v sh { s with pc:=6,at_:=((8 * s.head+(2+s.k):Nat):Int),ref:=r }∧Mm.At w' mb mg words:=by
 have H:=hid h
 have HM:=hid hm
 have HH:=hid (And.intro hkd (And.intro ha (And.intro hr hcm)))
 have HZ:=hid hz
 have p12:=H.out.p12
 rw [hpc] at p12
 obtain ⟨n,p22⟩:=H.out.p22
 have ff:=H.out.fz
 have HPC:=hid hpc
 clear h hm hkd ha hr hcm hz hpc
 go_enter Tryz.func187,Tryz.ntmps187
 go_upto_region 4 with fail
 obtain ⟨z,hz⟩:∃ z:Int,wrap64 (n+1)=z:=⟨_,rfl⟩
 rw [hz]
 have h1:=H.out.put 22 (.int .i64 z) s (fun n=>⟨z,rfl⟩)
 have o1:Only (fun k=>k=fb) w (w.setCell ⟨fb,22,none⟩ (.int .i64 z)):=only_f (Only.refl _ w) 22 _
 have HM1:=hid (HM.out.only o1 (fun e=>hf1 e.symm) (fun e=>hf2 e.symm))
 have H1:=hid h1
 have O1:=hid o1
 clear h1 o1 p12 p22 ff hz H HM
 generalize w.setCell ⟨fb,22,none⟩ (.int .i64 z)=w1 at *
 have p12:=H1.out.p12
 rw [HPC.out] at p12
 go_wp2_with fail
 refine (begins_near kd md s0 r mb mg words w1 H1.out HM1.out hf1 hf2 HH.out.2.2.2 HPC.out HZ.out HH.out.1 HH.out.2.1 hmd hk hb hk6 hh hkn HH.out.2.2.1).mono ?_
 rintro e w2 ⟨rfl,ho2,h2,hm2⟩
 have O2:=hid ((O1.out.mono (T:=fun k=>k=fb∨k=mb) (fun _ _ h=>.inl h)).trans ho2 (fun _ _ h=>h))
 have H2:=hid h2
 have HM2:=hid hm2
 clear ho2 h2 hm2 p12
 go_wp2_with fail
 go_ret
 exact ⟨rfl,O2.out,H2.out,HM2.out⟩
theorem field_in (head k:Nat) (w:World) (hl:ShsR w w.heap.size v sh) (hok:checkI c sh=0) (hx:∀ s∈sh,s.bs.length≤1000000) :
  Calls Tryz.prog 250 #[cnV c v,.int .i64 (head:Int),.int .i64 (k:Int)] w fun e w'=>∃ fb v' m,e=.returned (.pointer (some ⟨fb,0,none⟩))∧Pure w w'∧w.heap.size≤fb∧(∀ k,CfS v' m k→w.heap.size≤k∧k<w'.heap.size)∧alike sh m∧At w' fb c v' m ⟨head,k,0,-1,false,0⟩:=by
 obtain ⟨A,cc,rfl⟩:∃ A cc,v=.slice A sh.length cc:=by
  obtain ⟨⟨A,cc,e,_⟩,_⟩:=hl
  exact ⟨A,cc,e⟩
 have hr:=Row.new w c (.slice A sh.length cc)
 have HR:=hid hr
 have HL:=hid (fun (w':World) (hp:Pure w w')=>hl.pure hp)
 have HX:=hid hx
 have HOK:=hid hok
 clear hr hl hx hok
 go_enter Tryz.func250,Tryz.ntmps250
 go_upto_region 1 with fail
 have HZ0:Hid ((w.alloc (.cells #[.int .i64 c.frags,.int .i64 c.spine,.int .i64 c.globals,.int .i64 c.threads,.int .i64 c.locals,.int .i64 c.cache,.int .i64 c.stack,.int .i64 c.low,.slice A sh.length cc] 24)).heap.size=w.heap.size+1):=hid (by simp)
 generalize w.alloc (.cells #[.int .i64 c.frags,.int .i64 c.spine,.int .i64 c.globals,.int .i64 c.threads,.int .i64 c.locals,.int .i64 c.cache,.int .i64 c.stack,.int .i64 c.low,.slice A sh.length cc] 24)=W at *
 obtain ⟨k0,k1,k2,k3,k4,k5,k6,k7,k8,kf⟩:=HR.out.cells
 go_wp2_with fail
 refine (copy_in c _ sh W (HL.out W HR.out.2.2) HOK.out HX.out).mono ?_
 rintro e w2 ⟨A2,d2,m2,rfl,hp2,hs2,hf2,ha2⟩
 have HP2:=hid (HR.out.2.2.then hp2)
 have HS2:=hid hs2
 have HF2:Hid (∀ k,CfS (.slice A2 sh.length d2) m2 k→w.heap.size≤k∧k<w2.heap.size):=hid (fun k hk=>by have:=hf2 k hk;have:=HZ0.out;omega)
 have HA2:=hid ha2
 clear hp2 hs2 hf2 ha2 k0 k1 k2 k3 k4 k5 k6 k7 k8 kf
 go_wp2_with fail
 go_ret
 have hm:=heap_alloc_new w2 (.cells (cs c (.slice A2 sh.length d2) ⟨head,k,0,-1,false,0⟩ 0) 295)
 have hp:=(Only.refl (fun _=>False) w2).alloc (.cells (cs c (.slice A2 sh.length d2) ⟨head,k,0,-1,false,0⟩ 0) 295)
 exact ⟨w2.heap.size,_,m2,rfl,HP2.out.then hp,HP2.out.size,fun k hk=>⟨(HF2.out k hk).1,Nat.lt_of_lt_of_le (HF2.out k hk).2 hp.size⟩,HA2.out,⟨⟨0,hm⟩,HS2.out.pure hp,by rw [← HA2.out.check];exact HOK.out,fun k hk e=>by have:=(HF2.out k hk).2;omega⟩⟩
theorem at_in (w:World) (h:At w fb c v sh s):Calls Tryz.prog 189 #[.pointer (some ⟨fb,0,none⟩)] w fun e w'=>e=.returned (.int .i64 s.at_)∧w=w':=by
 have p:=h.p19
 clear h
 go_enter Tryz.func189,Tryz.ntmps189
 go_wp2_with fail
 go_ret
 exact ⟨rfl,rfl⟩
theorem errno_in (w:World) (h:At w fb c v sh s):Calls Tryz.prog 188 #[.pointer (some ⟨fb,0,none⟩)] w fun e w'=>e=.returned (.int .i64 s.e)∧w=w':=by
 have p:=h.p21
 clear h
 go_enter Tryz.func188,Tryz.ntmps188
 go_wp2_with fail
 go_ret
 exact ⟨rfl,rfl⟩
theorem ref_in_ (n:Nat) (w:World) (h:At w fb c v sh s) (hn:s.at_=(n:Int)):Calls Tryz.prog 190 #[.pointer (some ⟨fb,0,none⟩)] w fun e w'=>e=.returned (.bool s.ref)∧w=w':=by
 have p:=h.p19
 have q:=h.p20
 rw [hn] at p
 clear h hn
 have hd:decide ((n:Int) ≥ 0)=true:=by simp
 have hd2:decide ((0:Int)≤(n:Int))=true:=by simp
 go_enter Tryz.func190,Tryz.ntmps190
 go_wp2_with fail
 go_ret
 exact ⟨rfl,rfl⟩
end
end Go.Proofs.YtpgdiceeimehiaaGreat.Fd
namespace Go.Proofs.YtpgdiceeimehiaaGreat
open Go.RowKit
open Ac (wrs OpD opV opO op_cells Vl Wr resV resZ zeroVl res_cells res_kept nT one_new two_new lays_any done_any fails_any CT)
section
variable {w w':World} {c:Cn} {K:Cor.Q} {κ:Nat→Nat} {m:Cor.St} {b:Ac.B} {s:Ac.St}
open Ac (vals vlV vlL op_cells)
theorem Cor.At.memmed1 {T:Nat→Prop} {words':List (Nat × Nat)} (h:Cor.At w c K κ m) (ho:Only T w w') (hT:∀ k,T k→κ k=1) (hm:Mm.At w' K.mb K.mg words'):Cor.At w' c K κ { m with words:=words' }:=by
 have nc:∀ k,κ k≠1→¬ T k:=fun k hk ht=>hk (hT k ht)
 exact ⟨ho.blk h.me (nc _ (by rw [(h.k0 _ (.inl rfl)).1];omega)),hm,h.shade.only ho (fun k hk=>nc k (by have:=h.sd_col k hk;omega)),h.space.only ho (fun k hk=>nc k (by have:=h.sp_col k hk;omega)) (fun k hk=>nc k (by rw [(h.k0 k (.inr (.inr hk))).1];omega)) (fun e he k hk=>nc k (by rw [h.k4 k (.inr ⟨e,he,hk⟩)];omega)),h.hand.only ho (nc _ (by rw [h.k5.1];omega)) (nc _ (by rw [h.k5.2];omega)),h.conf.only ho (fun k hk=>nc k (by rw [(h.k0 k (.inr (.inl hk))).1];omega)),h.ok,h.like,fun k hk=>⟨(h.k0 k hk).1,Nat.lt_of_lt_of_le (h.k0 k hk).2 ho.size⟩,h.k1,h.k2,h.k3,h.k4,h.k5⟩
theorem alike.get {l n:List Sh} (h:alike l n) {k:Nat} {s0:Sh} (hk:l[k]?=some s0):∃ t,n[k]?=some t∧t.a=s0.a∧t.bs=s0.bs:=by
 have h1:(n.map (fun s=>(s.a,s.bs)))[k]?=some (s0.a,s0.bs):=by
  rw [← show l.map (fun s=>(s.a,s.bs))=n.map (fun s=>(s.a,s.bs)) from h]
  simp [hk]
 rw [List.getElem?_map] at h1
 cases ht:n[k]? with
 | none=>rw [ht] at h1;cases h1
 | some t =>
  rw [ht] at h1
  simp only [Option.map_some,Option.some.injEq,Prod.mk.injEq] at h1
  exact ⟨t,rfl,h1.1,h1.2⟩
structure FdOk (w:World) (c:Cn) (K:Cor.Q) (κ:Nat→Nat) (fb:Nat) (v:Value) (sh:List Sh) (i k:Nat):Prop where
 at_:Fd.At w fb c v sh ⟨i,k,0,-1,false,0⟩
 k1:κ fb=1
 kc:∀ k,CfS v sh k→κ k=1
 ne:fb≠K.mb∧fb≠K.mg
 nc:∀ k,CfS v sh k→k≠K.mb∧k≠K.mg
 like:alike K.csh sh
 lt:∀ k,CfS v sh k→k<w.heap.size
theorem FdOk.only {T:Nat→Prop} {fb i k:Nat} {v:Value} {sh:List Sh} (h:FdOk w c K κ fb v sh i k) (ho:Only T w w') (hT:∀ k,T k→κ k≠1):FdOk w' c K κ fb v sh i k :=
 ⟨h.at_.only ho (fun ht=>hT _ ht h.k1) (fun k hk ht=>hT _ ht (h.kc k hk)),h.k1,h.kc,h.ne,h.nc,h.like,fun k hk=>Nat.lt_of_lt_of_le (h.lt k hk) ho.size⟩
theorem FdOk.recol {κ':Nat→Nat} {fb i k:Nat} {v:Value} {sh:List Sh} (h:FdOk w c K κ fb v sh i k) (hs:∀ k,k<w.heap.size→κ' k=κ k):FdOk w c K κ' fb v sh i k :=
 ⟨h.at_,(hs _ h.at_.lt).trans h.k1,fun k hk=>(hs k (h.lt k hk)).trans (h.kc k hk),h.ne,h.nc,h.like,h.lt⟩
theorem program_load (o:OpD) (j i k:Nat) (w:World) (h:Sys w c K κ m b s) (hk:o.kind=3) (ho:o.b=(j:Int)) (hn:o.n=(k:Int)) (hj:s.locals[j]?=some (true,refW i)) (hi:i≤1000000) (hx:∀ s∈K.csh,s.bs.length≤1000000) :
  Calls Tryz.prog 182 #[.pointer (some ⟨K.kb,0,none⟩),opV o,.func (.func 183) #[.pointer (some ⟨b.ab,0,none⟩)] #[]] w fun e w'=>∃ fb v' n,e=.returned (.pointer (some ⟨fb,0,none⟩))∧Pure w w'∧w.heap.size≤fb∧(∀ k,CfS v' n k→w.heap.size≤k∧k<w'.heap.size)∧alike K.csh n∧Fd.At w' fb c v' n ⟨i,k,0,-1,false,0⟩:=by
 obtain ⟨hp,-,hv⟩:=one_new w #[.int .i64 (o.kind:Int),.int .i64 o.a,.int .i64 o.b,.int .i64 o.c,.int .i64 o.n,.complex .f64 o.x o.y] 32
 obtain ⟨-,hs1⟩:=h.pure9 hp
 have HS1:=hid hs1
 have HP1:=hid hp
 have HV:=hid hv
 have HK:=hid hk
 have HO:=hid (And.intro ho hn)
 have HJ:=hid hj
 have HX:=hid hx
 clear hp hv h hk ho hn hj hx hs1
 go_enter Tryz.func182,Tryz.ntmps182
 go_upto_region 1 with fail
 generalize w.alloc (opO o)=W at *
 generalize paint w.heap.size κ 9=κ1 at *
 generalize w.heap.size=X at *
 have o0:=(op_cells HV.out).1
 rw [HK.out] at o0
 go_wp2_with fail
 obtain ⟨Av,cv,hcv⟩:∃ A cc,K.cv=.slice A K.csh.length cc:=by
  obtain ⟨⟨A,cc,h,_⟩,_⟩:=HS1.out.cor.conf
  exact ⟨A,cc,h⟩
 have HCV:=hid hcv
 obtain ⟨k0,k1,k2,k3,k4,k5,k6,k7,k8⟩:=HS1.out.cor.qc
 rw [hcv] at k8
 obtain ⟨-,o1,o2,-,o4,-⟩:=op_cells HV.out
 rw [HO.out.1] at o2
 rw [HO.out.2] at o4
 clear hcv
 go_region_held3 (fun w'=>w'.cell? ⟨K.kb,0,none⟩=some (.int .i64 c.frags)∧w'.cell? ⟨K.kb,1,none⟩=some (.int .i64 c.spine)∧w'.cell? ⟨K.kb,2,none⟩=some (.int .i64 c.globals)∧w'.cell? ⟨K.kb,3,none⟩=some (.int .i64 c.threads)∧w'.cell? ⟨K.kb,4,none⟩=some (.int .i64 c.locals)∧w'.cell? ⟨K.kb,5,none⟩=some (.int .i64 c.cache)∧w'.cell? ⟨K.kb,6,none⟩=some (.int .i64 c.stack)∧w'.cell? ⟨K.kb,7,none⟩=some (.int .i64 c.low)∧w'.cell? ⟨K.kb,8,none⟩=some (.slice Av K.csh.length cv)∧w'.cell? ⟨X,2,none⟩=some (.int .i64 (j:Int))∧w'.cell? ⟨X,4,none⟩=some (.int .i64 (k:Int))) (go_keep) (first | (go_at_call 183;refine (Ac.head_ref j i _ HS1.out.drew.act HJ.out hi).mono ?_;rintro e w2 ⟨rfl,rfl⟩) | (go_at_call 250;refine (Fd.field_in (c:=c) (v:=.slice Av K.csh.length cv) (sh:=K.csh) i k _ (HCV.out ▸ HS1.out.drew.cor.conf) HS1.out.cor.ok HX.out).mono ?_;rintro e w3 ⟨fb3,v3,m3,rfl,hp3,hf3,hc3,ha3,h3⟩;have P3:Pure W w3:=Pure.then (b:=W.drew) ((Only.refl (fun _=>False) W).drewN 1) hp3;have t0:=P3.keep k0;have t1:=P3.keep k1;have t2:=P3.keep k2;have t3:=P3.keep k3;have t4:=P3.keep k4;have t5:=P3.keep k5;have t6:=P3.keep k6;have t7:=P3.keep k7;have t8:=P3.keep k8;have t9:=P3.keep o2;have tA:=P3.keep o4;have HP3:=hid P3;have HF3:=hid (And.intro hf3 (And.intro hc3 (And.intro ha3 h3)));clear P3 hp3 hf3 hc3 ha3 h3))
 go_wp2_with fail
 go_ret
 refine ⟨fb3,v3,m3,rfl,HP1.out.then HP3.out,Nat.le_trans HP1.out.size HF3.out.1,fun k hk=>⟨Nat.le_trans HP1.out.size (HF3.out.2.1 k hk).1,(HF3.out.2.1 k hk).2⟩,HF3.out.2.2.1,HF3.out.2.2.2⟩
theorem program_store (o:OpD) (j i k:Nat) (w:World) (h:Sys w c K κ m b s) (hk:o.kind=4) (ho:o.a=(j:Int)) (hn:o.n=(k:Int)) (hj:s.locals[j]?=some (true,refW i)) (hi:i≤1000000) (hx:∀ s∈K.csh,s.bs.length≤1000000) :
  Calls Tryz.prog 182 #[.pointer (some ⟨K.kb,0,none⟩),opV o,.func (.func 183) #[.pointer (some ⟨b.ab,0,none⟩)] #[]] w fun e w'=>∃ fb v' n,e=.returned (.pointer (some ⟨fb,0,none⟩))∧Pure w w'∧w.heap.size≤fb∧(∀ k,CfS v' n k→w.heap.size≤k∧k<w'.heap.size)∧alike K.csh n∧Fd.At w' fb c v' n ⟨i,k,0,-1,false,0⟩:=by
 obtain ⟨hp,-,hv⟩:=one_new w #[.int .i64 (o.kind:Int),.int .i64 o.a,.int .i64 o.b,.int .i64 o.c,.int .i64 o.n,.complex .f64 o.x o.y] 32
 obtain ⟨-,hs1⟩:=h.pure9 hp
 have HS1:=hid hs1
 have HP1:=hid hp
 have HV:=hid hv
 have HK:=hid hk
 have HO:=hid (And.intro ho hn)
 have HJ:=hid hj
 have HX:=hid hx
 clear hp hv h hk ho hn hj hx hs1
 go_enter Tryz.func182,Tryz.ntmps182
 go_upto_region 1 with fail
 generalize w.alloc (opO o)=W at *
 generalize paint w.heap.size κ 9=κ1 at *
 generalize w.heap.size=X at *
 have o0:=(op_cells HV.out).1
 rw [HK.out] at o0
 go_wp2_with fail
 obtain ⟨Av,cv,hcv⟩:∃ A cc,K.cv=.slice A K.csh.length cc:=by
  obtain ⟨⟨A,cc,h,_⟩,_⟩:=HS1.out.cor.conf
  exact ⟨A,cc,h⟩
 have HCV:=hid hcv
 obtain ⟨k0,k1,k2,k3,k4,k5,k6,k7,k8⟩:=HS1.out.cor.qc
 rw [hcv] at k8
 obtain ⟨-,o1,o2,-,o4,-⟩:=op_cells HV.out
 rw [HO.out.1] at o1
 rw [HO.out.2] at o4
 clear hcv
 go_region_held3 (fun w'=>w'.cell? ⟨K.kb,0,none⟩=some (.int .i64 c.frags)∧w'.cell? ⟨K.kb,1,none⟩=some (.int .i64 c.spine)∧w'.cell? ⟨K.kb,2,none⟩=some (.int .i64 c.globals)∧w'.cell? ⟨K.kb,3,none⟩=some (.int .i64 c.threads)∧w'.cell? ⟨K.kb,4,none⟩=some (.int .i64 c.locals)∧w'.cell? ⟨K.kb,5,none⟩=some (.int .i64 c.cache)∧w'.cell? ⟨K.kb,6,none⟩=some (.int .i64 c.stack)∧w'.cell? ⟨K.kb,7,none⟩=some (.int .i64 c.low)∧w'.cell? ⟨K.kb,8,none⟩=some (.slice Av K.csh.length cv)∧w'.cell? ⟨X,1,none⟩=some (.int .i64 (j:Int))∧w'.cell? ⟨X,4,none⟩=some (.int .i64 (k:Int))) (go_keep) (first | (go_at_call 183;refine (Ac.head_ref j i _ HS1.out.drew.act HJ.out hi).mono ?_;rintro e w2 ⟨rfl,rfl⟩) | (go_at_call 250;refine (Fd.field_in (c:=c) (v:=.slice Av K.csh.length cv) (sh:=K.csh) i k _ (HCV.out ▸ HS1.out.drew.cor.conf) HS1.out.cor.ok HX.out).mono ?_;rintro e w3 ⟨fb3,v3,m3,rfl,hp3,hf3,hc3,ha3,h3⟩;have P3:Pure W w3:=Pure.then (b:=W.drew) ((Only.refl (fun _=>False) W).drewN 1) hp3;have t0:=P3.keep k0;have t1:=P3.keep k1;have t2:=P3.keep k2;have t3:=P3.keep k3;have t4:=P3.keep k4;have t5:=P3.keep k5;have t6:=P3.keep k6;have t7:=P3.keep k7;have t8:=P3.keep k8;have t9:=P3.keep o1;have tA:=P3.keep o4;have HP3:=hid P3;have HF3:=hid (And.intro hf3 (And.intro hc3 (And.intro ha3 h3)));clear P3 hp3 hf3 hc3 ha3 h3))
 go_wp2_with fail
 go_ret
 refine ⟨fb3,v3,m3,rfl,HP1.out.then HP3.out,Nat.le_trans HP1.out.size HF3.out.1,fun k hk=>⟨Nat.le_trans HP1.out.size (HF3.out.2.1 k hk).1,(HF3.out.2.1 k hk).2⟩,HF3.out.2.2.1,HF3.out.2.2.2⟩
theorem finds_load (o:OpD) (fb i k kd md:Nat) (s0:Sh) (v:Value) (sh:List Sh) (w:World) (h:Sys w c K κ m b s) (hk:o.kind=3) (hf:s.f=.pointer (some ⟨fb,0,none⟩)) (hF:FdOk w c K κ fb v sh i k) (hz:m.words[8 * i+1]?=some (headW kd md)) (hkd:K.csh[kd]?=some s0) (ha:s0.a=false) (hmd:md≤1) (hk0:k<s0.bs.length) (hb:s0.bs.length≤40) (hk6:k<6) (hh:(i:Int)<c.frags) (hkn:kd≤1000) (hr:s0.bs[k]?=some true) :
  Calls Tryz.prog 122 #[.pointer (some ⟨b.ab,0,none⟩),.pointer (some ⟨K.kb,0,none⟩),opV o] w fun r w'=>r=.returned (.tuple #[resV 0 0 0 zeroVl,.bool false])∧∃ κ',Ext CT w κ w' κ'∧Sys w' c K κ' m b { s with at_:=2,addr:=((8 * i+(2+k):Nat):Int),ref:=true }:=by
 obtain ⟨hp,-,hv,hrz⟩:=two_new w #[.int .i64 (o.kind:Int),.int .i64 o.a,.int .i64 o.b,.int .i64 o.c,.int .i64 o.n,.complex .f64 o.x o.y] #[.int .i64 0,.int .i64 0,.int .i64 0,.bool false,.complex .f64 0 0] 32 46
 have H1:=hid (h.pure9 hp)
 have hF2:=(hF.recol (κ':=paint w.heap.size κ 9) (fun k hk=>paint_old hk)).only hp (fun _ f=>f.elim)
 have HR:=hid hrz
 have HV:=hid hv
 have HY1:Hid (paint w.heap.size κ 9 w.heap.size=9):=hid (paint_new (by omega))
 have HX1:Hid (paint w.heap.size κ 9 (w.heap.size+1)=9):=hid (paint_new (by omega))
 have HLE:Hid (w.heap.size≤w.heap.size+1):=hid (by omega)
 have HK:=hid hk
 have HFP:=hid hf
 have HZ:=hid (And.intro hz (And.intro hkd (And.intro ha hr)))
 have HFK:=hid hF2
 clear hp hrz h hv hk hf hF hF2 hz hkd ha hr
 go_enter Tryz.func122,Tryz.ntmps122
 go_upto_region 1 with fail
 generalize (w.alloc (opO o)).alloc resZ=W at *
 generalize paint w.heap.size κ 9=κ1 at *
 generalize w.heap.size+1=X at *
 obtain ⟨E1,S1⟩:=H1.out
 have HE1:=hid E1
 have HS1:=hid S1
 clear E1 S1 H1
 have c11:=HS1.out.act.p11
 have fz:=HS1.out.act.fb
 go_upto_region 2 with fail
 have h2:=HS1.out.act.put 11 (.int .i64 1) { s with at_:=1 } rfl rfl ⟨rfl,rfl,rfl,rfl,rfl,rfl⟩
 have o2:Only (fun k=>k=b.ab) W (W.setCell ⟨b.ab,11,none⟩ (.int .i64 1)):=Ac.Only.me (Only.refl _ W) _ _
 obtain ⟨e2,S2⟩:=HS1.out.acted (Ac.ext_me HS1.out.act.k6 o2) h2
 have HS2:=hid S2
 have HF2:=hid (HFK.out.only o2 (fun k hk=>by rw [hk,HS1.out.act.k6];omega))
 have HE2:=hid (HE1.out.trans e2)
 obtain ⟨hr2,hx2⟩:=res_kept e2 HX1.out nT HR.out
 have HR2:=hid hr2
 have HX2:=hid hx2
 have hv2:=(e2).blk HV.out (by rw [HY1.out];exact nT)
 have hy2:=((e2).col (Array.getElem?_eq_some_iff.1 HV.out).1).trans HY1.out
 have HV2:=hid hv2
 have HY2:=hid hy2
 clear h2 o2 e2 S2 hr2 hx2 hv2 hy2 c11 fz HFK
 generalize W.setCell ⟨b.ab,11,none⟩ (.int .i64 1)=w2 at *
 have c12:=HS2.out.act.p12
 rw [HFP.out] at c12
 have q9:=HS2.out.cor.q9
 go_still_tail 9,(by kernel_rfl)
 change wpList _ _ _ _ _ w2.drew
 have HS3:=hid HS2.out.drew
 have HF3:Hid (FdOk w2.drew c K κ1 fb v sh i k):=hid (HF2.out.only ((Only.refl (fun _=>False) w2).drewN 1) (fun _ f=>f.elim))
 have HR3:=hid (show w2.drew.heap[X]?=_ from HR2.out)
 have HV3:=hid (show w2.drew.heap[w.heap.size]?=_ from HV2.out)
 have HE3:Hid (Ext CT w κ w2.drew κ1):=hid (HE2.out.trans (Ext.pure ((Only.refl (fun _=>False) w2).drewN 1)))
 have HX3:=HX2
 have HY3:=HY2
 clear HS2 HF2 HR2 HV2 HE2 c12 q9 HX2 HY2
 generalize w2.drew=w3 at *
 go_wp2_with fail
 obtain ⟨t0,ht0,hta,htb⟩:=HF3.out.like.get HZ.out.2.1
 have tk0:k<t0.bs.length:=by rw [htb];exact hk0
 have tk1:t0.bs.length≤40:=by rw [htb];exact hb
 have tk2:t0.bs[k]?=some true:=by rw [htb];exact HZ.out.2.2.2
 have tk3:t0.a=false:=by rw [hta];exact HZ.out.2.2.1
 refine (Fd.step_near (s:=⟨i,k,0,-1,false,0⟩) kd md t0 true K.mb K.mg m.words w3 HF3.out.at_ HS3.out.cor.mem HF3.out.ne.1 HF3.out.ne.2 HF3.out.nc rfl HZ.out.1 ht0 tk3 hmd tk0 tk1 hk6 hh hkn tk2).mono ?_
 rintro e w4 ⟨rfl,ho4,hf4,hm4⟩
 have hT:∀ q,(q=fb∨q=K.mb)→κ1 q=1:=fun q hq=>by rcases hq with rfl | rfl;exact HF3.out.k1;exact HS3.out.cor.k1.1
 have e4:Ext CT w3 κ1 w4 κ1:=Ext.of (ho4.mono (fun q _ hq=>by rw [hT q hq];unfold CT;omega))
 have s4:Sys w4 c K κ1 m b { s with at_:=1 }:=⟨HS3.out.cor.memmed1 ho4 hT hm4,HS3.out.act.keep ho4 (fun q hq hq2=>by rw [hT q hq2] at hq;omega) (fun _ _=>rfl)⟩
 have HS4:=hid s4
 have HF4:=hid hf4
 have HE4:=hid (HE3.out.trans e4)
 obtain ⟨hr2,hx2⟩:=res_kept e4 HX3.out nT HR3.out
 have HR4:=hid hr2
 have HX4:=hid hx2
 have hv2:=(e4).blk HV3.out (by rw [HY3.out];exact nT)
 have hy2:=((e4).col (Array.getElem?_eq_some_iff.1 HV3.out).1).trans HY3.out
 have HV4:=hid hv2
 have HY4:=hid hy2
 have c12:=s4.act.p12
 rw [HFP.out] at c12
 clear ho4 hf4 hm4 hT e4 s4 tk0 tk1 tk2 tk3 ht0 hta htb t0 hr2 hx2 hv2 hy2
 go_wp2_with fail
 refine (Fd.errno_in w4 HF4.out).mono ?_
 rintro e w5 ⟨rfl,rfl⟩
 obtain ⟨ad,had⟩:∃ ad:Nat,8 * i+(2+k)=ad:=⟨_,rfl⟩
 rw [had] at HF4 ⊢
 have HAD:=hid had
 clear had
 have c11:=HS4.out.act.p11
 have c13:=HS4.out.act.p13
 have c14:=HS4.out.act.p14
 have fz:=HS4.out.act.fb
 go_upto_region 7 with fail
 go_cut [7] (fun _ wx=>wx=(((w4.drewN 1).setCell ⟨b.ab,13,none⟩ (.int .i64 (ad:Int))).setCell ⟨b.ab,14,none⟩ (.bool true)).setCell ⟨b.ab,11,none⟩ (.int .i64 2))
 case first =>
  go_wp2_with fail
  go_region_with (first | (go_at_call 189;refine (Fd.at_in _ (HF4.out.pure ((Only.refl (fun _=>False) w4).drewN 1))).mono ?_;rintro e w6 ⟨rfl,rfl⟩) | (go_at_call 190;refine (Fd.ref_in_ ad _ (HF4.out.pure ((Only.refl (fun _=>False) w4).drewN 1)) rfl).mono ?_;rintro e w6 ⟨rfl,rfl⟩))
  all_goals
   go_wp2_with fail
   go_meet
   rfl
 case rest =>
  subst hcut
  have h6:=((HS4.out.act.drew.put 13 (.int .i64 (ad:Int)) { s with at_:=1,addr:=(ad:Int) } rfl rfl ⟨rfl,rfl,rfl,rfl,rfl,rfl⟩).put 14 (.bool true) { s with at_:=1,addr:=(ad:Int),ref:=true } rfl rfl ⟨rfl,rfl,rfl,rfl,rfl,rfl⟩).put 11 (.int .i64 2) { s with at_:=2,addr:=(ad:Int),ref:=true } rfl rfl ⟨rfl,rfl,rfl,rfl,rfl,rfl⟩
  have o6:Only (fun k=>k=b.ab) w4.drew ((((w4.drewN 1).setCell ⟨b.ab,13,none⟩ (.int .i64 (ad:Int))).setCell ⟨b.ab,14,none⟩ (.bool true)).setCell ⟨b.ab,11,none⟩ (.int .i64 2)):=Ac.Only.me (Ac.Only.me (Ac.Only.me (Only.refl _ _) _ _) _ _) _ _
  obtain ⟨e6,S6⟩:=HS4.out.drew.acted (Ac.ext_me HS4.out.act.k6 o6) h6
  have HS6:=hid S6
  have HE6:=hid (HE4.out.trans e6.drewl)
  obtain ⟨hr2,hx2⟩:=res_kept e6.drewl HX4.out nT HR4.out
  have HR6:=hid hr2
  have HX6:=hid hx2
  have hv2:=(e6.drewl).blk HV4.out (by rw [HY4.out];exact nT)
  have hy2:=((e6.drewl).col (Array.getElem?_eq_some_iff.1 HV4.out).1).trans HY4.out
  have HV6:=hid hv2
  have HY6:=hid hy2
  clear h6 o6 e6 S6 hr2 hx2 hv2 hy2 c11 c13 c14 fz c12 HF4
  generalize (((w4.drewN 1).setCell ⟨b.ab,13,none⟩ (.int .i64 (ad:Int))).setCell ⟨b.ab,14,none⟩ (.bool true)).setCell ⟨b.ab,11,none⟩ (.int .i64 2)=w6 at *
  have o0:=(op_cells HV6.out).1
  rw [HK.out] at o0
  obtain ⟨z0,z1,z2,z3,z4⟩:=res_cells HR6.out
  have f1:=fun k=>frozen_of_row w6 X k _ _ HR6.out
  go_wp2_with fail
  refine bodyPost_ret (v:=.tuple #[.agg #[.int .i64 0,.int .i64 0,.int .i64 0,.bool false,.complex .f64 0 0],.bool false]) (by simp [results,Tryz.results122,go_sem,z0,z1,z2,z3,z4]) rfl ⟨rfl,_,(((((HE6.out.new HLE.out _ _).new HLE.out _ _).new HLE.out _ _).new HLE.out _ _).new HLE.out _ _),by rw [HAD.out];exact (((((HS6.out.cell9 HX6.out _ _).cell9 HX6.out _ _).cell9 HX6.out _ _).cell9 HX6.out _ _).cell9 HX6.out _ _)⟩
end
end Go.Proofs.YtpgdiceeimehiaaGreat
