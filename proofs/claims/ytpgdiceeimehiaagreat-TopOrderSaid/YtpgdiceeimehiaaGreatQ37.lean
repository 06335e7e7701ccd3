/- Part 37 of the proof that spotop.TopOrder returns true for all arguments and leaves what was there as it was. -/
import Derived.Test.YtpgdiceeimehiaaGreatQ28
set_option maxRecDepth 100000
set_option maxHeartbeats 16000000
open Go.Lib (hid)
namespace Go.Proofs.YtpgdiceeimehiaaGreat
open Go.RowKit
open Ac (wrs OpD opV opO op_cells Vl Wr resV resZ zeroVl res_cells res_kept nT one_new two_new lays_any done_any fails_any CT)
section
variable {w w':World} {c:Cn} {K:Cor.Q} {κ:Nat→Nat} {m:Cor.St} {b:Ac.B} {s:Ac.St}
open Ac (vals vlV vlL op_cells)
theorem v_cells {w:World} {X:Nat} {a:Bool} {p q:Nat} (h:w.heap[X]?=some (.cells #[.bool a,.complex .f64 p q] 44 (0,0))):w.cell? ⟨X,0,none⟩=some (.bool a)∧w.cell? ⟨X,1,none⟩=some (.complex .f64 p q):=by
 refine ⟨?_,?_⟩ <;> (rw [cell_of_row w _ _ _ _ _ h];rfl)
theorem plain_clear (o:OpD) (w:World) (h:Ac.At w κ b s) (hk:o.kind=13):Calls Tryz.prog 179 #[.pointer (some ⟨b.ab,0,none⟩),opV o] w fun e w'=>e=.returned (.tuple #[.agg #[.bool true,.complex .f64 noneW.1 noneW.2],.bool true])∧Pure w w':=by
 obtain ⟨hp,-,hv,hr⟩:=two_new w #[.int .i64 (o.kind:Int),.int .i64 o.a,.int .i64 o.b,.int .i64 o.c,.int .i64 o.n,.complex .f64 o.x o.y] #[.bool false,.complex .f64 0 0] 32 44
 have H1:=hid (h.pure hp)
 have HP:=hid hp
 have HV:=hid hv
 have HR:=hid hr
 have HK:=hid hk
 clear hp hv hr h hk
 go_enter Tryz.func179,Tryz.ntmps179
 go_upto_region 1 with fail
 generalize (w.alloc (opO o)).alloc (.cells #[.bool false,.complex .f64 0 0] 44)=W at *
 have HLE:Hid (w.heap.size≤w.heap.size+1):=hid (by omega)
 obtain ⟨X,hX⟩:∃ X,w.heap.size+1=X:=⟨_,rfl⟩
 rw [hX] at HR HLE ⊢
 clear hX
 have c2:=H1.out.p2
 obtain ⟨o0,o1,o2,o3,o4,o5⟩:=op_cells HV.out
 rw [HK.out] at o0
 obtain ⟨z0,z1⟩:=v_cells HR.out
 have f1:=fun k=>frozen_of_row W X k _ _ HR.out
 go_wp2_with fail
 refine (Pl.none_w W).mono ?_
 rintro e w2 ⟨rfl,rfl⟩
 go_wp2_with fail
 refine bodyPost_ret (v:=.tuple #[.agg #[.bool true,.complex .f64 noneW.1 noneW.2],.bool true]) (by simp [results,Tryz.results179,go_sem,z0,z1]) rfl ⟨rfl,?_⟩
 exact Ac.Only.new (Ac.Only.new HP.out X 0 _ HLE.out) X 1 _ HLE.out
theorem plain_new (o:OpD) (w:World) (h:Ac.At w κ b s) (hk:o.kind=1):Calls Tryz.prog 179 #[.pointer (some ⟨b.ab,0,none⟩),opV o] w fun e w'=>e=.returned (.tuple #[.agg #[.bool false,.complex .f64 0 0],.bool false])∧Pure w w':=by
 obtain ⟨hp,-,hv,hr⟩:=two_new w #[.int .i64 (o.kind:Int),.int .i64 o.a,.int .i64 o.b,.int .i64 o.c,.int .i64 o.n,.complex .f64 o.x o.y] #[.bool false,.complex .f64 0 0] 32 44
 have H1:=hid (h.pure hp)
 have HP:=hid hp
 have HV:=hid hv
 have HR:=hid hr
 have HK:=hid hk
 clear hp hv hr h hk
 go_enter Tryz.func179,Tryz.ntmps179
 go_upto_region 1 with fail
 generalize (w.alloc (opO o)).alloc (.cells #[.bool false,.complex .f64 0 0] 44)=W at *
 have HLE:Hid (w.heap.size≤w.heap.size+1):=hid (by omega)
 obtain ⟨X,hX⟩:∃ X,w.heap.size+1=X:=⟨_,rfl⟩
 rw [hX] at HR HLE ⊢
 clear hX
 have c2:=H1.out.p2
 obtain ⟨o0,o1,o2,o3,o4,o5⟩:=op_cells HV.out
 rw [HK.out] at o0
 obtain ⟨z0,z1⟩:=v_cells HR.out
 have f1:=fun k=>frozen_of_row W X k _ _ HR.out
 go_wp2_with fail
 refine bodyPost_ret (v:=.tuple #[.agg #[.bool false,.complex .f64 0 0],.bool false]) (by simp [results,Tryz.results179,go_sem,z0,z1]) rfl ⟨rfl,?_⟩
 exact Ac.Only.new (Ac.Only.new HP.out X 0 _ HLE.out) X 1 _ HLE.out
theorem plain_load (o:OpD) (w:World) (h:Ac.At w κ b s) (hk:o.kind=3):Calls Tryz.prog 179 #[.pointer (some ⟨b.ab,0,none⟩),opV o] w fun e w'=>e=.returned (.tuple #[.agg #[.bool false,.complex .f64 0 0],.bool false])∧Pure w w':=by
 obtain ⟨hp,-,hv,hr⟩:=two_new w #[.int .i64 (o.kind:Int),.int .i64 o.a,.int .i64 o.b,.int .i64 o.c,.int .i64 o.n,.complex .f64 o.x o.y] #[.bool false,.complex .f64 0 0] 32 44
 have H1:=hid (h.pure hp)
 have HP:=hid hp
 have HV:=hid hv
 have HR:=hid hr
 have HK:=hid hk
 clear hp hv hr h hk
 go_enter Tryz.func179,Tryz.ntmps179
 go_upto_region 1 with fail
 generalize (w.alloc (opO o)).alloc (.cells #[.bool false,.complex .f64 0 0] 44)=W at *
 have HLE:Hid (w.heap.size≤w.heap.size+1):=hid (by omega)
 obtain ⟨X,hX⟩:∃ X,w.heap.size+1=X:=⟨_,rfl⟩
 rw [hX] at HR HLE ⊢
 clear hX
 have c2:=H1.out.p2
 obtain ⟨o0,o1,o2,o3,o4,o5⟩:=op_cells HV.out
 rw [HK.out] at o0
 obtain ⟨z0,z1⟩:=v_cells HR.out
 have f1:=fun k=>frozen_of_row W X k _ _ HR.out
 go_wp2_with fail
 refine bodyPost_ret (v:=.tuple #[.agg #[.bool false,.complex .f64 0 0],.bool false]) (by simp [results,Tryz.results179,go_sem,z0,z1]) rfl ⟨rfl,?_⟩
 exact Ac.Only.new (Ac.Only.new HP.out X 0 _ HLE.out) X 1 _ HLE.out
theorem plain_store (o:OpD) (w:World) (h:Ac.At w κ b s) (hk:o.kind=4):Calls Tryz.prog 179 #[.pointer (some ⟨b.ab,0,none⟩),opV o] w fun e w'=>e=.returned (.tuple #[.agg #[.bool false,.complex .f64 0 0],.bool false])∧Pure w w':=by
 obtain ⟨hp,-,hv,hr⟩:=two_new w #[.int .i64 (o.kind:Int),.int .i64 o.a,.int .i64 o.b,.int .i64 o.c,.int .i64 o.n,.complex .f64 o.x o.y] #[.bool false,.complex .f64 0 0] 32 44
 have H1:=hid (h.pure hp)
 have HP:=hid hp
 have HV:=hid hv
 have HR:=hid hr
 have HK:=hid hk
 clear hp hv hr h hk
 go_enter Tryz.func179,Tryz.ntmps179
 go_upto_region 1 with fail
 generalize (w.alloc (opO o)).alloc (.cells #[.bool false,.complex .f64 0 0] 44)=W at *
 have HLE:Hid (w.heap.size≤w.heap.size+1):=hid (by omega)
 obtain ⟨X,hX⟩:∃ X,w.heap.size+1=X:=⟨_,rfl⟩
 rw [hX] at HR HLE ⊢
 clear hX
 have c2:=H1.out.p2
 obtain ⟨o0,o1,o2,o3,o4,o5⟩:=op_cells HV.out
 rw [HK.out] at o0
 obtain ⟨z0,z1⟩:=v_cells HR.out
 have f1:=fun k=>frozen_of_row W X k _ _ HR.out
 go_wp2_with fail
 refine bodyPost_ret (v:=.tuple #[.agg #[.bool false,.complex .f64 0 0],.bool false]) (by simp [results,Tryz.results179,go_sem,z0,z1]) rfl ⟨rfl,?_⟩
 exact Ac.Only.new (Ac.Only.new HP.out X 0 _ HLE.out) X 1 _ HLE.out
theorem plain_look (o:OpD) (w:World) (h:Ac.At w κ b s) (hk:o.kind=7):Calls Tryz.prog 179 #[.pointer (some ⟨b.ab,0,none⟩),opV o] w fun e w'=>e=.returned (.tuple #[.agg #[.bool false,.complex .f64 0 0],.bool false])∧Pure w w':=by
 obtain ⟨hp,-,hv,hr⟩:=two_new w #[.int .i64 (o.kind:Int),.int .i64 o.a,.int .i64 o.b,.int .i64 o.c,.int .i64 o.n,.complex .f64 o.x o.y] #[.bool false,.complex .f64 0 0] 32 44
 have H1:=hid (h.pure hp)
 have HP:=hid hp
 have HV:=hid hv
 have HR:=hid hr
 have HK:=hid hk
 clear hp hv hr h hk
 go_enter Tryz.func179,Tryz.ntmps179
 go_upto_region 1 with fail
 generalize (w.alloc (opO o)).alloc (.cells #[.bool false,.complex .f64 0 0] 44)=W at *
 have HLE:Hid (w.heap.size≤w.heap.size+1):=hid (by omega)
 obtain ⟨X,hX⟩:∃ X,w.heap.size+1=X:=⟨_,rfl⟩
 rw [hX] at HR HLE ⊢
 clear hX
 have c2:=H1.out.p2
 obtain ⟨o0,o1,o2,o3,o4,o5⟩:=op_cells HV.out
 rw [HK.out] at o0
 obtain ⟨z0,z1⟩:=v_cells HR.out
 have f1:=fun k=>frozen_of_row W X k _ _ HR.out
 go_wp2_with fail
 refine bodyPost_ret (v:=.tuple #[.agg #[.bool false,.complex .f64 0 0],.bool false]) (by simp [results,Tryz.results179,go_sem,z0,z1]) rfl ⟨rfl,?_⟩
 exact Ac.Only.new (Ac.Only.new HP.out X 0 _ HLE.out) X 1 _ HLE.out
theorem plain_set (o:OpD) (w:World) (h:Ac.At w κ b s) (hk:o.kind=8):Calls Tryz.prog 179 #[.pointer (some ⟨b.ab,0,none⟩),opV o] w fun e w'=>e=.returned (.tuple #[.agg #[.bool false,.complex .f64 0 0],.bool false])∧Pure w w':=by
 obtain ⟨hp,-,hv,hr⟩:=two_new w #[.int .i64 (o.kind:Int),.int .i64 o.a,.int .i64 o.b,.int .i64 o.c,.int .i64 o.n,.complex .f64 o.x o.y] #[.bool false,.complex .f64 0 0] 32 44
 have H1:=hid (h.pure hp)
 have HP:=hid hp
 have HV:=hid hv
 have HR:=hid hr
 have HK:=hid hk
 clear hp hv hr h hk
 go_enter Tryz.func179,Tryz.ntmps179
 go_upto_region 1 with fail
 generalize (w.alloc (opO o)).alloc (.cells #[.bool false,.complex .f64 0 0] 44)=W at *
 have HLE:Hid (w.heap.size≤w.heap.size+1):=hid (by omega)
 obtain ⟨X,hX⟩:∃ X,w.heap.size+1=X:=⟨_,rfl⟩
 rw [hX] at HR HLE ⊢
 clear hX
 have c2:=H1.out.p2
 obtain ⟨o0,o1,o2,o3,o4,o5⟩:=op_cells HV.out
 rw [HK.out] at o0
 obtain ⟨z0,z1⟩:=v_cells HR.out
 have f1:=fun k=>frozen_of_row W X k _ _ HR.out
 go_wp2_with fail
 refine bodyPost_ret (v:=.tuple #[.agg #[.bool false,.complex .f64 0 0],.bool false]) (by simp [results,Tryz.results179,go_sem,z0,z1]) rfl ⟨rfl,?_⟩
 exact Ac.Only.new (Ac.Only.new HP.out X 0 _ HLE.out) X 1 _ HLE.out
theorem plain_kind (o:OpD) (w:World) (h:Ac.At w κ b s) (hk:o.kind=11):Calls Tryz.prog 179 #[.pointer (some ⟨b.ab,0,none⟩),opV o] w fun e w'=>e=.returned (.tuple #[.agg #[.bool false,.complex .f64 0 0],.bool false])∧Pure w w':=by
 obtain ⟨hp,-,hv,hr⟩:=two_new w #[.int .i64 (o.kind:Int),.int .i64 o.a,.int .i64 o.b,.int .i64 o.c,.int .i64 o.n,.complex .f64 o.x o.y] #[.bool false,.complex .f64 0 0] 32 44
 have H1:=hid (h.pure hp)
 have HP:=hid hp
 have HV:=hid hv
 have HR:=hid hr
 have HK:=hid hk
 clear hp hv hr h hk
 go_enter Tryz.func179,Tryz.ntmps179
 go_upto_region 1 with fail
 generalize (w.alloc (opO o)).alloc (.cells #[.bool false,.complex .f64 0 0] 44)=W at *
 have HLE:Hid (w.heap.size≤w.heap.size+1):=hid (by omega)
 obtain ⟨X,hX⟩:∃ X,w.heap.size+1=X:=⟨_,rfl⟩
 rw [hX] at HR HLE ⊢
 clear hX
 have c2:=H1.out.p2
 obtain ⟨o0,o1,o2,o3,o4,o5⟩:=op_cells HV.out
 rw [HK.out] at o0
 obtain ⟨z0,z1⟩:=v_cells HR.out
 have f1:=fun k=>frozen_of_row W X k _ _ HR.out
 go_wp2_with fail
 refine bodyPost_ret (v:=.tuple #[.agg #[.bool false,.complex .f64 0 0],.bool false]) (by simp [results,Tryz.results179,go_sem,z0,z1]) rfl ⟨rfl,?_⟩
 exact Ac.Only.new (Ac.Only.new HP.out X 0 _ HLE.out) X 1 _ HLE.out
theorem aread (i j:Nat) (z:Nat × Nat) (w:World) (h:Sys w c K κ m b s) (hi:(i:Int)<c.frags) (hj:j<8) (hz:m.words[8 * i+j]?=some z):Calls Tryz.prog 194 #[.pointer (some ⟨K.kb,0,none⟩),.int .i64 (i:Int),.int .i64 (j:Int)] w fun r w' =>
  r=.returned (.tuple #[.complex .f64 z.1 z.2,.bool true])∧∃ κ',Ext CT w κ w' κ'∧Sys w' c K κ' m b s:=by
 obtain ⟨Av,cv,hcv⟩:∃ A cc,K.cv=.slice A K.csh.length cc:=by
  obtain ⟨⟨A,cc,h,_⟩,_⟩:=h.cor.conf
  exact ⟨A,cc,h⟩
 have HS1:=hid h
 have HZ:=hid hz
 have HCV:=hid hcv
 obtain ⟨k0,k1,k2,k3,k4,k5,k6,k7,k8⟩:=h.cor.qc
 rw [hcv] at k8
 clear h hz hcv
 go_enter Tryz.func194,Tryz.ntmps194
 go_wp2_with fail
 refine (HCV.out ▸ frag_in c _ K.csh i j w HS1.out.cor.conf HS1.out.cor.ok (by omega) hi (by omega) (by omega)).mono ?_
 rintro e w2 ⟨rfl,hp2⟩
 obtain ⟨e2,S2⟩:=HS1.out.pure9 hp2
 have HS2:=hid S2
 have HE2:=hid e2
 have q9:=S2.cor.q9
 have e8:(8 * (i:Int)+(j:Int))=((8 * i+j:Nat):Int):=by omega
 rw [e8]
 obtain ⟨ad,had⟩:∃ ad:Nat,8 * i+j=ad:=⟨_,rfl⟩
 rw [had] at HZ ⊢
 clear k0 k1 k2 k3 k4 k5 k6 k7 k8 e8 hp2 had e2 S2
 go_wp2_with fail
 refine (Cor.read ad z w2 HS2.out.cor HZ.out).mono ?_
 rintro e w3 ⟨rfl,he3,hc3⟩
 obtain ⟨e3,S3⟩:=HS2.out.cored he3 hc3
 have HS3:=hid S3
 have HE3:=hid (HE2.out.trans e3)
 clear he3 hc3 e3 S3 q9
 go_wp2_with fail
 go_ret2
 exact ⟨rfl,_,HE3.out,HS3.out⟩
theorem cnf_row {w:World} {X:Nat} {a b:Value} (h:w.heap[X]?=some (.cells #[a,b] 35 (0,0))):w.cell? ⟨X,0,none⟩=some a∧w.cell? ⟨X,1,none⟩=some b:=by
 refine ⟨?_,?_⟩ <;> (rw [cell_of_row w _ _ _ _ _ h];rfl)
theorem afirst (kd md:Nat) (s0:Sh) (v:Value) (sh:List Sh) (w:World) (hl:ShsR w w.heap.size v sh) (hkd:sh[kd]?=some s0) (ha:s0.a=false) (hmd:md≤1) (hkn:kd≤1000) (hx:s0.bs.length≤1000000):Calls Tryz.prog 253 #[cnV c v,.complex .f64 (headW kd md).1 (headW kd md).2] w fun e w' =>
  ∃ A d,e=.returned (.tuple #[.int .i64 (kd:Int),.agg #[.bool false,.slice A s0.bs.length d],.bool true])∧Pure w w':=by
 obtain ⟨A,cc,rfl⟩:∃ A cc,v=.slice A sh.length cc:=by
  obtain ⟨⟨A,cc,e,_⟩,_⟩:=hl
  exact ⟨A,cc,e⟩
 have hr:=Row.new w c (.slice A sh.length cc)
 have HL:=hid (fun (w':World) (hp:Pure w w')=>hl.pure hp)
 have HH:=hid (And.intro hkd ha)
 have hr1:=hr
 have hp5:=(Only.refl (fun _=>False) (w.alloc (.cells #[.int .i64 c.frags,.int .i64 c.spine,.int .i64 c.globals,.int .i64 c.threads,.int .i64 c.locals,.int .i64 c.cache,.int .i64 c.stack,.int .i64 c.low,.slice A sh.length cc] 24))).alloc (.cells #[.bool false,.slice none 0 0] 35)
 have hg5:=heap_alloc_new (w.alloc (.cells #[.int .i64 c.frags,.int .i64 c.spine,.int .i64 c.globals,.int .i64 c.threads,.int .i64 c.locals,.int .i64 c.cache,.int .i64 c.stack,.int .i64 c.low,.slice A sh.length cc] 24)) (.cells #[.bool false,.slice none 0 0] 35)
 have hsz:(w.alloc (.cells #[.int .i64 c.frags,.int .i64 c.spine,.int .i64 c.globals,.int .i64 c.threads,.int .i64 c.locals,.int .i64 c.cache,.int .i64 c.stack,.int .i64 c.low,.slice A sh.length cc] 24)).heap.size=w.heap.size+1:=by simp
 rw [hsz] at hg5
 have HR:=hid (hr.keep hp5)
 have HG:=hid hg5
 clear hr hr1 hl hp5 hg5 hsz hkd ha
 go_enter Tryz.func253,Tryz.ntmps253
 go_upto_region 1 with fail
 generalize (w.alloc (.cells #[.int .i64 c.frags,.int .i64 c.spine,.int .i64 c.globals,.int .i64 c.threads,.int .i64 c.locals,.int .i64 c.cache,.int .i64 c.stack,.int .i64 c.low,.slice A sh.length cc] 24)).alloc (.cells #[.bool false,.slice none 0 0] 35)=W at *
 have HLE:Hid (w.heap.size≤w.heap.size+1):=hid (by omega)
 obtain ⟨X,hX⟩:∃ X,w.heap.size+1=X:=⟨_,rfl⟩
 rw [hX] at HG HLE ⊢
 clear hX
 obtain ⟨k0,k1,k2,k3,k4,k5,k6,k7,k8,kf⟩:=HR.out.cells
 go_wp2_with fail
 refine (tell_w kd md W (by omega) (by omega)).mono ?_
 rintro e w1 ⟨rfl,rfl⟩
 go_wp2_with fail
 refine (shape_in c _ sh kd s0 W (HL.out W HR.out.2.2) HH.out.1 hx).mono ?_
 rw [HH.out.2]
 rintro e w2 ⟨A2,d2,rfl,hp2,-,-⟩
 have HP2:=hid (HR.out.2.2.then hp2)
 have HG2:=hid (hp2.blk HG.out)
 clear hp2 k0 k1 k2 k3 k4 k5 k6 k7 k8 kf HR HG
 go_upto_region 3 with fail
 obtain ⟨hp3,-,hx3⟩:=Ac.one_new w2 #[.bool false,.slice A2 s0.bs.length d2] 35
 have HP3:=hid (HP2.out.then hp3)
 have HG3:=hid (hp3.blk HG2.out)
 have HX3:=hid hx3
 clear hp3 hx3 HP2 HG2
 generalize w2.alloc (.cells #[.bool false,.slice A2 s0.bs.length d2] 35)=w3 at *
 generalize w2.heap.size=X3 at *
 obtain ⟨y0,y1⟩:=cnf_row HX3.out
 obtain ⟨z0,z1⟩:=cnf_row HG3.out
 have f1:=fun k=>frozen_of_row w3 X k _ _ HG3.out
 rcases (by omega:md=0∨md=1) with rfl | rfl
 all_goals
  go_region
  go_wp2_with fail
  refine bodyPost_ret (v:=.tuple #[.int .i64 (kd:Int),.agg #[.bool false,.slice A2 s0.bs.length d2],.bool true]) (by simp [results,Tryz.results253,go_sem,z0,z1]) rfl ⟨A2,d2,rfl,?_⟩
  exact (Ac.Only.new (Ac.Only.new HP3.out X 0 _ HLE.out) X 1 _ HLE.out).drewN 1
end
open Go.RowKit
open Ac (wrs OpD opV opO op_cells Vl Wr resV resZ zeroVl res_cells res_kept nT one_new two_new lays_any done_any fails_any CT)
section
variable {w w':World} {c:Cn} {K:Cor.Q} {κ:Nat→Nat} {m:Cor.St} {b:Ac.B} {s:Ac.St}
open Ac (op_cells)
theorem tells_kind (o:OpD) (i j jo kd md:Nat) (s0:Sh) (w:World) (h:Sys w c K κ m b s) (hk:o.kind=11) (ho:o.a=(jo:Int)) (ho2:o.b=(j:Int)) (hj:s.locals[j]?=some (true,refW i)) (hjo:jo<s.locals.length) (hi:i≤1000000) (hph:s.phase≠4) (hnx:s.next≤100000) (hz:m.words[8 * i+1]?=some (headW kd md)) (hkd:K.csh[kd]?=some s0) (hsa:s0.a=false) (hmd:md≤1) (hb:s0.bs.length≤1000000) (hh:(i:Int)<c.frags) (hkn:kd≤1000) :
  Calls Tryz.prog 185 #[.pointer (some ⟨b.ab,0,none⟩),.pointer (some ⟨K.kb,0,none⟩),opV o] w fun r w'=>r=.returned (.tuple #[resV s.next s.own 0 (false,wholeW kd),.bool true])∧∃ κ',Ext CT w κ w' κ'∧Sys w' c K κ' m b { s with next:=s.next+1,phase:=1,pc:=0,locals:=s.locals.set jo (false,wholeW kd) }:=by
 obtain ⟨hp,-,hv,hrz⟩:=two_new w #[.int .i64 (o.kind:Int),.int .i64 o.a,.int .i64 o.b,.int .i64 o.c,.int .i64 o.n,.complex .f64 o.x o.y] #[.int .i64 0,.int .i64 0,.int .i64 0,.bool false,.complex .f64 0 0] 32 46
 have H1:=hid (h.pure9 hp)
 have HR:=hid hrz
 have HV:=hid hv
 have HY1:Hid (paint w.heap.size κ 9 w.heap.size=9):=hid (paint_new (by omega))
 have HX1:Hid (paint w.heap.size κ 9 (w.heap.size+1)=9):=hid (paint_new (by omega))
 have HLE:Hid (w.heap.size≤w.heap.size+1):=hid (by omega)
 have HK:=hid hk
 have HO:=hid (And.intro ho2 ho)
 have HJ:=hid hj
 have HZ:=hid (And.intro hz (And.intro hkd (And.intro hsa hph)))
 clear hp hrz h hv hk ho ho2 hj hz hkd hsa hph
 go_enter Tryz.func185,Tryz.ntmps185
 go_upto_region 1 with fail
 generalize (w.alloc (opO o)).alloc resZ=W at *
 generalize paint w.heap.size κ 9=κ1 at *
 generalize w.heap.size+1=X at *
 obtain ⟨E1,S1⟩:=H1.out
 have HE1:=hid E1
 have HS1:=hid S1
 clear E1 S1 H1
 have o2:=(op_cells HV.out).2.2.1
 rw [HO.out.1] at o2
 go_wp2_with fail
 refine (Ac.head_ref j i W HS1.out.act HJ.out hi).mono ?_
 rintro r w2 ⟨rfl,rfl⟩
 go_wp2_with fail
 refine (aread i 1 (headW kd md) W HS1.out hh (by omega) HZ.out.1).mono ?_
 rintro r w2 ⟨rfl,κ2,e2,S2⟩
 have HS2:=hid S2
 have HE2:=hid (HE1.out.trans e2)
 obtain ⟨hr2,hx2⟩:=res_kept e2 HX1.out nT HR.out
 have HR2:=hid hr2
 have HX2:=hid hx2
 have hv2:=(e2).blk HV.out (by rw [HY1.out];exact nT)
 have hy2:=((e2).col (Array.getElem?_eq_some_iff.1 HV.out).1).trans HY1.out
 have HV2:=hid hv2
 have HY2:=hid hy2
 clear e2 S2 hr2 hx2 hv2 hy2 o2
 obtain ⟨Av,cv,hcv⟩:∃ A cc,K.cv=.slice A K.csh.length cc:=by
  obtain ⟨⟨A,cc,h,_⟩,_⟩:=HS2.out.cor.conf
  exact ⟨A,cc,h⟩
 have HCV:=hid hcv
 obtain ⟨k0,k1,k2,k3,k4,k5,k6,k7,k8⟩:=HS2.out.cor.qc
 rw [hcv] at k8
 clear hcv
 go_wp2_with fail
 refine (HCV.out ▸ afirst (c:=c) kd md s0 _ K.csh w2 HS2.out.cor.conf HZ.out.2.1 HZ.out.2.2.1 hmd hkn hb).mono ?_
 rintro r w3 ⟨A3,d3,rfl,hp3⟩
 obtain ⟨e3,S3⟩:=HS2.out.pure9 hp3
 have HS3:=hid S3
 have HE3:=hid (HE2.out.trans e3)
 obtain ⟨hr2,hx2⟩:=res_kept e3 HX2.out nT HR2.out
 have HR3:=hid hr2
 have HX3:=hid hx2
 have hv2:=(e3).blk HV2.out (by rw [HY2.out];exact nT)
 have hy2:=((e3).col (Array.getElem?_eq_some_iff.1 HV2.out).1).trans HY2.out
 have HV3:=hid hv2
 have HY3:=hid hy2
 clear e3 S3 hr2 hx2 hv2 hy2 hp3 k0 k1 k2 k3 k4 k5 k6 k7 k8
 go_upto_region 3 with fail
 obtain ⟨hp4,-,hg4⟩:=one_new w3 #[.bool false,.slice A3 s0.bs.length d3] 35
 obtain ⟨e4,S4⟩:=HS3.out.pure9 hp4
 have HS4:=hid S4
 have HE4:=hid (HE3.out.trans e4)
 obtain ⟨hr2,hx2⟩:=res_kept e4 HX3.out nT HR3.out
 have HR4:=hid hr2
 have HX4:=hid hx2
 have hv2:=(e4).blk HV3.out (by rw [HY3.out];exact nT)
 have hy2:=((e4).col (Array.getElem?_eq_some_iff.1 HV3.out).1).trans HY3.out
 have HV4:=hid hv2
 have HY4:=hid hy2
 clear e4 S4 hr2 hx2 hv2 hy2 hp4 hg4
 generalize w3.alloc (.cells #[.bool false,.slice A3 s0.bs.length d3] 35)=w4 at *
 generalize paint w3.heap.size (paint w2.heap.size κ2 9) 9=κ4 at *
 generalize w3.heap.size=X4 at *
 obtain ⟨o0,o1,-⟩:=op_cells HV4.out
 rw [HK.out] at o0
 rw [HO.out.2] at o1
 have hkd1:(kd:Int)≤1000:=by omega
 go_wp2_with fail
 have hnx2:s.next≤100000:=hnx
 go_region_with (first | (go_at_call 195;refine (whole_in (kd:Int) _ (by omega) (by omega)).mono ?_;rintro r w5 ⟨rfl,rfl⟩) | (go_at_call 180;refine (Ac.lays_any jo (false,wholeW kd) _ HS4.out.drew.act HZ.out.2.2.2 hjo hnx2).mono ?_;rintro r w5 ⟨rfl,κ5,he5,ha5⟩;obtain ⟨e5,S5⟩:=HS4.out.drew.acted he5 ha5;have HE5:=hid (HE4.out.trans e5.drewl);obtain ⟨hr5,hx5⟩:=res_kept e5.drewl HX4.out nT HR4.out;have HS5:=hid S5;have HX5:=hid hx5;have HR5:=hid hr5;obtain ⟨z0,z1,z2,z3,z4⟩:=res_cells HR5.out;have f1:=fun k=>frozen_of_row w5 X k _ _ HR5.out;clear he5 ha5 e5 S5 hr5 hx5))
 all_goals
  go_wp2_with fail
  refine bodyPost_ret (v:=.tuple #[.agg #[.int .i64 (s.next:Int),.int .i64 s.own,.int .i64 0,.bool false,.complex .f64 (wholeW kd).1 (wholeW kd).2],.bool true]) (by simp [results,Tryz.results185,go_sem,z0,z1,z2,z3,z4]) rfl ⟨rfl,_,(((((HE5.out.new HLE.out _ _).new HLE.out _ _).new HLE.out _ _).new HLE.out _ _).new HLE.out _ _),(((((HS5.out.cell9 HX5.out _ _).cell9 HX5.out _ _).cell9 HX5.out _ _).cell9 HX5.out _ _).cell9 HX5.out _ _)⟩
end
end Go.Proofs.YtpgdiceeimehiaaGreat
