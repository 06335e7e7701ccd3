/- Part 28 of the proof that spotop.TopOrder returns true for all arguments and leaves what was there as it was. -/
import Derived.Deep.RegionHeld3
import Derived.Test.YtpgdiceeimehiaaGreatQ02
import Derived.Test.YtpgdiceeimehiaaGreatQ27
set_option maxRecDepth 100000
set_option maxHeartbeats 16000000
open Go.Lib (hid)
namespace Go.Proofs.YtpgdiceeimehiaaGreat
open Go.RowKit
open Ac (wrs OpD opV opO op_cells Vl Wr resV resZ zeroVl res_cells res_kept nT one_new two_new lays_any done_any fails_any CT)
section
variable {w w':World} {c:Cn} {K:Cor.Q} {κ:Nat→Nat} {m:Cor.St} {b:Ac.B} {s:Ac.St}
open Opn (SgOk Made kn need_new)
open Pl (natI objJ object_ok)
theorem grant_row {w:World} {X:Nat} {a b d:Value} (h:w.heap[X]?=some (.cells #[a,b,d] 191 (0,0))):w.cell? ⟨X,0,none⟩=some a∧w.cell? ⟨X,1,none⟩=some b∧w.cell? ⟨X,2,none⟩=some d:=by
 refine ⟨?_,?_,?_⟩ <;> (rw [cell_of_row w _ _ _ _ _ h];rfl)
theorem cell3 {w:World} {X B i:Nat} (h:B≠X) (a b d:Value):(((w.setCell ⟨X,0,none⟩ a).setCell ⟨X,1,none⟩ b).setCell ⟨X,2,none⟩ d).cell? ⟨B,i,none⟩=w.cell? ⟨B,i,none⟩ :=
 World.cell?_of_block (w:=w) (by simp [World.setCell,Array.getElem?_modify,Ne.symm h])
theorem natI_rng {xs:List Nat} (h:∀ x∈xs,(x:Int)<1000000):∀ x∈natI xs,-9223372036854775808≤x∧x≤9223372036854775807:=fun x hx=>by
 simp only [natI,List.mem_map] at hx
 obtain ⟨y,hy,rfl⟩:=hx
 have:=h y hy
 simp
 omega
def col (s:Ac.St):Bool:=s.sense != (s.status == 1 || s.status == 2)
theorem asks_wait (o:OpD) (kd:Nat) (sh0:Sh) (n:Nat) (w:World) (h:Sys w c K κ m b s) (hk:o.kind=1) (hs:∀ x∈kn o.kind,SgOk c o x) (hm:Made c K.csh o kd sh0) (hz:sizeI false sh0.bs.length 0=(n:Int)) (hb0:b.t=0) (hns:0<K.q.ns) (hn1:1≤n) (hsx:m.s.sx.length<n) (hen:m.s.en=[]) (hll:m.s.fr.length=m.s.l.length) (hfit:¬ n≤Po.cnt m.s.fr) (hn2:n≤1024) :
  Calls Tryz.prog 181 #[.pointer (some ⟨b.ab,0,none⟩),.pointer (some ⟨K.kb,0,none⟩),opV o] w fun r w'=>r=.returned (.tuple #[resV 0 0 0 zeroVl,.bool false])∧∃ κ',Ext CT w κ w' κ'∧∃ lv',Sys w' c K κ' { m with s:={ m.s with lv:=lv',en:=[⟨0,n,0,0,0,-1,.slice none 0 0,[],false⟩] } } b { s with phase:=3,pc:=5 }:=by
 obtain ⟨hp,-,hv,hrz⟩:=two_new w #[.int .i64 (o.kind:Int),.int .i64 o.a,.int .i64 o.b,.int .i64 o.c,.int .i64 o.n,.complex .f64 o.x o.y] #[.int .i64 0,.int .i64 0,.int .i64 0,.bool false,.complex .f64 0 0] 32 46
 have H1:=hid (h.pure9 hp)
 have HR:=hid hrz
 have HV:=hid hv
 have HY1:Hid (paint w.heap.size κ 9 w.heap.size=9):=hid (paint_new (by omega))
 have HX1:Hid (paint w.heap.size κ 9 (w.heap.size+1)=9):=hid (paint_new (by omega))
 have HLE:Hid (w.heap.size≤w.heap.size+1):=hid (by omega)
 have HH:=hid (And.intro hen (And.intro hll (And.intro hb0 (And.intro hsx hns))))
 have HK:=hid hk
 have HSG:=hid hs
 have HM:=hid hm
 have HZZ:=hid hz
 have HFIT:=hid hfit
 clear hp hrz h hv hk hs hm hz hb0 hns hsx hen hll hfit
 go_enter Tryz.func181,Tryz.ntmps181
 go_wp2_with fail
 generalize (w.alloc (opO o)).alloc resZ=W at *
 generalize paint w.heap.size κ 9=κ1 at *
 generalize w.heap.size+1=X at *
 obtain ⟨E1,S1⟩:=H1.out
 have HE1:=hid E1
 have HS1:=hid S1
 clear E1 S1 H1
 obtain ⟨Av,cv,hcv⟩:∃ A cc,K.cv=.slice A K.csh.length cc:=by
  obtain ⟨⟨A,cc,h,_⟩,_⟩:=HS1.out.cor.conf
  exact ⟨A,cc,h⟩
 have HCV:=hid hcv
 refine region_class (fun w'=>Pure W w') ((Only.refl _ W).drewN 1) (by kernel_rfl) (by kernel_rfl) ?_
 intro S f _ hf hmk
 have k0:=fun s=>((HS1.out.pure (hf s)).cor.qc).1
 have k1:=fun s=>((HS1.out.pure (hf s)).cor.qc).2.1
 have k2:=fun s=>((HS1.out.pure (hf s)).cor.qc).2.2.1
 have k3:=fun s=>((HS1.out.pure (hf s)).cor.qc).2.2.2.1
 have k4:=fun s=>((HS1.out.pure (hf s)).cor.qc).2.2.2.2.1
 have k5:=fun s=>((HS1.out.pure (hf s)).cor.qc).2.2.2.2.2.1
 have k6:=fun s=>((HS1.out.pure (hf s)).cor.qc).2.2.2.2.2.2.1
 have k7:=fun s=>((HS1.out.pure (hf s)).cor.qc).2.2.2.2.2.2.2.1
 have k8:=fun s=>((HS1.out.pure (hf s)).cor.qc).2.2.2.2.2.2.2.2
 rw [hcv] at k8
 have o0:=fun s=>(op_cells ((hf s).blk HV.out)).1
 have o1:=fun s=>(op_cells ((hf s).blk HV.out)).2.1
 have o2:=fun s=>(op_cells ((hf s).blk HV.out)).2.2.1
 have o3:=fun s=>(op_cells ((hf s).blk HV.out)).2.2.2.1
 have o4:=fun s=>(op_cells ((hf s).blk HV.out)).2.2.2.2.1
 have o5:=fun s=>(op_cells ((hf s).blk HV.out)).2.2.2.2.2
 have HF:=hid hf
 have HMK:=hid hmk
 clear hf hmk hcv
 repeat (go_big_quiet_step ((go_at_call 247;exact class_call HMK.out (HF.out _) (fun w' hD k=>hD.then k) (HCV.out ▸ need_new c _ K.csh o kd sh0 n 0 _ (HS1.out.pure (HF.out _)).cor.conf HS1.out.cor.ok HK.out HSG.out HM.out HZZ.out (by simp [spineI])))))
 refine wpQuiet_nil ?_
 rintro w2 ⟨q,rfl⟩
 have HS2:=hid (HS1.out.pure (HF.out q))
 have HE2:Hid (Ext CT w κ (f q) κ1):=hid (HE1.out.trans (Ext.pure (HF.out q)))
 have HR2:=hid (Pure.blk (HF.out q) HR.out)
 have HV2:=hid (Pure.blk (HF.out q) HV.out)
 clear k0 k1 k2 k3 k4 k5 k6 k7 k8 o0 o1 o2 o3 o4 o5 HF HMK HS1 HE1 HR HV
 generalize f q=w2 at *
 go_wp2_with fail
 have c0:=HS2.out.act.p0
 rw [HH.out.2.2.1] at c0
 have c5:=HS2.out.act.p5
 have q11:=HS2.out.cor.q11
 obtain ⟨bb,hbb⟩:∃ bb,(s.status == 1 || s.status == 2)=bb:=⟨_,rfl⟩
 have HBB:=hid hbb
 clear hbb
 have HPD:Hid (Pure w2 w2.drew):=hid ((Only.refl (fun _=>False) w2).drewN 1)
 have HPA:Hid (Pure w2 (w2.drew.alloc (.cells #[.int .i64 0,.slice none 0 0,.int .i64 0] 191))):=hid (HPD.out.alloc _)
 have HGA:Hid ((w2.drew.alloc (.cells #[.int .i64 0,.slice none 0 0,.int .i64 0] 191)).heap[w2.heap.size]?=some (.cells #[.int .i64 0,.slice none 0 0,.int .i64 0] 191 (0,0))):=hid (heap_alloc_new w2.drew _)
 have hlt2:w.heap.size<w2.heap.size:=(Array.getElem?_eq_some_iff.1 HV2.out).1
 have HLT2:=hid hlt2
 clear hlt2
 have hlb:=HS2.out.act.lb
 have hlk:=HS2.out.cor.lkb
 have hn1':=Nat.ne_of_lt HS2.out.act.lb
 have hn2':=Nat.ne_of_lt HS2.out.cor.lkb
 go_region_held3 (fun w'=>w'.cell? ⟨K.kb,11,none⟩=some (.pointer (some ⟨K.q.sp,0,none⟩))∧w'.cell? ⟨b.ab,0,none⟩=some (.int .i64 0)∧w'.cell? ⟨b.ab,5,none⟩=some (.bool s.sense)) (first | go_keep | exact ⟨(cell3 hn2' _ _ _).trans t0,(cell3 hn1' _ _ _).trans t1,(cell3 hn1' _ _ _).trans t2⟩ | exact ⟨(cell3 t6 _ _ _).trans ((World.cell?_of_block (Below.heap_alloc _ _ _ t4)).trans t0),(cell3 t5 _ _ _).trans ((World.cell?_of_block (Below.heap_alloc _ _ _ t3)).trans t1),(cell3 t5 _ _ _).trans ((World.cell?_of_block (Below.heap_alloc _ _ _ t3)).trans t2)⟩) (first | (go_at_call 249;first | (refine (Ac.both_any w2.drew HS2.out.drew.act bb HBB.out.symm).mono ?_;rintro r wq ⟨rfl,rfl⟩) | (refine (Ac.both_any (w2.drew.alloc (.cells #[.int .i64 0,.slice none 0 0,.int .i64 0] 191)) (HS2.out.pure HPA.out).act bb HBB.out.symm).mono ?_;rintro r wq ⟨rfl,rfl⟩)) | (go_at_call 248;first | (refine (Cor.ask_wait n (!(s.sense == bb)) w2.drew (HS2.out.pure9 HPD.out).2.cor HH.out.2.2.2.2 hn1 hn2 HH.out.2.2.2.1 HH.out.1 HFIT.out).mono ?_;rintro r w3 ⟨rfl,lv3,κ3,he3,hc3⟩;obtain ⟨e3,S3⟩:=(HS2.out.pure9 HPD.out).2.cored he3 hc3;have t0:=S3.cor.q11;have t1:=S3.act.p0;rw [HH.out.2.2.1] at t1;have t2:=S3.act.p5;have t3:=S3.act.lb;have t4:=S3.cor.lkb;have t5:=Nat.ne_of_lt S3.act.lb;have t6:=Nat.ne_of_lt S3.cor.lkb;have HA:=hid (And.intro ((HS2.out.pure9 HPD.out).1.trans e3) S3);have HX:=hid (show κ3 w2.heap.size=9∨True from .inr trivial);clear e3 S3;clear he3 hc3) | (refine (Cor.ask_wait n (!(s.sense == bb)) (w2.drew.alloc (.cells #[.int .i64 0,.slice none 0 0,.int .i64 0] 191)) (HS2.out.pure9 HPA.out).2.cor HH.out.2.2.2.2 hn1 hn2 HH.out.2.2.2.1 HH.out.1 HFIT.out).mono ?_;rintro r w3 ⟨rfl,lv3,κ3,he3,hc3⟩;have hg3:=he3.blk HGA.out (by rw [paint_new (Nat.le_refl _)];unfold Cor.C5;omega);have hx3:=(he3.col (X:=w2.heap.size) (by simp)).trans (paint_new (Nat.le_refl _));have HG3:=hid (And.intro hg3 hx3);obtain ⟨gz0,gz1,gz2⟩:=grant_row hg3;have gf:=fun k=>frozen_of_row w3 w2.heap.size k _ _ hg3;obtain ⟨e3,S3⟩:=(HS2.out.pure9 HPA.out).2.cored he3 hc3;have t0:=S3.cor.q11;have t1:=S3.act.p0;rw [HH.out.2.2.1] at t1;have t2:=S3.act.p5;have t3:=S3.act.lb;have t4:=S3.cor.lkb;have t5:=Nat.ne_of_lt S3.act.lb;have t6:=Nat.ne_of_lt S3.cor.lkb;have HA:=hid (And.intro ((HS2.out.pure9 HPA.out).1.trans e3) S3);have HX:=hid (show κ3 w2.heap.size=9∨True from .inr trivial);clear e3 S3;clear he3 hc3 hg3 hx3)))
 ·obtain ⟨hp4,-,hg4⟩:=one_new w3 #[.int .i64 0,.slice none 0 0,.int .i64 (-1)] 191
  have HS4:=hid (HA.out.2.pure hp4)
  have HE4:=hid ((HE2.out.trans HA.out.1).trans (Ext.pure hp4))
  obtain ⟨hr3,hx3⟩:=res_kept HA.out.1 HX1.out nT HR2.out
  have HR4:=hid (Pure.blk hp4 hr3)
  have HX4:=hid hx3
  have HV4:=hid (Pure.blk hp4 (HA.out.1.blk HV2.out (by rw [HY1.out];exact nT)))
  have HG4:=hid hg4
  clear hp4 hg4 hr3 hx3 t0 t1 t2 t3 t4 t5 t6 c0 c5 q11 hlb hlk hn1' hn2' HA HX
  generalize w3.alloc (.cells #[.int .i64 0,.slice none 0 0,.int .i64 (-1)] 191)=w4 at *
  generalize w3.heap.size=X4 at *
  obtain ⟨g0,-,-⟩:=grant_row HG4.out
  have c3:=HS4.out.act.p3
  have c7:=HS4.out.act.p7
  have fb:=HS4.out.act.fb
  have h5:=(HS4.out.act.put 3 (.int .i64 3) { s with phase:=3 } rfl rfl ⟨rfl,rfl,rfl,rfl,rfl,rfl⟩).put 7 (.int .i64 5) { s with phase:=3,pc:=5 } rfl rfl ⟨rfl,rfl,rfl,rfl,rfl,rfl⟩
  obtain ⟨e5,S5⟩:=HS4.out.acted (Ac.ext_me HS4.out.act.k6 (Ac.Only.me (Ac.Only.me (Only.refl _ w4) _ _) _ _)) h5
  have HS5:=hid S5
  have HE5:=hid (HE4.out.trans e5)
  obtain ⟨hr2,hx2⟩:=res_kept e5 HX4.out nT HR4.out
  have HR5:=hid hr2
  have HX5:=hid hx2
  clear h5 e5 S5 hr2 hx2
  go_upto_region 7 with fail
  generalize (w4.setCell ⟨b.ab,3,none⟩ (.int .i64 3)).setCell ⟨b.ab,7,none⟩ (.int .i64 5)=w5 at *
  clear g0 c3 c7 fb
  obtain ⟨z0,z1,z2,z3,z4⟩:=res_cells HR5.out
  have f1:=fun k=>frozen_of_row w5 X k _ _ HR5.out
  go_wp2_with fail
  refine bodyPost_ret (v:=.tuple #[.agg #[.int .i64 0,.int .i64 0,.int .i64 0,.bool false,.complex .f64 0 0],.bool false]) (by simp [results,Tryz.results181,go_sem,z0,z1,z2,z3,z4]) rfl ⟨rfl,_,(((((HE5.out.new HLE.out _ _).new HLE.out _ _).new HLE.out _ _).new HLE.out _ _).new HLE.out _ _),_,(((((HS5.out.cell9 HX5.out _ _).cell9 HX5.out _ _).cell9 HX5.out _ _).cell9 HX5.out _ _).cell9 HX5.out _ _)⟩
 all_goals
  have hg4:(((w3.setCell ⟨w2.heap.size,0,none⟩ (.int .i64 0)).setCell ⟨w2.heap.size,1,none⟩ (.slice none 0 0)).setCell ⟨w2.heap.size,2,none⟩ (.int .i64 (-1))).heap[w2.heap.size]?=some (.cells #[.int .i64 0,.slice none 0 0,.int .i64 (-1)] 191 (0,0)):=by
   have:=set_me (i:=2) (u:=(.int .i64 (-1))) (set_me (i:=1) (u:=(.slice none 0 0)) (set_me (i:=0) (u:=(.int .i64 0)) (HG3.out.1)))
   simpa using this
  have HS4:=hid (((HA.out.2.cell9 HG3.out.2 0 (.int .i64 0)).cell9 HG3.out.2 1 (.slice none 0 0)).cell9 HG3.out.2 2 (.int .i64 (-1)))
  have HE4:=hid ((((HE2.out.trans HA.out.1).new (by have:=HE2.out.only.size;omega) 0 (.int .i64 0)).new (by have:=HE2.out.only.size;omega) 1 (.slice none 0 0)).new (by have:=HE2.out.only.size;omega) 2 (.int .i64 (-1)))
  obtain ⟨hr3,hx3⟩:=res_kept HA.out.1 HX1.out nT HR2.out
  have hv3:=HA.out.1.blk HV2.out (by rw [HY1.out];exact nT)
  have hxx:X≠w2.heap.size:=by have:=(Array.getElem?_eq_some_iff.1 HR2.out).1;omega
  have hvx:w.heap.size≠w2.heap.size:=by have:=HLT2.out;omega
  have HR4:=hid (set_other (i:=2) (u:=(.int .i64 (-1))) (set_other (i:=1) (u:=(.slice none 0 0)) (set_other (i:=0) (u:=(.int .i64 0)) (hr3) hxx) hxx) hxx)
  have HX4:=hid hx3
  have HV4:=hid (set_other (i:=2) (u:=(.int .i64 (-1))) (set_other (i:=1) (u:=(.slice none 0 0)) (set_other (i:=0) (u:=(.int .i64 0)) (hv3) hvx) hvx) hvx)
  have HG4:=hid hg4
  clear hg4 hr3 hx3 hv3 hxx hvx t0 t1 t2 t3 t4 t5 t6 c0 c5 q11 hlb hlk hn1' hn2' HA HX HG3 gz0 gz1 gz2 gf
  generalize (((w3.setCell ⟨w2.heap.size,0,none⟩ (.int .i64 0)).setCell ⟨w2.heap.size,1,none⟩ (.slice none 0 0)).setCell ⟨w2.heap.size,2,none⟩ (.int .i64 (-1)))=w4 at *
  generalize w2.heap.size=X4 at *
  obtain ⟨g0,-,-⟩:=grant_row HG4.out
  have c3:=HS4.out.act.p3
  have c7:=HS4.out.act.p7
  have fb:=HS4.out.act.fb
  have h5:=(HS4.out.act.put 3 (.int .i64 3) { s with phase:=3 } rfl rfl ⟨rfl,rfl,rfl,rfl,rfl,rfl⟩).put 7 (.int .i64 5) { s with phase:=3,pc:=5 } rfl rfl ⟨rfl,rfl,rfl,rfl,rfl,rfl⟩
  obtain ⟨e5,S5⟩:=HS4.out.acted (Ac.ext_me HS4.out.act.k6 (Ac.Only.me (Ac.Only.me (Only.refl _ w4) _ _) _ _)) h5
  have HS5:=hid S5
  have HE5:=hid (HE4.out.trans e5)
  obtain ⟨hr2,hx2⟩:=res_kept e5 HX4.out nT HR4.out
  have HR5:=hid hr2
  have HX5:=hid hx2
  clear h5 e5 S5 hr2 hx2
  go_upto_region 7 with fail
  generalize (w4.setCell ⟨b.ab,3,none⟩ (.int .i64 3)).setCell ⟨b.ab,7,none⟩ (.int .i64 5)=w5 at *
  clear g0 c3 c7 fb
  obtain ⟨z0,z1,z2,z3,z4⟩:=res_cells HR5.out
  have f1:=fun k=>frozen_of_row w5 X k _ _ HR5.out
  go_wp2_with fail
  refine bodyPost_ret (v:=.tuple #[.agg #[.int .i64 0,.int .i64 0,.int .i64 0,.bool false,.complex .f64 0 0],.bool false]) (by simp [results,Tryz.results181,go_sem,z0,z1,z2,z3,z4]) rfl ⟨rfl,_,(((((HE5.out.new HLE.out _ _).new HLE.out _ _).new HLE.out _ _).new HLE.out _ _).new HLE.out _ _),_,(((((HS5.out.cell9 HX5.out _ _).cell9 HX5.out _ _).cell9 HX5.out _ _).cell9 HX5.out _ _).cell9 HX5.out _ _)⟩
theorem asks_got (o:OpD) (kd:Nat) (sh0:Sh) (n:Nat) (w:World) (h:Sys w c K κ m b s) (hk:o.kind=1) (hs:∀ x∈kn o.kind,SgOk c o x) (hm:Made c K.csh o kd sh0) (hz:sizeI false sh0.bs.length 0=(n:Int)) (hb0:b.t=0) (hns:0<K.q.ns) (hn1:1≤n) (hsx:m.s.sx.length<n) (hen:m.s.en=[]) (hll:m.s.fr.length=m.s.l.length) (hfit:n≤Po.cnt m.s.fr) (xs:List Nat) (hxs:Po.take m.s.fr n=xs) (sd:Bool) (ho:ObjOk c K.csh kd sh0.bs xs sd) :
  Calls Tryz.prog 181 #[.pointer (some ⟨b.ab,0,none⟩),.pointer (some ⟨K.kb,0,none⟩),opV o] w fun r w'=>r=.returned (.tuple #[resV 0 0 0 zeroVl,.bool false])∧∃ κ',Ext CT w κ w' κ'∧∃ sv' wv' tv',Sys w' c K κ' { m with s:={ m.s with l:=Sp.setAll (Sp.setAll m.s.l xs 2 (col s)) (Po.low (Po.off m.s.fr xs) (c.cache.toNat-m.s.sx.length)) 1 (col s),fr:=Po.off (Po.off m.s.fr xs) (Po.low (Po.off m.s.fr xs) (c.cache.toNat-m.s.sx.length)),sv:=sv',sx:=m.s.sx++Po.natI (Po.low (Po.off m.s.fr xs) (c.cache.toNat-m.s.sx.length)) } } b { s with phase:=2,at_:=7,wv:=wv',writes:=objJ kd sd xs sh0.bs xs.length,tv:=tv',got:=natI xs }:=by
 obtain ⟨hp,-,hv,hrz⟩:=two_new w #[.int .i64 (o.kind:Int),.int .i64 o.a,.int .i64 o.b,.int .i64 o.c,.int .i64 o.n,.complex .f64 o.x o.y] #[.int .i64 0,.int .i64 0,.int .i64 0,.bool false,.complex .f64 0 0] 32 46
 have H1:=hid (h.pure9 hp)
 have HR:=hid hrz
 have HV:=hid hv
 have HY1:Hid (paint w.heap.size κ 9 w.heap.size=9):=hid (paint_new (by omega))
 have HX1:Hid (paint w.heap.size κ 9 (w.heap.size+1)=9):=hid (paint_new (by omega))
 have HLE:Hid (w.heap.size≤w.heap.size+1):=hid (by omega)
 have HH:=hid (And.intro hen (And.intro hll (And.intro hb0 (And.intro hsx hns))))
 have HK:=hid hk
 have HSG:=hid hs
 have HM:=hid hm
 have HZZ:=hid hz
 have HFIT:=hid hfit
 have HXS:=hid hxs
 have HO:=hid ho
 clear hp hrz h hv hk hs hm hz hb0 hns hsx hen hll hfit hxs ho
 go_enter Tryz.func181,Tryz.ntmps181
 go_wp2_with fail
 generalize (w.alloc (opO o)).alloc resZ=W at *
 generalize paint w.heap.size κ 9=κ1 at *
 generalize w.heap.size+1=X at *
 obtain ⟨E1,S1⟩:=H1.out
 have HE1:=hid E1
 have HS1:=hid S1
 clear E1 S1 H1
 obtain ⟨Av,cv,hcv⟩:∃ A cc,K.cv=.slice A K.csh.length cc:=by
  obtain ⟨⟨A,cc,h,_⟩,_⟩:=HS1.out.cor.conf
  exact ⟨A,cc,h⟩
 have HCV:=hid hcv
 refine region_class (fun w'=>Pure W w') ((Only.refl _ W).drewN 1) (by kernel_rfl) (by kernel_rfl) ?_
 intro S f _ hf hmk
 have k0:=fun s=>((HS1.out.pure (hf s)).cor.qc).1
 have k1:=fun s=>((HS1.out.pure (hf s)).cor.qc).2.1
 have k2:=fun s=>((HS1.out.pure (hf s)).cor.qc).2.2.1
 have k3:=fun s=>((HS1.out.pure (hf s)).cor.qc).2.2.2.1
 have k4:=fun s=>((HS1.out.pure (hf s)).cor.qc).2.2.2.2.1
 have k5:=fun s=>((HS1.out.pure (hf s)).cor.qc).2.2.2.2.2.1
 have k6:=fun s=>((HS1.out.pure (hf s)).cor.qc).2.2.2.2.2.2.1
 have k7:=fun s=>((HS1.out.pure (hf s)).cor.qc).2.2.2.2.2.2.2.1
 have k8:=fun s=>((HS1.out.pure (hf s)).cor.qc).2.2.2.2.2.2.2.2
 rw [hcv] at k8
 have o0:=fun s=>(op_cells ((hf s).blk HV.out)).1
 have o1:=fun s=>(op_cells ((hf s).blk HV.out)).2.1
 have o2:=fun s=>(op_cells ((hf s).blk HV.out)).2.2.1
 have o3:=fun s=>(op_cells ((hf s).blk HV.out)).2.2.2.1
 have o4:=fun s=>(op_cells ((hf s).blk HV.out)).2.2.2.2.1
 have o5:=fun s=>(op_cells ((hf s).blk HV.out)).2.2.2.2.2
 have HF:=hid hf
 have HMK:=hid hmk
 clear hf hmk hcv
 repeat (go_big_quiet_step ((go_at_call 247;exact class_call HMK.out (HF.out _) (fun w' hD k=>hD.then k) (HCV.out ▸ need_new c _ K.csh o kd sh0 n 0 _ (HS1.out.pure (HF.out _)).cor.conf HS1.out.cor.ok HK.out HSG.out HM.out HZZ.out (by simp [spineI])))))
 refine wpQuiet_nil ?_
 rintro w2 ⟨q,rfl⟩
 have HS2:=hid (HS1.out.pure (HF.out q))
 have HE2:Hid (Ext CT w κ (f q) κ1):=hid (HE1.out.trans (Ext.pure (HF.out q)))
 have HR2:=hid (Pure.blk (HF.out q) HR.out)
 have HV2:=hid (Pure.blk (HF.out q) HV.out)
 clear k0 k1 k2 k3 k4 k5 k6 k7 k8 o0 o1 o2 o3 o4 o5 HF HMK HS1 HE1 HR HV
 generalize f q=w2 at *
 go_wp2_with fail
 have c0:=HS2.out.act.p0
 rw [HH.out.2.2.1] at c0
 have c5:=HS2.out.act.p5
 have q11:=HS2.out.cor.q11
 obtain ⟨bb,hbb⟩:∃ bb,(s.status == 1 || s.status == 2)=bb:=⟨_,rfl⟩
 have HBB:=hid hbb
 clear hbb
 have HPD:Hid (Pure w2 w2.drew):=hid ((Only.refl (fun _=>False) w2).drewN 1)
 have HPA:Hid (Pure w2 (w2.drew.alloc (.cells #[.int .i64 0,.slice none 0 0,.int .i64 0] 191))):=hid (HPD.out.alloc _)
 have HGA:Hid ((w2.drew.alloc (.cells #[.int .i64 0,.slice none 0 0,.int .i64 0] 191)).heap[w2.heap.size]?=some (.cells #[.int .i64 0,.slice none 0 0,.int .i64 0] 191 (0,0))):=hid (heap_alloc_new w2.drew _)
 have hlt2:w.heap.size<w2.heap.size:=(Array.getElem?_eq_some_iff.1 HV2.out).1
 have HLT2:=hid hlt2
 have HOL:Hid (∀ x∈xs,(x:Int)<1000000):=hid (fun x hx=>by have:=HO.out.lt x hx;have:=check_bd HS2.out.cor.ok;omega)
 clear hlt2
 have hlb:=HS2.out.act.lb
 have hlk:=HS2.out.cor.lkb
 have hn1':=Nat.ne_of_lt HS2.out.act.lb
 have hn2':=Nat.ne_of_lt HS2.out.cor.lkb
 go_region_held3 (fun w'=>w'.cell? ⟨K.kb,11,none⟩=some (.pointer (some ⟨K.q.sp,0,none⟩))∧w'.cell? ⟨b.ab,0,none⟩=some (.int .i64 0)∧w'.cell? ⟨b.ab,5,none⟩=some (.bool s.sense)) (first | go_keep | exact ⟨(cell3 hn2' _ _ _).trans t0,(cell3 hn1' _ _ _).trans t1,(cell3 hn1' _ _ _).trans t2⟩ | exact ⟨(cell3 t6 _ _ _).trans ((World.cell?_of_block (Below.heap_alloc _ _ _ t4)).trans t0),(cell3 t5 _ _ _).trans ((World.cell?_of_block (Below.heap_alloc _ _ _ t3)).trans t1),(cell3 t5 _ _ _).trans ((World.cell?_of_block (Below.heap_alloc _ _ _ t3)).trans t2)⟩) (first | (go_at_call 249;first | (refine (Ac.both_any w2.drew HS2.out.drew.act bb HBB.out.symm).mono ?_;rintro r wq ⟨rfl,rfl⟩) | (refine (Ac.both_any (w2.drew.alloc (.cells #[.int .i64 0,.slice none 0 0,.int .i64 0] 191)) (HS2.out.pure HPA.out).act bb HBB.out.symm).mono ?_;rintro r wq ⟨rfl,rfl⟩)) | (go_at_call 248;first | (have hak:=Cor.ask_yes n (!(s.sense == bb)) w2.drew (HS2.out.pure9 HPD.out).2.cor HH.out.2.2.2.2 hn1 HH.out.2.2.2.1 HH.out.1 HFIT.out HH.out.2.1;rw [HXS.out] at hak;refine hak.mono ?_;clear hak;rintro r w3 ⟨v3,sv3,κ3,rfl,he3,hc3,hown3,h83⟩;obtain ⟨A3,c3',rfl⟩:=own_form hown3;have HOWN3:=hid hown3;have H83:=hid h83;clear hown3 h83;obtain ⟨e3,S3⟩:=(HS2.out.pure9 HPD.out).2.cored he3 hc3;have t0:=S3.cor.q11;have t1:=S3.act.p0;rw [HH.out.2.2.1] at t1;have t2:=S3.act.p5;have t3:=S3.act.lb;have t4:=S3.cor.lkb;have t5:=Nat.ne_of_lt S3.act.lb;have t6:=Nat.ne_of_lt S3.cor.lkb;have HA:=hid (And.intro ((HS2.out.pure9 HPD.out).1.trans e3) S3);have HX:=hid (show κ3 w2.heap.size=9∨True from .inr trivial);clear e3 S3;clear he3 hc3) | (have hak:=Cor.ask_yes n (!(s.sense == bb)) (w2.drew.alloc (.cells #[.int .i64 0,.slice none 0 0,.int .i64 0] 191)) (HS2.out.pure9 HPA.out).2.cor HH.out.2.2.2.2 hn1 HH.out.2.2.2.1 HH.out.1 HFIT.out HH.out.2.1;rw [HXS.out] at hak;refine hak.mono ?_;clear hak;rintro r w3 ⟨v3,sv3,κ3,rfl,he3,hc3,hown3,h83⟩;obtain ⟨A3,c3',rfl⟩:=own_form hown3;have HOWN3:=hid hown3;have H83:=hid h83;clear hown3 h83;have hg3:=he3.blk HGA.out (by rw [paint_new (Nat.le_refl _)];unfold Cor.C5;omega);have hx3:=(he3.col (X:=w2.heap.size) (by simp)).trans (paint_new (Nat.le_refl _));have HG3:=hid (And.intro hg3 hx3);obtain ⟨gz0,gz1,gz2⟩:=grant_row hg3;have gf:=fun k=>frozen_of_row w3 w2.heap.size k _ _ hg3;obtain ⟨e3,S3⟩:=(HS2.out.pure9 HPA.out).2.cored he3 hc3;have t0:=S3.cor.q11;have t1:=S3.act.p0;rw [HH.out.2.2.1] at t1;have t2:=S3.act.p5;have t3:=S3.act.lb;have t4:=S3.cor.lkb;have t5:=Nat.ne_of_lt S3.act.lb;have t6:=Nat.ne_of_lt S3.cor.lkb;have HA:=hid (And.intro ((HS2.out.pure9 HPA.out).1.trans e3) S3);have HX:=hid (show κ3 w2.heap.size=9∨True from .inr trivial);clear e3 S3;clear he3 hc3 hg3 hx3)))
 ·obtain ⟨hp4,-,hg4⟩:=one_new w3 #[.int .i64 1,.slice A3 xs.length c3',.int .i64 (-1)] 191
  have HS4:=hid (HA.out.2.pure hp4)
  have HE4:=hid ((HE2.out.trans HA.out.1).trans (Ext.pure hp4))
  obtain ⟨hr3,hx3⟩:=res_kept HA.out.1 HX1.out nT HR2.out
  have HR4:=hid (Pure.blk hp4 hr3)
  have HX4:=hid hx3
  have HV4:=hid (Pure.blk hp4 (HA.out.1.blk HV2.out (by rw [HY1.out];exact nT)))
  have HG4:=hid hg4
  have HY4:=hid (((HA.out.1.col (Array.getElem?_eq_some_iff.1 HV2.out).1)).trans HY1.out)
  have HSL4:=hid ((SlI.of_own HOWN3.out (natI_rng HOL.out)).only hp4 (fun _ _ f=>f))
  have HSL8:Hid (∀ k,(Value.slice A3 xs.length c3').ownBlock=some k→κ3 k=8∧k<(w3.alloc (.cells #[.int .i64 1,.slice A3 xs.length c3',.int .i64 (-1)] 191)).heap.size):=hid (fun k hk=>⟨H83.out k hk,by have:=(HOWN3.out.lt k hk).2;simp;omega⟩)
  clear hp4 hg4 hr3 hx3 t0 t1 t2 t3 t4 t5 t6 c0 c5 q11 hlb hlk hn1' hn2' HA HX
  generalize w3.alloc (.cells #[.int .i64 1,.slice A3 xs.length c3',.int .i64 (-1)] 191)=w4 at *
  generalize w3.heap.size=X4 at *
  obtain ⟨g0,g1,g2⟩:=grant_row HG4.out
  obtain ⟨o0,o1,o2,o3,o4,o5⟩:=op_cells HV4.out
  have hsl:SlI w4 w4.heap.size (.slice A3 xs.length c3') (natI xs):=HSL4.out
  go_wp2_with fail
  refine (takes_new o kd sh0.bs xs sd A3 c3' (-1) w4 HS4.out HK.out HM.out.b HO.out hsl HSL8.out).mono ?_
  rintro r w5 ⟨rfl,κ5,e5,wv5,S5⟩
  have HS5:=hid S5
  have HE5:=hid (HE4.out.trans e5)
  obtain ⟨hr2,hx2⟩:=res_kept e5 HX4.out nT HR4.out
  have HR5:=hid hr2
  have HX5:=hid hx2
  have hv2:=(e5).blk HV4.out (by rw [HY4.out];exact nT)
  have hy2:=((e5).col (Array.getElem?_eq_some_iff.1 HV4.out).1).trans HY4.out
  have HV5:=hid hv2
  have HY5:=hid hy2
  clear e5 S5 hr2 hx2 hv2 hy2 g0 g1 g2 o0 o1 o2 o3 o4 o5 hsl
  obtain ⟨z0,z1,z2,z3,z4⟩:=res_cells HR5.out
  have f1:=fun k=>frozen_of_row w5 X k _ _ HR5.out
  go_wp2_with fail
  have hbb:=HBB.out
  subst hbb
  refine bodyPost_ret (v:=.tuple #[.agg #[.int .i64 0,.int .i64 0,.int .i64 0,.bool false,.complex .f64 0 0],.bool false]) (by simp [results,Tryz.results181,go_sem,z0,z1,z2,z3,z4]) rfl ⟨rfl,_,(((((HE5.out.new HLE.out _ _).new HLE.out _ _).new HLE.out _ _).new HLE.out _ _).new HLE.out _ _),_,_,_,(((((HS5.out.cell9 HX5.out _ _).cell9 HX5.out _ _).cell9 HX5.out _ _).cell9 HX5.out _ _).cell9 HX5.out _ _)⟩
 all_goals
  have hg4:(((w3.setCell ⟨w2.heap.size,0,none⟩ (.int .i64 1)).setCell ⟨w2.heap.size,1,none⟩ (.slice A3 xs.length c3')).setCell ⟨w2.heap.size,2,none⟩ (.int .i64 (-1))).heap[w2.heap.size]?=some (.cells #[.int .i64 1,.slice A3 xs.length c3',.int .i64 (-1)] 191 (0,0)):=by
   have:=set_me (i:=2) (u:=(.int .i64 (-1))) (set_me (i:=1) (u:=(.slice A3 xs.length c3')) (set_me (i:=0) (u:=(.int .i64 1)) (HG3.out.1)))
   simpa using this
  have HS4:=hid (((HA.out.2.cell9 HG3.out.2 0 (.int .i64 1)).cell9 HG3.out.2 1 (.slice A3 xs.length c3')).cell9 HG3.out.2 2 (.int .i64 (-1)))
  have HE4:=hid ((((HE2.out.trans HA.out.1).new (by have:=HE2.out.only.size;omega) 0 (.int .i64 1)).new (by have:=HE2.out.only.size;omega) 1 (.slice A3 xs.length c3')).new (by have:=HE2.out.only.size;omega) 2 (.int .i64 (-1)))
  obtain ⟨hr3,hx3⟩:=res_kept HA.out.1 HX1.out nT HR2.out
  have hv3:=HA.out.1.blk HV2.out (by rw [HY1.out];exact nT)
  have hxx:X≠w2.heap.size:=by have:=(Array.getElem?_eq_some_iff.1 HR2.out).1;omega
  have hvx:w.heap.size≠w2.heap.size:=by have:=HLT2.out;omega
  have HR4:=hid (set_other (i:=2) (u:=(.int .i64 (-1))) (set_other (i:=1) (u:=(.slice A3 xs.length c3')) (set_other (i:=0) (u:=(.int .i64 1)) (hr3) hxx) hxx) hxx)
  have HX4:=hid hx3
  have HV4:=hid (set_other (i:=2) (u:=(.int .i64 (-1))) (set_other (i:=1) (u:=(.slice A3 xs.length c3')) (set_other (i:=0) (u:=(.int .i64 1)) (hv3) hvx) hvx) hvx)
  have HG4:=hid hg4
  have HY4:=hid (((HA.out.1.col (Array.getElem?_eq_some_iff.1 HV2.out).1)).trans HY1.out)
  have HSL4:Hid (SlI (((w3.setCell ⟨w2.heap.size,0,none⟩ (.int .i64 1)).setCell ⟨w2.heap.size,1,none⟩ (.slice A3 xs.length c3')).setCell ⟨w2.heap.size,2,none⟩ (.int .i64 (-1))) (((w3.setCell ⟨w2.heap.size,0,none⟩ (.int .i64 1)).setCell ⟨w2.heap.size,1,none⟩ (.slice A3 xs.length c3')).setCell ⟨w2.heap.size,2,none⟩ (.int .i64 (-1))).heap.size (.slice A3 xs.length c3') (natI xs)):=hid ((SlI.of_own HOWN3.out (natI_rng HOL.out)).only (((Only.refl (fun k=>k=w2.heap.size) w3).setCell (p:=⟨w2.heap.size,0,none⟩) (fun _=>rfl) (.int .i64 1) |>.setCell (p:=⟨w2.heap.size,1,none⟩) (fun _=>rfl) (.slice A3 xs.length c3')).setCell (p:=⟨w2.heap.size,2,none⟩) (fun _=>rfl) (.int .i64 (-1))) (fun k hk e=>by have h1:=H83.out k hk;rw [e,HG3.out.2] at h1;omega))
  have HSL8:Hid (∀ k,(Value.slice A3 xs.length c3').ownBlock=some k→κ3 k=8∧k<(((w3.setCell ⟨w2.heap.size,0,none⟩ (.int .i64 1)).setCell ⟨w2.heap.size,1,none⟩ (.slice A3 xs.length c3')).setCell ⟨w2.heap.size,2,none⟩ (.int .i64 (-1))).heap.size):=hid (fun k hk=>⟨H83.out k hk,by have:=(HOWN3.out.lt k hk).2;simpa [World.setCell] using this⟩)
  clear hg4 hr3 hx3 hv3 hxx hvx t0 t1 t2 t3 t4 t5 t6 c0 c5 q11 hlb hlk hn1' hn2' HA HX HG3 gz0 gz1 gz2 gf
  generalize (((w3.setCell ⟨w2.heap.size,0,none⟩ (.int .i64 1)).setCell ⟨w2.heap.size,1,none⟩ (.slice A3 xs.length c3')).setCell ⟨w2.heap.size,2,none⟩ (.int .i64 (-1)))=w4 at *
  generalize w2.heap.size=X4 at *
  obtain ⟨g0,g1,g2⟩:=grant_row HG4.out
  obtain ⟨o0,o1,o2,o3,o4,o5⟩:=op_cells HV4.out
  have hsl:SlI w4 w4.heap.size (.slice A3 xs.length c3') (natI xs):=HSL4.out
  go_wp2_with fail
  refine (takes_new o kd sh0.bs xs sd A3 c3' (-1) w4 HS4.out HK.out HM.out.b HO.out hsl HSL8.out).mono ?_
  rintro r w5 ⟨rfl,κ5,e5,wv5,S5⟩
  have HS5:=hid S5
  have HE5:=hid (HE4.out.trans e5)
  obtain ⟨hr2,hx2⟩:=res_kept e5 HX4.out nT HR4.out
  have HR5:=hid hr2
  have HX5:=hid hx2
  have hv2:=(e5).blk HV4.out (by rw [HY4.out];exact nT)
  have hy2:=((e5).col (Array.getElem?_eq_some_iff.1 HV4.out).1).trans HY4.out
  have HV5:=hid hv2
  have HY5:=hid hy2
  clear e5 S5 hr2 hx2 hv2 hy2 g0 g1 g2 o0 o1 o2 o3 o4 o5 hsl
  obtain ⟨z0,z1,z2,z3,z4⟩:=res_cells HR5.out
  have f1:=fun k=>frozen_of_row w5 X k _ _ HR5.out
  go_wp2_with fail
  have hbb:=HBB.out
  subst hbb
  refine bodyPost_ret (v:=.tuple #[.agg #[.int .i64 0,.int .i64 0,.int .i64 0,.bool false,.complex .f64 0 0],.bool false]) (by simp [results,Tryz.results181,go_sem,z0,z1,z2,z3,z4]) rfl ⟨rfl,_,(((((HE5.out.new HLE.out _ _).new HLE.out _ _).new HLE.out _ _).new HLE.out _ _).new HLE.out _ _),_,_,_,(((((HS5.out.cell9 HX5.out _ _).cell9 HX5.out _ _).cell9 HX5.out _ _).cell9 HX5.out _ _).cell9 HX5.out _ _)⟩
end
end Go.Proofs.YtpgdiceeimehiaaGreat
