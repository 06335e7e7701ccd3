/- Part 24 of the proof that spotop.TopOrder returns true for all arguments and leaves what was there as it was. -/
import Derived.StillTailTactics
import Derived.Deep.DeepCutAuto
import Derived.Deep.CutBlock
import Derived.Test.YtpgdiceeimehiaaGreatQ23
set_option maxRecDepth 100000
set_option maxHeartbeats 16000000
open Go.Lib (hid)
namespace Go.Proofs.YtpgdiceeimehiaaGreat
open Go.RowKit
open Ac (wrs OpD opV opO op_cells Vl Wr resV resZ zeroVl res_cells res_kept nT one_new two_new lays_any done_any fails_any CT)
section
variable {w w':World} {c:Cn} {K:Cor.Q} {κ:Nat→Nat} {m:Cor.St} {b:Ac.B} {s:Ac.St}
theorem bears_any (j a:Nat) (l:List Int) (q:Tab.One) (o:OpD) (w:World) (h:Sys w c K κ m b s) (hg:s.got=(j:Int) :: l) (hj:m.s.l[j]?=some q) (h2:q.st=2) (hhd:q.head=false) (hjl:j≤100000) (ha:o.a=(a:Int)) (hal:a<s.locals.length) (hph:s.phase≠4) (hnx:s.next≤100000):Calls Tryz.prog 125 #[.pointer (some ⟨b.ab,0,none⟩),.pointer (some ⟨K.kb,0,none⟩),opV o] w fun r w' =>
  r=.returned (.tuple #[resV s.next s.own 0 (true,refW j),.bool true])∧∃ κ',Ext CT w κ w' κ'∧Sys w' c K κ' { m with s:={ m.s with l:=m.s.l.set j { q with head:=true } } } b { s with next:=s.next+1,phase:=1,pc:=0,locals:=s.locals.set a (true,refW j) }:=by
 obtain ⟨hp,-,hv,hrz⟩:=two_new w #[.int .i64 (o.kind:Int),.int .i64 o.a,.int .i64 o.b,.int .i64 o.c,.int .i64 o.n,.complex .f64 o.x o.y] #[.int .i64 0,.int .i64 0,.int .i64 0,.bool false,.complex .f64 0 0] 32 46
 have H1:=hid (h.pure9 hp)
 have HR:=hid hrz
 have HV:=hid hv
 have HY1:Hid (paint w.heap.size κ 9 w.heap.size=9):=hid (paint_new (by omega))
 have HX1:Hid (paint w.heap.size κ 9 (w.heap.size+1)=9):=hid (paint_new (by omega))
 have HLE:Hid (w.heap.size≤w.heap.size+1):=hid (by omega)
 have HH:=hid (And.intro hg (And.intro hj (And.intro h2 (And.intro hhd (And.intro ha hph)))))
 clear hp hrz h hv hg hj h2 hhd ha hph
 go_enter Tryz.func125,Tryz.ntmps125
 go_wp2_with fail
 generalize (w.alloc (opO o)).alloc resZ=W at *
 generalize paint w.heap.size κ 9=κ1 at *
 generalize w.heap.size+1=X at *
 obtain ⟨E1,S1⟩:=H1.out
 have HE1:=hid E1
 have HS1:=hid S1
 clear E1 S1 H1
 obtain ⟨Ag,cg,htv,hle1,-,-,hcs⟩:=HS1.out.act.rd.got.1
 have hlen:s.got.length=l.length+1:=by rw [HH.out.1];rfl
 obtain ⟨g,off,rfl,hgl,hgc⟩:=hcs (by rw [hlen];omega)
 have g0:W.cell? ⟨g,off,none⟩=some (.int .i64 (j:Int)):=by have:=hgc 0 (by rw [hlen];omega);rw [HH.out.1] at this;exact this
 rw [hlen] at htv hle1
 have HTV:=hid htv
 have c17:=HS1.out.act.p17
 rw [htv] at c17
 have q11:=HS1.out.cor.q11
 have hg8:=HS1.out.act.rd.k8 g (.inr (.inr (.inl (by rw [htv];rfl))))
 have HG8:=hid hg8
 have HGL:=hid hgl
 clear hcs hgl hgc htv hlen hg8
 go_still_tail 11,(by kernel_rfl)
 change wpList _ _ _ _ _ W.drew
 have HS1d:=hid HS1.out.drew
 have HRd:=hid (show W.drew.heap[X]?=_ from HR.out)
 have HVd:=hid (show W.drew.heap[w.heap.size]?=_ from HV.out)
 have HE1d:Hid (Ext CT w κ W.drew κ1):=hid (HE1.out.trans (Ext.pure ((Only.refl (fun _=>False) W).drewN 1)))
 clear HR HV HS1 HE1 g0 c17 q11
 generalize W.drew=W1 at *
 go_wp2_with fail
 refine (Cor.born j q _ HS1d.out.cor HH.out.2.1 HH.out.2.2.1 HH.out.2.2.2.1).mono ?_
 rintro r w2 ⟨rfl,κ2,he2,hc2⟩
 obtain ⟨e2,S2⟩:=HS1d.out.cored he2 hc2
 have HS2:=hid S2
 have HE2:=hid (HE1d.out.trans e2)
 obtain ⟨hr2,hx2⟩:=res_kept e2 HX1.out nT HRd.out
 have HR2:=hid hr2
 have HX2:=hid hx2
 have hv2:=(e2).blk HVd.out (by rw [HY1.out];exact nT)
 have hy2:=((e2).col (Array.getElem?_eq_some_iff.1 HVd.out).1).trans HY1.out
 have HV2:=hid hv2
 have HY2:=hid hy2
 have c17:=S2.act.p17
 rw [HTV.out] at c17
 have g0:w2.cell? ⟨g,off,none⟩=some (.int .i64 (j:Int)):=by
  obtain ⟨A',c',hv',-,-,-,hcs⟩:=S2.act.rd.got.1
  rw [HTV.out] at hv'
  injection hv' with e1 e2 e3
  obtain ⟨g',off',e4,-,hgc⟩:=hcs (by rw [HH.out.1];simp)
  rw [← e1] at e4
  injection e4 with e4
  injection e4 with e4 e5
  subst e4 e5
  have:=hgc 0 (by rw [HH.out.1];simp)
  rw [HH.out.1] at this
  exact this
 obtain ⟨-,o1,-,-,-,-⟩:=op_cells HV2.out
 rw [HH.out.2.2.2.2.1] at o1
 clear he2 hc2 S2 e2 hr2 hx2 hv2 hy2
 obtain ⟨z0,z1,z2,z3,z4⟩:=res_cells HR2.out
 have f1:=fun k=>frozen_of_row w2 X k _ _ HR2.out
 simp only []
 go_wp2_with fail
 go_region_with (first | (go_at_call 153;refine (ref_w j _ (by omega)).mono ?_;rintro r w3 ⟨rfl,rfl⟩) | (go_at_call 180;refine (lays_any a (true,refW j) _ HS2.out.drew.act HH.out.2.2.2.2.2 hal hnx).mono ?_;rintro r w3 ⟨rfl,κ3,he3,ha3⟩;obtain ⟨e3,S3⟩:=HS2.out.drew.acted he3 ha3;have HE3:=hid (HE2.out.trans e3.drewl);have HS3:=hid S3;obtain ⟨hr3,hx3⟩:=res_kept e3.drewl HX2.out nT HR2.out;obtain ⟨z0,z1,z2,z3,z4⟩:=res_cells hr3;have f1:=fun k=>frozen_of_row w3 X k _ _ hr3;have HX3:=hid hx3;clear he3 ha3 e3 S3 hr3 hx3))
 all_goals
  go_wp2_with fail
  refine bodyPost_ret (v:=.tuple #[.agg #[.int .i64 (s.next:Int),.int .i64 s.own,.int .i64 0,.bool true,.complex .f64 (refW j).1 (refW j).2],.bool true]) (by simp [results,Tryz.results125,go_sem,z0,z1,z2,z3,z4]) rfl ⟨rfl,_,(((((HE3.out.new HLE.out _ _).new HLE.out _ _).new HLE.out _ _).new HLE.out _ _).new HLE.out _ _),(((((HS3.out.cell9 HX3.out _ _).cell9 HX3.out _ _).cell9 HX3.out _ _).cell9 HX3.out _ _).cell9 HX3.out _ _)⟩
end
open Go.RowKit
open Ac (wrs OpD opV opO op_cells Vl Wr resV resZ zeroVl res_cells res_kept nT one_new two_new lays_any done_any fails_any CT)
section
variable {w w':World} {c:Cn} {K:Cor.Q} {κ:Nat→Nat} {m:Cor.St} {b:Ac.B} {s:Ac.St}
def NoRef (z:Nat × Nat):Prop:=∀ w:World,Calls Tryz.prog 98 #[.complex .f64 z.1 z.2] w fun e w'=>e=.returned (.tuple #[.int .i64 0,.bool false])∧w=w'
theorem noRef_none:NoRef noneW:=index_none
theorem noRef_zero:NoRef (0,0):=index_zero
theorem looks_same (w:World) (h:Sys w c K κ m b s) (hst:m.st=s.status):Calls Tryz.prog 117 #[.pointer (some ⟨b.ab,0,none⟩),.pointer (some ⟨K.kb,0,none⟩)] w fun r w' =>
  r=.returned (.bool true)∧∃ κ',Ext CT w κ w' κ'∧Sys w' c K κ' m b s:=by
 have HS1:=hid h
 have HST:=hid hst
 have q12:=h.cor.q12
 clear h hst
 go_enter Tryz.func117,Tryz.ntmps117
 go_wp2_with fail
 refine (Cor.look w HS1.out.cor).mono ?_
 rintro r w2 ⟨rfl,he2,hc2⟩
 obtain ⟨e2,S2⟩:=HS1.out.cored he2 hc2
 have HS2:=hid S2
 have HE2:=hid e2
 have c4:=S2.act.p4
 rw [HST.out]
 clear he2 hc2 S2 e2 q12
 go_wp2_with fail
 go_ret
 exact ⟨rfl,_,HE2.out,HS2.out⟩
theorem looks_still (w:World) (h:Sys w c K κ m b s) (hst:m.st=0) (hne:s.status≠0):Calls Tryz.prog 117 #[.pointer (some ⟨b.ab,0,none⟩),.pointer (some ⟨K.kb,0,none⟩)] w fun r w' =>
  r=.returned (.bool false)∧∃ κ',Ext CT w κ w' κ'∧Sys w' c K κ' m b { s with seen:=0,gv:=.slice none 0 0,grey:=[],pc:=2 }:=by
 have HS1:=hid h
 have HST:=hid hst
 have HNE:Hid ((0 == s.status)=false):=hid (by simpa using fun e=>hne e.symm)
 have q12:=h.cor.q12
 clear h hst hne
 go_enter Tryz.func117,Tryz.ntmps117
 go_wp2_with fail
 refine (Cor.look w HS1.out.cor).mono ?_
 rintro r w2 ⟨rfl,he2,hc2⟩
 obtain ⟨e2,S2⟩:=HS1.out.cored he2 hc2
 have HS2:=hid S2
 have HE2:=hid e2
 have c4:=S2.act.p4
 have c8:=S2.act.p8
 have c9:=S2.act.p9
 have c7:=S2.act.p7
 have c5:=S2.act.p5
 have fb:=S2.act.fb
 obtain ⟨Ag,cg,hgv,-⟩:=S2.act.rd.grey.form
 rw [hgv] at c9
 rw [HST.out]
 have hne:=HNE.out
 clear he2 hc2 S2 e2 q12 hgv
 have h3:=((HS2.out.act.put 8 (.int .i64 0) { s with seen:=0 } rfl rfl ⟨rfl,rfl,rfl,rfl,rfl,rfl⟩).putg (.slice none 0 0) [] (TailI.nil _ _) (fun k hk=>by simp [Value.ownBlock] at hk)).put 7 (.int .i64 2) { s with seen:=0,gv:=.slice none 0 0,grey:=[],pc:=2 } rfl rfl ⟨rfl,rfl,rfl,rfl,rfl,rfl⟩
 have o3:Only (fun k=>k=b.ab) w2 (((w2.setCell ⟨b.ab,8,none⟩ (.int .i64 0)).setCell ⟨b.ab,9,none⟩ (.slice none 0 0)).setCell ⟨b.ab,7,none⟩ (.int .i64 2)):=Ac.Only.me (Ac.Only.me (Ac.Only.me (Only.refl _ w2) _ _) _ _) _ _
 obtain ⟨e3,S3⟩:=HS2.out.acted (Ac.ext_me HS2.out.act.k6 o3) h3
 have HS3:=hid S3
 have HE3:=hid (HE2.out.trans e3)
 clear h3 o3 e3 S3
 go_wp2_with fail
 go_ret
 exact ⟨rfl,_,HE3.out,HS3.out⟩
theorem looks_both (w:World) (h:Sys w c K κ m b s) (hst:m.st=2) (hne:s.status≠2):Calls Tryz.prog 117 #[.pointer (some ⟨b.ab,0,none⟩),.pointer (some ⟨K.kb,0,none⟩)] w fun r w' =>
  r=.returned (.bool false)∧∃ κ',Ext CT w κ w' κ'∧Sys w' c K κ' m b { s with seen:=2,gv:=.slice none 0 0,grey:=[],pc:=2 }:=by
 have HS1:=hid h
 have HST:=hid hst
 have HNE:Hid ((2 == s.status)=false):=hid (by simpa using fun e=>hne e.symm)
 have q12:=h.cor.q12
 clear h hst hne
 go_enter Tryz.func117,Tryz.ntmps117
 go_wp2_with fail
 refine (Cor.look w HS1.out.cor).mono ?_
 rintro r w2 ⟨rfl,he2,hc2⟩
 obtain ⟨e2,S2⟩:=HS1.out.cored he2 hc2
 have HS2:=hid S2
 have HE2:=hid e2
 have c4:=S2.act.p4
 have c8:=S2.act.p8
 have c9:=S2.act.p9
 have c7:=S2.act.p7
 have c5:=S2.act.p5
 have fb:=S2.act.fb
 obtain ⟨Ag,cg,hgv,-⟩:=S2.act.rd.grey.form
 rw [hgv] at c9
 rw [HST.out]
 have hne:=HNE.out
 clear he2 hc2 S2 e2 q12 hgv
 have h3:=((HS2.out.act.put 8 (.int .i64 2) { s with seen:=2 } rfl rfl ⟨rfl,rfl,rfl,rfl,rfl,rfl⟩).putg (.slice none 0 0) [] (TailI.nil _ _) (fun k hk=>by simp [Value.ownBlock] at hk)).put 7 (.int .i64 2) { s with seen:=2,gv:=.slice none 0 0,grey:=[],pc:=2 } rfl rfl ⟨rfl,rfl,rfl,rfl,rfl,rfl⟩
 have o3:Only (fun k=>k=b.ab) w2 (((w2.setCell ⟨b.ab,8,none⟩ (.int .i64 2)).setCell ⟨b.ab,9,none⟩ (.slice none 0 0)).setCell ⟨b.ab,7,none⟩ (.int .i64 2)):=Ac.Only.me (Ac.Only.me (Ac.Only.me (Only.refl _ w2) _ _) _ _) _ _
 obtain ⟨e3,S3⟩:=HS2.out.acted (Ac.ext_me HS2.out.act.k6 o3) h3
 have HS3:=hid S3
 have HE3:=hid (HE2.out.trans e3)
 clear h3 o3 e3 S3
 go_wp2_with fail
 go_ret
 exact ⟨rfl,_,HE3.out,HS3.out⟩
theorem looks_move (w:World) (h:Sys w c K κ m b s) (hst:m.st=4) (hne:s.status≠4):Calls Tryz.prog 117 #[.pointer (some ⟨b.ab,0,none⟩),.pointer (some ⟨K.kb,0,none⟩)] w fun r w' =>
  r=.returned (.bool false)∧∃ κ',Ext CT w κ w' κ'∧Sys w' c K κ' m b { s with seen:=4,gv:=.slice none 0 0,grey:=[],pc:=2 }:=by
 have HS1:=hid h
 have HST:=hid hst
 have HNE:Hid ((4 == s.status)=false):=hid (by simpa using fun e=>hne e.symm)
 have q12:=h.cor.q12
 clear h hst hne
 go_enter Tryz.func117,Tryz.ntmps117
 go_wp2_with fail
 refine (Cor.look w HS1.out.cor).mono ?_
 rintro r w2 ⟨rfl,he2,hc2⟩
 obtain ⟨e2,S2⟩:=HS1.out.cored he2 hc2
 have HS2:=hid S2
 have HE2:=hid e2
 have c4:=S2.act.p4
 have c8:=S2.act.p8
 have c9:=S2.act.p9
 have c7:=S2.act.p7
 have c5:=S2.act.p5
 have fb:=S2.act.fb
 obtain ⟨Ag,cg,hgv,-⟩:=S2.act.rd.grey.form
 rw [hgv] at c9
 rw [HST.out]
 have hne:=HNE.out
 clear he2 hc2 S2 e2 q12 hgv
 have h3:=((HS2.out.act.put 8 (.int .i64 4) { s with seen:=4 } rfl rfl ⟨rfl,rfl,rfl,rfl,rfl,rfl⟩).putg (.slice none 0 0) [] (TailI.nil _ _) (fun k hk=>by simp [Value.ownBlock] at hk)).put 7 (.int .i64 2) { s with seen:=4,gv:=.slice none 0 0,grey:=[],pc:=2 } rfl rfl ⟨rfl,rfl,rfl,rfl,rfl,rfl⟩
 have o3:Only (fun k=>k=b.ab) w2 (((w2.setCell ⟨b.ab,8,none⟩ (.int .i64 4)).setCell ⟨b.ab,9,none⟩ (.slice none 0 0)).setCell ⟨b.ab,7,none⟩ (.int .i64 2)):=Ac.Only.me (Ac.Only.me (Ac.Only.me (Only.refl _ w2) _ _) _ _) _ _
 obtain ⟨e3,S3⟩:=HS2.out.acted (Ac.ext_me HS2.out.act.k6 o3) h3
 have HS3:=hid S3
 have HE3:=hid (HE2.out.trans e3)
 clear h3 o3 e3 S3
 go_wp2_with fail
 go_ret
 exact ⟨rfl,_,HE3.out,HS3.out⟩
theorem looks_first (w:World) (h:Sys w c K κ m b s) (hst:m.st=1) (hne:s.status≠1):Calls Tryz.prog 117 #[.pointer (some ⟨b.ab,0,none⟩),.pointer (some ⟨K.kb,0,none⟩)] w fun r w' =>
  r=.returned (.bool false)∧∃ κ',Ext CT w κ w' κ'∧Sys w' c K κ' m b { s with seen:=1,gv:=.slice none 0 0,grey:=[],pc:=2,sense:=m.se }:=by
 have HS1:=hid h
 have HST:=hid hst
 have HNE:Hid ((1 == s.status)=false):=hid (by simpa using fun e=>hne e.symm)
 have q12:=h.cor.q12
 clear h hst hne
 go_enter Tryz.func117,Tryz.ntmps117
 go_wp2_with fail
 refine (Cor.look w HS1.out.cor).mono ?_
 rintro r w2 ⟨rfl,he2,hc2⟩
 obtain ⟨e2,S2⟩:=HS1.out.cored he2 hc2
 have HS2:=hid S2
 have HE2:=hid e2
 have c4:=S2.act.p4
 have c8:=S2.act.p8
 have c9:=S2.act.p9
 have c7:=S2.act.p7
 have c5:=S2.act.p5
 have fb:=S2.act.fb
 obtain ⟨Ag,cg,hgv,-⟩:=S2.act.rd.grey.form
 rw [hgv] at c9
 rw [HST.out]
 have hne:=HNE.out
 clear he2 hc2 S2 e2 q12 hgv
 have h3:=((HS2.out.act.put 8 (.int .i64 1) { s with seen:=1 } rfl rfl ⟨rfl,rfl,rfl,rfl,rfl,rfl⟩).putg (.slice none 0 0) [] (TailI.nil _ _) (fun k hk=>by simp [Value.ownBlock] at hk)).put 7 (.int .i64 2) { s with seen:=1,gv:=.slice none 0 0,grey:=[],pc:=2 } rfl rfl ⟨rfl,rfl,rfl,rfl,rfl,rfl⟩
 have o3:Only (fun k=>k=b.ab) w2 (((w2.setCell ⟨b.ab,8,none⟩ (.int .i64 1)).setCell ⟨b.ab,9,none⟩ (.slice none 0 0)).setCell ⟨b.ab,7,none⟩ (.int .i64 2)):=Ac.Only.me (Ac.Only.me (Ac.Only.me (Only.refl _ w2) _ _) _ _) _ _
 obtain ⟨e3,S3⟩:=HS2.out.acted (Ac.ext_me HS2.out.act.k6 o3) h3
 have HS3:=hid S3
 have HE3:=hid (HE2.out.trans e3)
 clear h3 o3 e3 S3
 have h4:=HS3.out.act.put 5 (.bool m.se) { s with seen:=1,gv:=.slice none 0 0,grey:=[],pc:=2,sense:=m.se } rfl rfl ⟨rfl,rfl,rfl,rfl,rfl,rfl⟩
 have o4:=Ac.Only.me (Only.refl (fun k=>k=b.ab) (((w2.setCell ⟨b.ab,8,none⟩ (.int .i64 1)).setCell ⟨b.ab,9,none⟩ (.slice none 0 0)).setCell ⟨b.ab,7,none⟩ (.int .i64 2))) 5 (.bool m.se)
 obtain ⟨e4,S4⟩:=HS3.out.acted (Ac.ext_me HS3.out.act.k6 o4) h4
 have HS4:=hid S4
 have HE4:=hid (HE3.out.trans e4)
 clear h4 o4 e4 S4
 go_wp2_with fail
 go_ret
 exact ⟨rfl,_,HE4.out,HS4.out⟩
theorem looks_trace0 (w:World) (h:Sys w c K κ m b s) (hst:m.st=3) (hne:s.status≠3) (hno:∀ v∈s.locals,NoRef v.2):Calls Tryz.prog 117 #[.pointer (some ⟨b.ab,0,none⟩),.pointer (some ⟨K.kb,0,none⟩)] w fun r w' =>
  r=.returned (.bool false)∧∃ κ',Ext CT w κ w' κ'∧Sys w' c K κ' m b { s with seen:=3,gv:=.slice none 0 0,grey:=[],pc:=2 }:=by
 have HS1:=hid h
 have HST:=hid hst
 have HNE:Hid ((3 == s.status)=false):=hid (by simpa using fun e=>hne e.symm)
 have q12:=h.cor.q12
 clear h hst hne
 go_enter Tryz.func117,Tryz.ntmps117
 go_wp2_with fail
 refine (Cor.look w HS1.out.cor).mono ?_
 rintro r w2 ⟨rfl,he2,hc2⟩
 obtain ⟨e2,S2⟩:=HS1.out.cored he2 hc2
 have HS2:=hid S2
 have HE2:=hid e2
 have c4:=S2.act.p4
 have c8:=S2.act.p8
 have c9:=S2.act.p9
 have c7:=S2.act.p7
 have c5:=S2.act.p5
 have fb:=S2.act.fb
 obtain ⟨Ag,cg,hgv,-⟩:=S2.act.rd.grey.form
 rw [hgv] at c9
 rw [HST.out]
 have hne:=HNE.out
 clear he2 hc2 S2 e2 q12 hgv
 have h3:=((HS2.out.act.put 8 (.int .i64 3) { s with seen:=3 } rfl rfl ⟨rfl,rfl,rfl,rfl,rfl,rfl⟩).putg (.slice none 0 0) [] (TailI.nil _ _) (fun k hk=>by simp [Value.ownBlock] at hk)).put 7 (.int .i64 2) { s with seen:=3,gv:=.slice none 0 0,grey:=[],pc:=2 } rfl rfl ⟨rfl,rfl,rfl,rfl,rfl,rfl⟩
 have o3:Only (fun k=>k=b.ab) w2 (((w2.setCell ⟨b.ab,8,none⟩ (.int .i64 3)).setCell ⟨b.ab,9,none⟩ (.slice none 0 0)).setCell ⟨b.ab,7,none⟩ (.int .i64 2)):=Ac.Only.me (Ac.Only.me (Ac.Only.me (Only.refl _ w2) _ _) _ _) _ _
 obtain ⟨e3,S3⟩:=HS2.out.acted (Ac.ext_me HS2.out.act.k6 o3) h3
 have HS3:=hid S3
 have HE3:=hid (HE2.out.trans e3)
 have HNO:=hid hno
 clear hno h3 o3 e3 S3
 have c2:=HS2.out.act.p2
 have few:=HS2.out.act.few
 go_wp2_with fail
 clear c4 c8 c9 c7 c5 fb
 generalize ((w2.setCell ⟨b.ab,8,none⟩ (.int .i64 3)).setCell ⟨b.ab,9,none⟩ (.slice none 0 0)).setCell ⟨b.ab,7,none⟩ (.int .i64 2)=w3 at *
 go_loopw [49] (fun i wr=>∃ j:Nat,j≤s.locals.length∧i=.int .i64 (j:Int)∧Pure w3 wr) (fun i _=>s.locals.length-(intOf i).toNat)
 case atStart=>exact ⟨0,Nat.zero_le _,rfl,Only.refl _ _⟩
 case round =>
  obtain ⟨j,hj,rfl,hp⟩:=hrel
  have hsys:=(HS3.out.pure9 hp).2
  have HSr:=hid hsys
  have HP:=hid hp
  clear hp hsys c2
  by_cases hlt:j<s.locals.length
  ·obtain ⟨v,hv⟩:∃ v,s.locals[j]?=some v:=⟨_,List.getElem?_eq_getElem hlt⟩
   obtain ⟨l0,l1⟩:=HSr.out.act.local_ hv
   have hmem:v∈s.locals:=List.mem_of_getElem? hv
   have HN:=hid (HNO.out v hmem)
   clear hv hmem
   go_wp2_with fail
   refine (HN.out _).mono ?_
   rintro r w4 ⟨rfl,hw4⟩
   rw [← hw4]
   clear hw4
   go_wp2_with fail
   all_goals exact ⟨⟨j+1,hlt,by go_num,HP.out.alloc _⟩,by simp [intOf];omega⟩
  ·obtain rfl:j=s.locals.length:=by omega
   clear hlt
   go_wp2_with fail
   go_ret
   exact ⟨rfl,_,HE3.out.trans (HS3.out.pure9 HP.out).1,HSr.out⟩
end
open Go.RowKit
open Ac (wrs OpD opV opO op_cells Vl Wr resV resZ zeroVl res_cells res_kept nT one_new two_new lays_any done_any fails_any CT)
section
variable {w w':World} {c:Cn} {K:Cor.Q} {κ:Nat→Nat} {m:Cor.St} {b:Ac.B} {s:Ac.St}
theorem Sys.pure (h:Sys w c K κ m b s) (hp:Pure w w'):Sys w' c K κ m b s:=⟨h.cor.pure hp,h.act.pure hp⟩
theorem answers_last (z:Int) (w:World) (h:Sys w c K κ m b s) (hpc:s.pc=2) (hz:m.stats[b.t]?=some z) (hzn:z≠-1) (h0:0≤s.seen) (h4:s.seen≤4):Calls Tryz.prog 118 #[.pointer (some ⟨b.ab,0,none⟩),.pointer (some ⟨K.kb,0,none⟩)] w fun r w' =>
  r=.returned (.bool true)∧∃ κ',Ext CT w κ w' κ'∧Sys w' c K κ' { m with stats:=m.stats.set b.t s.seen } b { s with status:=s.seen }:=by
 have HS1:=hid h
 have HZ:=hid (And.intro hz (And.intro hzn (And.intro h0 h4)))
 have q12:=h.cor.q12
 have c7:=h.act.p7
 rw [hpc] at c7
 have c0:=h.act.p0
 have c8:=h.act.p8
 clear h hpc hz hzn h0 h4
 go_enter Tryz.func118,Tryz.ntmps118
 go_wp2_with fail
 go_still_tail 12,(by kernel_rfl)
 change wpList _ _ _ _ _ w.drew
 have HS1d:=hid HS1.out.drew
 have HE1:Hid (Ext CT w κ w.drew κ):=hid (Ext.pure ((Only.refl (fun _=>False) w).drewN 1))
 clear c0 c7 c8 q12
 generalize w.drew=w1 at *
 go_wp2_with fail
 refine (Cor.answer b.t z s.seen _ HS1d.out.cor HZ.out.1 HZ.out.2.1 HZ.out.2.2.1 HZ.out.2.2.2).mono ?_
 rintro r w2 ⟨rfl,he2,hc2⟩
 obtain ⟨e2,S2⟩:=HS1d.out.cored he2 hc2
 have HS2:=hid S2
 have HE2:=hid (HE1.out.trans e2)
 have c4:=S2.act.p4
 have c8:=S2.act.p8
 have fb:=S2.act.fb
 have h3:=S2.act.put 4 (.int .i64 s.seen) { s with status:=s.seen } rfl rfl ⟨rfl,rfl,rfl,rfl,rfl,rfl⟩
 obtain ⟨e3,S3⟩:=S2.acted (Ac.ext_me S2.act.k6 (Ac.Only.me (Only.refl _ w2) _ _)) h3
 have HS3:=hid S3
 have HE3:=hid (HE2.out.trans e3)
 clear he2 hc2 e2 S2 h3 e3 S3
 simp only []
 go_wp2_with fail
 go_ret
 exact ⟨rfl,_,HE3.out,HS3.out⟩
theorem Sys.zero (h:Sys w c K κ m b s):Ext CT w κ ((((((((((w.setCell ⟨b.ab,3,none⟩ (.int .i64 2)).setCell ⟨b.ab,10,none⟩ (.int .i64 0)).setCell ⟨b.ab,11,none⟩ (.int .i64 0)).setCell ⟨b.ab,12,none⟩ (.pointer none)).setCell ⟨b.ab,13,none⟩ (.int .i64 0)).setCell ⟨b.ab,14,none⟩ (.bool false)).setCell ⟨b.ab,15,none⟩ (.complex .f64 0 0)).setCell ⟨b.ab,16,none⟩ (.complex .f64 0 0)).setCell ⟨b.ab,17,none⟩ (.slice none 0 0)).setCell ⟨b.ab,18,none⟩ (.slice none 0 0)) κ∧Sys ((((((((((w.setCell ⟨b.ab,3,none⟩ (.int .i64 2)).setCell ⟨b.ab,10,none⟩ (.int .i64 0)).setCell ⟨b.ab,11,none⟩ (.int .i64 0)).setCell ⟨b.ab,12,none⟩ (.pointer none)).setCell ⟨b.ab,13,none⟩ (.int .i64 0)).setCell ⟨b.ab,14,none⟩ (.bool false)).setCell ⟨b.ab,15,none⟩ (.complex .f64 0 0)).setCell ⟨b.ab,16,none⟩ (.complex .f64 0 0)).setCell ⟨b.ab,17,none⟩ (.slice none 0 0)).setCell ⟨b.ab,18,none⟩ (.slice none 0 0)) c K κ m b { s with phase:=2,own:=0,at_:=0,f:=.pointer none,addr:=0,ref:=false,old:=(0,0),w:=(0,0),tv:=.slice none 0 0,wv:=.slice none 0 0,got:=[],writes:=[] }:=by
 have ho:Only (fun k=>k=b.ab) w ((((((((((w.setCell ⟨b.ab,3,none⟩ (.int .i64 2)).setCell ⟨b.ab,10,none⟩ (.int .i64 0)).setCell ⟨b.ab,11,none⟩ (.int .i64 0)).setCell ⟨b.ab,12,none⟩ (.pointer none)).setCell ⟨b.ab,13,none⟩ (.int .i64 0)).setCell ⟨b.ab,14,none⟩ (.bool false)).setCell ⟨b.ab,15,none⟩ (.complex .f64 0 0)).setCell ⟨b.ab,16,none⟩ (.complex .f64 0 0)).setCell ⟨b.ab,17,none⟩ (.slice none 0 0)).setCell ⟨b.ab,18,none⟩ (.slice none 0 0)):=Ac.Only.me (Ac.Only.me (Ac.Only.me (Ac.Only.me (Ac.Only.me (Ac.Only.me (Ac.Only.me (Ac.Only.me (Ac.Only.me (Ac.Only.me (Only.refl _ w) _ _) _ _) _ _) _ _) _ _) _ _) _ _) _ _) _ _) _ _
 have hm:(((((((((((w.setCell ⟨b.ab,3,none⟩ (.int .i64 2)).setCell ⟨b.ab,10,none⟩ (.int .i64 0)).setCell ⟨b.ab,11,none⟩ (.int .i64 0)).setCell ⟨b.ab,12,none⟩ (.pointer none)).setCell ⟨b.ab,13,none⟩ (.int .i64 0)).setCell ⟨b.ab,14,none⟩ (.bool false)).setCell ⟨b.ab,15,none⟩ (.complex .f64 0 0)).setCell ⟨b.ab,16,none⟩ (.complex .f64 0 0)).setCell ⟨b.ab,17,none⟩ (.slice none 0 0)).setCell ⟨b.ab,18,none⟩ (.slice none 0 0))).heap[b.ab]?=some (.cells (Ac.cs b { s with phase:=2,own:=0,at_:=0,f:=.pointer none,addr:=0,ref:=false,old:=(0,0),w:=(0,0),tv:=.slice none 0 0,wv:=.slice none 0 0,got:=[],writes:=[] }) 134 (0,0)):=by
  have:=set_me (i:=18) (u:=.slice none 0 0) (set_me (i:=17) (u:=.slice none 0 0) (set_me (i:=16) (u:=.complex .f64 0 0) (set_me (i:=15) (u:=.complex .f64 0 0) (set_me (i:=14) (u:=.bool false) (set_me (i:=13) (u:=.int .i64 0) (set_me (i:=12) (u:=.pointer none) (set_me (i:=11) (u:=.int .i64 0) (set_me (i:=10) (u:=.int .i64 0) (set_me (i:=3) (u:=.int .i64 2) (h.act.me))))))))))
  simpa [Ac.cs] using this
 have hr:Ac.Rd w κ b { s with phase:=2,own:=0,at_:=0,f:=.pointer none,addr:=0,ref:=false,old:=(0,0),w:=(0,0),tv:=.slice none 0 0,wv:=.slice none 0 0,got:=[],writes:=[] }:=⟨h.act.rd.ops,h.act.rd.grey,Ac.GotR.nil _,Ac.TailW.nil _,fun k hk=>by
  rcases hk with hk | hk | hk | hk
  ·exact h.act.rd.k8 k (.inl hk)
  ·exact h.act.rd.k8 k (.inr (.inl hk))
  ·simp [Value.ownBlock] at hk
  ·simp [Value.ownBlock] at hk⟩
 exact h.acted (Ac.ext_me h.act.k6 ho) (h.act.mine _ ho hm rfl hr)
theorem border_in (w:World) (h:Sys w c K κ m b s) (hpc:s.pc=0) (hst:m.st=s.status) (hnx:s.next<b.ops.length):Calls Tryz.prog 67 #[.pointer (some ⟨b.ab,0,none⟩),.pointer (some ⟨K.kb,0,none⟩)] w fun r w' =>
  r=.returned (.tuple #[])∧∃ κ',Ext CT w κ w' κ'∧Sys w' c K κ' m b { s with phase:=2,own:=0,at_:=0,f:=.pointer none,addr:=0,ref:=false,old:=(0,0),w:=(0,0),tv:=.slice none 0 0,wv:=.slice none 0 0,got:=[],writes:=[] }:=by
 have HS1:=hid h
 have HPC:=hid hpc
 have HH:=hid (And.intro hst hnx)
 clear hst
 have c7:=h.act.p7
 rw [hpc] at c7
 clear h hpc
 go_enter Tryz.func67,Tryz.ntmps67
 go_wp2_with fail
 refine (looks_same w HS1.out HH.out.1).mono ?_
 rintro r w2 ⟨rfl,κ2,e2,S2⟩
 have HS2:=hid S2
 have HE2:=hid e2
 have c7:=S2.act.p7
 have fb:=S2.act.fb
 have c6:=S2.act.p6
 have c1:=S2.act.p1
 obtain ⟨Ao,co,hov⟩:=own_form S2.act.rd.ops
 rw [hov] at c1
 have i1:¬ (s.next:Int) ≥ (b.ops.length:Int):=by omega
 have i2:decide ((s.next:Int) ≥ (b.ops.length:Int))=false:=by simpa using i1
 have i3:decide (b.ops.length≤s.next)=false:=by simpa using hnx
 clear e2 S2 hov i1
 go_wp2_with fail
 go_quiet (fail)
 have HS3:=hid (HS2.out.pure ((Only.refl (fun _=>False) w2).drewN nq))
 have HE3:Hid (Ext CT w κ (w2.drewN nq) κ2):=hid (HE2.out.trans (Ext.pure ((Only.refl (fun _=>False) w2).drewN nq)))
 clear HS2 HE2 c7 fb c6 c1 i2 i3
 generalize w2.drewN nq=w3 at *
 have c3:=HS3.out.act.p3
 have c10:=HS3.out.act.p10
 have c11:=HS3.out.act.p11
 have c12:=HS3.out.act.p12
 have c13:=HS3.out.act.p13
 have c14:=HS3.out.act.p14
 have c15:=HS3.out.act.p15
 have c16:=HS3.out.act.p16
 have c17:=HS3.out.act.p17
 have c18:=HS3.out.act.p18
 have fb:=HS3.out.act.fb
 go_wp2_with fail
 go_end0
 exact ⟨rfl,_,HE3.out.trans HS3.out.zero.1,HS3.out.zero.2⟩
theorem border_end (w:World) (h:Sys w c K κ m b s) (hpc:s.pc=0) (hst:m.st=s.status) (hnx:b.ops.length≤s.next):Calls Tryz.prog 67 #[.pointer (some ⟨b.ab,0,none⟩),.pointer (some ⟨K.kb,0,none⟩)] w fun r w' =>
  r=.returned (.tuple #[])∧∃ κ',Ext CT w κ w' κ'∧Sys w' c K κ' m b { s with pc:=3 }:=by
 have HS1:=hid h
 have HPC:=hid hpc
 have HH:=hid (And.intro hst hnx)
 clear hst
 have c7:=h.act.p7
 rw [hpc] at c7
 clear h hpc
 go_enter Tryz.func67,Tryz.ntmps67
 go_wp2_with fail
 refine (looks_same w HS1.out HH.out.1).mono ?_
 rintro r w2 ⟨rfl,κ2,e2,S2⟩
 have HS2:=hid S2
 have HE2:=hid e2
 have c7:=S2.act.p7
 have fb:=S2.act.fb
 have c6:=S2.act.p6
 have c1:=S2.act.p1
 obtain ⟨Ao,co,hov⟩:=own_form S2.act.rd.ops
 rw [hov] at c1
 have i2:decide ((s.next:Int) ≥ (b.ops.length:Int))=true:=by simp;omega
 have i3:decide (b.ops.length≤s.next)=true:=by simpa using hnx
 clear e2 S2 hov
 go_wp2_with fail
 go_quiet (fail)
 have HS3:=hid (HS2.out.pure ((Only.refl (fun _=>False) w2).drewN nq))
 have HE3:Hid (Ext CT w κ (w2.drewN nq) κ2):=hid (HE2.out.trans (Ext.pure ((Only.refl (fun _=>False) w2).drewN nq)))
 clear HS2 HE2 c7 fb c6 c1 i2 i3
 generalize w2.drewN nq=w3 at *
 have c7:=HS3.out.act.p7
 have fb:=HS3.out.act.fb
 have h3:=HS3.out.act.put 7 (.int .i64 3) { s with pc:=3 } rfl rfl ⟨rfl,rfl,rfl,rfl,rfl,rfl⟩
 obtain ⟨e3,S3⟩:=HS3.out.acted (Ac.ext_me HS3.out.act.k6 (Ac.Only.me (Only.refl _ w3) _ _)) h3
 have HS4:=hid S3
 have HE4:=hid (HE3.out.trans e3)
 clear h3 e3 S3
 go_wp2_with fail
 go_end0
 exact ⟨rfl,_,HE4.out,HS4.out⟩
end
open Go.RowKit
def CY (x:Nat):Prop:=(1≤x∧x≤5)∨x=10∨x=11
def CX (x:Nat):Prop:=(1≤x∧x≤5)∨x=11
structure Trc (w:World) (c:Cn) (K:Cor.Q) (κ:Nat→Nat) (m:Cor.St) (b:Ac.B) (s:Ac.St) (xb:Nat) (v:Value) (sh:List Sh) (t:Tr.St):Prop where
 sys:Sys w c K κ m b s
 tr:Tr.At w xb c v sh t
 k11:κ xb=11
 k8:∀ k,Tr.Ro v sh t k→κ k=8
section
variable {w w':World} {c:Cn} {K:Cor.Q} {κ κ':Nat→Nat} {m m':Cor.St} {b:Ac.B} {s:Ac.St} {xb:Nat} {v:Value} {sh:List Sh} {t t':Tr.St}
theorem Sys.kept11 (h:Sys w c K κ m b s) (he:Ext (fun x=>x=10∨x=11) w κ w' κ'):Sys w' c K κ' m b s:=⟨h.cor.ext he (fun x hx=>by omega),h.act.ext he (fun x hx=>by omega)⟩
theorem Trc.cored (h:Trc w c K κ m b s xb v sh t) (he:Ext Cor.C5 w κ w' κ') (hc:Cor.At w' c K κ' m'):Ext CX w κ w' κ'∧Trc w' c K κ' m' b s xb v sh t :=
 ⟨he.mono (fun x hx=>.inl hx),(h.sys.cored he hc).2,h.tr.only he.only (fun hx=>by rw [h.k11] at hx;unfold Cor.C5 at hx;omega) (fun k hk hx=>by rw [h.k8 k hk] at hx;unfold Cor.C5 at hx;omega),(he.same _ h.tr.lt).trans h.k11,fun k hk=>(he.same _ (h.tr.ro k hk).2).trans (h.k8 k hk)⟩
theorem Trc.mine (h:Trc w c K κ m b s xb v sh t) (ho:Only (fun k=>k=xb) w w') (ht:Tr.At w' xb c v sh t') (hr:∀ k,Tr.Ro v sh t' k→Tr.Ro v sh t k∨w.heap.size≤k):Ext CX w κ w' (paint w.heap.size κ 8)∧Trc w' c K (paint w.heap.size κ 8) m b s xb v sh t':=by
 have he:Ext (fun x=>x=11) w κ w' (paint w.heap.size κ 8):=Ext.paint 8 (ho.mono (fun k _ hk=>by rw [hk,h.k11]))
 refine ⟨he.mono (fun x hx=>.inr hx),h.sys.kept11 (he.mono (fun _ hx=>.inr hx)),ht,(paint_old h.tr.lt).trans h.k11,fun k hk=>?_⟩
 rcases hr k hk with hk2 | hk2
 ·exact (paint_old (h.tr.ro k hk2).2).trans (h.k8 k hk2)
 ·exact paint_new hk2
theorem Trc.mem_ (h:Trc w c K κ m b s xb v sh t) (ho:Only (fun k=>k=K.mb) w w') (hm:Mm.At w' K.mb K.mg m.words):Ext CX w κ w' κ∧Trc w' c K κ m b s xb v sh t :=
 h.cored (Cor.ext1 h.sys.cor (ho.mono (fun _ _ hk=>.inl hk))) (h.sys.cor.memmed (ho.mono (fun _ _ hk=>.inl hk)) hm)
theorem Trc.drew (h:Trc w c K κ m b s xb v sh t):Trc w.drew c K κ m b s xb v sh t:=⟨h.sys.drew,h.tr.pure ((Only.refl _ w).drewN 1),h.k11,h.k8⟩
def TAns (w:World) (c:Cn) (K:Cor.Q) (κ:Nat→Nat) (b:Ac.B) (s:Ac.St) (xb:Nat) (v:Value) (sh:List Sh) (d:Bool) (Q:Cor.St→Tr.St→Prop) (r:Ending) (w':World):Prop :=
 r=.returned (.bool d)∧∃ κ' m' t',Ext CX w κ w' κ'∧Trc w' c K κ' m' b s xb v sh t'∧Q m' t'
end
section
variable {w w':World} {c:Cn} {K:Cor.Q} {κ:Nat→Nat} {m:Cor.St} {b:Ac.B} {s:Ac.St} {xb:Nat} {v:Value} {sh:List Sh} {t:Tr.St}
theorem walks_ref (x:Nat) (l:List Int) (i:Nat) (w:World) (h:Trc w c K κ m b s xb v sh t) (hpc:t.pc=1) (hw:t.words=(x:Int) :: l) (hx:x<8) (hh:(t.head:Int)<c.frags) (hz:m.words[8 * t.head+x]?=some (refW i)) (hi:i≤1000000) :
  Calls Tryz.prog 279 #[.pointer (some ⟨xb,0,none⟩),.pointer (some ⟨K.mb,0,none⟩),.pointer (some ⟨K.sb,0,none⟩)] w (TAns w c K κ b s xb v sh true (fun m' t'=>m'=m∧∃ wv',t'={ t with pc:=2,next:=i,wv:=wv',words:=l })):=by
 have HS:=hid h
 have HH:=hid (And.intro hw (And.intro hh hz))
 have p11:=h.tr.p11
 rw [hpc] at p11
 clear h hw hh hz
 go_enter Tryz.func279,Tryz.ntmps279
 go_wp2_with fail
 refine wp_scope_hop 0 (fun C HC0=>?_)
 have HC:=hid HC0
 clear HC0
 go_upto_region 7 with fail
 obtain ⟨A,cw,hwv,hl1,hl2,-,-,hcs⟩:=HS.out.tr.wr
 have hlen:t.words.length=l.length+1:=by rw [HH.out.1];rfl
 rw [hlen] at hwv hl1
 obtain ⟨g,off,hA,hg,-⟩:=hcs (by omega)
 subst hA
 have g0:w.cell? ⟨g,off,none⟩=some (.int .i64 (x:Int)):=by
  have:=hg 0 (by rw [hlen];omega)
  rw [HH.out.1] at this
  exact this
 have p14:=HS.out.tr.p14
 have p16:=HS.out.tr.p16
 rw [hwv] at p16
 have HWV:=hid hwv
 have HL2:=hid hl2
 have j1:(0:Int)<(l.length:Int)+1:=by omega
 clear hwv hg hcs hlen p11 hl2
 go_cut [7,9] (fun s7 s9 wx=>s7=.complex .f64 (refW i).1 (refW i).2∧s9=.bool true∧Only (fun k=>k=K.mb) w wx∧Mm.At wx K.mb K.mg m.words)
 case first =>
  go_region_with (go_at_call 276;refine (Tr.read_in t.head x K.mb K.mg m.words (refW i) w.drew HS.out.drew.tr HS.out.drew.sys.cor.mem HH.out.2.1 hx HH.out.2.2).mono ?_;rintro e w2 ⟨rfl,ho2,hm2⟩)
  all_goals
   go_wp2_with fail
   go_meet
   exact ⟨rfl,rfl,((Only.refl (fun k=>k=K.mb) w).drewN 1).trans ho2 (fun _ _ h=>h),hm2⟩
 case rest =>
  obtain ⟨rfl,rfl,hoc,hmc⟩:=hcut
  have e2:=(HS.out.mem_ hoc hmc).1
  have s2:=(HS.out.mem_ hoc hmc).2
  have HS2:=hid s2
  have HE2:=hid e2
  clear hoc hmc e2 s2 g0 p14 p16
  go_wp2_with fail
  refine (is_ref i _ hi).mono ?_
  rintro e w3 ⟨rfl,rfl⟩
  have p16:=HS2.out.tr.p16
  rw [HWV.out] at p16
  have ff:=HS2.out.tr.fz
  obtain ⟨A2,hA2⟩:∃ A2,(if cw=1 then some (⟨g,off,none⟩:Addr) else some ⟨g,off+1,none⟩)=A2:=⟨_,rfl⟩
  go_upto_region 11 with fail
  have hT:=HS2.out.tr.wr
  rw [HWV.out,HH.out.1] at hT
  have hT2:=hT.tail g off rfl
  rw [hA2,Nat.add_sub_cancel] at hT2
  have hk2:∀ k,(Value.slice A2 l.length (cw-1)).ownBlock=some k→k=g:=fun k hk=>by
   rw [← hA2] at hk
   split at hk <;> (injection hk with hk;exact hk.symm)
  have hro:∀ k,Tr.Ro v sh { t with wv:=.slice A2 l.length (cw-1),words:=l } k→Tr.Ro v sh t k:=fun k hk=>by
   rcases hk with hk | hk | hk
   ·exact .inl hk
   ·exact .inr (.inl hk)
   ·rw [hk2 k hk];exact .inr (.inr (by rw [HWV.out];rfl))
  have h3:=HS2.out.tr.putx 16 (.slice A2 l.length (cw-1)) { t with wv:=.slice A2 l.length (cw-1),words:=l } (fun n=>⟨n,rfl⟩) HS2.out.tr.refs hT2 (fun k hk=>HS2.out.tr.ro k (hro k hk))
  obtain ⟨e3,s3⟩:=HS2.out.mine (Tr.only_x (Only.refl _ wc) 16 (.slice A2 l.length (cw-1))) h3 (fun k hk=>.inl (hro k hk))
  have HS3:=hid s3
  have HE3:=hid (HE2.out.trans e3)
  clear hT hT2 hk2 hro h3 e3 s3 hA2 p16 ff
  generalize paint wc.heap.size κ 8=κ3 at *
  generalize wc.setCell ⟨xb,16,none⟩ (.slice A2 l.length (cw-1))=w3 at *
  go_wp2_with fail
  refine (index_ref i _ hi).mono ?_
  rintro e w4 ⟨rfl,rfl⟩
  have p17:=HS3.out.tr.p17
  have ff:=HS3.out.tr.fz
  have p11:=HS3.out.tr.p11
  go_upto_region 14 with fail
  have h4:=(HS3.out.tr.put 17 (.int .i64 (i:Int)) { t with wv:=.slice A2 l.length (cw-1),words:=l,next:=i } (fun n=>⟨n,rfl⟩) ⟨rfl,rfl,rfl,rfl⟩).put 11 (.int .i64 2) { t with wv:=.slice A2 l.length (cw-1),words:=l,next:=i,pc:=2 } (fun n=>⟨n,rfl⟩) ⟨rfl,rfl,rfl,rfl⟩
  obtain ⟨e4,s4⟩:=HS3.out.mine (Tr.only_x (Tr.only_x (Only.refl _ w3) 17 (.int .i64 (i:Int))) 11 (.int .i64 2)) h4 (fun k hk=>.inl hk)
  have HS4:=hid s4
  have HE4:=hid (HE3.out.trans e4)
  clear h4 e4 s4 p17 ff p11
  go_wp2_with fail
  simp only [Hop_ret]
  go_ret
  exact ⟨rfl,_,_,_,HE4.out,HS4.out,rfl,_,rfl⟩
end
end Go.Proofs.YtpgdiceeimehiaaGreat
