/- Part 29 of the proof that spotop.TopOrder returns true for all arguments and leaves what was there as it was. -/
import Derived.Deep.DeepCutAuto
import Derived.Deep.CutBlock
import Derived.Deep.RegionHeld3
import Derived.Test.YtpgdiceeimehiaaGreatQ28
set_option maxRecDepth 100000
set_option maxHeartbeats 16000000
open Go.Lib (hid)
namespace Go.Proofs.YtpgdiceeimehiaaGreat
open Go.RowKit
open Ac (wrs OpD opV opO op_cells Vl Wr resV resZ zeroVl res_cells res_kept nT one_new two_new lays_any done_any fails_any CT)
section
variable {w w':World} {c:Cn} {K:Cor.Q} {κ:Nat→Nat} {m:Cor.St} {b:Ac.B} {s:Ac.St}
open Ac (op_cells)
def Keep9 (P:World→(Nat→Nat)→Prop):Prop:=∀ (w:World) (κ:Nat→Nat) (X i:Nat) (v:Value),κ X=9→P w κ→P (w.setCell ⟨X,i,none⟩ v) κ
theorem keep9_ex {α:Type} {P:α→World→(Nat→Nat)→Prop} (h:∀ a,Keep9 (P a)):Keep9 (fun w κ=>∃ a,P a w κ):=fun w κ X i v hX ⟨a,ha⟩=>⟨a,h a w κ X i v hX ha⟩
def Ans (w:World) (κ:Nat→Nat) (a1 a2 a3:Int) (v:Vl) (d:Bool) (P:World→(Nat→Nat)→Prop) (r:Ending) (w':World):Prop :=
 r=.returned (.tuple #[.agg #[.int .i64 a1,.int .i64 a2,.int .i64 a3,.bool v.1,.complex .f64 v.2.1 v.2.2],.bool d])∧∃ κ',Ext CT w κ w' κ'∧P w' κ'
theorem within_five (z:Int) (f:FuncId) (args:Array Value) (o:OpD) (a1 a2 a3:Int) (v:Vl) (d:Bool) (P:World→(Nat→Nat)→Prop) (w:World) (h:Sys w c K κ m b s) (hat:s.at_=z) (hsf:(z=0∧f=121∧args=#[.pointer (some ⟨b.ab,0,none⟩),.pointer (some ⟨K.kb,0,none⟩),opV o])∨(z=2∧f=123∧args=#[.pointer (some ⟨b.ab,0,none⟩),.pointer (some ⟨K.kb,0,none⟩),opV o])∨(z=6∧f=128∧args=#[.pointer (some ⟨b.ab,0,none⟩),.pointer (some ⟨K.kb,0,none⟩)])∨(z=7∧f=124∧args=#[.pointer (some ⟨b.ab,0,none⟩),.pointer (some ⟨K.kb,0,none⟩)])∨(z=8∧f=125∧args=#[.pointer (some ⟨b.ab,0,none⟩),.pointer (some ⟨K.kb,0,none⟩),opV o])) (ho:b.ops[s.next]?=some o) (hP:Keep9 P)
  (hc:∀ w1 κ1,Sys w1 c K κ1 m b s→Calls Tryz.prog f args w1 (Ans w1 κ1 a1 a2 a3 v d P)) :
  Calls Tryz.prog 68 #[.pointer (some ⟨b.ab,0,none⟩),.pointer (some ⟨K.kb,0,none⟩)] w (Ans w κ a1 a2 a3 v d P):=by
 rcases hsf with ⟨rfl,rfl,rfl⟩ | ⟨rfl,rfl,rfl⟩ | ⟨rfl,rfl,rfl⟩ | ⟨rfl,rfl,rfl⟩ | ⟨rfl,rfl,rfl⟩
 all_goals
  obtain ⟨v1,v2,v3⟩:=v
  obtain ⟨hp,-,hrz⟩:=one_new w #[.int .i64 0,.int .i64 0,.int .i64 0,.bool false,.complex .f64 0 0] 46
  have H1:=hid (h.pure9 hp)
  have HR:=hid hrz
  have HX1:Hid (paint w.heap.size κ 9 (w.heap.size)=9):=hid (paint_new (by omega))
  have HLE:Hid (w.heap.size≤w.heap.size):=hid (by omega)
  have HAT:=hid hat
  have HO:=hid ho
  have HPP:=hid hP
  have HC:=hid hc
  clear hp hrz h hat ho hP hc
  go_enter Tryz.func68,Tryz.ntmps68
  go_upto_region 1 with fail
  generalize w.alloc resZ=W at *
  generalize paint w.heap.size κ 9=κ1 at *
  obtain ⟨E1,S1⟩:=H1.out
  have HE1:=hid E1
  have HS1:=hid S1
  clear E1 S1 H1
  obtain ⟨g,cg,hov,hg8,o0,o1,o2,o3,o4,o5⟩:=HS1.out.act.rd.op HO.out
  have c1:=HS1.out.act.p1
  rw [hov] at c1
  have c6:=HS1.out.act.p6
  have hnl:=(List.getElem?_eq_some_iff.1 HO.out).1
  have i0:(0:Int)≤(s.next:Int):=by omega
  have i1:(s.next:Int)<(b.ops.length:Int):=by omega
  clear hov hg8
  go_cut [6] (fun s6 wx=>∃ Y,s6=.pointer (some ⟨Y,0,none⟩)∧Pure W wx∧W.heap.size≤Y∧wx.heap[Y]?=some (.cells #[.int .i64 (o.kind:Int),.int .i64 o.a,.int .i64 o.b,.int .i64 o.c,.int .i64 o.n,.complex .f64 o.x o.y] 32 (0,0)))
  case first =>
   go_region_held3 (fun w'=>w'.cell? ⟨b.ab,1,none⟩=some (.slice (some ⟨g,0,none⟩) b.ops.length cg)∧w'.cell? ⟨b.ab,6,none⟩=some (.int .i64 (s.next:Int))∧w'.cell? ⟨g,s.next * 6,none⟩=some (.int .i64 (o.kind:Int))∧w'.cell? ⟨g,s.next * 6+1,none⟩=some (.int .i64 o.a)∧w'.cell? ⟨g,s.next * 6+2,none⟩=some (.int .i64 o.b)∧w'.cell? ⟨g,s.next * 6+3,none⟩=some (.int .i64 o.c)∧w'.cell? ⟨g,s.next * 6+4,none⟩=some (.int .i64 o.n)∧w'.cell? ⟨g,s.next * 6+5,none⟩=some (.complex .f64 o.x o.y)) (go_keep) (fail)
   all_goals
    go_wp2_with fail
    go_meet
    obtain ⟨hpa,-,hga⟩:=one_new W #[.int .i64 (o.kind:Int),.int .i64 o.a,.int .i64 o.b,.int .i64 o.c,.int .i64 o.n,.complex .f64 o.x o.y] 32
    exact ⟨_,rfl,hpa.drewN 1,Nat.le_refl _,hga⟩
  case rest =>
   obtain ⟨Y,rfl,hpy,hly,hgy⟩:=hcut
   have e2:=(HS1.out.pure9 hpy).1
   have S2:=(HS1.out.pure9 hpy).2
   have HS2:=hid S2
   have HYY:=hid hgy
   have HY9:Hid (paint W.heap.size κ1 9 Y=9):=hid (paint_new hly)
   have HE2:=hid (HE1.out.trans e2)
   obtain ⟨hr2,hx2⟩:=res_kept e2 HX1.out nT HR.out
   have HR2:=hid hr2
   have HX2:=hid hx2
   clear e2 S2 hr2 hx2 hpy hly hgy o0 o1 o2 o3 o4 o5 c1 c6 i0 i1 hnl
   generalize paint W.heap.size κ1 9=κ2 at *
   obtain ⟨o0,o1,o2,o3,o4,o5⟩:=op_cells HYY.out
   have c11:=HS2.out.act.p11
   rw [HAT.out] at c11
   go_wp2_with fail
   refine (HC.out wc κ2 HS2.out).mono ?_
   rintro r w3 ⟨rfl,κ3,e3,p3⟩
   have HP3:=hid p3
   have HE3:=hid (HE2.out.trans e3)
   obtain ⟨hr2,hx2⟩:=res_kept e3 HX2.out nT HR2.out
   have HR3:=hid hr2
   have HX3:=hid hx2
   clear e3 p3 hr2 hx2 o0 o1 o2 o3 o4 o5 c11
   obtain ⟨z0,z1,z2,z3,z4⟩:=res_cells HR3.out
   have f1:=fun k=>frozen_of_row w3 w.heap.size k _ _ HR3.out
   go_wp2_with fail
   refine bodyPost_ret (v:=.tuple #[.agg #[.int .i64 a1,.int .i64 a2,.int .i64 a3,.bool v1,.complex .f64 v2 v3],.bool d]) (by simp [results,Tryz.results68,go_sem,z0,z1,z2,z3,z4]) rfl ⟨rfl,_,(((((HE3.out.new HLE.out _ _).new HLE.out _ _).new HLE.out _ _).new HLE.out _ _).new HLE.out _ _),(HPP.out _ _ _ _ _ HX3.out (HPP.out _ _ _ _ _ HX3.out (HPP.out _ _ _ _ _ HX3.out (HPP.out _ _ _ _ _ HX3.out (HPP.out _ _ _ _ _ HX3.out HP3.out)))))⟩
theorem within_starts (o:OpD) (a1 a2 a3:Int) (v:Vl) (d:Bool) (P:World→(Nat→Nat)→Prop) (w:World) (h:Sys w c K κ m b s) (hat:s.at_=0) (ho:b.ops[s.next]?=some o) (hP:Keep9 P)
  (hc:∀ w1 κ1,Sys w1 c K κ1 m b s→Calls Tryz.prog 121 #[.pointer (some ⟨b.ab,0,none⟩),.pointer (some ⟨K.kb,0,none⟩),opV o] w1 (Ans w1 κ1 a1 a2 a3 v d P)) :
  Calls Tryz.prog 68 #[.pointer (some ⟨b.ab,0,none⟩),.pointer (some ⟨K.kb,0,none⟩)] w (Ans w κ a1 a2 a3 v d P) :=
 within_five _ _ _ o a1 a2 a3 v d P w h hat (.inl ⟨rfl,rfl,rfl⟩) ho hP hc
theorem within_reads (o:OpD) (a1 a2 a3:Int) (v:Vl) (d:Bool) (P:World→(Nat→Nat)→Prop) (w:World) (h:Sys w c K κ m b s) (hat:s.at_=2) (ho:b.ops[s.next]?=some o) (hP:Keep9 P)
  (hc:∀ w1 κ1,Sys w1 c K κ1 m b s→Calls Tryz.prog 123 #[.pointer (some ⟨b.ab,0,none⟩),.pointer (some ⟨K.kb,0,none⟩),opV o] w1 (Ans w1 κ1 a1 a2 a3 v d P)) :
  Calls Tryz.prog 68 #[.pointer (some ⟨b.ab,0,none⟩),.pointer (some ⟨K.kb,0,none⟩)] w (Ans w κ a1 a2 a3 v d P) :=
 within_five _ _ _ o a1 a2 a3 v d P w h hat (.inr (.inl ⟨rfl,rfl,rfl⟩)) ho hP hc
theorem within_stores (o:OpD) (a1 a2 a3:Int) (v:Vl) (d:Bool) (P:World→(Nat→Nat)→Prop) (w:World) (h:Sys w c K κ m b s) (hat:s.at_=6) (ho:b.ops[s.next]?=some o) (hP:Keep9 P)
  (hc:∀ w1 κ1,Sys w1 c K κ1 m b s→Calls Tryz.prog 128 #[.pointer (some ⟨b.ab,0,none⟩),.pointer (some ⟨K.kb,0,none⟩)] w1 (Ans w1 κ1 a1 a2 a3 v d P)) :
  Calls Tryz.prog 68 #[.pointer (some ⟨b.ab,0,none⟩),.pointer (some ⟨K.kb,0,none⟩)] w (Ans w κ a1 a2 a3 v d P) :=
 within_five _ _ _ o a1 a2 a3 v d P w h hat (.inr (.inr (.inl ⟨rfl,rfl,rfl⟩))) ho hP hc
theorem within_makes (o:OpD) (a1 a2 a3:Int) (v:Vl) (d:Bool) (P:World→(Nat→Nat)→Prop) (w:World) (h:Sys w c K κ m b s) (hat:s.at_=7) (ho:b.ops[s.next]?=some o) (hP:Keep9 P)
  (hc:∀ w1 κ1,Sys w1 c K κ1 m b s→Calls Tryz.prog 124 #[.pointer (some ⟨b.ab,0,none⟩),.pointer (some ⟨K.kb,0,none⟩)] w1 (Ans w1 κ1 a1 a2 a3 v d P)) :
  Calls Tryz.prog 68 #[.pointer (some ⟨b.ab,0,none⟩),.pointer (some ⟨K.kb,0,none⟩)] w (Ans w κ a1 a2 a3 v d P) :=
 within_five _ _ _ o a1 a2 a3 v d P w h hat (.inr (.inr (.inr (.inl ⟨rfl,rfl,rfl⟩)))) ho hP hc
theorem within_bears (o:OpD) (a1 a2 a3:Int) (v:Vl) (d:Bool) (P:World→(Nat→Nat)→Prop) (w:World) (h:Sys w c K κ m b s) (hat:s.at_=8) (ho:b.ops[s.next]?=some o) (hP:Keep9 P)
  (hc:∀ w1 κ1,Sys w1 c K κ1 m b s→Calls Tryz.prog 125 #[.pointer (some ⟨b.ab,0,none⟩),.pointer (some ⟨K.kb,0,none⟩),opV o] w1 (Ans w1 κ1 a1 a2 a3 v d P)) :
  Calls Tryz.prog 68 #[.pointer (some ⟨b.ab,0,none⟩),.pointer (some ⟨K.kb,0,none⟩)] w (Ans w κ a1 a2 a3 v d P) :=
 within_five _ _ _ o a1 a2 a3 v d P w h hat (.inr (.inr (.inr (.inr (⟨rfl,rfl,rfl⟩))))) ho hP hc
end
open Go.RowKit
open Ac (wrs OpD opV opO op_cells Vl Wr resV resZ zeroVl res_cells res_kept nT one_new two_new lays_any done_any fails_any CT)
section
variable {w w':World} {c:Cn} {K:Cor.Q} {κ:Nat→Nat} {m:Cor.St} {b:Ac.B} {s:Ac.St}
open Ac (op_cells)
open Pl (natI objJ)
theorem cell3g {w:World} {X B i:Nat} (h:B≠X) (a b d:Value):(((w.setCell ⟨X,0,none⟩ a).setCell ⟨X,1,none⟩ b).setCell ⟨X,2,none⟩ d).cell? ⟨B,i,none⟩=w.cell? ⟨B,i,none⟩:=cell3 h a b d
theorem waiting_wait (e:Ln.En) (w:World) (h:Sys w c K κ m b s) (hpc:s.pc=5) (hb0:b.t=0) (hen:m.s.en=[e]) (hth:e.thread=0) (hst:e.state=0):Calls Tryz.prog 69 #[.pointer (some ⟨b.ab,0,none⟩),.pointer (some ⟨K.kb,0,none⟩)] w (Ans w κ 0 0 0 zeroVl false (fun w' κ'=>Sys w' c K κ' m b { s with pc:=0 })):=by
 obtain ⟨hp,-,hrz⟩:=one_new w #[.int .i64 0,.int .i64 0,.int .i64 0,.bool false,.complex .f64 0 0] 46
 have H1:=hid (h.pure9 hp)
 have HR:=hid hrz
 have HX1:Hid (paint w.heap.size κ 9 (w.heap.size)=9):=hid (paint_new (by omega))
 have HLE:Hid (w.heap.size≤w.heap.size):=hid (by omega)
 have HPC:=hid hpc
 have HB0:=hid hb0
 have HEN:=hid (And.intro hen (And.intro hth hst))
 clear hp hrz h hpc hb0 hen hth hst
 go_enter Tryz.func69,Tryz.ntmps69
 go_upto_region 1 with fail
 generalize w.alloc resZ=W at *
 generalize paint w.heap.size κ 9=κ1 at *
 obtain ⟨E1,S1⟩:=H1.out
 have HE1:=hid E1
 have HS1:=hid S1
 clear E1 S1 H1
 have c7:=HS1.out.act.p7
 rw [HPC.out] at c7
 go_upto_region 5 with fail
 have HPD:Hid (Pure W W.drew):=hid ((Only.refl (fun _=>False) W).drewN 1)
 have HPA:Hid (Pure W (W.drew.alloc (.cells #[.int .i64 0,.slice none 0 0,.int .i64 0] 191))):=hid (HPD.out.alloc _)
 have HGA:Hid ((W.drew.alloc (.cells #[.int .i64 0,.slice none 0 0,.int .i64 0] 191)).heap[W.heap.size]?=some (.cells #[.int .i64 0,.slice none 0 0,.int .i64 0] 191 (0,0))):=hid (heap_alloc_new W.drew _)
 have hlb:=HS1.out.act.lb
 have hlk:=HS1.out.cor.lkb
 have hn1':=Nat.ne_of_lt HS1.out.act.lb
 have hn2':=Nat.ne_of_lt HS1.out.cor.lkb
 have q11:=HS1.out.cor.q11
 have c0:=HS1.out.act.p0
 rw [HB0.out] at c0
 go_cut [6] (fun s6 wx=>∃ Y κ',s6=.pointer (some ⟨Y,0,none⟩)∧Ext CT W κ1 wx κ'∧κ' Y=9∧wx.heap[Y]?=some (.cells #[.int .i64 0,.slice none 0 0,.int .i64 (-1)] 191 (0,0))∧Sys wx c K κ' m b s)
 case first =>
  go_region_held3 (fun w'=>w'.cell? ⟨K.kb,11,none⟩=some (.pointer (some ⟨K.q.sp,0,none⟩))∧w'.cell? ⟨b.ab,0,none⟩=some (.int .i64 0)) (first | go_keep | exact ⟨(cell3g hn2' _ _ _).trans t0,(cell3g hn1' _ _ _).trans t1⟩ | exact ⟨(cell3g t6 _ _ _).trans ((World.cell?_of_block (Below.heap_alloc _ _ _ t4)).trans t0),(cell3g t5 _ _ _).trans ((World.cell?_of_block (Below.heap_alloc _ _ _ t3)).trans t1)⟩) (first | (go_at_call 129;first | (refine (Cor.look_wait e W.drew (HS1.out.pure9 HPD.out).2.cor HEN.out.1 HEN.out.2.1 HEN.out.2.2).mono ?_;rintro r w3 ⟨rfl,κ3,he3,hc3⟩;obtain ⟨e3,S3⟩:=(HS1.out.pure9 HPD.out).2.cored he3 hc3;have t0:=S3.cor.q11;have t1:=S3.act.p0;rw [HB0.out] at t1;have t3:=S3.act.lb;have t4:=S3.cor.lkb;have t5:=Nat.ne_of_lt S3.act.lb;have t6:=Nat.ne_of_lt S3.cor.lkb;have HA:=hid (And.intro ((HS1.out.pure9 HPD.out).1.trans e3) S3);clear e3 S3;clear he3 hc3) | (refine (Cor.look_wait e (W.drew.alloc (.cells #[.int .i64 0,.slice none 0 0,.int .i64 0] 191)) (HS1.out.pure9 HPA.out).2.cor HEN.out.1 HEN.out.2.1 HEN.out.2.2).mono ?_;rintro r w3 ⟨rfl,κ3,he3,hc3⟩;have hg3:=he3.blk HGA.out (by rw [paint_new (Nat.le_refl _)];unfold Cor.C5;omega);have hx3:=(he3.col (X:=W.heap.size) (by simp)).trans (paint_new (Nat.le_refl _));have HG3:=hid (And.intro hg3 hx3);obtain ⟨gz0,gz1,gz2⟩:=grant_row hg3;have gf:=fun k=>frozen_of_row w3 W.heap.size k _ _ hg3;obtain ⟨e3,S3⟩:=(HS1.out.pure9 HPA.out).2.cored he3 hc3;have t0:=S3.cor.q11;have t1:=S3.act.p0;rw [HB0.out] at t1;have t3:=S3.act.lb;have t4:=S3.cor.lkb;have t5:=Nat.ne_of_lt S3.act.lb;have t6:=Nat.ne_of_lt S3.cor.lkb;have HA:=hid (And.intro ((HS1.out.pure9 HPA.out).1.trans e3) S3);clear e3 S3;clear he3 hc3 hg3 hx3)))
  ·go_wp2_with fail
   go_meet
   obtain ⟨hp4,-,hg4⟩:=one_new w3 #[.int .i64 0,.slice none 0 0,.int .i64 (-1)] 191
   have hs4:=HA.out.2.pure9 hp4
   exact ⟨_,_,rfl,HA.out.1.trans hs4.1,paint_new (Nat.le_refl _),hg4,hs4.2⟩
  all_goals
   go_wp2_with fail
   go_meet
   have hg4:(((w3.setCell ⟨W.heap.size,0,none⟩ (.int .i64 0)).setCell ⟨W.heap.size,1,none⟩ (.slice none 0 0)).setCell ⟨W.heap.size,2,none⟩ (.int .i64 (-1))).heap[W.heap.size]?=some (.cells #[.int .i64 0,.slice none 0 0,.int .i64 (-1)] 191 (0,0)):=by
    have:=set_me (i:=2) (u:=(.int .i64 (-1))) (set_me (i:=1) (u:=(.slice none 0 0)) (set_me (i:=0) (u:=(.int .i64 0)) (HG3.out.1)))
    simpa using this
   exact ⟨_,_,rfl,(((HA.out.1.new (Nat.le_refl _) 0 (.int .i64 0)).new (Nat.le_refl _) 1 (.slice none 0 0)).new (Nat.le_refl _) 2 (.int .i64 (-1))),HG3.out.2,hg4,(((HA.out.2.cell9 HG3.out.2 0 (.int .i64 0)).cell9 HG3.out.2 1 (.slice none 0 0)).cell9 HG3.out.2 2 (.int .i64 (-1)))⟩
 case rest =>
  obtain ⟨Y,κ2,rfl,e2,hy2,hg2,S2⟩:=hcut
  have HS2:=hid S2
  have HE2:=hid (HE1.out.trans e2)
  obtain ⟨hr2,hx2⟩:=res_kept e2 HX1.out nT HR.out
  have HR2:=hid hr2
  have HX2:=hid hx2
  have HG2:=hid (And.intro hy2 hg2)
  obtain ⟨g0,g1,g2⟩:=grant_row hg2
  clear e2 S2 hr2 hx2 hy2 hg2 q11 c0 hlb hlk hn1' hn2' c7
  have c7:=HS2.out.act.p7
  have fz:=HS2.out.act.fb
  go_upto_region 18 with fail
  have h3:=HS2.out.act.put 7 (.int .i64 0) { s with pc:=0 } rfl rfl ⟨rfl,rfl,rfl,rfl,rfl,rfl⟩
  have o3:Only (fun k=>k=b.ab) wc (wc.setCell ⟨b.ab,7,none⟩ (.int .i64 0)):=Ac.Only.me (Only.refl _ _) _ _
  obtain ⟨e3,S3⟩:=HS2.out.acted (Ac.ext_me HS2.out.act.k6 o3) h3
  have HS3:=hid S3
  have HE3:=hid (HE2.out.trans e3)
  obtain ⟨hr2,hx2⟩:=res_kept e3 HX2.out nT HR2.out
  have HR3:=hid hr2
  have HX3:=hid hx2
  clear h3 o3 e3 S3 hr2 hx2 c7 fz g0 g1 g2
  generalize wc.setCell ⟨b.ab,7,none⟩ (.int .i64 0)=w3 at *
  obtain ⟨z0,z1,z2,z3,z4⟩:=res_cells HR3.out
  have f1:=fun k=>frozen_of_row w3 w.heap.size k _ _ HR3.out
  go_wp2_with fail
  refine bodyPost_ret (v:=.tuple #[.agg #[.int .i64 0,.int .i64 0,.int .i64 0,.bool false,.complex .f64 0 0],.bool false]) (by simp [results,Tryz.results69,go_sem,z0,z1,z2,z3,z4]) rfl ⟨rfl,_,(((((HE3.out.new HLE.out _ _).new HLE.out _ _).new HLE.out _ _).new HLE.out _ _).new HLE.out _ _),(((((HS3.out.cell9 HX3.out _ _).cell9 HX3.out _ _).cell9 HX3.out _ _).cell9 HX3.out _ _).cell9 HX3.out _ _)⟩
theorem waiting_failed (e:Ln.En) (w:World) (h:Sys w c K κ m b s) (hpc:s.pc=5) (hb0:b.t=0) (hen:m.s.en=[e]) (hth:e.thread=0) (hst:e.state=2) (hph:s.phase≠4) (hnx:s.next≤100000):Calls Tryz.prog 69 #[.pointer (some ⟨b.ab,0,none⟩),.pointer (some ⟨K.kb,0,none⟩)] w (Ans w κ s.next s.own 6 zeroVl true (fun w' κ'=>∃ lv',Sys w' c K κ' { m with s:={ m.s with lv:=lv',en:=[] } } b { s with next:=s.next+1,phase:=1,pc:=0 })):=by
 obtain ⟨hp,-,hrz⟩:=one_new w #[.int .i64 0,.int .i64 0,.int .i64 0,.bool false,.complex .f64 0 0] 46
 have H1:=hid (h.pure9 hp)
 have HR:=hid hrz
 have HX1:Hid (paint w.heap.size κ 9 (w.heap.size)=9):=hid (paint_new (by omega))
 have HLE:Hid (w.heap.size≤w.heap.size):=hid (by omega)
 have HPC:=hid hpc
 have HB0:=hid hb0
 have HEN:=hid (And.intro hen (And.intro hth hst))
 have HP:=hid (And.intro hph hnx)
 clear hp hrz h hpc hb0 hen hth hst hph
 go_enter Tryz.func69,Tryz.ntmps69
 go_upto_region 1 with fail
 generalize w.alloc resZ=W at *
 generalize paint w.heap.size κ 9=κ1 at *
 obtain ⟨E1,S1⟩:=H1.out
 have HE1:=hid E1
 have HS1:=hid S1
 clear E1 S1 H1
 have c7:=HS1.out.act.p7
 rw [HPC.out] at c7
 go_upto_region 5 with fail
 have HPD:Hid (Pure W W.drew):=hid ((Only.refl (fun _=>False) W).drewN 1)
 have HPA:Hid (Pure W (W.drew.alloc (.cells #[.int .i64 0,.slice none 0 0,.int .i64 0] 191))):=hid (HPD.out.alloc _)
 have HGA:Hid ((W.drew.alloc (.cells #[.int .i64 0,.slice none 0 0,.int .i64 0] 191)).heap[W.heap.size]?=some (.cells #[.int .i64 0,.slice none 0 0,.int .i64 0] 191 (0,0))):=hid (heap_alloc_new W.drew _)
 have hlb:=HS1.out.act.lb
 have hlk:=HS1.out.cor.lkb
 have hn1':=Nat.ne_of_lt HS1.out.act.lb
 have hn2':=Nat.ne_of_lt HS1.out.cor.lkb
 have q11:=HS1.out.cor.q11
 have c0:=HS1.out.act.p0
 rw [HB0.out] at c0
 go_cut [6] (fun s6 wx=>∃ Y κ',s6=.pointer (some ⟨Y,0,none⟩)∧Ext CT W κ1 wx κ'∧κ' Y=9∧wx.heap[Y]?=some (.cells #[.int .i64 2,.slice none 0 0,.int .i64 (-1)] 191 (0,0))∧∃ lv',Sys wx c K κ' { m with s:={ m.s with lv:=lv',en:=[] } } b s)
 case first =>
  go_region_held3 (fun w'=>w'.cell? ⟨K.kb,11,none⟩=some (.pointer (some ⟨K.q.sp,0,none⟩))∧w'.cell? ⟨b.ab,0,none⟩=some (.int .i64 0)) (first | go_keep | exact ⟨(cell3g hn2' _ _ _).trans t0,(cell3g hn1' _ _ _).trans t1⟩ | exact ⟨(cell3g t6 _ _ _).trans ((World.cell?_of_block (Below.heap_alloc _ _ _ t4)).trans t0),(cell3g t5 _ _ _).trans ((World.cell?_of_block (Below.heap_alloc _ _ _ t3)).trans t1)⟩) (first | (go_at_call 129;first | (refine (Cor.look_failed e W.drew (HS1.out.pure9 HPD.out).2.cor HEN.out.1 HEN.out.2.1 HEN.out.2.2).mono ?_;rintro r w3 ⟨rfl,lv3,κ3,he3,hc3⟩;obtain ⟨e3,S3⟩:=(HS1.out.pure9 HPD.out).2.cored he3 hc3;have t0:=S3.cor.q11;have t1:=S3.act.p0;rw [HB0.out] at t1;have t3:=S3.act.lb;have t4:=S3.cor.lkb;have t5:=Nat.ne_of_lt S3.act.lb;have t6:=Nat.ne_of_lt S3.cor.lkb;have HA:=hid (And.intro ((HS1.out.pure9 HPD.out).1.trans e3) S3);clear e3 S3;clear he3 hc3) | (refine (Cor.look_failed e (W.drew.alloc (.cells #[.int .i64 0,.slice none 0 0,.int .i64 0] 191)) (HS1.out.pure9 HPA.out).2.cor HEN.out.1 HEN.out.2.1 HEN.out.2.2).mono ?_;rintro r w3 ⟨rfl,lv3,κ3,he3,hc3⟩;have hg3:=he3.blk HGA.out (by rw [paint_new (Nat.le_refl _)];unfold Cor.C5;omega);have hx3:=(he3.col (X:=W.heap.size) (by simp)).trans (paint_new (Nat.le_refl _));have HG3:=hid (And.intro hg3 hx3);obtain ⟨gz0,gz1,gz2⟩:=grant_row hg3;have gf:=fun k=>frozen_of_row w3 W.heap.size k _ _ hg3;obtain ⟨e3,S3⟩:=(HS1.out.pure9 HPA.out).2.cored he3 hc3;have t0:=S3.cor.q11;have t1:=S3.act.p0;rw [HB0.out] at t1;have t3:=S3.act.lb;have t4:=S3.cor.lkb;have t5:=Nat.ne_of_lt S3.act.lb;have t6:=Nat.ne_of_lt S3.cor.lkb;have HA:=hid (And.intro ((HS1.out.pure9 HPA.out).1.trans e3) S3);clear e3 S3;clear he3 hc3 hg3 hx3)))
  ·go_wp2_with fail
   go_meet
   obtain ⟨hp4,-,hg4⟩:=one_new w3 #[.int .i64 2,.slice none 0 0,.int .i64 (-1)] 191
   have hs4:=HA.out.2.pure9 hp4
   exact ⟨_,_,rfl,HA.out.1.trans hs4.1,paint_new (Nat.le_refl _),hg4,_,hs4.2⟩
  all_goals
   go_wp2_with fail
   go_meet
   have hg4:(((w3.setCell ⟨W.heap.size,0,none⟩ (.int .i64 2)).setCell ⟨W.heap.size,1,none⟩ (.slice none 0 0)).setCell ⟨W.heap.size,2,none⟩ (.int .i64 (-1))).heap[W.heap.size]?=some (.cells #[.int .i64 2,.slice none 0 0,.int .i64 (-1)] 191 (0,0)):=by
    have:=set_me (i:=2) (u:=(.int .i64 (-1))) (set_me (i:=1) (u:=(.slice none 0 0)) (set_me (i:=0) (u:=(.int .i64 2)) (HG3.out.1)))
    simpa using this
   exact ⟨_,_,rfl,(((HA.out.1.new (Nat.le_refl _) 0 (.int .i64 2)).new (Nat.le_refl _) 1 (.slice none 0 0)).new (Nat.le_refl _) 2 (.int .i64 (-1))),HG3.out.2,hg4,_,(((HA.out.2.cell9 HG3.out.2 0 (.int .i64 2)).cell9 HG3.out.2 1 (.slice none 0 0)).cell9 HG3.out.2 2 (.int .i64 (-1)))⟩
 case rest =>
  obtain ⟨Y,κ2,rfl,e2,hy2,hg2,lv2,S2⟩:=hcut
  have HS2:=hid S2
  have HE2:=hid (HE1.out.trans e2)
  obtain ⟨hr2,hx2⟩:=res_kept e2 HX1.out nT HR.out
  have HR2:=hid hr2
  have HX2:=hid hx2
  have HG2:=hid (And.intro hy2 hg2)
  obtain ⟨g0,g1,g2⟩:=grant_row hg2
  clear e2 S2 hr2 hx2 hy2 hg2 q11 c0 hlb hlk hn1' hn2' c7
  go_wp2_with fail
  refine (Ac.fails_any 6 wc HS2.out.act HP.out.1 rfl HP.out.2).mono ?_
  rintro r w3 ⟨rfl,κ3,he3,ha3⟩
  obtain ⟨e3,S3⟩:=HS2.out.acted he3 ha3
  have HS3:=hid S3
  have HE3:=hid (HE2.out.trans e3)
  obtain ⟨hr2,hx2⟩:=res_kept e3 HX2.out nT HR2.out
  have HR3:=hid hr2
  have HX3:=hid hx2
  clear he3 ha3 e3 S3 hr2 hx2 g0 g1 g2
  obtain ⟨z0,z1,z2,z3,z4⟩:=res_cells HR3.out
  have f1:=fun k=>frozen_of_row w3 w.heap.size k _ _ HR3.out
  go_wp2_with fail
  refine bodyPost_ret (v:=.tuple #[.agg #[.int .i64 (s.next:Int),.int .i64 s.own,.int .i64 6,.bool false,.complex .f64 0 0],.bool true]) (by simp [results,Tryz.results69,go_sem,z0,z1,z2,z3,z4]) rfl ⟨rfl,_,(((((HE3.out.new HLE.out _ _).new HLE.out _ _).new HLE.out _ _).new HLE.out _ _).new HLE.out _ _),_,(((((HS3.out.cell9 HX3.out _ _).cell9 HX3.out _ _).cell9 HX3.out _ _).cell9 HX3.out _ _).cell9 HX3.out _ _)⟩
theorem waiting_same (w:World) (h:Sys w c K κ m b s) (hpc:s.pc=0) (hst:m.st=s.status):Calls Tryz.prog 69 #[.pointer (some ⟨b.ab,0,none⟩),.pointer (some ⟨K.kb,0,none⟩)] w (Ans w κ 0 0 0 zeroVl false (fun w' κ'=>Sys w' c K κ' m b { s with pc:=5 })):=by
 obtain ⟨hp,-,hrz⟩:=one_new w #[.int .i64 0,.int .i64 0,.int .i64 0,.bool false,.complex .f64 0 0] 46
 have H1:=hid (h.pure9 hp)
 have HR:=hid hrz
 have HX1:Hid (paint w.heap.size κ 9 (w.heap.size)=9):=hid (paint_new (by omega))
 have HLE:Hid (w.heap.size≤w.heap.size):=hid (by omega)
 have HPC:=hid hpc
 have HST:=hid hst
 clear hp hrz h hpc hst
 go_enter Tryz.func69,Tryz.ntmps69
 go_upto_region 1 with fail
 generalize w.alloc resZ=W at *
 generalize paint w.heap.size κ 9=κ1 at *
 obtain ⟨E1,S1⟩:=H1.out
 have HE1:=hid E1
 have HS1:=hid S1
 clear E1 S1 H1
 have c7:=HS1.out.act.p7
 rw [HPC.out] at c7
 go_wp2_with fail
 refine (looks_same W HS1.out HST.out).mono ?_
 rintro r w2 ⟨rfl,κ2,e2,S2⟩
 have HS2:=hid S2
 have HE2:=hid (HE1.out.trans e2)
 obtain ⟨hr2,hx2⟩:=res_kept e2 HX1.out nT HR.out
 have HR2:=hid hr2
 have HX2:=hid hx2
 clear e2 S2 hr2 hx2 c7
 have c7:=HS2.out.act.p7
 have fz:=HS2.out.act.fb
 go_upto_region 18 with fail
 have h3:=HS2.out.act.put 7 (.int .i64 5) { s with pc:=5 } rfl rfl ⟨rfl,rfl,rfl,rfl,rfl,rfl⟩
 have o3:Only (fun k=>k=b.ab) w2 (w2.setCell ⟨b.ab,7,none⟩ (.int .i64 5)):=Ac.Only.me (Only.refl _ _) _ _
 obtain ⟨e3,S3⟩:=HS2.out.acted (Ac.ext_me HS2.out.act.k6 o3) h3
 have HS3:=hid S3
 have HE3:=hid (HE2.out.trans e3)
 obtain ⟨hr2,hx2⟩:=res_kept e3 HX2.out nT HR2.out
 have HR3:=hid hr2
 have HX3:=hid hx2
 clear h3 o3 e3 S3 hr2 hx2 c7 fz
 generalize w2.setCell ⟨b.ab,7,none⟩ (.int .i64 5)=w3 at *
 obtain ⟨z0,z1,z2,z3,z4⟩:=res_cells HR3.out
 have f1:=fun k=>frozen_of_row w3 w.heap.size k _ _ HR3.out
 go_wp2_with fail
 refine bodyPost_ret (v:=.tuple #[.agg #[.int .i64 0,.int .i64 0,.int .i64 0,.bool false,.complex .f64 0 0],.bool false]) (by simp [results,Tryz.results69,go_sem,z0,z1,z2,z3,z4]) rfl ⟨rfl,_,(((((HE3.out.new HLE.out _ _).new HLE.out _ _).new HLE.out _ _).new HLE.out _ _).new HLE.out _ _),(((((HS3.out.cell9 HX3.out _ _).cell9 HX3.out _ _).cell9 HX3.out _ _).cell9 HX3.out _ _).cell9 HX3.out _ _)⟩
theorem waiting_looks (P:World→(Nat→Nat)→Prop) (w:World) (h:Sys w c K κ m b s) (hpc:s.pc=0) (hP:Keep9 P) (hc:∀ w1 κ1,Sys w1 c K κ1 m b s→Calls Tryz.prog 117 #[.pointer (some ⟨b.ab,0,none⟩),.pointer (some ⟨K.kb,0,none⟩)] w1 fun r w'=>r=.returned (.bool false)∧∃ κ',Ext CT w1 κ1 w' κ'∧P w' κ'):Calls Tryz.prog 69 #[.pointer (some ⟨b.ab,0,none⟩),.pointer (some ⟨K.kb,0,none⟩)] w (Ans w κ 0 0 0 zeroVl false P):=by
 obtain ⟨hp,-,hrz⟩:=one_new w #[.int .i64 0,.int .i64 0,.int .i64 0,.bool false,.complex .f64 0 0] 46
 have H1:=hid (h.pure9 hp)
 have HR:=hid hrz
 have HX1:Hid (paint w.heap.size κ 9 (w.heap.size)=9):=hid (paint_new (by omega))
 have HLE:Hid (w.heap.size≤w.heap.size):=hid (by omega)
 have HPC:=hid hpc
 have HPP:=hid hP
 have HC:=hid hc
 clear hp hrz h hpc hP hc
 go_enter Tryz.func69,Tryz.ntmps69
 go_upto_region 1 with fail
 generalize w.alloc resZ=W at *
 generalize paint w.heap.size κ 9=κ1 at *
 obtain ⟨E1,S1⟩:=H1.out
 have HE1:=hid E1
 have HS1:=hid S1
 clear E1 S1 H1
 have c7:=HS1.out.act.p7
 rw [HPC.out] at c7
 go_wp2_with fail
 refine (HC.out W κ1 HS1.out).mono ?_
 rintro r w2 ⟨rfl,κ2,e2,p2⟩
 have HQ2:=hid p2
 have HE2:=hid (HE1.out.trans e2)
 obtain ⟨hr2,hx2⟩:=res_kept e2 HX1.out nT HR.out
 have HR2:=hid hr2
 have HX2:=hid hx2
 clear e2 p2 hr2 hx2 c7
 obtain ⟨z0,z1,z2,z3,z4⟩:=res_cells HR2.out
 have f1:=fun k=>frozen_of_row w2 w.heap.size k _ _ HR2.out
 go_wp2_with fail
 refine bodyPost_ret (v:=.tuple #[.agg #[.int .i64 0,.int .i64 0,.int .i64 0,.bool false,.complex .f64 0 0],.bool false]) (by simp [results,Tryz.results69,go_sem,z0,z1,z2,z3,z4]) rfl ⟨rfl,_,(((((HE2.out.new HLE.out _ _).new HLE.out _ _).new HLE.out _ _).new HLE.out _ _).new HLE.out _ _),(HPP.out _ _ _ _ _ HX2.out (HPP.out _ _ _ _ _ HX2.out (HPP.out _ _ _ _ _ HX2.out (HPP.out _ _ _ _ _ HX2.out (HPP.out _ _ _ _ _ HX2.out HQ2.out)))))⟩
theorem waiting_answer (z:Int) (w:World) (h:Sys w c K κ m b s) (hpc:s.pc=2) (hz:m.stats[b.t]?=some z) (hzn:z≠-1) (h0:0≤s.seen) (h4:s.seen≤4):Calls Tryz.prog 69 #[.pointer (some ⟨b.ab,0,none⟩),.pointer (some ⟨K.kb,0,none⟩)] w (Ans w κ 0 0 0 zeroVl false (fun w' κ'=>Sys w' c K κ' { m with stats:=m.stats.set b.t s.seen } b { s with status:=s.seen,pc:=5 })):=by
 obtain ⟨hp,-,hrz⟩:=one_new w #[.int .i64 0,.int .i64 0,.int .i64 0,.bool false,.complex .f64 0 0] 46
 have H1:=hid (h.pure9 hp)
 have HR:=hid hrz
 have HX1:Hid (paint w.heap.size κ 9 (w.heap.size)=9):=hid (paint_new (by omega))
 have HLE:Hid (w.heap.size≤w.heap.size):=hid (by omega)
 have HPC:=hid hpc
 have HZ:=hid (And.intro hz (And.intro hzn (And.intro h0 h4)))
 clear hp hrz h hpc hz hzn h0 h4
 go_enter Tryz.func69,Tryz.ntmps69
 go_upto_region 1 with fail
 generalize w.alloc resZ=W at *
 generalize paint w.heap.size κ 9=κ1 at *
 obtain ⟨E1,S1⟩:=H1.out
 have HE1:=hid E1
 have HS1:=hid S1
 clear E1 S1 H1
 have c7:=HS1.out.act.p7
 rw [HPC.out] at c7
 go_wp2_with fail
 refine (answers_last z W HS1.out HPC.out HZ.out.1 HZ.out.2.1 HZ.out.2.2.1 HZ.out.2.2.2).mono ?_
 rintro r w2 ⟨rfl,κ2,e2,S2⟩
 have HS2:=hid S2
 have HE2:=hid (HE1.out.trans e2)
 obtain ⟨hr2,hx2⟩:=res_kept e2 HX1.out nT HR.out
 have HR2:=hid hr2
 have HX2:=hid hx2
 clear e2 S2 hr2 hx2 c7
 have c7:=HS2.out.act.p7
 have fz:=HS2.out.act.fb
 go_upto_region 18 with fail
 have h3:=HS2.out.act.put 7 (.int .i64 5) { s with status:=s.seen,pc:=5 } rfl rfl ⟨rfl,rfl,rfl,rfl,rfl,rfl⟩
 have o3:Only (fun k=>k=b.ab) w2 (w2.setCell ⟨b.ab,7,none⟩ (.int .i64 5)):=Ac.Only.me (Only.refl _ _) _ _
 obtain ⟨e3,S3⟩:=HS2.out.acted (Ac.ext_me HS2.out.act.k6 o3) h3
 have HS3:=hid S3
 have HE3:=hid (HE2.out.trans e3)
 obtain ⟨hr2,hx2⟩:=res_kept e3 HX2.out nT HR2.out
 have HR3:=hid hr2
 have HX3:=hid hx2
 clear h3 o3 e3 S3 hr2 hx2 c7 fz
 generalize w2.setCell ⟨b.ab,7,none⟩ (.int .i64 5)=w3 at *
 obtain ⟨z0,z1,z2,z3,z4⟩:=res_cells HR3.out
 have f1:=fun k=>frozen_of_row w3 w.heap.size k _ _ HR3.out
 go_wp2_with fail
 refine bodyPost_ret (v:=.tuple #[.agg #[.int .i64 0,.int .i64 0,.int .i64 0,.bool false,.complex .f64 0 0],.bool false]) (by simp [results,Tryz.results69,go_sem,z0,z1,z2,z3,z4]) rfl ⟨rfl,_,(((((HE3.out.new HLE.out _ _).new HLE.out _ _).new HLE.out _ _).new HLE.out _ _).new HLE.out _ _),(((((HS3.out.cell9 HX3.out _ _).cell9 HX3.out _ _).cell9 HX3.out _ _).cell9 HX3.out _ _).cell9 HX3.out _ _)⟩
end
end Go.Proofs.YtpgdiceeimehiaaGreat
