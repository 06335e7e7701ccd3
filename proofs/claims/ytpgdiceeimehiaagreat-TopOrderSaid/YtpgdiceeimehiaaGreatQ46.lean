/- Part 46 of the proof that spotop.TopOrder returns true for all arguments and leaves what was there as it was. -/
import Derived.StillTailTactics
import Derived.Deep.QuietTactic
import Derived.BigQuiet
import Derived.Deep.DeepCutAuto
import Derived.Deep.CutBlock
import Derived.Deep.RegionHeld3
import Derived.Test.YtpgdiceeimehiaaGreatQ24
import Derived.Test.YtpgdiceeimehiaaGreatQ25
import Derived.Test.YtpgdiceeimehiaaGreatQ26
import Derived.Test.YtpgdiceeimehiaaGreatQ43
import Derived.Test.YtpgdiceeimehiaaGreatQ44
import Derived.Test.YtpgdiceeimehiaaGreatQ45
set_option maxRecDepth 100000
set_option maxHeartbeats 16000000
open Go.Lib (hid)
namespace Go.Proofs.YtpgdiceeimehiaaGreat
open Go.RowKit
section
variable {w:World} {c:Cn} {K:Cor.Q} {κ:Nat→Nat} {m:Cor.St} {b:Ac.B} {s:Ac.St} {yb:Nat} {y:Cyc.St}
theorem hauls_post (w:World) (h:Cys w c K κ m b s yb y) (hat:y.at_=2) :
  Calls Tryz.prog 62 #[.pointer (some ⟨yb,0,none⟩),.pointer (some ⟨K.kb,0,none⟩)] w (CAns w c K κ b s yb (.tuple #[]) (fun _ _ m' y'=>m'={ m with st:=0,se:=m.se != false }∧y'={ y with stage:=8,at_:=0,i:=0 })):=by
 have HS0:=hid h
 have HE0:Hid (Ext CY w κ w κ):=hid (Ext.refl _ _ _)
 have p1:=h.cyc.p1
 rw [hat] at p1
 clear h
 go_enter Tryz.func62,Tryz.ntmps62
 clear hat
 have q12:=HS0.out.sys.cor.q12
 go_wp2_with fail
 refine (Cor.post 0 false w HS0.out.sys.cor (by omega) (by omega)).mono ?_
 rintro r w1 ⟨rfl,he1,hc1⟩
 obtain ⟨e1,s1⟩:=HS0.out.cored he1 hc1
 have HS1:=hid s1
 have HE1:=hid (HE0.out.trans e1)
 clear he1 hc1 e1 s1
 clear p1 q12
 go_wp2_with fail
 refine (enters_ (8) w1 HS1.out).mono ?_
 rintro r w2 ⟨rfl,κ2,m2,y2,e2,s2,rfl,rfl,rfl⟩
 have HS2:=hid s2
 have HE2:=hid (HE1.out.trans e2)
 clear e2 s2
 go_wp2_with fail
 go_end0
 exact ⟨rfl,_,_,_,HE2.out,HS2.out,rfl,rfl⟩
theorem coil_any (A:Option Addr) (n cc po co li:Nat) (w:World):Calls Tryz.prog 106 #[.agg #[.int .i64 c.frags,.int .i64 c.spine,.int .i64 c.globals,.int .i64 c.threads,.int .i64 c.locals,.int .i64 c.cache,.int .i64 c.stack,.int .i64 c.low,.slice A n cc,.pointer (some ⟨po,0,none⟩),.pointer (some ⟨co,0,none⟩),.pointer (some ⟨li,0,none⟩)]] w fun e w'=>e=.returned (.pointer (some ⟨co,0,none⟩))∧Pure w w':=by
 go_enter Tryz.func106,Tryz.ntmps106
 go_wp2_with fail
 go_ret
 exact ⟨rfl,(Only.refl _ _).alloc _⟩
theorem cellX {w:World} {X B i j:Nat} {v:Value} (h:B≠X):(w.setCell ⟨X,i,none⟩ v).cell? ⟨B,j,none⟩=w.cell? ⟨B,j,none⟩ :=
 World.cell?_of_block (w:=w) (by simp [World.setCell,Array.getElem?_modify,Ne.symm h])
theorem sp_cells (h:Cys w c K κ m b s yb y):w.cell? ⟨K.q.sp,4,none⟩=some (.int .i64 c.frags)∧w.cell? ⟨K.q.sp,5,none⟩=some (.int .i64 c.spine)∧w.cell? ⟨K.q.sp,6,none⟩=some (.int .i64 c.globals)∧w.cell? ⟨K.q.sp,7,none⟩=some (.int .i64 c.threads)∧w.cell? ⟨K.q.sp,8,none⟩=some (.int .i64 c.locals)∧w.cell? ⟨K.q.sp,9,none⟩=some (.int .i64 c.cache)∧w.cell? ⟨K.q.sp,10,none⟩=some (.int .i64 c.stack)∧w.cell? ⟨K.q.sp,11,none⟩=some (.int .i64 c.low)∧w.cell? ⟨K.q.sp,12,none⟩=some (K.q.cv)∧w.cell? ⟨K.q.sp,13,none⟩=some (.pointer (some ⟨K.q.po,0,none⟩))∧w.cell? ⟨K.q.sp,14,none⟩=some (.pointer (some ⟨K.q.co,0,none⟩))∧w.cell? ⟨K.q.sp,15,none⟩=some (.pointer (some ⟨K.q.li,0,none⟩)):=by
 obtain ⟨n,hm⟩:=h.sys.cor.space.me
 refine ⟨?_,?_,?_,?_,?_,?_,?_,?_,?_,?_,?_,?_⟩ <;> (rw [cell_of_row w _ _ _ _ _ hm];rfl)
theorem hauls_do (cu:Nat) (w:World) (h:Cys w c K κ m b s yb y) (hat:y.at_=0) (hh:y.h=.pointer none) (hcu:m.s.cur=cu) (hu:m.s.u (1-cu)=0) (hl:∀ s∈K.csh,s.bs.length≤1000000) :
  Calls Tryz.prog 62 #[.pointer (some ⟨yb,0,none⟩),.pointer (some ⟨K.kb,0,none⟩)] w (CAns w c K κ b s yb (.tuple #[]) (fun _ _ m' y'=>m'=m∧∃ hv',y'={ y with h:=hv',at_:=2 })):=by
 have HS0:=hid h
 have HE0:Hid (Ext CY w κ w κ):=hid (Ext.refl _ _ _)
 have HCU:=hid (And.intro hcu hu)
 have HL:=hid hl
 have p1:=h.cyc.p1
 rw [hat] at p1
 have p6:=h.cyc.p6
 rw [hh] at p6
 clear h hcu hu hl
 go_enter Tryz.func62,Tryz.ntmps62
 clear hat hh
 have hc2:cu<2:=by have:=HS0.out.sys.cor.space.coil.cur;rw [HCU.out.1] at this;exact this
 obtain ⟨Aq,cq,hcq⟩:∃ A cc,K.q.cv=.slice A K.ssh.length cc:=by
  obtain ⟨⟨A,cc,h,_⟩,_⟩:=HS0.out.sys.cor.space.conf
  exact ⟨A,cc,h⟩
 obtain ⟨s4,s5,s6,s7,s8,s9,s10,s11,s12,s13,s14,s15⟩:=sp_cells HS0.out
 rw [hcq] at s12
 have HCQ:=hid hcq
 clear hcq
 have q11:=HS0.out.sys.cor.q11
 go_wp2_with fail
 refine (coil_any (c:=c) _ _ _ _ _ _ w).mono ?_
 rintro r w1 ⟨rfl,hp1⟩
 have HS1:=hid (HS0.out.pure hp1)
 have HE1:Hid (Ext CY w κ w1 κ):=hid (Ext.pure hp1)
 clear hp1 p1 p6 q11 s4 s5 s6 s7 s8 s9 s10 s11 s12 s13 s14 s15 HS0 HE0
 go_wp2_with fail
 have hcr:=Co.current_any _ _ _ _ _ w1 HS1.out.sys.cor.space.coil
 rw [HCU.out.1] at hcr
 refine hcr.mono ?_
 clear hcr
 rintro r w2 ⟨rfl,rfl⟩
 obtain ⟨lf,hlf⟩:∃ lf:Nat,1-cu=lf:=⟨_,rfl⟩
 have hli:(1:Int)-(cu:Int)=(lf:Int):=by omega
 have HLF:=hid hlf
 obtain ⟨Av,cv,hcv⟩:∃ A cc,K.cv=.slice A K.csh.length cc:=by
  obtain ⟨⟨A,cc,h,_⟩,_⟩:=HS1.out.sys.cor.conf
  exact ⟨A,cc,h⟩
 have HCV:=hid hcv
 obtain ⟨k0,k1,k2,k3,k4,k5,k6,k7,k8⟩:=HS1.out.sys.cor.qc
 rw [hcv] at k8
 obtain ⟨s4,s5,s6,s7,s8,s9,s10,s11,s12,s13,s14,s15⟩:=sp_cells HS1.out
 rw [HCQ.out] at s12
 have q11:=HS1.out.sys.cor.q11
 have p7:=HS1.out.cyc.p7
 have p6:=HS1.out.cyc.p6
 have ff:=HS1.out.cyc.fz
 have hl2:lf<2:=by omega
 clear hcv hlf
 have hne1:K.kb≠yb:=fun e=>by have h1:=HS1.out.k10;have h2:=(HS1.out.sys.cor.k0 _ (.inl rfl)).1;rw [← e,h2] at h1;omega
 have hne2:K.q.sp≠yb:=fun e=>by
  have h1:=HS1.out.k10
  have h2:=HS1.out.sys.cor.sp_col K.q.sp (.inl rfl)
  rw [e,h1] at h2
  omega
 have hlu:m.s.u lf=0:=by rw [← HLF.out];exact HCU.out.2
 have HLU:=hid hlu
 clear hlu
 go_upto_region 5 with fail
 clear hli
 go_cut [0] (fun s0 wx=>s0=.pointer (some ⟨yb,0,none⟩)∧∃ (W7:World) (hb:Nat) (v':Value) (n:List Sh),wx=W7.setCell ⟨yb,6,none⟩ (.pointer (some ⟨hb,0,none⟩))∧Pure w1 W7∧w1.heap.size≤hb∧(∀ k,CfS v' n k→w1.heap.size≤k)∧Hl.At W7 hb c v' n ⟨(lf:Int),y.sense,0⟩)
 case first =>
  go_region_held3 (fun w'=>w'.cell? ⟨K.kb,0,none⟩=some (.int .i64 c.frags)∧w'.cell? ⟨K.kb,1,none⟩=some (.int .i64 c.spine)∧w'.cell? ⟨K.kb,2,none⟩=some (.int .i64 c.globals)∧w'.cell? ⟨K.kb,3,none⟩=some (.int .i64 c.threads)∧w'.cell? ⟨K.kb,4,none⟩=some (.int .i64 c.locals)∧w'.cell? ⟨K.kb,5,none⟩=some (.int .i64 c.cache)∧w'.cell? ⟨K.kb,6,none⟩=some (.int .i64 c.stack)∧w'.cell? ⟨K.kb,7,none⟩=some (.int .i64 c.low)∧w'.cell? ⟨K.kb,8,none⟩=some (.slice Av K.csh.length cv)∧w'.cell? ⟨K.kb,11,none⟩=some (.pointer (some ⟨K.q.sp,0,none⟩))∧w'.cell? ⟨yb,7,none⟩=some (.bool y.sense)∧w'.cell? ⟨K.q.sp,4,none⟩=some (.int .i64 c.frags)∧w'.cell? ⟨K.q.sp,5,none⟩=some (.int .i64 c.spine)∧w'.cell? ⟨K.q.sp,6,none⟩=some (.int .i64 c.globals)∧w'.cell? ⟨K.q.sp,7,none⟩=some (.int .i64 c.threads)∧w'.cell? ⟨K.q.sp,8,none⟩=some (.int .i64 c.locals)∧w'.cell? ⟨K.q.sp,9,none⟩=some (.int .i64 c.cache)∧w'.cell? ⟨K.q.sp,10,none⟩=some (.int .i64 c.stack)∧w'.cell? ⟨K.q.sp,11,none⟩=some (.int .i64 c.low)∧w'.cell? ⟨K.q.sp,12,none⟩=some (.slice Aq K.ssh.length cq)∧w'.cell? ⟨K.q.sp,13,none⟩=some (.pointer (some ⟨K.q.po,0,none⟩))∧w'.cell? ⟨K.q.sp,14,none⟩=some (.pointer (some ⟨K.q.co,0,none⟩))∧w'.cell? ⟨K.q.sp,15,none⟩=some (.pointer (some ⟨K.q.li,0,none⟩))) (first | exact ⟨(cellX hne1).trans t0,(cellX hne1).trans t1,(cellX hne1).trans t2,(cellX hne1).trans t3,(cellX hne1).trans t4,(cellX hne1).trans t5,(cellX hne1).trans t6,(cellX hne1).trans t7,(cellX hne1).trans t8,(cellX hne1).trans t9,u10,(cellX hne2).trans t11,(cellX hne2).trans t12,(cellX hne2).trans t13,(cellX hne2).trans t14,(cellX hne2).trans t15,(cellX hne2).trans t16,(cellX hne2).trans t17,(cellX hne2).trans t18,(cellX hne2).trans t19,(cellX hne2).trans t20,(cellX hne2).trans t21,(cellX hne2).trans t22⟩ | go_keep) (first | (go_at_call 106;refine (coil_any (c:=c) _ _ _ _ _ _ _).mono ?_;rintro e w3 ⟨rfl,hp3⟩;have P3:Pure w1 w3:=Pure.then (b:=w1.drew) ((Only.refl (fun _=>False) w1).drewN 1) hp3;have t0:=P3.keep k0;have t1:=P3.keep k1;have t2:=P3.keep k2;have t3:=P3.keep k3;have t4:=P3.keep k4;have t5:=P3.keep k5;have t6:=P3.keep k6;have t7:=P3.keep k7;have t8:=P3.keep k8;have t9:=P3.keep q11;have t10:=P3.keep p7;have t11:=P3.keep s4;have t12:=P3.keep s5;have t13:=P3.keep s6;have t14:=P3.keep s7;have t15:=P3.keep s8;have t16:=P3.keep s9;have t17:=P3.keep s10;have t18:=P3.keep s11;have t19:=P3.keep s12;have t20:=P3.keep s13;have t21:=P3.keep s14;have t22:=P3.keep s15;have HP3:=hid P3;clear P3 hp3) | (go_at_call 109;refine (Co.used_in _ _ _ _ _ lf _ (HS1.out.pure HP3.out).sys.cor.space.coil hl2).mono ?_;rw [HLU.out];rintro e w4 ⟨rfl,rfl⟩) | (go_at_call 108;refine (Hl.new_in (c:=c) (v:=.slice Av K.csh.length cv) (sh:=K.csh) (lf:Int) y.sense _ (HCV.out ▸ (HS1.out.pure HP3.out).sys.cor.conf) HS1.out.sys.cor.ok HL.out).mono ?_;rintro e w7 ⟨hb,v7,n7,rfl,hp7,hl7,hc7,h7⟩;have P7:Pure w1 w7:=Pure.then HP3.out hp7;clear t0 t1 t2 t3 t4 t5 t6 t7 t8 t9 t10 t11 t12 t13 t14 t15 t16 t17 t18 t19 t20 t21 t22;have t0:=P7.keep k0;have t1:=P7.keep k1;have t2:=P7.keep k2;have t3:=P7.keep k3;have t4:=P7.keep k4;have t5:=P7.keep k5;have t6:=P7.keep k6;have t7:=P7.keep k7;have t8:=P7.keep k8;have t9:=P7.keep q11;have t10:=P7.keep p7;have t11:=P7.keep s4;have t12:=P7.keep s5;have t13:=P7.keep s6;have t14:=P7.keep s7;have t15:=P7.keep s8;have t16:=P7.keep s9;have t17:=P7.keep s10;have t18:=P7.keep s11;have t19:=P7.keep s12;have t20:=P7.keep s13;have t21:=P7.keep s14;have t22:=P7.keep s15;have d6:=(HS1.out.pure P7).cyc.p6;have dz:=(HS1.out.pure P7).cyc.fz;have u10:=((HS1.out.pure P7).cyc.put 6 (.pointer (some ⟨hb,0,none⟩)) { y with h:=.pointer (some ⟨hb,0,none⟩) } (fun _ _ _=>⟨_,_,_,rfl⟩)).p7;have HP7:=hid P7;have HH7:=hid (And.intro (Nat.le_trans HP3.out.size hl7) (And.intro (fun k hk=>Nat.le_trans HP3.out.size (hc7 k hk).1) h7));clear P7 hp7 hl7 hc7 h7))
  all_goals
   go_wp2_with fail
   go_meet
   exact ⟨rfl,_,_,_,_,rfl,HP7.out,HH7.out.1,HH7.out.2.1,HH7.out.2.2⟩
 case rest =>
  obtain ⟨rfl,W7,hb,v7,n7,rfl,hp7,hl7,hc7,h7⟩:=hcut
  have e7:Ext CY w1 κ W7 (fun k=>if k=hb then 11 else paint w1.heap.size κ 8 k):=⟨hp7.mono (fun _ _ f=>f.elim),fun k hk=>by show (if k=hb then 11 else paint w1.heap.size κ 8 k)=κ k;rw [if_neg (by omega),paint_old hk]⟩
  have hsame:∀ k,k<w1.heap.size→(fun k=>if k=hb then 11 else paint w1.heap.size κ 8 k) k=κ k:=e7.same
  have y7:Cys W7 c K (fun k=>if k=hb then 11 else paint w1.heap.size κ 8 k) m b s yb y:=⟨⟨(HS1.out.sys.cor.recolour hsame).pure hp7,HS1.out.sys.act.keep hp7 (fun _ _ f=>f) hsame⟩,HS1.out.cyc.only hp7 (fun f=>f),(hsame _ HS1.out.cyc.lt).trans HS1.out.k10⟩
  have k11:(fun k=>if k=hb then 11 else paint w1.heap.size κ 8 k) hb=11:=if_pos rfl
  have k8c:∀ k,CfS v7 n7 k→(fun k=>if k=hb then 11 else paint w1.heap.size κ 8 k) k=8:=fun k hk=>by
   show (if k=hb then 11 else paint w1.heap.size κ 8 k)=8
   rw [if_neg (h7.ro k hk)]
   exact paint_new (hc7 k hk)
  have hyx:yb≠hb:=by have:=HS1.out.cyc.lt;omega
  obtain ⟨κ7,hκ7⟩:∃ κ7,(fun k=>if k=hb then 11 else paint w1.heap.size κ 8 k)=κ7:=⟨_,rfl⟩
  rw [hκ7] at e7 y7 k11 k8c
  have h8:=y7.cyc.put 6 (.pointer (some ⟨hb,0,none⟩)) { y with h:=.pointer (some ⟨hb,0,none⟩) } (fun _ _ _=>⟨_,_,_,rfl⟩)
  have o8:=Cyc.only_y (Only.refl (fun k=>k=yb) W7) 6 (.pointer (some ⟨hb,0,none⟩))
  obtain ⟨e8,sy8⟩:=y7.mine o8 h8
  have hl8:=h7.only o8 (fun e=>hyx e.symm) (fun k hk e=>by have:=k8c k hk;rw [e,y7.k10] at this;omega)
  have HS8:=hid sy8
  have HH8:=hid (And.intro hl8 (And.intro k11 k8c))
  have HE8:=hid ((HE1.out.trans e7).trans e8)
  clear hl8
  clear sy8
  clear e8
  clear o8 h8
  clear hyx k8c k11 y7 hsame
  clear e7 hκ7
  clear h7
  clear hc7 hl7 hp7
  clear k0 k1 k2 k3 k4 k5 k6 k7 k8
  clear s4 s5 s6 s7 s8 s9 s10 s11 s12 s13 s14 s15
  clear q11 p7 p6 ff hne1 hne2
  generalize W7.setCell ⟨yb,6,none⟩ (.pointer (some ⟨hb,0,none⟩))=w8 at *
  obtain ⟨s4,s5,s6,s7,s8,s9,s10,s11,s12,s13,s14,s15⟩:=sp_cells HS8.out
  rw [HCQ.out] at s12
  have q9:=HS8.out.sys.cor.q9
  have q10:=HS8.out.sys.cor.q10
  have q11:=HS8.out.sys.cor.q11
  have p6:w8.cell? ⟨yb,6,none⟩=some (.pointer (some ⟨hb,0,none⟩)):=HS8.out.cyc.p6
  have HLT:Hid (K.kb<w8.heap.size∧yb<w8.heap.size∧K.q.sp<w8.heap.size):=hid ⟨HS8.out.sys.cor.lkb,HS8.out.cyc.lt,HS8.out.sys.cor.space.lt _ (.inl rfl)⟩
  have HNE:Hid (¬ K.kb=hb∧¬ yb=hb∧¬ K.q.sp=hb):=hid ⟨fun e=>by have h1:=HH8.out.2.1;have h2:=(HS8.out.sys.cor.k0 _ (.inl rfl)).1;rw [← e,h2] at h1;omega,fun e=>by have h1:=HH8.out.2.1;rw [← e,HS8.out.k10] at h1;omega,fun e=>by
   have h1:=HH8.out.2.1
   have h2:=HS8.out.sys.cor.sp_col K.q.sp (.inl rfl)
   rw [e,h1] at h2
   omega⟩
  have HLF01:Hid ((lf:Int)=0∨(lf:Int)=1):=hid (by omega)
  go_upto_region 6 with fail
  go_cut [75] (fun s75 wx=>s75=.bool true∧∃ W9,Pure w8 W9∧Only (fun k=>k=hb) W9 wx∧Hl.At wx hb c v7 n7 ⟨(lf:Int),y.sense,11⟩)
  case first =>
   go_region_held3 (fun w'=>w'.cell? ⟨K.kb,9,none⟩=some (.pointer (some ⟨K.mb,0,none⟩))∧w'.cell? ⟨K.kb,10,none⟩=some (.pointer (some ⟨K.sb,0,none⟩))∧w'.cell? ⟨K.kb,11,none⟩=some (.pointer (some ⟨K.q.sp,0,none⟩))∧w'.cell? ⟨yb,6,none⟩=some (.pointer (some ⟨hb,0,none⟩))∧w'.cell? ⟨K.q.sp,4,none⟩=some (.int .i64 c.frags)∧w'.cell? ⟨K.q.sp,5,none⟩=some (.int .i64 c.spine)∧w'.cell? ⟨K.q.sp,6,none⟩=some (.int .i64 c.globals)∧w'.cell? ⟨K.q.sp,7,none⟩=some (.int .i64 c.threads)∧w'.cell? ⟨K.q.sp,8,none⟩=some (.int .i64 c.locals)∧w'.cell? ⟨K.q.sp,9,none⟩=some (.int .i64 c.cache)∧w'.cell? ⟨K.q.sp,10,none⟩=some (.int .i64 c.stack)∧w'.cell? ⟨K.q.sp,11,none⟩=some (.int .i64 c.low)∧w'.cell? ⟨K.q.sp,12,none⟩=some (.slice Aq K.ssh.length cq)∧w'.cell? ⟨K.q.sp,13,none⟩=some (.pointer (some ⟨K.q.po,0,none⟩))∧w'.cell? ⟨K.q.sp,14,none⟩=some (.pointer (some ⟨K.q.co,0,none⟩))∧w'.cell? ⟨K.q.sp,15,none⟩=some (.pointer (some ⟨K.q.li,0,none⟩))) (first | go_keep) (first | (go_at_call 106;refine (coil_any (c:=c) _ _ _ _ _ _ _).mono ?_;rintro e w9 ⟨rfl,hp9⟩;have P9:Pure w8 w9:=Pure.then (b:=w8.drew) ((Only.refl (fun _=>False) w8).drewN 1) hp9;have t0:=P9.keep q9;have t1:=P9.keep q10;have t2:=P9.keep q11;have t3:=P9.keep p6;have t4:=P9.keep s4;have t5:=P9.keep s5;have t6:=P9.keep s6;have t7:=P9.keep s7;have t8:=P9.keep s8;have t9:=P9.keep s9;have t10:=P9.keep s10;have t11:=P9.keep s11;have t12:=P9.keep s12;have t13:=P9.keep s13;have t14:=P9.keep s14;have t15:=P9.keep s15;have HP9:=hid P9;clear P9 hp9) | (go_at_call 110;refine (Hl.step_0 _ _ _ _ (HH8.out.1.pure HP9.out) rfl HLF01.out).mono ?_;rintro e w10 ⟨rfl,ho10,h10⟩;have u0:=(ho10.cell (p:=⟨K.kb,9,none⟩) (Nat.lt_of_lt_of_le HLT.out.1 HP9.out.size) (HNE.out.1)).trans t0;have u1:=(ho10.cell (p:=⟨K.kb,10,none⟩) (Nat.lt_of_lt_of_le HLT.out.1 HP9.out.size) (HNE.out.1)).trans t1;have u2:=(ho10.cell (p:=⟨K.kb,11,none⟩) (Nat.lt_of_lt_of_le HLT.out.1 HP9.out.size) (HNE.out.1)).trans t2;have u3:=(ho10.cell (p:=⟨yb,6,none⟩) (Nat.lt_of_lt_of_le HLT.out.2.1 HP9.out.size) (HNE.out.2.1)).trans t3;have u4:=(ho10.cell (p:=⟨K.q.sp,4,none⟩) (Nat.lt_of_lt_of_le HLT.out.2.2 HP9.out.size) (HNE.out.2.2)).trans t4;have u5:=(ho10.cell (p:=⟨K.q.sp,5,none⟩) (Nat.lt_of_lt_of_le HLT.out.2.2 HP9.out.size) (HNE.out.2.2)).trans t5;have u6:=(ho10.cell (p:=⟨K.q.sp,6,none⟩) (Nat.lt_of_lt_of_le HLT.out.2.2 HP9.out.size) (HNE.out.2.2)).trans t6;have u7:=(ho10.cell (p:=⟨K.q.sp,7,none⟩) (Nat.lt_of_lt_of_le HLT.out.2.2 HP9.out.size) (HNE.out.2.2)).trans t7;have u8:=(ho10.cell (p:=⟨K.q.sp,8,none⟩) (Nat.lt_of_lt_of_le HLT.out.2.2 HP9.out.size) (HNE.out.2.2)).trans t8;have u9:=(ho10.cell (p:=⟨K.q.sp,9,none⟩) (Nat.lt_of_lt_of_le HLT.out.2.2 HP9.out.size) (HNE.out.2.2)).trans t9;have u10:=(ho10.cell (p:=⟨K.q.sp,10,none⟩) (Nat.lt_of_lt_of_le HLT.out.2.2 HP9.out.size) (HNE.out.2.2)).trans t10;have u11:=(ho10.cell (p:=⟨K.q.sp,11,none⟩) (Nat.lt_of_lt_of_le HLT.out.2.2 HP9.out.size) (HNE.out.2.2)).trans t11;have u12:=(ho10.cell (p:=⟨K.q.sp,12,none⟩) (Nat.lt_of_lt_of_le HLT.out.2.2 HP9.out.size) (HNE.out.2.2)).trans t12;have u13:=(ho10.cell (p:=⟨K.q.sp,13,none⟩) (Nat.lt_of_lt_of_le HLT.out.2.2 HP9.out.size) (HNE.out.2.2)).trans t13;have u14:=(ho10.cell (p:=⟨K.q.sp,14,none⟩) (Nat.lt_of_lt_of_le HLT.out.2.2 HP9.out.size) (HNE.out.2.2)).trans t14;have u15:=(ho10.cell (p:=⟨K.q.sp,15,none⟩) (Nat.lt_of_lt_of_le HLT.out.2.2 HP9.out.size) (HNE.out.2.2)).trans t15;have HO10:=hid (And.intro ho10 h10);clear ho10 h10 t0 t1 t2 t3 t4 t5 t6 t7 t8 t9 t10 t11 t12 t13 t14 t15))
   all_goals
    go_wp2_with fail
    go_meet
    exact ⟨rfl,_,HP9.out,HO10.out.1,HO10.out.2⟩
  case rest =>
   obtain ⟨rfl,W9,hp9,ho9,h9⟩:=hcut
   have h11:=HH8.out.2.1
   have ex9:Ext (fun x=>x=10∨x=11) w8 κ7 wc κ7:=Ext.of ((hp9.mono (T:=fun k=>κ7 k=10∨κ7 k=11) (fun _ _ f=>f.elim)).trans (ho9.mono (T:=fun k=>κ7 k=10∨κ7 k=11) (fun k _ hk=>by rw [hk];exact .inr h11)) (fun _ _ h=>h))
   have y9:Cys wc c K κ7 m b s yb { y with h:=.pointer (some ⟨hb,0,none⟩) }:=⟨HS8.out.sys.kept11 ex9,(HS8.out.pure hp9).cyc.only ho9 (fun e=>HNE.out.2.1 e),HS8.out.k10⟩
   have HS9:=hid y9
   have HE9:=hid (HE8.out.trans (ex9.mono (D:=CY) (fun _ hx=>.inr hx)))
   have HH9:=hid h9
   clear ex9 y9 hp9 ho9 h9 h11 p6 q9 q10 q11 s4 s5 s6 s7 s8 s9 s10 s11 s12 s13 s14 s15
   have p6:wc.cell? ⟨yb,6,none⟩=some (.pointer (some ⟨hb,0,none⟩)):=HS9.out.cyc.p6
   go_wp2_with fail
   refine (Hl.errno_in wc HH9.out).mono ?_
   rintro e w10 ⟨rfl,rfl⟩
   have p13:=HS9.out.cyc.p13
   have ff:=HS9.out.cyc.fz
   have h10:=HS9.out.cyc.put 13 (.int .i64 0) { y with h:=.pointer (some ⟨hb,0,none⟩) } (fun _ _ _=>⟨_,_,_,rfl⟩)
   have o10:=Cyc.only_y (Only.refl (fun k=>k=yb) wc) 13 (.int .i64 0)
   obtain ⟨e10,s10⟩:=HS9.out.mine o10 h10
   have HS10:=hid s10
   have HE10:=hid (HE9.out.trans e10)
   have HH10:=hid (HH9.out.only o10 (fun e=>HNE.out.2.1 e.symm) (fun k hk e=>by have h1:=HH8.out.2.2 k hk;rw [e,HS8.out.k10] at h1;omega))
   clear h10 o10 e10 s10
   go_upto_region 8 with fail
   clear p6 p13 ff
   generalize wc.setCell ⟨yb,13,none⟩ (.int .i64 0)=w10 at *
   obtain ⟨n11,p11⟩:=HS10.out.cyc.p11
   have p6:w10.cell? ⟨yb,6,none⟩=some (.pointer (some ⟨hb,0,none⟩)):=HS10.out.cyc.p6
   have ff:=HS10.out.cyc.fz
   go_region_with (first | (go_at_call 112;refine (Hl.moved_in _ (HH10.out.pure ((Only.refl (fun _=>False) w10).drewN 1))).mono ?_;rintro e w11 ⟨rfl,rfl⟩))
   all_goals
    have h12:=HS10.out.drew.cyc.put 11 (.int .i64 (IntKind.i64.wrap n11)) { y with h:=.pointer (some ⟨hb,0,none⟩) } (fun _ _ _=>⟨_,_,_,rfl⟩)
    have o12:Only (fun k=>k=yb) w10.drew ((w10.drewN 1).setCell ⟨yb,11,none⟩ (.int .i64 (IntKind.i64.wrap n11))):=Cyc.only_y (Only.refl (fun k=>k=yb) w10.drew) 11 (.int .i64 (IntKind.i64.wrap n11))
    obtain ⟨e12,s12⟩:=HS10.out.drew.mine o12 h12
    have HS12:=hid s12
    have HE12:=hid (HE10.out.trans e12.drewl)
    clear h12 o12 e12 s12 p11 p6 ff
    generalize (w10.drewN 1).setCell ⟨yb,11,none⟩ (.int .i64 (IntKind.i64.wrap n11))=w12 at *
    have p1:=HS12.out.cyc.p1
    have ff:=HS12.out.cyc.fz
    have h13:=HS12.out.cyc.put 1 (.int .i64 2) { y with h:=.pointer (some ⟨hb,0,none⟩),at_:=2 } (fun _ _ _=>⟨_,_,_,rfl⟩)
    obtain ⟨e13,s13⟩:=HS12.out.mine (Cyc.only_y (Only.refl (fun k=>k=yb) w12) 1 (.int .i64 2)) h13
    have HS13:=hid s13
    have HE13:=hid (HE12.out.trans e13)
    clear h13 e13 s13
    go_wp2_with fail
    go_end0
    exact ⟨rfl,_,_,_,HE13.out,HS13.out,rfl,_,rfl⟩
end
end Go.Proofs.YtpgdiceeimehiaaGreat
namespace Go.Proofs.YtpgdiceeimehiaaGreat.Law
open Go.RowKit
open Ac (Vl OpD CT zeroVl opV)
open Opn (SgOk Made kn)
section
variable {w:World} {K:Cor.Q} {κ:Nat→Nat} {m m':Cor.St} {b:Ac.B} {s s':Ac.St} {yb hb lg:Nat} {y:Cyc.St} {o:Option Tr.St} {L:List OpD} {q T n:Nat} {l:List Nat} {nx:Nat→Option Nat} {g:Option Nat} {u:Nat→Bool} {bl:Bool} {p k:Nat} {pol:Bool} {e:Ln.En}
theorem Wc.like (h:Wc L q l nx g u bl p pol e m s) (h1:m'.s=m.s) (h2:m'.words=m.words) (h3:m'.lost=m.lost) (h4:s'.next=s.next) (h5:s'.locals=s.locals) (h6:s'.phase=s.phase) (hs:Hs m' s' pol):Wc L q l nx g u bl p pol e m' s' :=
 ⟨h.tb.like (h.tb.al.same h2 (fun i hi=>by rw [h1];exact h.tb.al.tab i hi)) h4 h5,h.pos,h.cm.same h1 h3,h.up,by rw [h1];exact h.en,h.e0,h6.trans h.ph,hs⟩
theorem wait_step (hK:Kok K) (hb0:b.t=0) (h:Mt w c0 K κ m b s yb y hb lg o) (hw:Wc L q l nx g u bl p pol e m s) (hp:Pt q l m.xs m.st y o u bl p k pol e) (ho:OwnOk s T) (hT:T≤1000000) :
  Calls Tryz.prog 10 #[.pointer (some ⟨hb,0,none⟩),.int .i64 1] w (StepOk L q (T+1) K b hb lg yb w κ 1):=by
 obtain ⟨n,hn,hnT⟩:=ho
 have hs:=hw.hs
 rcases hs.pc with h5 | h0 | ⟨h2,hse,hne⟩
 ·refine go_1 hK h (fun w1 κ1 hs1=>step_waiting _ _ _ _ _ n _ w1 hs1 hw.ph hn (by omega) keep_t (fun w2 κ2 hs2=>(waiting_wait e w2 hs2 h5 hb0 hw.en hw.e0.1 hw.e0.2.2.2).mono ?_))
  rintro r2 w' ⟨hr,κ',he2,hs'⟩
  exact ⟨hr,κ',he2,_,_,hs',.wait l nx g u bl p k pol e (hw.like rfl rfl rfl rfl rfl rfl ⟨hs.stats,hs.s0,hs.m0,.inr (.inl rfl),hs.pol⟩) hp,⟨n+1,rfl,by omega⟩⟩
 ·by_cases hst:m.st=s.status
  ·refine go_1 hK h (fun w1 κ1 hs1=>step_waiting _ _ _ _ _ n _ w1 hs1 hw.ph hn (by omega) keep_t (fun w2 κ2 hs2=>(waiting_same w2 hs2 h0 hst).mono ?_))
   rintro r2 w' ⟨hr,κ',he2,hs'⟩
   exact ⟨hr,κ',he2,_,_,hs',.wait l nx g u bl p k pol e (hw.like rfl rfl rfl rfl rfl rfl ⟨hs.stats,hs.s0,hs.m0,.inl rfl,hs.pol⟩) hp,⟨n+1,rfl,by omega⟩⟩
  ·have hpf:pol=false:=by
    cases pol with
    | false=>rfl
    | true=>exact absurd (hs.pol rfl).symm hst
   have hfin:∀ (s'':Ac.St),s''.next=s.next→s''.locals=s.locals→s''.phase=s.phase→s''.status=s.status→s''.pc=2→s''.seen=m.st→s''.own=((n+1:Nat):Int)→Sx L q m s'' y o∧OwnOk s'' (T+1):=fun s'' e1 e2 e3 e4 e5 e6 e7 =>
    ⟨.wait l nx g u bl p k pol e (hw.like rfl rfl rfl e1 e2 e3 ⟨by rw [e4];exact hs.stats,by rw [e4];exact hs.s0,hs.m0,.inr (.inr ⟨e5,e6,by rw [e4];exact fun e=>hst e.symm⟩),fun e=>by rw [hpf] at e;cases e⟩) hp,⟨n+1,e7,by omega⟩⟩
   have hm0:=hs.m0
   have hne:s.status≠m.st:=fun e=>hst e.symm
   refine go_1 hK h (fun w1 κ1 hs1=>step_waiting _ _ _ _ _ n _ w1 hs1 hw.ph hn (by omega) keep_t (fun w2 κ2 hs2=>waiting_looks _ w2 hs2 h0 keep_t (fun w3 κ3 hs3=>?_)))
   rcases (by omega:m.st=0∨m.st=1∨m.st=2∨m.st=3∨m.st=4) with e | e | e | e | e
   ·refine (looks_still w3 hs3 e (by rw [← e];exact hne)).mono ?_
    rintro r2 w' ⟨hr,κ',he2,hs'⟩
    exact ⟨hr,κ',he2,_,_,hs',hfin _ rfl rfl rfl rfl rfl e.symm rfl⟩
   ·refine (looks_first w3 hs3 e (by rw [← e];exact hne)).mono ?_
    rintro r2 w' ⟨hr,κ',he2,hs'⟩
    exact ⟨hr,κ',he2,_,_,hs',hfin _ rfl rfl rfl rfl rfl e.symm rfl⟩
   ·refine (looks_both w3 hs3 e (by rw [← e];exact hne)).mono ?_
    rintro r2 w' ⟨hr,κ',he2,hs'⟩
    exact ⟨hr,κ',he2,_,_,hs',hfin _ rfl rfl rfl rfl rfl e.symm rfl⟩
   ·refine (looks_trace0 w3 hs3 e (by rw [← e];exact hne) (fun v hv=>?_)).mono ?_
    ·obtain ⟨v2,hv2,hlc⟩:=hw.tb.loc
     have hv':v∈s.locals:=hv
     rw [hlc] at hv'
     simp only [List.mem_cons,List.not_mem_nil,or_false] at hv'
     rcases hv' with rfl | rfl | rfl | rfl
     ·exact noRef_none
     ·exact noRef_none
     ·rcases hv2 with rfl | rfl
      ·exact noRef_zero
      ·exact noRef_none
     ·exact noRef_zero
    ·rintro r2 w' ⟨hr,κ',he2,hs'⟩
     exact ⟨hr,κ',he2,_,_,hs',hfin _ rfl rfl rfl rfl rfl e.symm rfl⟩
   ·refine (looks_move w3 hs3 e (by rw [← e];exact hne)).mono ?_
    rintro r2 w' ⟨hr,κ',he2,hs'⟩
    exact ⟨hr,κ',he2,_,_,hs',hfin _ rfl rfl rfl rfl rfl e.symm rfl⟩
 ·have hm0:=hs.m0
  refine go_1 hK h (fun w1 κ1 hs1=>step_waiting _ _ _ _ _ n _ w1 hs1 hw.ph hn (by omega) keep_t (fun w2 κ2 hs2=>(waiting_answer s.status w2 hs2 h2 (by rw [hb0,hs.stats];rfl) (by have:=hs.s0;omega) (by show 0≤s.seen;omega) (by show s.seen≤4;omega)).mono ?_))
  rintro r2 w' ⟨hr,κ',he2,hs'⟩
  refine ⟨hr,κ',he2,_,_,hs',.wait l nx g u bl p k pol e (hw.like rfl rfl rfl rfl rfl rfl ⟨?_,?_,hs.m0,.inl rfl,fun _=>hse⟩) hp,⟨n+1,rfl,by omega⟩⟩
  ·show m.stats.set b.t s.seen=[s.seen]
   rw [hb0,hs.stats];rfl
  ·show 0≤s.seen∧s.seen≤4
   omega
theorem go_0 (hK:Kok K) (h:Mt w c0 K κ m b s yb y hb lg o) (ho:OwnOk s T)
  (hc:∀ w1 κ1,Cys w1 c0 K κ1 m b s yb y→TrO w1 c0 κ1 K.csh y.tr o→Calls Tryz.prog 24 #[.pointer (some ⟨yb,0,none⟩),.pointer (some ⟨K.kb,0,none⟩)] w1 (CAns w1 c0 K κ1 b s yb (.tuple #[]) (fun w' κ' m' y'=>∃ o',TrO w' c0 κ' K.csh y'.tr o'∧Sx L q m' s y' o'))) :
  Calls Tryz.prog 10 #[.pointer (some ⟨hb,0,none⟩),.int .i64 0] w (StepOk L q (T+1) K b hb lg yb w κ 0):=by
 refine (mstep_0 _ w h hc).mono ?_
 rintro e w' ⟨he,κ',m',y',o',hext,hm,hx⟩
 obtain ⟨n,hn,hnT⟩:=ho
 exact ⟨false,0,0,0,_,he,fun e=>by simp at e,κ',m',s,y',o',hext,hm,hx.fin hK,fun _=>⟨hx,n,hn,by omega⟩⟩
theorem go_0n {Q0:World→(Nat→Nat)→Cor.St→Cyc.St→Prop} (hK:Kok K) (h:Mt w c0 K κ m b s yb y hb lg o) (ho:OwnOk s T)
  (hc:∀ w1 κ1,Cys w1 c0 K κ1 m b s yb y→Calls Tryz.prog 24 #[.pointer (some ⟨yb,0,none⟩),.pointer (some ⟨K.kb,0,none⟩)] w1 (CAns w1 c0 K κ1 b s yb (.tuple #[]) Q0)) (hq:∀ w κ m' y',Q0 w κ m' y'→Sx L q m' s y' none) :
  Calls Tryz.prog 10 #[.pointer (some ⟨hb,0,none⟩),.int .i64 0] w (StepOk L q (T+1) K b hb lg yb w κ 0):=by
 refine go_0 hK h ho (fun w1 κ1 h1 _=>(hc w1 κ1 h1).mono ?_)
 rintro r w' ⟨hr,κ',m',y',he,hy,hq0⟩
 exact ⟨hr,κ',m',y',he,hy,none,TrO.nil _ _ _ _ _,hq _ _ _ _ hq0⟩
theorem noW {en:List Ln.En} (h:∀ e∈en,e.state≠0):en.countP Ln.isW=0∧Ln.ixI Ln.isW en=-1:=by
 have h1:∀ e∈en,¬ Ln.isW e=true:=fun e he=>by
  have:=h e he
  simp [Ln.isW,this]
 refine ⟨List.countP_eq_zero.2 h1,?_⟩
 unfold Ln.ixI
 rw [List.findIdx_eq_length_of_false (fun e he=>by simpa using h1 e he),if_neg (by omega)]
theorem quiet_0 {tf:Nat→Tab.One} (hK:Kok K) (h:Mt w c0 K κ m b s yb y hb lg o) (hc:Qc m y) (cm:Cm m tf) (ho:OwnOk s T) (hx:∀ y',Qc m y'→(y.stage=0→y'=y)→Sx L q m s y' none) :
  Calls Tryz.prog 10 #[.pointer (some ⟨hb,0,none⟩),.int .i64 0] w (StepOk L q (T+1) K b hb lg yb w κ 0):=by
 obtain ⟨n1,n2⟩:=noW hc.en
 rcases hc.y0 with ⟨h1,h2⟩ | ⟨h1,h2,h3⟩
 ·refine go_0n hK h ho (fun w1 κ1 hy=>cstep_idle_no w1 hy h1 ?_) ?_
  ·rw [n1,cm.forced]
   show (decide (0<0) || decide (((Po.cnt m.s.fr:Nat):Int)<0) || false)=false
   simp
  ·rintro w' κ' m' y' ⟨rfl,rfl⟩
   exact hx _ hc (fun _=>rfl)
 ·have hfw:=hc.few
  refine go_0n hK h ho (fun w1 κ1 hy=>cstep_serves _ w1 hy h1 (fun w2 he hy2=>serves_idle (fun m'=>m'=m) w2 hy2 h2 (by omega) (fun w3 κ3 hc3=>(Cor.serve_none y.sense w3 hc3 n2).mono ?_))) ?_
  ·rintro r w' ⟨hr,κ',he,ha⟩
   exact ⟨hr,κ',m,he,ha,rfl⟩
  ·rintro w' κ' m' y' ⟨rfl,rfl⟩
   exact hx _ ⟨.inl ⟨rfl,h3⟩,hc.en,hfw⟩ (fun e=>by omega)
end
end Go.Proofs.YtpgdiceeimehiaaGreat.Law
namespace Go.Proofs.YtpgdiceeimehiaaGreat
open Go.RowKit
section
variable {w w':World} {c:Cn} {K:Cor.Q} {κ:Nat→Nat} {m:Cor.St} {b:Ac.B} {s:Ac.St} {xb:Nat} {v:Value} {sh:List Sh} {t:Tr.St}
theorem walks_none (x:Nat) (l:List Int) (y:Int) (l2:List Int) (w:World) (h:Trc w c K κ m b s xb v sh t) (hpc:t.pc=1) (hw:t.words=(x:Int) :: l) (hx:x<8) (hh:(t.head:Int)<c.frags) (hz:m.words[8 * t.head+x]?=some noneW) (hl:l=y :: l2) :
  Calls Tryz.prog 279 #[.pointer (some ⟨xb,0,none⟩),.pointer (some ⟨K.mb,0,none⟩),.pointer (some ⟨K.sb,0,none⟩)] w (TAns w c K κ b s xb v sh true (fun m' t'=>m'=m∧∃ wv',t'={ t with pc:=1,next:=0,wv:=wv',words:=l })):=by
 have HS:=hid h
 have HH:=hid (And.intro hw (And.intro hh hz))
 have p11:=h.tr.p11
 rw [hpc] at p11
 have HL:=hid hl
 clear h hw hh hz hl
 go_enter Tryz.func279,Tryz.ntmps279
 go_wp2_with fail
 refine wp_scope_hop 1 (fun C HC0=>?_)
 have HC:=hid HC0
 clear HC0
 go_upto_region 7 with fail
 obtain ⟨A,cw,hwv,hl1,hl2,-,-,hcs⟩:=HS.out.tr.wr
 have hlen:t.words.length=l.length+1:=by rw [HH.out.1];rfl
 rw [hlen] at hwv hl1
 obtain ⟨g,off,hA,hg,-⟩:=hcs (by omega)
 subst hA
 have g0:w.cell? ⟨g,off,none⟩=some (.int .i64 (x:Int)):=by
  have:=hg 0 (by rw [hlen];omega)
  rw [HH.out.1] at this
  exact this
 have p14:=HS.out.tr.p14
 have p16:=HS.out.tr.p16
 rw [hwv] at p16
 have HWV:=hid hwv
 have HL2:=hid hl2
 have j1:(0:Int)<(l.length:Int)+1:=by omega
 clear hwv hg hcs hlen p11 hl2
 go_cut [7,9] (fun s7 s9 wx=>s7=.complex .f64 noneW.1 noneW.2∧s9=.bool true∧Only (fun k=>k=K.mb) w wx∧Mm.At wx K.mb K.mg m.words)
 case first =>
  go_region_with (go_at_call 276;refine (Tr.read_in t.head x K.mb K.mg m.words noneW w.drew HS.out.drew.tr HS.out.drew.sys.cor.mem HH.out.2.1 hx HH.out.2.2).mono ?_;rintro e w2 ⟨rfl,ho2,hm2⟩)
  all_goals
   go_wp2_with fail
   go_meet
   exact ⟨rfl,rfl,((Only.refl (fun k=>k=K.mb) w).drewN 1).trans ho2 (fun _ _ h=>h),hm2⟩
 case rest =>
  obtain ⟨rfl,rfl,hoc,hmc⟩:=hcut
  have e2:=(HS.out.mem_ hoc hmc).1
  have s2:=(HS.out.mem_ hoc hmc).2
  have HS2:=hid s2
  have HE2:=hid e2
  clear hoc hmc e2 s2 g0 p14 p16
  go_wp2_with fail
  refine (is_none _).mono ?_
  rintro e w3 ⟨rfl,rfl⟩
  have p16:=HS2.out.tr.p16
  rw [HWV.out] at p16
  have ff:=HS2.out.tr.fz
  obtain ⟨A2,hA2⟩:∃ A2,(if cw=1 then some (⟨g,off,none⟩:Addr) else some ⟨g,off+1,none⟩)=A2:=⟨_,rfl⟩
  go_upto_region 11 with fail
  have hT:=HS2.out.tr.wr
  rw [HWV.out,HH.out.1] at hT
  have hT2:=hT.tail g off rfl
  rw [hA2,Nat.add_sub_cancel] at hT2
  have hk2:∀ k,(Value.slice A2 l.length (cw-1)).ownBlock=some k→k=g:=fun k hk=>by
   rw [← hA2] at hk
   split at hk <;> (injection hk with hk;exact hk.symm)
  have hro:∀ k,Tr.Ro v sh { t with wv:=.slice A2 l.length (cw-1),words:=l } k→Tr.Ro v sh t k:=fun k hk=>by
   rcases hk with hk | hk | hk
   ·exact .inl hk
   ·exact .inr (.inl hk)
   ·rw [hk2 k hk];exact .inr (.inr (by rw [HWV.out];rfl))
  have h3:=HS2.out.tr.putx 16 (.slice A2 l.length (cw-1)) { t with wv:=.slice A2 l.length (cw-1),words:=l } (fun n=>⟨n,rfl⟩) HS2.out.tr.refs hT2 (fun k hk=>HS2.out.tr.ro k (hro k hk))
  obtain ⟨e3,s3⟩:=HS2.out.mine (Tr.only_x (Only.refl _ wc) 16 (.slice A2 l.length (cw-1))) h3 (fun k hk=>.inl (hro k hk))
  have HS3:=hid s3
  have HE3:=hid (HE2.out.trans e3)
  clear hT hT2 hk2 hro h3 e3 s3 hA2 p16 ff
  generalize paint wc.heap.size κ 8=κ3 at *
  generalize wc.setCell ⟨xb,16,none⟩ (.slice A2 l.length (cw-1))=w3 at *
  go_wp2_with fail
  refine (index_none _).mono ?_
  rintro e w4 ⟨rfl,rfl⟩
  have p17:=HS3.out.tr.p17
  have ff:=HS3.out.tr.fz
  go_upto_region 12 with fail
  have h4:=HS3.out.tr.put 17 (.int .i64 0) { t with wv:=.slice A2 l.length (cw-1),words:=l,next:=0 } (fun n=>⟨n,rfl⟩) ⟨rfl,rfl,rfl,rfl⟩
  obtain ⟨e4,s4⟩:=HS3.out.mine (Tr.only_x (Only.refl _ w3) 17 (.int .i64 0)) h4 (fun k hk=>.inl hk)
  have HS4:=hid s4
  have HE4:=hid (HE3.out.trans e4)
  clear h4 e4 s4 p17 ff
  generalize paint w3.heap.size κ3 8=κ4 at *
  generalize w3.setCell ⟨xb,17,none⟩ (.int .i64 0)=w4 at *
  go_wp2_with fail
  go_step3
  refine Hop_goto ((congrArg (fun d=>findLabel d 3) HC.out).trans rfl) ?_
  clear HC
  go_wp2_with fail
  refine (Tr.goes_more y l2 w4 HS4.out.tr HL.out).mono ?_
  rintro e w5 ⟨rfl,rfl⟩
  obtain ⟨w5,hw5⟩:∃ q,q=w4:=⟨_,rfl⟩
  rw [← hw5] at HS4 HE4 ⊢
  have HS5:=HS4
  have HE5:=HE4
  clear hw5
  have p11:=HS5.out.tr.p11
  have ff:=HS5.out.tr.fz
  go_upto_region 28 with fail
  have h6:=HS5.out.tr.put 11 (.int .i64 1) { t with wv:=.slice A2 l.length (cw-1),words:=l,next:=0,pc:=1 } (fun n=>⟨n,rfl⟩) ⟨rfl,rfl,rfl,rfl⟩
  obtain ⟨e6,s6⟩:=HS5.out.mine (Tr.only_x (Only.refl _ w5) 11 (.int .i64 1)) h6 (fun k hk=>.inl hk)
  have HS6:=hid s6
  have HE6:=hid (HE5.out.trans e6)
  clear h6 e6 s6 p11 ff
  go_wp2_with fail
  simp only [Hop_ret]
  go_ret
  exact ⟨rfl,_,_,_,HE6.out,HS6.out,rfl,_,rfl⟩
end
end Go.Proofs.YtpgdiceeimehiaaGreat
