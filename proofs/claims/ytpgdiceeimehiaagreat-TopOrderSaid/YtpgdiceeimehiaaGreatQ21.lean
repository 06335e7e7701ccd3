/- Part 21 of the proof that spotop.TopOrder returns true for all arguments and leaves what was there as it was. -/
import Derived.Test.YtpgdiceeimehiaaGreatQ08
import Derived.Test.YtpgdiceeimehiaaGreatQ20
set_option maxRecDepth 100000
set_option maxHeartbeats 16000000
open Go.Lib (hid)
namespace Go.Proofs.YtpgdiceeimehiaaGreat.Pl
open Go.RowKit
open Ac (Wr wrs wrL wr_len)
def linkW (xs:List Nat) (j:Nat):Nat × Nat:=if j+1<xs.length then refW (xs.getD (j+1) 0) else noneW
def headZ (kd:Nat) (sd:Bool) (j:Nat):Nat × Nat:=if j=0 then headW kd (if sd then 1 else 0) else (0,0)
def objW (kd:Nat) (sd:Bool) (xs:List Nat) (bs:List Bool) (j:Nat):List (Nat × Nat):=fieldsJ j bs bs.length [linkW xs j,headZ kd sd j,(0,0),(0,0),(0,0),(0,0),(0,0),(0,0)]
def objJ (kd:Nat) (sd:Bool) (xs:List Nat) (bs:List Bool) (j:Nat):List Wr:=(List.range j).flatMap fun k=>wholeL (xs.getD k 0) (objW kd sd xs bs k)
theorem objJ_succ (kd:Nat) (sd:Bool) (xs:List Nat) (bs:List Bool) (j:Nat):objJ kd sd xs bs (j+1)=objJ kd sd xs bs j++wholeL (xs.getD j 0) (objW kd sd xs bs j):=by simp [objJ,List.range_succ]
theorem objJ_len (kd:Nat) (sd:Bool) (xs:List Nat) (bs:List Bool) (j:Nat):(objJ kd sd xs bs j).length=8 * j:=by
 induction j with
 | zero=>rfl
 | succ j ih=>rw [objJ_succ,List.length_append,ih,wholeL,wholeJ_len];omega
theorem list8 {ws:List (Nat × Nat)} (h:ws.length=8):∃ z0 z1 z2 z3 z4 z5 z6 z7,ws=[z0,z1,z2,z3,z4,z5,z6,z7]:=by
 match ws,h with
 | [a,b,c,d,e,f,g,i],_=>exact ⟨a,b,c,d,e,f,g,i,rfl⟩
abbrev row8 (z0 z1 z2 z3 z4 z5 z6 z7:Nat × Nat):Array Value:=#[.complex .f64 z0.1 z0.2,.complex .f64 z1.1 z1.2,.complex .f64 z2.1 z2.2,.complex .f64 z3.1 z3.2,.complex .f64 z4.1 z4.2,.complex .f64 z5.1 z5.2,.complex .f64 z6.1 z6.2,.complex .f64 z7.1 z7.2]
theorem cells8 {w:World} {X:Nat} {z0 z1 z2 z3 z4 z5 z6 z7:Nat × Nat} {T:TypeId} (h:w.heap[X]?=some (.cells (row8 z0 z1 z2 z3 z4 z5 z6 z7) T (0,0))) :
  w.cell? ⟨X,0,none⟩=some (.complex .f64 z0.1 z0.2)∧w.cell? ⟨X,1,none⟩=some (.complex .f64 z1.1 z1.2)∧w.cell? ⟨X,2,none⟩=some (.complex .f64 z2.1 z2.2)∧w.cell? ⟨X,3,none⟩=some (.complex .f64 z3.1 z3.2)∧w.cell? ⟨X,4,none⟩=some (.complex .f64 z4.1 z4.2)∧w.cell? ⟨X,5,none⟩=some (.complex .f64 z5.1 z5.2)∧w.cell? ⟨X,6,none⟩=some (.complex .f64 z6.1 z6.2)∧w.cell? ⟨X,7,none⟩=some (.complex .f64 z7.1 z7.2):=by
 refine ⟨?_,?_,?_,?_,?_,?_,?_,?_⟩ <;> (rw [cell_of_row w _ _ _ _ _ h];rfl)
theorem none_w (w:World):Calls Tryz.prog 52 #[] w fun e w'=>e=.returned (.complex .f64 noneW.1 noneW.2)∧w=w':=none_any w
theorem only_at {X:Nat} {a w:World} (h:Only (fun k=>k=X) a w) (i:Nat) (v:Value):Only (fun k=>k=X) a (w.setCell ⟨X,i,none⟩ v):=h.setCell (p:=⟨X,i,none⟩) (fun _=>rfl) v
structure ObR (X11 B kd:Nat) (sd:Bool) (xs:List Nat) (bs:List Bool) (j:Nat) (lv:Value) (W wr:World):Prop where
 only:Only (fun k=>k=X11) W wr
 own:wr.ownsRow B 249 2 lv (8 * j) (wrs (objJ kd sd xs bs j))
 row:∃ z0 z1 z2 z3 z4 z5 z6 z7,wr.heap[X11]?=some (.cells (row8 z0 z1 z2 z3 z4 z5 z6 z7) 299 (0,0))
theorem object_ok (c:Cn) (v:Value) (sh:List Sh) (kd:Nat) (s:Sh) (gv:Value) (xs:List Nat) (sd:Bool) (w:World) (hl:ShsR w w.heap.size v sh) (hcB:∀ k,CfS v sh k→k<w.heap.size) (hok:checkI c sh=0) (hk:sh[kd]?=some s) (ha:s.a=false) (hsz:sizeI false s.bs.length 0=xs.length)
  (hg:SlI w w.heap.size gv (natI xs)) (hx:∀ x∈xs,(x:Int)<c.frags) (hnd:xs.Nodup) (hlen:xs.length≤2000) (hsd:Sk.sideB (natI xs)=sd) (hb:s.bs.length≤40) (hkd:kd≤1000) (h1:1≤xs.length) :
  Calls Tryz.prog 200 #[cnV c v,.int .i64 (kd:Int),gv] w fun e w'=>∃ v',e=.returned (.tuple #[v',.int .i64 0])∧Pure w w'∧w'.ownsRow w.heap.size 249 2 v' (8 * xs.length) (wrs (objJ kd sd xs s.bs xs.length)):=by
 obtain ⟨A,cc,rfl⟩:∃ A cc,v=.slice A sh.length cc:=by
  obtain ⟨⟨A,cc,rfl,_⟩,_⟩:=hl
  exact ⟨A,cc,rfl⟩
 have hbd:=check_bd hok
 obtain ⟨Ag,cg,hgv,hlc,hcm⟩:=hg.len
 rw [natI_len] at hgv hlc
 have HL:=hid (fun (w':World) (hp:Pure w w')=>hl.pure hp)
 have HG:=hid (fun (w':World) (hp:Pure w w')=>(hg.only hp (fun _ _ f=>f):SlI w' w'.heap.size gv (natI xs)))
 have HH:=hid (And.intro hok (And.intro hk (And.intro hx (And.intro hnd (And.intro hsz (And.intro hcB (And.intro hsd hbd)))))))
 have HR0:Hid (Row w w.heap.size c (.slice A sh.length cc) (w.alloc (cfO c A sh.length cc))):=hid (Row.new w c _)
 have HA:=hid ha
 subst hgv
 clear hl hg hok hk hx hnd hsz hcB hsd hbd ha
 go_enter Tryz.func200,Tryz.ntmps200
 go_upto_region 1 with fail
 generalize w.alloc (cfO c A sh.length cc)=W0 at *
 obtain ⟨mm,hmm⟩:∃ mm,xs.length=mm+1:=⟨xs.length-1,by omega⟩
 have HMM:=hid hmm
 clear hmm
 refine wp_scope_hop mm (fun C HC0=>?_)
 have HC:=hid HC0
 clear HC0
 obtain ⟨k0,k1,k2,k3,k4,k5,k6,k7,k8,kf⟩:=HR0.out.cells
 go_wp2_with fail
 refine ((HA.out ▸ wrong_ok c _ sh kd s 0 _ xs W0 (HL.out W0 HR0.out.2.2) HH.out.1 HH.out.2.1 (by omega) (by rw [HA.out];exact HH.out.2.2.2.2.1) (HG.out W0 HR0.out.2.2) HH.out.2.2.1 HH.out.2.2.2.1 hlen:Calls _ _ _ _ _)).mono ?_
 rintro e w1 ⟨A8,d8,rfl,hp1,hs1,hf1⟩
 have HR1:=hid (HR0.out.keep hp1)
 have HS1:=hid hs1
 have HF1:=hid hf1
 clear hp1 hs1 hf1 k0 k1 k2 k3 k4 k5 k6 k7 k8 kf
 simp only []
 go_upto_region 7 with fail
 obtain ⟨hp2,hz2,hb2,hb3⟩:=Ac.two_new w1 #[.bool false,.slice A8 s.bs.length d8] (row8 (0,0) (0,0) (0,0) (0,0) (0,0) (0,0) (0,0) (0,0)) 35 299
 have HRW:=hid (HR1.out.keep hp2)
 have HSHW:=hid hb2
 have HX11:=hid hb3
 have HSLW:=hid (HS1.out.pure hp2)
 have HSB:Hid (∀ k,(Value.slice A8 s.bs.length d8).ownBlock=some k→k<w1.heap.size):=hid (fun k hk=>(HF1.out k hk).2)
 have HZW:=hid hz2
 have HZ1:Hid (w.heap.size<w1.heap.size):=hid (Array.getElem?_eq_some_iff.1 HR1.out.2.1).1
 clear hp2 hz2 hb2 hb3 HR1 HS1 HF1 HR0
 generalize (w1.alloc (.cells #[.bool false,.slice A8 s.bs.length d8] 35)).alloc (.cells (row8 (0,0) (0,0) (0,0) (0,0) (0,0) (0,0) (0,0) (0,0)) 299)=W at *
 have HOB:Hid (ObR (w1.heap.size+1) W.heap.size kd sd xs s.bs 0 (.slice none 0 0) W W):=hid ⟨Only.refl _ _,⟨rfl,.inl ⟨rfl,rfl⟩⟩,_,_,_,_,_,_,_,_,HX11.out⟩
 generalize w1.heap.size=X8 at *
 go_step3
 obtain ⟨z0,z1,z2,z3,z4,z5,z6,z7,hrow⟩:=HOB.out.row
 obtain ⟨r0,r1,r2,r3,r4,r5,r6,r7⟩:=cells8 hrow
 have f11:=fun k=>frozen_of_row W (X8+1) k _ _ hrow
 have HROW:=hid hrow
 clear hrow
 go_wp2_with fail
 refine (none_w W).mono ?_
 rintro e w2 ⟨rfl,rfl⟩
 go_upto_region 8 with fail
 have hr3:((((((((W.setCell ⟨X8+1,0,none⟩ (.complex .f64 noneW.1 noneW.2)).setCell ⟨X8+1,1,none⟩ (.complex .f64 0 0)).setCell ⟨X8+1,2,none⟩ (.complex .f64 0 0)).setCell ⟨X8+1,3,none⟩ (.complex .f64 0 0)).setCell ⟨X8+1,4,none⟩ (.complex .f64 0 0)).setCell ⟨X8+1,5,none⟩ (.complex .f64 0 0)).setCell ⟨X8+1,6,none⟩ (.complex .f64 0 0)).setCell ⟨X8+1,7,none⟩ (.complex .f64 0 0)).heap[X8+1]?=some (.cells (row8 noneW (0,0) (0,0) (0,0) (0,0) (0,0) (0,0) (0,0)) 299 (0,0)):=by
  have:=set_me (i:=7) (u:=(.complex .f64 0 0)) (set_me (i:=6) (u:=(.complex .f64 0 0)) (set_me (i:=5) (u:=(.complex .f64 0 0)) (set_me (i:=4) (u:=(.complex .f64 0 0)) (set_me (i:=3) (u:=(.complex .f64 0 0)) (set_me (i:=2) (u:=(.complex .f64 0 0)) (set_me (i:=1) (u:=(.complex .f64 0 0)) (set_me (i:=0) (u:=(.complex .f64 noneW.1 noneW.2)) (HROW.out))))))))
  simpa using this
 have ho3:Only (fun k=>k=X8+1) W ((((((((W.setCell ⟨X8+1,0,none⟩ (.complex .f64 noneW.1 noneW.2)).setCell ⟨X8+1,1,none⟩ (.complex .f64 0 0)).setCell ⟨X8+1,2,none⟩ (.complex .f64 0 0)).setCell ⟨X8+1,3,none⟩ (.complex .f64 0 0)).setCell ⟨X8+1,4,none⟩ (.complex .f64 0 0)).setCell ⟨X8+1,5,none⟩ (.complex .f64 0 0)).setCell ⟨X8+1,6,none⟩ (.complex .f64 0 0)).setCell ⟨X8+1,7,none⟩ (.complex .f64 0 0)):=only_at (only_at (only_at (only_at (only_at (only_at (only_at (only_at (Only.refl _ W) _ _) _ _) _ _) _ _) _ _) _ _) _ _) _ _
 have HR3:=hid hr3
 have HO3:=hid (HOB.out.only.trans ho3 (fun _ _ h=>h))
 have HOWN3:=hid (ho3.own HOB.out.own (fun k hk e=>by have:=(HOB.out.own.lt k hk).1;have:=HZW.out;omega))
 clear hr3 ho3 r0 r1 r2 r3 r4 r5 r6 r7 f11 HROW
 generalize ((((((((W.setCell ⟨X8+1,0,none⟩ (.complex .f64 noneW.1 noneW.2)).setCell ⟨X8+1,1,none⟩ (.complex .f64 0 0)).setCell ⟨X8+1,2,none⟩ (.complex .f64 0 0)).setCell ⟨X8+1,3,none⟩ (.complex .f64 0 0)).setCell ⟨X8+1,4,none⟩ (.complex .f64 0 0)).setCell ⟨X8+1,5,none⟩ (.complex .f64 0 0)).setCell ⟨X8+1,6,none⟩ (.complex .f64 0 0)).setCell ⟨X8+1,7,none⟩ (.complex .f64 0 0))=w3 at *
 go_wp2_with fail
 refine (head_w kd 0 w3 hkd (by omega)).mono ?_
 rintro e w4 ⟨rfl,rfl⟩
 obtain ⟨r0,r1,r2,r3,r4,r5,r6,r7⟩:=cells8 HR3.out
 have f11:=fun k=>frozen_of_row w3 (X8+1) k _ _ HR3.out
 go_upto_region 10 with fail
 have hrb:=set_me (i:=1) (u:=.complex .f64 (headW kd 0).1 (headW kd 0).2) HR3.out
 have HR4:Hid ((w3.setCell ⟨X8+1,1,none⟩ (.complex .f64 (headW kd 0).1 (headW kd 0).2)).heap[X8+1]?=some (.cells (row8 noneW (headW kd 0) (0,0) (0,0) (0,0) (0,0) (0,0) (0,0)) 299 (0,0))):=hid (by simpa using hrb)
 have hob:=only_at (Only.refl (fun k=>k=X8+1) w3) 1 (.complex .f64 (headW kd 0).1 (headW kd 0).2)
 have HO4:=hid (HO3.out.trans hob (fun _ _ h=>h))
 have HOWN4:=hid (hob.own HOWN3.out (fun k hk e=>by have:=(HOWN3.out.lt k hk).1;have:=HZW.out;omega))
 clear hrb hob HR3 HO3 HOWN3 r0 r1 r2 r3 r4 r5 r6 r7 f11
 generalize w3.setCell ⟨X8+1,1,none⟩ (.complex .f64 (headW kd 0).1 (headW kd 0).2)=w4 at *
 go_wp2_with fail
 refine (Sk.side_any _ (natI xs) w4 w4.heap.size (HG.out w4 (HRW.out.2.2.trans HO4.out (fun i hi e=>by have:=HZ1.out;omega)))).mono ?_
 rintro e w5 ⟨rfl,dd,rfl⟩
 have hpd:Pure w4 (w4.drewN dd):=(Only.refl (fun _=>False) w4).drewN dd
 have HR5:=hid (hpd.blk HR4.out)
 have HO5:=hid (HO4.out.trans (hpd.mono (T:=fun k=>k=X8+1) (fun _ _ f=>f.elim)) (fun _ _ h=>h))
 have HOWN5:=hid (hpd.own HOWN4.out (fun _ _ f=>f))
 clear hpd HR4 HO4 HOWN4
 generalize w4.drewN dd=w5 at *
 simp only []
 rw [HH.out.2.2.2.2.2.2.1]
 cases sd with
 | false =>
  go_upto_region 12 with fail
  by_cases hlast:0+1<xs.length
  ·have hd:decide (0+1<(xs.length:Int))=true:=by simp;omega
   obtain ⟨Ag',cg',hgv,-,-,-,hgc⟩:=HG.out w5 (HRW.out.2.2.trans HO5.out (fun i hi e=>by have:=HZ1.out;omega))
   rw [natI_len] at hgc
   obtain ⟨g,off,hA,hgl,hgx⟩:=hgc (by omega)
   injection hgv with e1 e2 e3
   rw [← e1] at hA
   subst hA
   obtain ⟨x1,hx1⟩:∃ x1,xs[0+1]?=some x1:=⟨_,List.getElem?_eq_getElem hlast⟩
   have g1:w5.cell? ⟨g,off+(0+1),none⟩=some (.int .i64 (x1:Int)):=by rw [hgx (0+1) hlast,natI_get xs _ _ hx1]
   have hx1m:x1≤1000000:=by have:=HH.out.2.2.1 x1 (List.mem_of_getElem? hx1);have:=HH.out.2.2.2.2.2.2.2;omega
   have HX1:=hid (And.intro hx1 hlast)
   clear hgc hgx hgl e1 e2 e3 hx1
   simp only [Int.zero_add] at hd
   simp only [Nat.zero_add] at g1
   obtain ⟨r0,r1,r2,r3,r4,r5,r6,r7⟩:=cells8 HR5.out
   have f11:=fun k=>frozen_of_row w5 (X8+1) k _ _ HR5.out
   go_wp2_with fail
   refine (ref_w x1 w5 hx1m).mono ?_
   rintro e wq ⟨rfl,rfl⟩
   go_upto_region 14 with fail
   have hrb:=set_me (i:=0) (u:=.complex .f64 (refW x1).1 (refW x1).2) HR5.out
   have HR6:Hid ((w5.setCell ⟨X8+1,0,none⟩ (.complex .f64 (refW x1).1 (refW x1).2)).heap[X8+1]?=some (.cells (row8 (refW x1) (headW kd 0) (0,0) (0,0) (0,0) (0,0) (0,0) (0,0)) 299 (0,0))):=hid (by simpa using hrb)
   have hob:=only_at (Only.refl (fun k=>k=X8+1) w5) 0 (.complex .f64 (refW x1).1 (refW x1).2)
   have HO6:=hid (HO5.out.trans hob (fun _ _ h=>h))
   have HOWN6:=hid (hob.own HOWN5.out (fun k hk e=>by have:=(HOWN5.out.lt k hk).1;have:=HZW.out;omega))
   clear hrb hob HR5 HO5 HOWN5 r0 r1 r2 r3 r4 r5 r6 r7 f11
   generalize w5.setCell ⟨X8+1,0,none⟩ (.complex .f64 (refW x1).1 (refW x1).2)=w6 at *
   clear hd g1
   have hsh6:=HO6.out.blk HSHW.out (by omega)
   obtain ⟨y0,y1⟩:=sh_cells hsh6
   have hsl6:=HSLW.out.only HO6.out (fun k hk e=>by have:=HSB.out k hk;omega)
   have hf:=fields_any A8 s.bs d8 0 (X8+1) [(refW x1),(headW kd 0),(0,0),(0,0),(0,0),(0,0),(0,0),(0,0)] w6 hb hsl6 HR6.out rfl (fun e=>by
    cases A8 with
    | none=>simp at e
    | some ad =>
     simp only [Option.map_some,Option.some.injEq] at e
     have:=HSB.out ad.block rfl
     omega)
   have hobj:fieldsJ 0 s.bs s.bs.length [refW x1,(headW kd 0),(0,0),(0,0),(0,0),(0,0),(0,0),(0,0)]=objW kd false xs s.bs 0:=by
    rw [objW,linkW,if_pos HX1.out.2,List.getD_eq_getElem?_getD,HX1.out.1]
    try rfl
   rw [hobj] at hf
   obtain ⟨q0,q1,q2,q3,q4,q5,q6,q7,hq⟩:=list8 (ws:=objW kd false xs s.bs 0) (by rw [objW,fieldsJ_len];rfl)
   rw [hq] at hf
   have HQ:=hid hq
   have HFF:=hid hf
   clear hobj hsh6 hsl6 hf hq
   go_wp2_with fail
   refine HFF.out.mono ?_
   rintro e w7 ⟨rfl,ho7,hr7⟩
   have HO7:=hid (HO6.out.trans ho7 (fun _ _ h=>h))
   have HOWN7:=hid (ho7.own HOWN6.out (fun k hk e=>by have:=(HOWN6.out.lt k hk).1;have:=HZW.out;omega))
   have HR7:Hid (w7.heap[X8+1]?=some (.cells (row8 q0 q1 q2 q3 q4 q5 q6 q7) 299 (0,0))):=hid hr7
   have hpw7:Pure w w7:=HRW.out.2.2.trans HO7.out (fun i hi e=>by have:=HZ1.out;omega)
   have HPW7:=hid hpw7
   have hconf:=HO7.out.blk HRW.out.2.1 (by have:=HZ1.out;omega)
   obtain ⟨k0,k1,k2,k3,k4,k5,k6,k7,k8⟩:_∧_∧_∧_∧_∧_∧_∧_∧_:=⟨(cell_of_row w7 _ 0 _ _ _ hconf).trans rfl,(cell_of_row w7 _ 1 _ _ _ hconf).trans rfl,(cell_of_row w7 _ 2 _ _ _ hconf).trans rfl,(cell_of_row w7 _ 3 _ _ _ hconf).trans rfl,(cell_of_row w7 _ 4 _ _ _ hconf).trans rfl,(cell_of_row w7 _ 5 _ _ _ hconf).trans rfl,(cell_of_row w7 _ 6 _ _ _ hconf).trans rfl,(cell_of_row w7 _ 7 _ _ _ hconf).trans rfl,(cell_of_row w7 _ 8 _ _ _ hconf).trans rfl⟩
   obtain ⟨Ag2,cg2,hgv,-,-,-,hgc⟩:=HG.out w7 hpw7
   rw [natI_len] at hgc
   obtain ⟨gg,oo,hA2,-,hgx⟩:=hgc (by omega)
   injection hgv with e1 e2 e3
   rw [← e1] at hA2
   obtain ⟨x0,hx0⟩:∃ x0,xs[0]?=some x0:=⟨_,List.getElem?_eq_getElem (by omega)⟩
   have g0:w7.cell? ⟨gg,oo+0,none⟩=some (.int .i64 (x0:Int)):=by rw [hgx 0 (by omega),natI_get xs _ _ hx0]
   have hx0m:(x0:Int)<c.frags:=HH.out.2.2.1 x0 (List.mem_of_getElem? hx0)
   have HX0:=hid hx0
   obtain ⟨r0,r1,r2,r3,r4,r5,r6,r7⟩:=cells8 HR7.out
   clear ho7 hr7 HR6 HO6 HOWN6 hpw7 hconf hgc hgx e1 e2 e3 hx0 y0 y1
   injection hA2 with e4
   injection e4 with e5 e6
   subst e5 e6
   simp only [Nat.add_zero] at g0
   have hjl:0<(xs.length:Int):=by omega
   have hjn:0<xs.length:=by omega
   simp only []
   go_upto_region 15 with fail
   go_still_tail 7,(by kernel_rfl)
   change wpList _ _ _ _ _ w7.drew
   have hpd:Pure w7 w7.drew:=(Only.refl (fun _=>False) w7).drewN 1
   have HO7d:=hid (HO7.out.trans (hpd.mono (T:=fun k=>k=X8+1) (fun _ _ f=>f.elim)) (fun _ _ h=>h))
   have HOWN7d:=hid (hpd.own HOWN7.out (fun _ _ f=>f))
   have HR7d:=hid (hpd.blk HR7.out)
   have HPW7d:=hid (HPW7.out.then hpd)
   clear hpd HO7 HOWN7 HR7 HPW7 r0 r1 r2 r3 r4 r5 r6 r7 k0 k1 k2 k3 k4 k5 k6 k7 k8 g0
   generalize w7.drew=w8 at *
   have hwh:=whole_any c _ sh (.slice none 0 0) (objJ kd false xs s.bs 0) W.heap.size x0 q0 q1 q2 q3 q4 q5 q6 q7 w8 (HL.out w8 HPW7d.out) (fun k hk=>by have:=HH.out.2.2.2.2.2.1 k hk;have:=HRW.out.2.2.size;omega) HO7d.out.size HH.out.1 hx0m (by rw [objJ_len];exact HOWN7d.out) (by rw [objJ_len];omega)
   rw [← HQ.out] at hwh
   have HWH:=hid hwh
   clear hwh
   go_wp2_with fail
   refine HWH.out.mono ?_
   rintro e w9 ⟨v9,rfl,hown9,ho9,-⟩
   have hown9':w9.ownsRow W.heap.size 249 2 v9 (8 * (0+1)) (wrs (objJ kd false xs s.bs (0+1))):=by
    rw [objJ_succ,List.getD_eq_getElem?_getD,HX0.out]
    rw [objJ_len] at hown9
    exact hown9
   obtain ⟨A9,c9,rfl⟩:=own_form hown9'
   have HOWN9:=hid hown9'
   have HO9:=hid (HO7d.out.trans ho9 (fun i hi e=>by have:=(HOWN7d.out.lt i e).1;omega))
   have HR9:=hid (ho9.blk HR7d.out (fun e=>by have:=(HOWN7d.out.lt _ e).1;have:=HZW.out;omega))
   clear hown9 hown9' ho9 HWH
   simp only []
   have hd:decide (0+1<(xs.length:Int))=true:=by simp;omega
   simp only [Int.zero_add] at hd
   go_wp2_with fail
   go_step3
   obtain ⟨m1,hm1⟩:∃ m1,mm=m1+1:=⟨mm-1,by have:=HMM.out;omega⟩
   subst hm1
   refine Hop_goto ((congrArg (fun d=>findLabel d 0) HC.out).trans rfl) ?_
   refine hop_rounds ((congrArg (fun d=>findLabel d 0) HC.out).trans rfl) (fun n a' wr=>∃ (j:Nat) (Al:Option Addr) (cl:Nat) (u4 u5 u13 u14 u15 u16 u17 u18 u19 u20 u21 u22 u23 u24 u25 u26 u27 u28 u29 u30 u31 u32 u33 u34 u35 u36 u37 u38 u39 u40 u41 u42 u43 u44 u45 u46 u47 u48 u49 u50 u51 u52 u53 u54 u55 u56 u57 u58 u59 u60 u61 u62 u63 u64:Value),a'={ tmps:=#[cnV c (.slice A sh.length cc),.int .i64 (kd:Int),.slice (some ⟨g,off,none⟩) xs.length cg,.pointer (some ⟨w.heap.size,0,none⟩),u4,u5,.slice none 0 0,.int .i64 0,.pointer (some ⟨X8,0,none⟩),.int .i64 0,.slice Al (8 * j) cl,.pointer (some ⟨X8+1,0,none⟩),.int .i64 (j:Int),u13,u14,u15,u16,u17,u18,u19,u20,u21,u22,u23,u24,u25,u26,u27,u28,u29,u30,u31,u32,u33,u34,u35,u36,u37,u38,u39,u40,u41,u42,u43,u44,u45,u46,u47,u48,u49,u50,u51,u52,u53,u54,u55,u56,u57,u58,u59,u60,u61,u62,u63,u64],defers:=[] }∧1≤j∧j+n+1=xs.length∧ObR (X8+1) W.heap.size kd false xs s.bs j (.slice Al (8 * j) cl) W wr) ?_ m1 _ _ ⟨1,A9,c9,_,_,_,_,_,_,_,_,_,_,_,_,_,_,_,_,_,_,_,_,_,_,_,_,_,_,_,_,_,_,_,_,_,_,_,_,_,_,_,_,_,_,_,_,_,_,_,_,_,_,_,_,_,_,rfl,Nat.le_refl _,by have:=HMM.out;omega,⟨HO9.out,HOWN9.out,_,_,_,_,_,_,_,_,HR9.out⟩⟩
   clear HOWN9 HO9 HR9 HX1 HX0 HQ HFF HO7d HOWN7d HR7d HPW7d HOB HX11 hx0m hd hjl hjn HC
   intro n a' wr hJ
   obtain ⟨j,Al,cl,u4,u5,u13,u14,u15,u16,u17,u18,u19,u20,u21,u22,u23,u24,u25,u26,u27,u28,u29,u30,u31,u32,u33,u34,u35,u36,u37,u38,u39,u40,u41,u42,u43,u44,u45,u46,u47,u48,u49,u50,u51,u52,u53,u54,u55,u56,u57,u58,u59,u60,u61,u62,u63,u64,rfl,hj1,hjn,hob⟩:=hJ
   have HOB:=hid hob
   have HJ0:Hid (¬ j=0):=hid (by omega)
   clear hob
   obtain ⟨z0,z1,z2,z3,z4,z5,z6,z7,hrow⟩:=HOB.out.row
   obtain ⟨r0,r1,r2,r3,r4,r5,r6,r7⟩:=cells8 hrow
   have f11:=fun k=>frozen_of_row wr (X8+1) k _ _ hrow
   have HROW:=hid hrow
   clear hrow
   go_wp2_with fail
   refine (none_w wr).mono ?_
   rintro e w2 ⟨rfl,rfl⟩
   go_upto_region 8 with fail
   have hr3:((((((((wr.setCell ⟨X8+1,0,none⟩ (.complex .f64 noneW.1 noneW.2)).setCell ⟨X8+1,1,none⟩ (.complex .f64 0 0)).setCell ⟨X8+1,2,none⟩ (.complex .f64 0 0)).setCell ⟨X8+1,3,none⟩ (.complex .f64 0 0)).setCell ⟨X8+1,4,none⟩ (.complex .f64 0 0)).setCell ⟨X8+1,5,none⟩ (.complex .f64 0 0)).setCell ⟨X8+1,6,none⟩ (.complex .f64 0 0)).setCell ⟨X8+1,7,none⟩ (.complex .f64 0 0)).heap[X8+1]?=some (.cells (row8 noneW (0,0) (0,0) (0,0) (0,0) (0,0) (0,0) (0,0)) 299 (0,0)):=by
    have:=set_me (i:=7) (u:=(.complex .f64 0 0)) (set_me (i:=6) (u:=(.complex .f64 0 0)) (set_me (i:=5) (u:=(.complex .f64 0 0)) (set_me (i:=4) (u:=(.complex .f64 0 0)) (set_me (i:=3) (u:=(.complex .f64 0 0)) (set_me (i:=2) (u:=(.complex .f64 0 0)) (set_me (i:=1) (u:=(.complex .f64 0 0)) (set_me (i:=0) (u:=(.complex .f64 noneW.1 noneW.2)) (HROW.out))))))))
    simpa using this
   have ho3:Only (fun k=>k=X8+1) wr ((((((((wr.setCell ⟨X8+1,0,none⟩ (.complex .f64 noneW.1 noneW.2)).setCell ⟨X8+1,1,none⟩ (.complex .f64 0 0)).setCell ⟨X8+1,2,none⟩ (.complex .f64 0 0)).setCell ⟨X8+1,3,none⟩ (.complex .f64 0 0)).setCell ⟨X8+1,4,none⟩ (.complex .f64 0 0)).setCell ⟨X8+1,5,none⟩ (.complex .f64 0 0)).setCell ⟨X8+1,6,none⟩ (.complex .f64 0 0)).setCell ⟨X8+1,7,none⟩ (.complex .f64 0 0)):=only_at (only_at (only_at (only_at (only_at (only_at (only_at (only_at (Only.refl _ wr) _ _) _ _) _ _) _ _) _ _) _ _) _ _) _ _
   have HR3:=hid hr3
   have HO3:=hid (HOB.out.only.trans ho3 (fun _ _ h=>h))
   have HOWN3:=hid (ho3.own HOB.out.own (fun k hk e=>by have:=(HOB.out.own.lt k hk).1;have:=HZW.out;omega))
   clear hr3 ho3 r0 r1 r2 r3 r4 r5 r6 r7 f11 HROW
   generalize ((((((((wr.setCell ⟨X8+1,0,none⟩ (.complex .f64 noneW.1 noneW.2)).setCell ⟨X8+1,1,none⟩ (.complex .f64 0 0)).setCell ⟨X8+1,2,none⟩ (.complex .f64 0 0)).setCell ⟨X8+1,3,none⟩ (.complex .f64 0 0)).setCell ⟨X8+1,4,none⟩ (.complex .f64 0 0)).setCell ⟨X8+1,5,none⟩ (.complex .f64 0 0)).setCell ⟨X8+1,6,none⟩ (.complex .f64 0 0)).setCell ⟨X8+1,7,none⟩ (.complex .f64 0 0))=w3 at *
   have hj0:((j:Int) == 0)=false:=by simp;omega
   go_upto_region 12 with fail
   by_cases hlast:j+1<xs.length
   ·have hd:decide ((j:Int)+1<(xs.length:Int))=true:=by simp;omega
    obtain ⟨Ag',cg',hgv,-,-,-,hgc⟩:=HG.out w3 (HRW.out.2.2.trans HO3.out (fun i hi e=>by have:=HZ1.out;omega))
    rw [natI_len] at hgc
    obtain ⟨g,off,hA,hgl,hgx⟩:=hgc (by omega)
    injection hgv with e1 e2 e3
    rw [← e1] at hA
    injection hA with e4
    injection e4 with e5 e6
    subst e5 e6
    obtain ⟨x1,hx1⟩:∃ x1,xs[j+1]?=some x1:=⟨_,List.getElem?_eq_getElem hlast⟩
    have g1:w3.cell? ⟨g,off+(j+1),none⟩=some (.int .i64 (x1:Int)):=by rw [hgx (j+1) hlast,natI_get xs _ _ hx1]
    have hx1m:x1≤1000000:=by have:=HH.out.2.2.1 x1 (List.mem_of_getElem? hx1);have:=HH.out.2.2.2.2.2.2.2;omega
    have HX1:=hid (And.intro hx1 hlast)
    clear hgc hgx hgl e1 e2 e3 hx1
    obtain ⟨r0,r1,r2,r3,r4,r5,r6,r7⟩:=cells8 HR3.out
    have f11:=fun k=>frozen_of_row w3 (X8+1) k _ _ HR3.out
    go_wp2_with fail
    refine (ref_w x1 w3 hx1m).mono ?_
    rintro e wq ⟨rfl,rfl⟩
    go_upto_region 14 with fail
    have hrb:=set_me (i:=0) (u:=.complex .f64 (refW x1).1 (refW x1).2) HR3.out
    have HR6:Hid ((w3.setCell ⟨X8+1,0,none⟩ (.complex .f64 (refW x1).1 (refW x1).2)).heap[X8+1]?=some (.cells (row8 (refW x1) (0,0) (0,0) (0,0) (0,0) (0,0) (0,0) (0,0)) 299 (0,0))):=hid (by simpa using hrb)
    have hob:=only_at (Only.refl (fun k=>k=X8+1) w3) 0 (.complex .f64 (refW x1).1 (refW x1).2)
    have HO6:=hid (HO3.out.trans hob (fun _ _ h=>h))
    have HOWN6:=hid (hob.own HOWN3.out (fun k hk e=>by have:=(HOWN3.out.lt k hk).1;have:=HZW.out;omega))
    clear hrb hob HR3 HO3 HOWN3 r0 r1 r2 r3 r4 r5 r6 r7 f11
    generalize w3.setCell ⟨X8+1,0,none⟩ (.complex .f64 (refW x1).1 (refW x1).2)=w6 at *
    clear hd g1
    have hsh6:=HO6.out.blk HSHW.out (by omega)
    obtain ⟨y0,y1⟩:=sh_cells hsh6
    have hsl6:=HSLW.out.only HO6.out (fun k hk e=>by have:=HSB.out k hk;omega)
    have hf:=fields_any A8 s.bs d8 j (X8+1) [(refW x1),(0,0),(0,0),(0,0),(0,0),(0,0),(0,0),(0,0)] w6 hb hsl6 HR6.out rfl (fun e=>by
     cases A8 with
     | none=>simp at e
     | some ad =>
      simp only [Option.map_some,Option.some.injEq] at e
      have:=HSB.out ad.block rfl
      omega)
    have hobj:fieldsJ j s.bs s.bs.length [refW x1,(0,0),(0,0),(0,0),(0,0),(0,0),(0,0),(0,0)]=objW kd false xs s.bs j:=by
     rw [objW,linkW,if_pos HX1.out.2,List.getD_eq_getElem?_getD,HX1.out.1,headZ,if_neg HJ0.out]
     try rfl
    rw [hobj] at hf
    obtain ⟨q0,q1,q2,q3,q4,q5,q6,q7,hq⟩:=list8 (ws:=objW kd false xs s.bs j) (by rw [objW,fieldsJ_len];rfl)
    rw [hq] at hf
    have HQ:=hid hq
    have HFF:=hid hf
    clear hobj hsh6 hsl6 hf hq
    go_wp2_with fail
    refine HFF.out.mono ?_
    rintro e w7 ⟨rfl,ho7,hr7⟩
    have HO7:=hid (HO6.out.trans ho7 (fun _ _ h=>h))
    have HOWN7:=hid (ho7.own HOWN6.out (fun k hk e=>by have:=(HOWN6.out.lt k hk).1;have:=HZW.out;omega))
    have HR7:Hid (w7.heap[X8+1]?=some (.cells (row8 q0 q1 q2 q3 q4 q5 q6 q7) 299 (0,0))):=hid hr7
    have hpw7:Pure w w7:=HRW.out.2.2.trans HO7.out (fun i hi e=>by have:=HZ1.out;omega)
    have HPW7:=hid hpw7
    have hconf:=HO7.out.blk HRW.out.2.1 (by have:=HZ1.out;omega)
    obtain ⟨k0,k1,k2,k3,k4,k5,k6,k7,k8⟩:_∧_∧_∧_∧_∧_∧_∧_∧_:=⟨(cell_of_row w7 _ 0 _ _ _ hconf).trans rfl,(cell_of_row w7 _ 1 _ _ _ hconf).trans rfl,(cell_of_row w7 _ 2 _ _ _ hconf).trans rfl,(cell_of_row w7 _ 3 _ _ _ hconf).trans rfl,(cell_of_row w7 _ 4 _ _ _ hconf).trans rfl,(cell_of_row w7 _ 5 _ _ _ hconf).trans rfl,(cell_of_row w7 _ 6 _ _ _ hconf).trans rfl,(cell_of_row w7 _ 7 _ _ _ hconf).trans rfl,(cell_of_row w7 _ 8 _ _ _ hconf).trans rfl⟩
    obtain ⟨Ag2,cg2,hgv,-,-,-,hgc⟩:=HG.out w7 hpw7
    rw [natI_len] at hgc
    obtain ⟨gg,oo,hA2,-,hgx⟩:=hgc (by omega)
    injection hgv with e1 e2 e3
    rw [← e1] at hA2
    obtain ⟨x0,hx0⟩:∃ x0,xs[j]?=some x0:=⟨_,List.getElem?_eq_getElem (by omega)⟩
    have g0:w7.cell? ⟨gg,oo+j,none⟩=some (.int .i64 (x0:Int)):=by rw [hgx j (by omega),natI_get xs _ _ hx0]
    have hx0m:(x0:Int)<c.frags:=HH.out.2.2.1 x0 (List.mem_of_getElem? hx0)
    have HX0:=hid hx0
    obtain ⟨r0,r1,r2,r3,r4,r5,r6,r7⟩:=cells8 HR7.out
    clear ho7 hr7 HR6 HO6 HOWN6 hpw7 hconf hgc hgx e1 e2 e3 hx0 y0 y1
    injection hA2 with e4
    injection e4 with e5 e6
    subst e5 e6
    have hjl:(j:Int)<(xs.length:Int):=by omega
    have hjn:j<xs.length:=by omega
    simp only []
    go_upto_region 15 with fail
    go_still_tail 7,(by kernel_rfl)
    change wpList _ _ _ _ _ w7.drew
    have hpd:Pure w7 w7.drew:=(Only.refl (fun _=>False) w7).drewN 1
    have HO7d:=hid (HO7.out.trans (hpd.mono (T:=fun k=>k=X8+1) (fun _ _ f=>f.elim)) (fun _ _ h=>h))
    have HOWN7d:=hid (hpd.own HOWN7.out (fun _ _ f=>f))
    have HR7d:=hid (hpd.blk HR7.out)
    have HPW7d:=hid (HPW7.out.then hpd)
    clear hpd HO7 HOWN7 HR7 HPW7 r0 r1 r2 r3 r4 r5 r6 r7 k0 k1 k2 k3 k4 k5 k6 k7 k8 g0
    generalize w7.drew=w8 at *
    have hwh:=whole_any c _ sh (.slice Al (8 * j) cl) (objJ kd false xs s.bs j) W.heap.size x0 q0 q1 q2 q3 q4 q5 q6 q7 w8 (HL.out w8 HPW7d.out) (fun k hk=>by have:=HH.out.2.2.2.2.2.1 k hk;have:=HRW.out.2.2.size;omega) HO7d.out.size HH.out.1 hx0m (by rw [objJ_len];exact HOWN7d.out) (by rw [objJ_len];omega)
    rw [← HQ.out] at hwh
    have HWH:=hid hwh
    clear hwh
    go_wp2_with fail
    refine HWH.out.mono ?_
    rintro e w9 ⟨v9,rfl,hown9,ho9,-⟩
    have hown9':w9.ownsRow W.heap.size 249 2 v9 (8 * (j+1)) (wrs (objJ kd false xs s.bs (j+1))):=by
     rw [objJ_succ,List.getD_eq_getElem?_getD,HX0.out]
     rw [objJ_len] at hown9
     exact hown9
    obtain ⟨A9,c9,rfl⟩:=own_form hown9'
    have HOWN9:=hid hown9'
    have HO9:=hid (HO7d.out.trans ho9 (fun i hi e=>by have:=(HOWN7d.out.lt i e).1;omega))
    have HR9:=hid (ho9.blk HR7d.out (fun e=>by have:=(HOWN7d.out.lt _ e).1;have:=HZW.out;omega))
    clear hown9 hown9' ho9 HWH
    simp only []
    have hd:decide ((j:Int)+1<(xs.length:Int))=true:=by simp;omega
    go_wp2_with fail
    go_step3
    have e12:(j:Int)+1=((j+1:Nat):Int):=by omega
    rw [e12]
    exact ⟨rfl,n-1,by omega,j+1,A9,c9,_,_,_,_,_,_,_,_,_,_,_,_,_,_,_,_,_,_,_,_,_,_,_,_,_,_,_,_,_,_,_,_,_,_,_,_,_,_,_,_,_,_,_,_,_,_,_,_,_,_,_,_,_,_,rfl,by omega,by omega,⟨HO9.out,HOWN9.out,_,_,_,_,_,_,_,_,HR9.out⟩⟩
   ·have hd:decide ((j:Int)+1<(xs.length:Int))=false:=by simp;omega
    have HX1:=hid hlast
    go_upto_region 14 with fail
    have HR6:=hid HR3.out
    have HO6:=hid HO3.out
    have HOWN6:=hid HOWN3.out
    clear HR3 HO3 HOWN3 hd
    generalize w3=w6 at *
    have hsh6:=HO6.out.blk HSHW.out (by omega)
    obtain ⟨y0,y1⟩:=sh_cells hsh6
    have hsl6:=HSLW.out.only HO6.out (fun k hk e=>by have:=HSB.out k hk;omega)
    have hf:=fields_any A8 s.bs d8 j (X8+1) [noneW,(0,0),(0,0),(0,0),(0,0),(0,0),(0,0),(0,0)] w6 hb hsl6 HR6.out rfl (fun e=>by
     cases A8 with
     | none=>simp at e
     | some ad =>
      simp only [Option.map_some,Option.some.injEq] at e
      have:=HSB.out ad.block rfl
      omega)
    have hobj:fieldsJ j s.bs s.bs.length [noneW,(0,0),(0,0),(0,0),(0,0),(0,0),(0,0),(0,0)]=objW kd false xs s.bs j:=by
     rw [objW,linkW,if_neg HX1.out,headZ,if_neg HJ0.out]
     try rfl
    rw [hobj] at hf
    obtain ⟨q0,q1,q2,q3,q4,q5,q6,q7,hq⟩:=list8 (ws:=objW kd false xs s.bs j) (by rw [objW,fieldsJ_len];rfl)
    rw [hq] at hf
    have HQ:=hid hq
    have HFF:=hid hf
    clear hobj hsh6 hsl6 hf hq
    go_wp2_with fail
    refine HFF.out.mono ?_
    rintro e w7 ⟨rfl,ho7,hr7⟩
    have HO7:=hid (HO6.out.trans ho7 (fun _ _ h=>h))
    have HOWN7:=hid (ho7.own HOWN6.out (fun k hk e=>by have:=(HOWN6.out.lt k hk).1;have:=HZW.out;omega))
    have HR7:Hid (w7.heap[X8+1]?=some (.cells (row8 q0 q1 q2 q3 q4 q5 q6 q7) 299 (0,0))):=hid hr7
    have hpw7:Pure w w7:=HRW.out.2.2.trans HO7.out (fun i hi e=>by have:=HZ1.out;omega)
    have HPW7:=hid hpw7
    have hconf:=HO7.out.blk HRW.out.2.1 (by have:=HZ1.out;omega)
    obtain ⟨k0,k1,k2,k3,k4,k5,k6,k7,k8⟩:_∧_∧_∧_∧_∧_∧_∧_∧_:=⟨(cell_of_row w7 _ 0 _ _ _ hconf).trans rfl,(cell_of_row w7 _ 1 _ _ _ hconf).trans rfl,(cell_of_row w7 _ 2 _ _ _ hconf).trans rfl,(cell_of_row w7 _ 3 _ _ _ hconf).trans rfl,(cell_of_row w7 _ 4 _ _ _ hconf).trans rfl,(cell_of_row w7 _ 5 _ _ _ hconf).trans rfl,(cell_of_row w7 _ 6 _ _ _ hconf).trans rfl,(cell_of_row w7 _ 7 _ _ _ hconf).trans rfl,(cell_of_row w7 _ 8 _ _ _ hconf).trans rfl⟩
    obtain ⟨Ag2,cg2,hgv,-,-,-,hgc⟩:=HG.out w7 hpw7
    rw [natI_len] at hgc
    obtain ⟨gg,oo,hA2,-,hgx⟩:=hgc (by omega)
    injection hgv with e1 e2 e3
    rw [← e1] at hA2
    obtain ⟨x0,hx0⟩:∃ x0,xs[j]?=some x0:=⟨_,List.getElem?_eq_getElem (by omega)⟩
    have g0:w7.cell? ⟨gg,oo+j,none⟩=some (.int .i64 (x0:Int)):=by rw [hgx j (by omega),natI_get xs _ _ hx0]
    have hx0m:(x0:Int)<c.frags:=HH.out.2.2.1 x0 (List.mem_of_getElem? hx0)
    have HX0:=hid hx0
    obtain ⟨r0,r1,r2,r3,r4,r5,r6,r7⟩:=cells8 HR7.out
    clear ho7 hr7 HR6 HO6 HOWN6 hpw7 hconf hgc hgx e1 e2 e3 hx0 y0 y1
    injection hA2 with e4
    injection e4 with e5 e6
    subst e5 e6
    have hjl:(j:Int)<(xs.length:Int):=by omega
    have hjn:j<xs.length:=by omega
    simp only []
    go_upto_region 15 with fail
    go_still_tail 7,(by kernel_rfl)
    change wpList _ _ _ _ _ w7.drew
    have hpd:Pure w7 w7.drew:=(Only.refl (fun _=>False) w7).drewN 1
    have HO7d:=hid (HO7.out.trans (hpd.mono (T:=fun k=>k=X8+1) (fun _ _ f=>f.elim)) (fun _ _ h=>h))
    have HOWN7d:=hid (hpd.own HOWN7.out (fun _ _ f=>f))
    have HR7d:=hid (hpd.blk HR7.out)
    have HPW7d:=hid (HPW7.out.then hpd)
    clear hpd HO7 HOWN7 HR7 HPW7 r0 r1 r2 r3 r4 r5 r6 r7 k0 k1 k2 k3 k4 k5 k6 k7 k8 g0
    generalize w7.drew=w8 at *
    have hwh:=whole_any c _ sh (.slice Al (8 * j) cl) (objJ kd false xs s.bs j) W.heap.size x0 q0 q1 q2 q3 q4 q5 q6 q7 w8 (HL.out w8 HPW7d.out) (fun k hk=>by have:=HH.out.2.2.2.2.2.1 k hk;have:=HRW.out.2.2.size;omega) HO7d.out.size HH.out.1 hx0m (by rw [objJ_len];exact HOWN7d.out) (by rw [objJ_len];omega)
    rw [← HQ.out] at hwh
    have HWH:=hid hwh
    clear hwh
    go_wp2_with fail
    refine HWH.out.mono ?_
    rintro e w9 ⟨v9,rfl,hown9,ho9,-⟩
    have hown9':w9.ownsRow W.heap.size 249 2 v9 (8 * (j+1)) (wrs (objJ kd false xs s.bs (j+1))):=by
     rw [objJ_succ,List.getD_eq_getElem?_getD,HX0.out]
     rw [objJ_len] at hown9
     exact hown9
    obtain ⟨A9,c9,rfl⟩:=own_form hown9'
    have HOWN9:=hid hown9'
    have HO9:=hid (HO7d.out.trans ho9 (fun i hi e=>by have:=(HOWN7d.out.lt i e).1;omega))
    have HR9:=hid (ho9.blk HR7d.out (fun e=>by have:=(HOWN7d.out.lt _ e).1;have:=HZW.out;omega))
    clear hown9 hown9' ho9 HWH
    simp only []
    have hd:decide ((j:Int)+1<(xs.length:Int))=false:=by simp;omega
    go_wp2_with fail
    simp only [Exit.jump]
    go_ret2
    have hle:xs.length=j+1:=by omega
    exact ⟨_,rfl,HRW.out.2.2.trans HO9.out (fun i hi e=>by have:=HZ1.out;omega),by rw [hle];exact own_mono HOWN9.out (by have:=HRW.out.2.2.size;omega)⟩
  ·have hd:decide (0+1<(xs.length:Int))=false:=by simp;omega
   simp only [Int.zero_add] at hd
   have HX1:=hid hlast
   go_upto_region 14 with fail
   have HR6:=hid HR5.out
   have HO6:=hid HO5.out
   have HOWN6:=hid HOWN5.out
   clear HR5 HO5 HOWN5 hd
   generalize w5=w6 at *
   have hsh6:=HO6.out.blk HSHW.out (by omega)
   obtain ⟨y0,y1⟩:=sh_cells hsh6
   have hsl6:=HSLW.out.only HO6.out (fun k hk e=>by have:=HSB.out k hk;omega)
   have hf:=fields_any A8 s.bs d8 0 (X8+1) [noneW,(headW kd 0),(0,0),(0,0),(0,0),(0,0),(0,0),(0,0)] w6 hb hsl6 HR6.out rfl (fun e=>by
    cases A8 with
    | none=>simp at e
    | some ad =>
     simp only [Option.map_some,Option.some.injEq] at e
     have:=HSB.out ad.block rfl
     omega)
   have hobj:fieldsJ 0 s.bs s.bs.length [noneW,(headW kd 0),(0,0),(0,0),(0,0),(0,0),(0,0),(0,0)]=objW kd false xs s.bs 0:=by
    rw [objW,linkW,if_neg HX1.out]
    try rfl
   rw [hobj] at hf
   obtain ⟨q0,q1,q2,q3,q4,q5,q6,q7,hq⟩:=list8 (ws:=objW kd false xs s.bs 0) (by rw [objW,fieldsJ_len];rfl)
   rw [hq] at hf
   have HQ:=hid hq
   have HFF:=hid hf
   clear hobj hsh6 hsl6 hf hq
   go_wp2_with fail
   refine HFF.out.mono ?_
   rintro e w7 ⟨rfl,ho7,hr7⟩
   have HO7:=hid (HO6.out.trans ho7 (fun _ _ h=>h))
   have HOWN7:=hid (ho7.own HOWN6.out (fun k hk e=>by have:=(HOWN6.out.lt k hk).1;have:=HZW.out;omega))
   have HR7:Hid (w7.heap[X8+1]?=some (.cells (row8 q0 q1 q2 q3 q4 q5 q6 q7) 299 (0,0))):=hid hr7
   have hpw7:Pure w w7:=HRW.out.2.2.trans HO7.out (fun i hi e=>by have:=HZ1.out;omega)
   have HPW7:=hid hpw7
   have hconf:=HO7.out.blk HRW.out.2.1 (by have:=HZ1.out;omega)
   obtain ⟨k0,k1,k2,k3,k4,k5,k6,k7,k8⟩:_∧_∧_∧_∧_∧_∧_∧_∧_:=⟨(cell_of_row w7 _ 0 _ _ _ hconf).trans rfl,(cell_of_row w7 _ 1 _ _ _ hconf).trans rfl,(cell_of_row w7 _ 2 _ _ _ hconf).trans rfl,(cell_of_row w7 _ 3 _ _ _ hconf).trans rfl,(cell_of_row w7 _ 4 _ _ _ hconf).trans rfl,(cell_of_row w7 _ 5 _ _ _ hconf).trans rfl,(cell_of_row w7 _ 6 _ _ _ hconf).trans rfl,(cell_of_row w7 _ 7 _ _ _ hconf).trans rfl,(cell_of_row w7 _ 8 _ _ _ hconf).trans rfl⟩
   obtain ⟨Ag2,cg2,hgv,-,-,-,hgc⟩:=HG.out w7 hpw7
   rw [natI_len] at hgc
   obtain ⟨gg,oo,hA2,-,hgx⟩:=hgc (by omega)
   injection hgv with e1 e2 e3
   rw [← e1] at hA2
   obtain ⟨x0,hx0⟩:∃ x0,xs[0]?=some x0:=⟨_,List.getElem?_eq_getElem (by omega)⟩
   have g0:w7.cell? ⟨gg,oo+0,none⟩=some (.int .i64 (x0:Int)):=by rw [hgx 0 (by omega),natI_get xs _ _ hx0]
   have hx0m:(x0:Int)<c.frags:=HH.out.2.2.1 x0 (List.mem_of_getElem? hx0)
   have HX0:=hid hx0
   obtain ⟨r0,r1,r2,r3,r4,r5,r6,r7⟩:=cells8 HR7.out
   clear ho7 hr7 HR6 HO6 HOWN6 hpw7 hconf hgc hgx e1 e2 e3 hx0 y0 y1
   subst hA2
   simp only [Nat.add_zero] at g0
   have hjl:0<(xs.length:Int):=by omega
   have hjn:0<xs.length:=by omega
   simp only []
   go_upto_region 15 with fail
   go_still_tail 7,(by kernel_rfl)
   change wpList _ _ _ _ _ w7.drew
   have hpd:Pure w7 w7.drew:=(Only.refl (fun _=>False) w7).drewN 1
   have HO7d:=hid (HO7.out.trans (hpd.mono (T:=fun k=>k=X8+1) (fun _ _ f=>f.elim)) (fun _ _ h=>h))
   have HOWN7d:=hid (hpd.own HOWN7.out (fun _ _ f=>f))
   have HR7d:=hid (hpd.blk HR7.out)
   have HPW7d:=hid (HPW7.out.then hpd)
   clear hpd HO7 HOWN7 HR7 HPW7 r0 r1 r2 r3 r4 r5 r6 r7 k0 k1 k2 k3 k4 k5 k6 k7 k8 g0
   generalize w7.drew=w8 at *
   have hwh:=whole_any c _ sh (.slice none 0 0) (objJ kd false xs s.bs 0) W.heap.size x0 q0 q1 q2 q3 q4 q5 q6 q7 w8 (HL.out w8 HPW7d.out) (fun k hk=>by have:=HH.out.2.2.2.2.2.1 k hk;have:=HRW.out.2.2.size;omega) HO7d.out.size HH.out.1 hx0m (by rw [objJ_len];exact HOWN7d.out) (by rw [objJ_len];omega)
   rw [← HQ.out] at hwh
   have HWH:=hid hwh
   clear hwh
   go_wp2_with fail
   refine HWH.out.mono ?_
   rintro e w9 ⟨v9,rfl,hown9,ho9,-⟩
   have hown9':w9.ownsRow W.heap.size 249 2 v9 (8 * (0+1)) (wrs (objJ kd false xs s.bs (0+1))):=by
    rw [objJ_succ,List.getD_eq_getElem?_getD,HX0.out]
    rw [objJ_len] at hown9
    exact hown9
   obtain ⟨A9,c9,rfl⟩:=own_form hown9'
   have HOWN9:=hid hown9'
   have HO9:=hid (HO7d.out.trans ho9 (fun i hi e=>by have:=(HOWN7d.out.lt i e).1;omega))
   have HR9:=hid (ho9.blk HR7d.out (fun e=>by have:=(HOWN7d.out.lt _ e).1;have:=HZW.out;omega))
   clear hown9 hown9' ho9 HWH
   simp only []
   have hd:decide (0+1<(xs.length:Int))=false:=by simp;omega
   simp only [Int.zero_add] at hd
   go_wp2_with fail
   simp only [Hop_ret]
   go_ret2
   have hle:xs.length=0+1:=by omega
   exact ⟨_,rfl,HRW.out.2.2.trans HO9.out (fun i hi e=>by have:=HZ1.out;omega),by rw [hle];exact own_mono HOWN9.out (by have:=HRW.out.2.2.size;omega)⟩
 | true =>
  go_wp2_with fail
  refine (head_w kd 1 w5 hkd (by omega)).mono ?_
  rintro e wq ⟨rfl,rfl⟩
  obtain ⟨r0,r1,r2,r3,r4,r5,r6,r7⟩:=cells8 HR5.out
  have f11:=fun k=>frozen_of_row w5 (X8+1) k _ _ HR5.out
  go_upto_region 12 with fail
  have hrb:=set_me (i:=1) (u:=.complex .f64 (headW kd 1).1 (headW kd 1).2) HR5.out
  have HR51:Hid ((w5.setCell ⟨X8+1,1,none⟩ (.complex .f64 (headW kd 1).1 (headW kd 1).2)).heap[X8+1]?=some (.cells (row8 noneW (headW kd 1) (0,0) (0,0) (0,0) (0,0) (0,0) (0,0)) 299 (0,0))):=hid (by simpa using hrb)
  have hob:=only_at (Only.refl (fun k=>k=X8+1) w5) 1 (.complex .f64 (headW kd 1).1 (headW kd 1).2)
  have HO51:=hid (HO5.out.trans hob (fun _ _ h=>h))
  have HOWN51:=hid (hob.own HOWN5.out (fun k hk e=>by have:=(HOWN5.out.lt k hk).1;have:=HZW.out;omega))
  clear hrb hob HR5 HO5 HOWN5 r0 r1 r2 r3 r4 r5 r6 r7 f11
  generalize w5.setCell ⟨X8+1,1,none⟩ (.complex .f64 (headW kd 1).1 (headW kd 1).2)=w51 at *
  by_cases hlast:0+1<xs.length
  ·have hd:decide (0+1<(xs.length:Int))=true:=by simp;omega
   obtain ⟨Ag',cg',hgv,-,-,-,hgc⟩:=HG.out w51 (HRW.out.2.2.trans HO51.out (fun i hi e=>by have:=HZ1.out;omega))
   rw [natI_len] at hgc
   obtain ⟨g,off,hA,hgl,hgx⟩:=hgc (by omega)
   injection hgv with e1 e2 e3
   rw [← e1] at hA
   subst hA
   obtain ⟨x1,hx1⟩:∃ x1,xs[0+1]?=some x1:=⟨_,List.getElem?_eq_getElem hlast⟩
   have g1:w51.cell? ⟨g,off+(0+1),none⟩=some (.int .i64 (x1:Int)):=by rw [hgx (0+1) hlast,natI_get xs _ _ hx1]
   have hx1m:x1≤1000000:=by have:=HH.out.2.2.1 x1 (List.mem_of_getElem? hx1);have:=HH.out.2.2.2.2.2.2.2;omega
   have HX1:=hid (And.intro hx1 hlast)
   clear hgc hgx hgl e1 e2 e3 hx1
   simp only [Int.zero_add] at hd
   simp only [Nat.zero_add] at g1
   obtain ⟨r0,r1,r2,r3,r4,r5,r6,r7⟩:=cells8 HR51.out
   have f11:=fun k=>frozen_of_row w51 (X8+1) k _ _ HR51.out
   go_wp2_with fail
   refine (ref_w x1 w51 hx1m).mono ?_
   rintro e wq ⟨rfl,rfl⟩
   go_upto_region 14 with fail
   have hrb:=set_me (i:=0) (u:=.complex .f64 (refW x1).1 (refW x1).2) HR51.out
   have HR6:Hid ((w51.setCell ⟨X8+1,0,none⟩ (.complex .f64 (refW x1).1 (refW x1).2)).heap[X8+1]?=some (.cells (row8 (refW x1) (headW kd 1) (0,0) (0,0) (0,0) (0,0) (0,0) (0,0)) 299 (0,0))):=hid (by simpa using hrb)
   have hob:=only_at (Only.refl (fun k=>k=X8+1) w51) 0 (.complex .f64 (refW x1).1 (refW x1).2)
   have HO6:=hid (HO51.out.trans hob (fun _ _ h=>h))
   have HOWN6:=hid (hob.own HOWN51.out (fun k hk e=>by have:=(HOWN51.out.lt k hk).1;have:=HZW.out;omega))
   clear hrb hob HR51 HO51 HOWN51 r0 r1 r2 r3 r4 r5 r6 r7 f11
   generalize w51.setCell ⟨X8+1,0,none⟩ (.complex .f64 (refW x1).1 (refW x1).2)=w6 at *
   clear hd g1
   have hsh6:=HO6.out.blk HSHW.out (by omega)
   obtain ⟨y0,y1⟩:=sh_cells hsh6
   have hsl6:=HSLW.out.only HO6.out (fun k hk e=>by have:=HSB.out k hk;omega)
   have hf:=fields_any A8 s.bs d8 0 (X8+1) [(refW x1),(headW kd 1),(0,0),(0,0),(0,0),(0,0),(0,0),(0,0)] w6 hb hsl6 HR6.out rfl (fun e=>by
    cases A8 with
    | none=>simp at e
    | some ad =>
     simp only [Option.map_some,Option.some.injEq] at e
     have:=HSB.out ad.block rfl
     omega)
   have hobj:fieldsJ 0 s.bs s.bs.length [refW x1,(headW kd 1),(0,0),(0,0),(0,0),(0,0),(0,0),(0,0)]=objW kd true xs s.bs 0:=by
    rw [objW,linkW,if_pos HX1.out.2,List.getD_eq_getElem?_getD,HX1.out.1]
    try rfl
   rw [hobj] at hf
   obtain ⟨q0,q1,q2,q3,q4,q5,q6,q7,hq⟩:=list8 (ws:=objW kd true xs s.bs 0) (by rw [objW,fieldsJ_len];rfl)
   rw [hq] at hf
   have HQ:=hid hq
   have HFF:=hid hf
   clear hobj hsh6 hsl6 hf hq
   go_wp2_with fail
   refine HFF.out.mono ?_
   rintro e w7 ⟨rfl,ho7,hr7⟩
   have HO7:=hid (HO6.out.trans ho7 (fun _ _ h=>h))
   have HOWN7:=hid (ho7.own HOWN6.out (fun k hk e=>by have:=(HOWN6.out.lt k hk).1;have:=HZW.out;omega))
   have HR7:Hid (w7.heap[X8+1]?=some (.cells (row8 q0 q1 q2 q3 q4 q5 q6 q7) 299 (0,0))):=hid hr7
   have hpw7:Pure w w7:=HRW.out.2.2.trans HO7.out (fun i hi e=>by have:=HZ1.out;omega)
   have HPW7:=hid hpw7
   have hconf:=HO7.out.blk HRW.out.2.1 (by have:=HZ1.out;omega)
   obtain ⟨k0,k1,k2,k3,k4,k5,k6,k7,k8⟩:_∧_∧_∧_∧_∧_∧_∧_∧_:=⟨(cell_of_row w7 _ 0 _ _ _ hconf).trans rfl,(cell_of_row w7 _ 1 _ _ _ hconf).trans rfl,(cell_of_row w7 _ 2 _ _ _ hconf).trans rfl,(cell_of_row w7 _ 3 _ _ _ hconf).trans rfl,(cell_of_row w7 _ 4 _ _ _ hconf).trans rfl,(cell_of_row w7 _ 5 _ _ _ hconf).trans rfl,(cell_of_row w7 _ 6 _ _ _ hconf).trans rfl,(cell_of_row w7 _ 7 _ _ _ hconf).trans rfl,(cell_of_row w7 _ 8 _ _ _ hconf).trans rfl⟩
   obtain ⟨Ag2,cg2,hgv,-,-,-,hgc⟩:=HG.out w7 hpw7
   rw [natI_len] at hgc
   obtain ⟨gg,oo,hA2,-,hgx⟩:=hgc (by omega)
   injection hgv with e1 e2 e3
   rw [← e1] at hA2
   obtain ⟨x0,hx0⟩:∃ x0,xs[0]?=some x0:=⟨_,List.getElem?_eq_getElem (by omega)⟩
   have g0:w7.cell? ⟨gg,oo+0,none⟩=some (.int .i64 (x0:Int)):=by rw [hgx 0 (by omega),natI_get xs _ _ hx0]
   have hx0m:(x0:Int)<c.frags:=HH.out.2.2.1 x0 (List.mem_of_getElem? hx0)
   have HX0:=hid hx0
   obtain ⟨r0,r1,r2,r3,r4,r5,r6,r7⟩:=cells8 HR7.out
   clear ho7 hr7 HR6 HO6 HOWN6 hpw7 hconf hgc hgx e1 e2 e3 hx0 y0 y1
   injection hA2 with e4
   injection e4 with e5 e6
   subst e5 e6
   simp only [Nat.add_zero] at g0
   have hjl:0<(xs.length:Int):=by omega
   have hjn:0<xs.length:=by omega
   simp only []
   go_upto_region 15 with fail
   go_still_tail 7,(by kernel_rfl)
   change wpList _ _ _ _ _ w7.drew
   have hpd:Pure w7 w7.drew:=(Only.refl (fun _=>False) w7).drewN 1
   have HO7d:=hid (HO7.out.trans (hpd.mono (T:=fun k=>k=X8+1) (fun _ _ f=>f.elim)) (fun _ _ h=>h))
   have HOWN7d:=hid (hpd.own HOWN7.out (fun _ _ f=>f))
   have HR7d:=hid (hpd.blk HR7.out)
   have HPW7d:=hid (HPW7.out.then hpd)
   clear hpd HO7 HOWN7 HR7 HPW7 r0 r1 r2 r3 r4 r5 r6 r7 k0 k1 k2 k3 k4 k5 k6 k7 k8 g0
   generalize w7.drew=w8 at *
   have hwh:=whole_any c _ sh (.slice none 0 0) (objJ kd true xs s.bs 0) W.heap.size x0 q0 q1 q2 q3 q4 q5 q6 q7 w8 (HL.out w8 HPW7d.out) (fun k hk=>by have:=HH.out.2.2.2.2.2.1 k hk;have:=HRW.out.2.2.size;omega) HO7d.out.size HH.out.1 hx0m (by rw [objJ_len];exact HOWN7d.out) (by rw [objJ_len];omega)
   rw [← HQ.out] at hwh
   have HWH:=hid hwh
   clear hwh
   go_wp2_with fail
   refine HWH.out.mono ?_
   rintro e w9 ⟨v9,rfl,hown9,ho9,-⟩
   have hown9':w9.ownsRow W.heap.size 249 2 v9 (8 * (0+1)) (wrs (objJ kd true xs s.bs (0+1))):=by
    rw [objJ_succ,List.getD_eq_getElem?_getD,HX0.out]
    rw [objJ_len] at hown9
    exact hown9
   obtain ⟨A9,c9,rfl⟩:=own_form hown9'
   have HOWN9:=hid hown9'
   have HO9:=hid (HO7d.out.trans ho9 (fun i hi e=>by have:=(HOWN7d.out.lt i e).1;omega))
   have HR9:=hid (ho9.blk HR7d.out (fun e=>by have:=(HOWN7d.out.lt _ e).1;have:=HZW.out;omega))
   clear hown9 hown9' ho9 HWH
   simp only []
   have hd:decide (0+1<(xs.length:Int))=true:=by simp;omega
   simp only [Int.zero_add] at hd
   go_wp2_with fail
   go_step3
   obtain ⟨m1,hm1⟩:∃ m1,mm=m1+1:=⟨mm-1,by have:=HMM.out;omega⟩
   subst hm1
   refine Hop_goto ((congrArg (fun d=>findLabel d 0) HC.out).trans rfl) ?_
   refine hop_rounds ((congrArg (fun d=>findLabel d 0) HC.out).trans rfl) (fun n a' wr=>∃ (j:Nat) (Al:Option Addr) (cl:Nat) (u4 u5 u13 u14 u15 u16 u17 u18 u19 u20 u21 u22 u23 u24 u25 u26 u27 u28 u29 u30 u31 u32 u33 u34 u35 u36 u37 u38 u39 u40 u41 u42 u43 u44 u45 u46 u47 u48 u49 u50 u51 u52 u53 u54 u55 u56 u57 u58 u59 u60 u61 u62 u63 u64:Value),a'={ tmps:=#[cnV c (.slice A sh.length cc),.int .i64 (kd:Int),.slice (some ⟨g,off,none⟩) xs.length cg,.pointer (some ⟨w.heap.size,0,none⟩),u4,u5,.slice none 0 0,.int .i64 0,.pointer (some ⟨X8,0,none⟩),.int .i64 0,.slice Al (8 * j) cl,.pointer (some ⟨X8+1,0,none⟩),.int .i64 (j:Int),u13,u14,u15,u16,u17,u18,u19,u20,u21,u22,u23,u24,u25,u26,u27,u28,u29,u30,u31,u32,u33,u34,u35,u36,u37,u38,u39,u40,u41,u42,u43,u44,u45,u46,u47,u48,u49,u50,u51,u52,u53,u54,u55,u56,u57,u58,u59,u60,u61,u62,u63,u64],defers:=[] }∧1≤j∧j+n+1=xs.length∧ObR (X8+1) W.heap.size kd true xs s.bs j (.slice Al (8 * j) cl) W wr) ?_ m1 _ _ ⟨1,A9,c9,_,_,_,_,_,_,_,_,_,_,_,_,_,_,_,_,_,_,_,_,_,_,_,_,_,_,_,_,_,_,_,_,_,_,_,_,_,_,_,_,_,_,_,_,_,_,_,_,_,_,_,_,_,_,rfl,Nat.le_refl _,by have:=HMM.out;omega,⟨HO9.out,HOWN9.out,_,_,_,_,_,_,_,_,HR9.out⟩⟩
   clear HOWN9 HO9 HR9 HX1 HX0 HQ HFF HO7d HOWN7d HR7d HPW7d HOB HX11 hx0m hd hjl hjn HC
   intro n a' wr hJ
   obtain ⟨j,Al,cl,u4,u5,u13,u14,u15,u16,u17,u18,u19,u20,u21,u22,u23,u24,u25,u26,u27,u28,u29,u30,u31,u32,u33,u34,u35,u36,u37,u38,u39,u40,u41,u42,u43,u44,u45,u46,u47,u48,u49,u50,u51,u52,u53,u54,u55,u56,u57,u58,u59,u60,u61,u62,u63,u64,rfl,hj1,hjn,hob⟩:=hJ
   have HOB:=hid hob
   have HJ0:Hid (¬ j=0):=hid (by omega)
   clear hob
   obtain ⟨z0,z1,z2,z3,z4,z5,z6,z7,hrow⟩:=HOB.out.row
   obtain ⟨r0,r1,r2,r3,r4,r5,r6,r7⟩:=cells8 hrow
   have f11:=fun k=>frozen_of_row wr (X8+1) k _ _ hrow
   have HROW:=hid hrow
   clear hrow
   go_wp2_with fail
   refine (none_w wr).mono ?_
   rintro e w2 ⟨rfl,rfl⟩
   go_upto_region 8 with fail
   have hr3:((((((((wr.setCell ⟨X8+1,0,none⟩ (.complex .f64 noneW.1 noneW.2)).setCell ⟨X8+1,1,none⟩ (.complex .f64 0 0)).setCell ⟨X8+1,2,none⟩ (.complex .f64 0 0)).setCell ⟨X8+1,3,none⟩ (.complex .f64 0 0)).setCell ⟨X8+1,4,none⟩ (.complex .f64 0 0)).setCell ⟨X8+1,5,none⟩ (.complex .f64 0 0)).setCell ⟨X8+1,6,none⟩ (.complex .f64 0 0)).setCell ⟨X8+1,7,none⟩ (.complex .f64 0 0)).heap[X8+1]?=some (.cells (row8 noneW (0,0) (0,0) (0,0) (0,0) (0,0) (0,0) (0,0)) 299 (0,0)):=by
    have:=set_me (i:=7) (u:=(.complex .f64 0 0)) (set_me (i:=6) (u:=(.complex .f64 0 0)) (set_me (i:=5) (u:=(.complex .f64 0 0)) (set_me (i:=4) (u:=(.complex .f64 0 0)) (set_me (i:=3) (u:=(.complex .f64 0 0)) (set_me (i:=2) (u:=(.complex .f64 0 0)) (set_me (i:=1) (u:=(.complex .f64 0 0)) (set_me (i:=0) (u:=(.complex .f64 noneW.1 noneW.2)) (HROW.out))))))))
    simpa using this
   have ho3:Only (fun k=>k=X8+1) wr ((((((((wr.setCell ⟨X8+1,0,none⟩ (.complex .f64 noneW.1 noneW.2)).setCell ⟨X8+1,1,none⟩ (.complex .f64 0 0)).setCell ⟨X8+1,2,none⟩ (.complex .f64 0 0)).setCell ⟨X8+1,3,none⟩ (.complex .f64 0 0)).setCell ⟨X8+1,4,none⟩ (.complex .f64 0 0)).setCell ⟨X8+1,5,none⟩ (.complex .f64 0 0)).setCell ⟨X8+1,6,none⟩ (.complex .f64 0 0)).setCell ⟨X8+1,7,none⟩ (.complex .f64 0 0)):=only_at (only_at (only_at (only_at (only_at (only_at (only_at (only_at (Only.refl _ wr) _ _) _ _) _ _) _ _) _ _) _ _) _ _) _ _
   have HR3:=hid hr3
   have HO3:=hid (HOB.out.only.trans ho3 (fun _ _ h=>h))
   have HOWN3:=hid (ho3.own HOB.out.own (fun k hk e=>by have:=(HOB.out.own.lt k hk).1;have:=HZW.out;omega))
   clear hr3 ho3 r0 r1 r2 r3 r4 r5 r6 r7 f11 HROW
   generalize ((((((((wr.setCell ⟨X8+1,0,none⟩ (.complex .f64 noneW.1 noneW.2)).setCell ⟨X8+1,1,none⟩ (.complex .f64 0 0)).setCell ⟨X8+1,2,none⟩ (.complex .f64 0 0)).setCell ⟨X8+1,3,none⟩ (.complex .f64 0 0)).setCell ⟨X8+1,4,none⟩ (.complex .f64 0 0)).setCell ⟨X8+1,5,none⟩ (.complex .f64 0 0)).setCell ⟨X8+1,6,none⟩ (.complex .f64 0 0)).setCell ⟨X8+1,7,none⟩ (.complex .f64 0 0))=w3 at *
   have hj0:((j:Int) == 0)=false:=by simp;omega
   go_upto_region 12 with fail
   by_cases hlast:j+1<xs.length
   ·have hd:decide ((j:Int)+1<(xs.length:Int))=true:=by simp;omega
    obtain ⟨Ag',cg',hgv,-,-,-,hgc⟩:=HG.out w3 (HRW.out.2.2.trans HO3.out (fun i hi e=>by have:=HZ1.out;omega))
    rw [natI_len] at hgc
    obtain ⟨g,off,hA,hgl,hgx⟩:=hgc (by omega)
    injection hgv with e1 e2 e3
    rw [← e1] at hA
    injection hA with e4
    injection e4 with e5 e6
    subst e5 e6
    obtain ⟨x1,hx1⟩:∃ x1,xs[j+1]?=some x1:=⟨_,List.getElem?_eq_getElem hlast⟩
    have g1:w3.cell? ⟨g,off+(j+1),none⟩=some (.int .i64 (x1:Int)):=by rw [hgx (j+1) hlast,natI_get xs _ _ hx1]
    have hx1m:x1≤1000000:=by have:=HH.out.2.2.1 x1 (List.mem_of_getElem? hx1);have:=HH.out.2.2.2.2.2.2.2;omega
    have HX1:=hid (And.intro hx1 hlast)
    clear hgc hgx hgl e1 e2 e3 hx1
    obtain ⟨r0,r1,r2,r3,r4,r5,r6,r7⟩:=cells8 HR3.out
    have f11:=fun k=>frozen_of_row w3 (X8+1) k _ _ HR3.out
    go_wp2_with fail
    refine (ref_w x1 w3 hx1m).mono ?_
    rintro e wq ⟨rfl,rfl⟩
    go_upto_region 14 with fail
    have hrb:=set_me (i:=0) (u:=.complex .f64 (refW x1).1 (refW x1).2) HR3.out
    have HR6:Hid ((w3.setCell ⟨X8+1,0,none⟩ (.complex .f64 (refW x1).1 (refW x1).2)).heap[X8+1]?=some (.cells (row8 (refW x1) (0,0) (0,0) (0,0) (0,0) (0,0) (0,0) (0,0)) 299 (0,0))):=hid (by simpa using hrb)
    have hob:=only_at (Only.refl (fun k=>k=X8+1) w3) 0 (.complex .f64 (refW x1).1 (refW x1).2)
    have HO6:=hid (HO3.out.trans hob (fun _ _ h=>h))
    have HOWN6:=hid (hob.own HOWN3.out (fun k hk e=>by have:=(HOWN3.out.lt k hk).1;have:=HZW.out;omega))
    clear hrb hob HR3 HO3 HOWN3 r0 r1 r2 r3 r4 r5 r6 r7 f11
    generalize w3.setCell ⟨X8+1,0,none⟩ (.complex .f64 (refW x1).1 (refW x1).2)=w6 at *
    clear hd g1
    have hsh6:=HO6.out.blk HSHW.out (by omega)
    obtain ⟨y0,y1⟩:=sh_cells hsh6
    have hsl6:=HSLW.out.only HO6.out (fun k hk e=>by have:=HSB.out k hk;omega)
    have hf:=fields_any A8 s.bs d8 j (X8+1) [(refW x1),(0,0),(0,0),(0,0),(0,0),(0,0),(0,0),(0,0)] w6 hb hsl6 HR6.out rfl (fun e=>by
     cases A8 with
     | none=>simp at e
     | some ad =>
      simp only [Option.map_some,Option.some.injEq] at e
      have:=HSB.out ad.block rfl
      omega)
    have hobj:fieldsJ j s.bs s.bs.length [refW x1,(0,0),(0,0),(0,0),(0,0),(0,0),(0,0),(0,0)]=objW kd true xs s.bs j:=by
     rw [objW,linkW,if_pos HX1.out.2,List.getD_eq_getElem?_getD,HX1.out.1,headZ,if_neg HJ0.out]
     try rfl
    rw [hobj] at hf
    obtain ⟨q0,q1,q2,q3,q4,q5,q6,q7,hq⟩:=list8 (ws:=objW kd true xs s.bs j) (by rw [objW,fieldsJ_len];rfl)
    rw [hq] at hf
    have HQ:=hid hq
    have HFF:=hid hf
    clear hobj hsh6 hsl6 hf hq
    go_wp2_with fail
    refine HFF.out.mono ?_
    rintro e w7 ⟨rfl,ho7,hr7⟩
    have HO7:=hid (HO6.out.trans ho7 (fun _ _ h=>h))
    have HOWN7:=hid (ho7.own HOWN6.out (fun k hk e=>by have:=(HOWN6.out.lt k hk).1;have:=HZW.out;omega))
    have HR7:Hid (w7.heap[X8+1]?=some (.cells (row8 q0 q1 q2 q3 q4 q5 q6 q7) 299 (0,0))):=hid hr7
    have hpw7:Pure w w7:=HRW.out.2.2.trans HO7.out (fun i hi e=>by have:=HZ1.out;omega)
    have HPW7:=hid hpw7
    have hconf:=HO7.out.blk HRW.out.2.1 (by have:=HZ1.out;omega)
    obtain ⟨k0,k1,k2,k3,k4,k5,k6,k7,k8⟩:_∧_∧_∧_∧_∧_∧_∧_∧_:=⟨(cell_of_row w7 _ 0 _ _ _ hconf).trans rfl,(cell_of_row w7 _ 1 _ _ _ hconf).trans rfl,(cell_of_row w7 _ 2 _ _ _ hconf).trans rfl,(cell_of_row w7 _ 3 _ _ _ hconf).trans rfl,(cell_of_row w7 _ 4 _ _ _ hconf).trans rfl,(cell_of_row w7 _ 5 _ _ _ hconf).trans rfl,(cell_of_row w7 _ 6 _ _ _ hconf).trans rfl,(cell_of_row w7 _ 7 _ _ _ hconf).trans rfl,(cell_of_row w7 _ 8 _ _ _ hconf).trans rfl⟩
    obtain ⟨Ag2,cg2,hgv,-,-,-,hgc⟩:=HG.out w7 hpw7
    rw [natI_len] at hgc
    obtain ⟨gg,oo,hA2,-,hgx⟩:=hgc (by omega)
    injection hgv with e1 e2 e3
    rw [← e1] at hA2
    obtain ⟨x0,hx0⟩:∃ x0,xs[j]?=some x0:=⟨_,List.getElem?_eq_getElem (by omega)⟩
    have g0:w7.cell? ⟨gg,oo+j,none⟩=some (.int .i64 (x0:Int)):=by rw [hgx j (by omega),natI_get xs _ _ hx0]
    have hx0m:(x0:Int)<c.frags:=HH.out.2.2.1 x0 (List.mem_of_getElem? hx0)
    have HX0:=hid hx0
    obtain ⟨r0,r1,r2,r3,r4,r5,r6,r7⟩:=cells8 HR7.out
    clear ho7 hr7 HR6 HO6 HOWN6 hpw7 hconf hgc hgx e1 e2 e3 hx0 y0 y1
    injection hA2 with e4
    injection e4 with e5 e6
    subst e5 e6
    have hjl:(j:Int)<(xs.length:Int):=by omega
    have hjn:j<xs.length:=by omega
    simp only []
    go_upto_region 15 with fail
    go_still_tail 7,(by kernel_rfl)
    change wpList _ _ _ _ _ w7.drew
    have hpd:Pure w7 w7.drew:=(Only.refl (fun _=>False) w7).drewN 1
    have HO7d:=hid (HO7.out.trans (hpd.mono (T:=fun k=>k=X8+1) (fun _ _ f=>f.elim)) (fun _ _ h=>h))
    have HOWN7d:=hid (hpd.own HOWN7.out (fun _ _ f=>f))
    have HR7d:=hid (hpd.blk HR7.out)
    have HPW7d:=hid (HPW7.out.then hpd)
    clear hpd HO7 HOWN7 HR7 HPW7 r0 r1 r2 r3 r4 r5 r6 r7 k0 k1 k2 k3 k4 k5 k6 k7 k8 g0
    generalize w7.drew=w8 at *
    have hwh:=whole_any c _ sh (.slice Al (8 * j) cl) (objJ kd true xs s.bs j) W.heap.size x0 q0 q1 q2 q3 q4 q5 q6 q7 w8 (HL.out w8 HPW7d.out) (fun k hk=>by have:=HH.out.2.2.2.2.2.1 k hk;have:=HRW.out.2.2.size;omega) HO7d.out.size HH.out.1 hx0m (by rw [objJ_len];exact HOWN7d.out) (by rw [objJ_len];omega)
    rw [← HQ.out] at hwh
    have HWH:=hid hwh
    clear hwh
    go_wp2_with fail
    refine HWH.out.mono ?_
    rintro e w9 ⟨v9,rfl,hown9,ho9,-⟩
    have hown9':w9.ownsRow W.heap.size 249 2 v9 (8 * (j+1)) (wrs (objJ kd true xs s.bs (j+1))):=by
     rw [objJ_succ,List.getD_eq_getElem?_getD,HX0.out]
     rw [objJ_len] at hown9
     exact hown9
    obtain ⟨A9,c9,rfl⟩:=own_form hown9'
    have HOWN9:=hid hown9'
    have HO9:=hid (HO7d.out.trans ho9 (fun i hi e=>by have:=(HOWN7d.out.lt i e).1;omega))
    have HR9:=hid (ho9.blk HR7d.out (fun e=>by have:=(HOWN7d.out.lt _ e).1;have:=HZW.out;omega))
    clear hown9 hown9' ho9 HWH
    simp only []
    have hd:decide ((j:Int)+1<(xs.length:Int))=true:=by simp;omega
    go_wp2_with fail
    go_step3
    have e12:(j:Int)+1=((j+1:Nat):Int):=by omega
    rw [e12]
    exact ⟨rfl,n-1,by omega,j+1,A9,c9,_,_,_,_,_,_,_,_,_,_,_,_,_,_,_,_,_,_,_,_,_,_,_,_,_,_,_,_,_,_,_,_,_,_,_,_,_,_,_,_,_,_,_,_,_,_,_,_,_,_,_,_,_,_,rfl,by omega,by omega,⟨HO9.out,HOWN9.out,_,_,_,_,_,_,_,_,HR9.out⟩⟩
   ·have hd:decide ((j:Int)+1<(xs.length:Int))=false:=by simp;omega
    have HX1:=hid hlast
    go_upto_region 14 with fail
    have HR6:=hid HR3.out
    have HO6:=hid HO3.out
    have HOWN6:=hid HOWN3.out
    clear HR3 HO3 HOWN3 hd
    generalize w3=w6 at *
    have hsh6:=HO6.out.blk HSHW.out (by omega)
    obtain ⟨y0,y1⟩:=sh_cells hsh6
    have hsl6:=HSLW.out.only HO6.out (fun k hk e=>by have:=HSB.out k hk;omega)
    have hf:=fields_any A8 s.bs d8 j (X8+1) [noneW,(0,0),(0,0),(0,0),(0,0),(0,0),(0,0),(0,0)] w6 hb hsl6 HR6.out rfl (fun e=>by
     cases A8 with
     | none=>simp at e
     | some ad =>
      simp only [Option.map_some,Option.some.injEq] at e
      have:=HSB.out ad.block rfl
      omega)
    have hobj:fieldsJ j s.bs s.bs.length [noneW,(0,0),(0,0),(0,0),(0,0),(0,0),(0,0),(0,0)]=objW kd true xs s.bs j:=by
     rw [objW,linkW,if_neg HX1.out,headZ,if_neg HJ0.out]
     try rfl
    rw [hobj] at hf
    obtain ⟨q0,q1,q2,q3,q4,q5,q6,q7,hq⟩:=list8 (ws:=objW kd true xs s.bs j) (by rw [objW,fieldsJ_len];rfl)
    rw [hq] at hf
    have HQ:=hid hq
    have HFF:=hid hf
    clear hobj hsh6 hsl6 hf hq
    go_wp2_with fail
    refine HFF.out.mono ?_
    rintro e w7 ⟨rfl,ho7,hr7⟩
    have HO7:=hid (HO6.out.trans ho7 (fun _ _ h=>h))
    have HOWN7:=hid (ho7.own HOWN6.out (fun k hk e=>by have:=(HOWN6.out.lt k hk).1;have:=HZW.out;omega))
    have HR7:Hid (w7.heap[X8+1]?=some (.cells (row8 q0 q1 q2 q3 q4 q5 q6 q7) 299 (0,0))):=hid hr7
    have hpw7:Pure w w7:=HRW.out.2.2.trans HO7.out (fun i hi e=>by have:=HZ1.out;omega)
    have HPW7:=hid hpw7
    have hconf:=HO7.out.blk HRW.out.2.1 (by have:=HZ1.out;omega)
    obtain ⟨k0,k1,k2,k3,k4,k5,k6,k7,k8⟩:_∧_∧_∧_∧_∧_∧_∧_∧_:=⟨(cell_of_row w7 _ 0 _ _ _ hconf).trans rfl,(cell_of_row w7 _ 1 _ _ _ hconf).trans rfl,(cell_of_row w7 _ 2 _ _ _ hconf).trans rfl,(cell_of_row w7 _ 3 _ _ _ hconf).trans rfl,(cell_of_row w7 _ 4 _ _ _ hconf).trans rfl,(cell_of_row w7 _ 5 _ _ _ hconf).trans rfl,(cell_of_row w7 _ 6 _ _ _ hconf).trans rfl,(cell_of_row w7 _ 7 _ _ _ hconf).trans rfl,(cell_of_row w7 _ 8 _ _ _ hconf).trans rfl⟩
    obtain ⟨Ag2,cg2,hgv,-,-,-,hgc⟩:=HG.out w7 hpw7
    rw [natI_len] at hgc
    obtain ⟨gg,oo,hA2,-,hgx⟩:=hgc (by omega)
    injection hgv with e1 e2 e3
    rw [← e1] at hA2
    obtain ⟨x0,hx0⟩:∃ x0,xs[j]?=some x0:=⟨_,List.getElem?_eq_getElem (by omega)⟩
    have g0:w7.cell? ⟨gg,oo+j,none⟩=some (.int .i64 (x0:Int)):=by rw [hgx j (by omega),natI_get xs _ _ hx0]
    have hx0m:(x0:Int)<c.frags:=HH.out.2.2.1 x0 (List.mem_of_getElem? hx0)
    have HX0:=hid hx0
    obtain ⟨r0,r1,r2,r3,r4,r5,r6,r7⟩:=cells8 HR7.out
    clear ho7 hr7 HR6 HO6 HOWN6 hpw7 hconf hgc hgx e1 e2 e3 hx0 y0 y1
    injection hA2 with e4
    injection e4 with e5 e6
    subst e5 e6
    have hjl:(j:Int)<(xs.length:Int):=by omega
    have hjn:j<xs.length:=by omega
    simp only []
    go_upto_region 15 with fail
    go_still_tail 7,(by kernel_rfl)
    change wpList _ _ _ _ _ w7.drew
    have hpd:Pure w7 w7.drew:=(Only.refl (fun _=>False) w7).drewN 1
    have HO7d:=hid (HO7.out.trans (hpd.mono (T:=fun k=>k=X8+1) (fun _ _ f=>f.elim)) (fun _ _ h=>h))
    have HOWN7d:=hid (hpd.own HOWN7.out (fun _ _ f=>f))
    have HR7d:=hid (hpd.blk HR7.out)
    have HPW7d:=hid (HPW7.out.then hpd)
    clear hpd HO7 HOWN7 HR7 HPW7 r0 r1 r2 r3 r4 r5 r6 r7 k0 k1 k2 k3 k4 k5 k6 k7 k8 g0
    generalize w7.drew=w8 at *
    have hwh:=whole_any c _ sh (.slice Al (8 * j) cl) (objJ kd true xs s.bs j) W.heap.size x0 q0 q1 q2 q3 q4 q5 q6 q7 w8 (HL.out w8 HPW7d.out) (fun k hk=>by have:=HH.out.2.2.2.2.2.1 k hk;have:=HRW.out.2.2.size;omega) HO7d.out.size HH.out.1 hx0m (by rw [objJ_len];exact HOWN7d.out) (by rw [objJ_len];omega)
    rw [← HQ.out] at hwh
    have HWH:=hid hwh
    clear hwh
    go_wp2_with fail
    refine HWH.out.mono ?_
    rintro e w9 ⟨v9,rfl,hown9,ho9,-⟩
    have hown9':w9.ownsRow W.heap.size 249 2 v9 (8 * (j+1)) (wrs (objJ kd true xs s.bs (j+1))):=by
     rw [objJ_succ,List.getD_eq_getElem?_getD,HX0.out]
     rw [objJ_len] at hown9
     exact hown9
    obtain ⟨A9,c9,rfl⟩:=own_form hown9'
    have HOWN9:=hid hown9'
    have HO9:=hid (HO7d.out.trans ho9 (fun i hi e=>by have:=(HOWN7d.out.lt i e).1;omega))
    have HR9:=hid (ho9.blk HR7d.out (fun e=>by have:=(HOWN7d.out.lt _ e).1;have:=HZW.out;omega))
    clear hown9 hown9' ho9 HWH
    simp only []
    have hd:decide ((j:Int)+1<(xs.length:Int))=false:=by simp;omega
    go_wp2_with fail
    simp only [Exit.jump]
    go_ret2
    have hle:xs.length=j+1:=by omega
    exact ⟨_,rfl,HRW.out.2.2.trans HO9.out (fun i hi e=>by have:=HZ1.out;omega),by rw [hle];exact own_mono HOWN9.out (by have:=HRW.out.2.2.size;omega)⟩
  ·have hd:decide (0+1<(xs.length:Int))=false:=by simp;omega
   simp only [Int.zero_add] at hd
   have HX1:=hid hlast
   go_upto_region 14 with fail
   have HR6:=hid HR51.out
   have HO6:=hid HO51.out
   have HOWN6:=hid HOWN51.out
   clear HR51 HO51 HOWN51 hd
   generalize w51=w6 at *
   have hsh6:=HO6.out.blk HSHW.out (by omega)
   obtain ⟨y0,y1⟩:=sh_cells hsh6
   have hsl6:=HSLW.out.only HO6.out (fun k hk e=>by have:=HSB.out k hk;omega)
   have hf:=fields_any A8 s.bs d8 0 (X8+1) [noneW,(headW kd 1),(0,0),(0,0),(0,0),(0,0),(0,0),(0,0)] w6 hb hsl6 HR6.out rfl (fun e=>by
    cases A8 with
    | none=>simp at e
    | some ad =>
     simp only [Option.map_some,Option.some.injEq] at e
     have:=HSB.out ad.block rfl
     omega)
   have hobj:fieldsJ 0 s.bs s.bs.length [noneW,(headW kd 1),(0,0),(0,0),(0,0),(0,0),(0,0),(0,0)]=objW kd true xs s.bs 0:=by
    rw [objW,linkW,if_neg HX1.out]
    try rfl
   rw [hobj] at hf
   obtain ⟨q0,q1,q2,q3,q4,q5,q6,q7,hq⟩:=list8 (ws:=objW kd true xs s.bs 0) (by rw [objW,fieldsJ_len];rfl)
   rw [hq] at hf
   have HQ:=hid hq
   have HFF:=hid hf
   clear hobj hsh6 hsl6 hf hq
   go_wp2_with fail
   refine HFF.out.mono ?_
   rintro e w7 ⟨rfl,ho7,hr7⟩
   have HO7:=hid (HO6.out.trans ho7 (fun _ _ h=>h))
   have HOWN7:=hid (ho7.own HOWN6.out (fun k hk e=>by have:=(HOWN6.out.lt k hk).1;have:=HZW.out;omega))
   have HR7:Hid (w7.heap[X8+1]?=some (.cells (row8 q0 q1 q2 q3 q4 q5 q6 q7) 299 (0,0))):=hid hr7
   have hpw7:Pure w w7:=HRW.out.2.2.trans HO7.out (fun i hi e=>by have:=HZ1.out;omega)
   have HPW7:=hid hpw7
   have hconf:=HO7.out.blk HRW.out.2.1 (by have:=HZ1.out;omega)
   obtain ⟨k0,k1,k2,k3,k4,k5,k6,k7,k8⟩:_∧_∧_∧_∧_∧_∧_∧_∧_:=⟨(cell_of_row w7 _ 0 _ _ _ hconf).trans rfl,(cell_of_row w7 _ 1 _ _ _ hconf).trans rfl,(cell_of_row w7 _ 2 _ _ _ hconf).trans rfl,(cell_of_row w7 _ 3 _ _ _ hconf).trans rfl,(cell_of_row w7 _ 4 _ _ _ hconf).trans rfl,(cell_of_row w7 _ 5 _ _ _ hconf).trans rfl,(cell_of_row w7 _ 6 _ _ _ hconf).trans rfl,(cell_of_row w7 _ 7 _ _ _ hconf).trans rfl,(cell_of_row w7 _ 8 _ _ _ hconf).trans rfl⟩
   obtain ⟨Ag2,cg2,hgv,-,-,-,hgc⟩:=HG.out w7 hpw7
   rw [natI_len] at hgc
   obtain ⟨gg,oo,hA2,-,hgx⟩:=hgc (by omega)
   injection hgv with e1 e2 e3
   rw [← e1] at hA2
   obtain ⟨x0,hx0⟩:∃ x0,xs[0]?=some x0:=⟨_,List.getElem?_eq_getElem (by omega)⟩
   have g0:w7.cell? ⟨gg,oo+0,none⟩=some (.int .i64 (x0:Int)):=by rw [hgx 0 (by omega),natI_get xs _ _ hx0]
   have hx0m:(x0:Int)<c.frags:=HH.out.2.2.1 x0 (List.mem_of_getElem? hx0)
   have HX0:=hid hx0
   obtain ⟨r0,r1,r2,r3,r4,r5,r6,r7⟩:=cells8 HR7.out
   clear ho7 hr7 HR6 HO6 HOWN6 hpw7 hconf hgc hgx e1 e2 e3 hx0 y0 y1
   subst hA2
   simp only [Nat.add_zero] at g0
   have hjl:0<(xs.length:Int):=by omega
   have hjn:0<xs.length:=by omega
   simp only []
   go_upto_region 15 with fail
   go_still_tail 7,(by kernel_rfl)
   change wpList _ _ _ _ _ w7.drew
   have hpd:Pure w7 w7.drew:=(Only.refl (fun _=>False) w7).drewN 1
   have HO7d:=hid (HO7.out.trans (hpd.mono (T:=fun k=>k=X8+1) (fun _ _ f=>f.elim)) (fun _ _ h=>h))
   have HOWN7d:=hid (hpd.own HOWN7.out (fun _ _ f=>f))
   have HR7d:=hid (hpd.blk HR7.out)
   have HPW7d:=hid (HPW7.out.then hpd)
   clear hpd HO7 HOWN7 HR7 HPW7 r0 r1 r2 r3 r4 r5 r6 r7 k0 k1 k2 k3 k4 k5 k6 k7 k8 g0
   generalize w7.drew=w8 at *
   have hwh:=whole_any c _ sh (.slice none 0 0) (objJ kd true xs s.bs 0) W.heap.size x0 q0 q1 q2 q3 q4 q5 q6 q7 w8 (HL.out w8 HPW7d.out) (fun k hk=>by have:=HH.out.2.2.2.2.2.1 k hk;have:=HRW.out.2.2.size;omega) HO7d.out.size HH.out.1 hx0m (by rw [objJ_len];exact HOWN7d.out) (by rw [objJ_len];omega)
   rw [← HQ.out] at hwh
   have HWH:=hid hwh
   clear hwh
   go_wp2_with fail
   refine HWH.out.mono ?_
   rintro e w9 ⟨v9,rfl,hown9,ho9,-⟩
   have hown9':w9.ownsRow W.heap.size 249 2 v9 (8 * (0+1)) (wrs (objJ kd true xs s.bs (0+1))):=by
    rw [objJ_succ,List.getD_eq_getElem?_getD,HX0.out]
    rw [objJ_len] at hown9
    exact hown9
   obtain ⟨A9,c9,rfl⟩:=own_form hown9'
   have HOWN9:=hid hown9'
   have HO9:=hid (HO7d.out.trans ho9 (fun i hi e=>by have:=(HOWN7d.out.lt i e).1;omega))
   have HR9:=hid (ho9.blk HR7d.out (fun e=>by have:=(HOWN7d.out.lt _ e).1;have:=HZW.out;omega))
   clear hown9 hown9' ho9 HWH
   simp only []
   have hd:decide (0+1<(xs.length:Int))=false:=by simp;omega
   simp only [Int.zero_add] at hd
   go_wp2_with fail
   simp only [Hop_ret]
   go_ret2
   have hle:xs.length=0+1:=by omega
   exact ⟨_,rfl,HRW.out.2.2.trans HO9.out (fun i hi e=>by have:=HZ1.out;omega),by rw [hle];exact own_mono HOWN9.out (by have:=HRW.out.2.2.size;omega)⟩
end Go.Proofs.YtpgdiceeimehiaaGreat.Pl
