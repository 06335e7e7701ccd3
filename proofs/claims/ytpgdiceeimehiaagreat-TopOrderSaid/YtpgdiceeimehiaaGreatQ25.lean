/- Part 25 of the proof that spotop.TopOrder returns true for all arguments and leaves what was there as it was. -/
import Derived.StillTailTactics
import Derived.Deep.QuietTactic
import Derived.BigQuiet
import Derived.Deep.DeepCutAuto
import Derived.Deep.CutBlock
import Derived.Deep.RegionHeld3
import Derived.Test.YtpgdiceeimehiaaGreatQ24
set_option maxRecDepth 100000
set_option maxHeartbeats 16000000
open Go.Lib (hid)
namespace Go.Proofs.YtpgdiceeimehiaaGreat
open Go.RowKit
namespace Cyc
structure St where
 stage:Int
 at_:Int
 i:Nat
 head:Int
 tr:Value
 h:Value
 sense:Bool
 started:Nat
 finished:Nat
def cs (y:St) (f v n:Int):Array Value:=#[.int .i64 y.stage,.int .i64 y.at_,.int .i64 (y.i:Int),.int .i64 y.head,.bool false,y.tr,y.h,.bool y.sense,.int .i64 (y.started:Int),.int .i64 (y.finished:Int),.int .i64 f,.int .i64 v,.int .i64 n,.int .i64 0]
def At (w:World) (yb:Nat) (y:St):Prop:=∃ f v n:Int,w.heap[yb]?=some (.cells (cs y f v n) 127 (0,0))
section
variable {w w':World} {yb:Nat} {y y':St}
theorem At.p0 (h:At w yb y):w.cell? ⟨yb,0,none⟩=some (.int .i64 y.stage):=by
 obtain ⟨f,v,n,hn⟩:=h
 rw [cell_of_row w _ _ _ _ _ hn];rfl
theorem At.p1 (h:At w yb y):w.cell? ⟨yb,1,none⟩=some (.int .i64 y.at_):=by
 obtain ⟨f,v,n,hn⟩:=h
 rw [cell_of_row w _ _ _ _ _ hn];rfl
theorem At.p2 (h:At w yb y):w.cell? ⟨yb,2,none⟩=some (.int .i64 (y.i:Int)):=by
 obtain ⟨f,v,n,hn⟩:=h
 rw [cell_of_row w _ _ _ _ _ hn];rfl
theorem At.p3 (h:At w yb y):w.cell? ⟨yb,3,none⟩=some (.int .i64 y.head):=by
 obtain ⟨f,v,n,hn⟩:=h
 rw [cell_of_row w _ _ _ _ _ hn];rfl
theorem At.p4 (h:At w yb y):w.cell? ⟨yb,4,none⟩=some (.bool false):=by
 obtain ⟨f,v,n,hn⟩:=h
 rw [cell_of_row w _ _ _ _ _ hn];rfl
theorem At.p5 (h:At w yb y):w.cell? ⟨yb,5,none⟩=some (y.tr):=by
 obtain ⟨f,v,n,hn⟩:=h
 rw [cell_of_row w _ _ _ _ _ hn];rfl
theorem At.p6 (h:At w yb y):w.cell? ⟨yb,6,none⟩=some (y.h):=by
 obtain ⟨f,v,n,hn⟩:=h
 rw [cell_of_row w _ _ _ _ _ hn];rfl
theorem At.p7 (h:At w yb y):w.cell? ⟨yb,7,none⟩=some (.bool y.sense):=by
 obtain ⟨f,v,n,hn⟩:=h
 rw [cell_of_row w _ _ _ _ _ hn];rfl
theorem At.p8 (h:At w yb y):w.cell? ⟨yb,8,none⟩=some (.int .i64 (y.started:Int)):=by
 obtain ⟨f,v,n,hn⟩:=h
 rw [cell_of_row w _ _ _ _ _ hn];rfl
theorem At.p9 (h:At w yb y):w.cell? ⟨yb,9,none⟩=some (.int .i64 (y.finished:Int)):=by
 obtain ⟨f,v,n,hn⟩:=h
 rw [cell_of_row w _ _ _ _ _ hn];rfl
theorem At.p10 (h:At w yb y):∃ n:Int,w.cell? ⟨yb,10,none⟩=some (.int .i64 n):=by
 obtain ⟨f,v,n,hn⟩:=h
 exact ⟨_,by rw [cell_of_row w _ _ _ _ _ hn];rfl⟩
theorem At.p11 (h:At w yb y):∃ n:Int,w.cell? ⟨yb,11,none⟩=some (.int .i64 n):=by
 obtain ⟨f,v,n,hn⟩:=h
 exact ⟨_,by rw [cell_of_row w _ _ _ _ _ hn];rfl⟩
theorem At.p12 (h:At w yb y):∃ n:Int,w.cell? ⟨yb,12,none⟩=some (.int .i64 n):=by
 obtain ⟨f,v,n,hn⟩:=h
 exact ⟨_,by rw [cell_of_row w _ _ _ _ _ hn];rfl⟩
theorem At.p13 (h:At w yb y):w.cell? ⟨yb,13,none⟩=some (.int .i64 0):=by
 obtain ⟨f,v,n,hn⟩:=h
 rw [cell_of_row w _ _ _ _ _ hn];rfl
theorem At.fz (h:At w yb y) (k:Nat):w.frozen? ⟨yb,k,none⟩=false:=by
 obtain ⟨f,v,n,hn⟩:=h
 exact frozen_of_row w _ k _ _ hn
theorem At.lt (h:At w yb y):yb<w.heap.size:=by
 obtain ⟨f,v,n,hn⟩:=h
 exact (Array.getElem?_eq_some_iff.1 hn).1
theorem At.only {T:Nat→Prop} (h:At w yb y) (ho:Only T w w') (hf:¬ T yb):At w' yb y:=by
 obtain ⟨f,v,n,hn⟩:=h
 exact ⟨f,v,n,ho.blk hn hf⟩
theorem At.put (h:At w yb y) (i:Nat) (u:Value) (y':St) (e:∀ f v n,∃ f' v' n',(cs y f v n).setIfInBounds i u=cs y' f' v' n'):At (w.setCell ⟨yb,i,none⟩ u) yb y':=by
 obtain ⟨f,v,n,hm⟩:=h
 obtain ⟨f',v',n',hn'⟩:=e f v n
 have h2:=set_me (i:=i) (u:=u) hm
 rw [hn'] at h2
 exact ⟨f',v',n',h2⟩
theorem only_y {a:World} (h:Only (fun k=>k=yb) a w) (i:Nat) (u:Value):Only (fun k=>k=yb) a (w.setCell ⟨yb,i,none⟩ u):=h.setCell (p:=⟨yb,i,none⟩) (fun _=>rfl) _
end
end Cyc
structure Cys (w:World) (c:Cn) (K:Cor.Q) (κ:Nat→Nat) (m:Cor.St) (b:Ac.B) (s:Ac.St) (yb:Nat) (y:Cyc.St):Prop where
 sys:Sys w c K κ m b s
 cyc:Cyc.At w yb y
 k10:κ yb=10
section
variable {w w':World} {c:Cn} {K:Cor.Q} {κ κ':Nat→Nat} {m m':Cor.St} {b:Ac.B} {s:Ac.St} {yb:Nat} {y y':Cyc.St}
theorem Cys.cored (h:Cys w c K κ m b s yb y) (he:Ext Cor.C5 w κ w' κ') (hc:Cor.At w' c K κ' m'):Ext CY w κ w' κ'∧Cys w' c K κ' m' b s yb y :=
 ⟨he.mono (fun x hx=>.inl hx),(h.sys.cored he hc).2,h.cyc.only he.only (fun hx=>by rw [h.k10] at hx;unfold Cor.C5 at hx;omega),(he.same _ h.cyc.lt).trans h.k10⟩
theorem Cys.traced (h:Cys w c K κ m b s yb y) (he:Ext CX w κ w' κ') (hs:Sys w' c K κ' m' b s):Ext CY w κ w' κ'∧Cys w' c K κ' m' b s yb y :=
 ⟨he.mono (fun x hx=>by unfold CX at hx;unfold CY;omega),hs,h.cyc.only he.only (fun hx=>by rw [h.k10] at hx;unfold CX at hx;omega),(he.same _ h.cyc.lt).trans h.k10⟩
theorem Cys.mine (h:Cys w c K κ m b s yb y) (ho:Only (fun k=>k=yb) w w') (hy:Cyc.At w' yb y'):Ext CY w κ w' κ∧Cys w' c K κ m b s yb y':=by
 have he:Ext (fun x=>x=10∨x=11) w κ w' κ:=Ext.of (ho.mono (fun k _ hk=>by rw [hk,h.k10];exact .inl rfl))
 exact ⟨he.mono (fun x hx=>.inr hx),h.sys.kept11 he,hy,h.k10⟩
theorem Cys.pure (h:Cys w c K κ m b s yb y) (hp:Pure w w'):Cys w' c K κ m b s yb y:=⟨h.sys.pure hp,h.cyc.only hp (fun f=>f),h.k10⟩
theorem Cys.drew (h:Cys w c K κ m b s yb y):Cys w.drew c K κ m b s yb y:=h.pure ((Only.refl _ w).drewN 1)
def CAns (w:World) (c:Cn) (K:Cor.Q) (κ:Nat→Nat) (b:Ac.B) (s:Ac.St) (yb:Nat) (u:Value) (Q:World→(Nat→Nat)→Cor.St→Cyc.St→Prop) (r:Ending) (w':World):Prop :=
 r=.returned u∧∃ κ' m' y',Ext CY w κ w' κ'∧Cys w' c K κ' m' b s yb y'∧Q w' κ' m' y'
end
section
variable {w w':World} {c:Cn} {K:Cor.Q} {κ:Nat→Nat} {m:Cor.St} {b:Ac.B} {s:Ac.St} {yb:Nat} {y:Cyc.St}
theorem enters_ (g:Int) (w:World) (h:Cys w c K κ m b s yb y) :
  Calls Tryz.prog 56 #[.pointer (some ⟨yb,0,none⟩),.int .i64 g] w (CAns w c K κ b s yb (.tuple #[]) (fun _ κ' m' y'=>κ'=κ∧m'=m∧y'={ y with stage:=g,at_:=0,i:=0 })):=by
 have HS0:=hid h
 have HE0:Hid (Ext CY w κ w κ):=hid (Ext.refl _ _ _)
 have p0:=h.cyc.p0
 have p1:=h.cyc.p1
 have p2:=h.cyc.p2
 have ff:=h.cyc.fz
 clear h
 go_enter Tryz.func56,Tryz.ntmps56
 go_wp2_with fail
 clear p0 p1 p2 ff
 obtain ⟨e1,s1⟩:=HS0.out.mine (Cyc.only_y (Cyc.only_y (Cyc.only_y (Only.refl _ w) 0 (.int .i64 g)) 1 (.int .i64 0)) 2 (.int .i64 0)) (((HS0.out.cyc.put 0 (.int .i64 g) { y with stage:=g } (fun _ _ _=>⟨_,_,_,rfl⟩)).put 1 (.int .i64 0) { y with stage:=g,at_:=0 } (fun _ _ _=>⟨_,_,_,rfl⟩)).put 2 (.int .i64 0) { y with stage:=g,at_:=0,i:=0 } (fun _ _ _=>⟨_,_,_,rfl⟩))
 have HS1:=hid s1
 have HE1:=hid (HE0.out.trans e1)
 clear e1 s1
 generalize (((w.setCell ⟨yb,0,none⟩ (.int .i64 g)).setCell ⟨yb,1,none⟩ (.int .i64 0)).setCell ⟨yb,2,none⟩ (.int .i64 0))=w1 at *
 go_end0
 exact ⟨rfl,_,_,_,HE1.out,HS1.out,rfl,rfl,rfl⟩
theorem polls_yes (w:World) (h:Cys w c K κ m b s yb y) (z:Int) (hi:y.i=0) (ht:c.threads=1) (hz:m.stats[0]?=some z) (hd:(z == -1 || z == m.st)=true) :
  Calls Tryz.prog 95 #[.pointer (some ⟨yb,0,none⟩),.pointer (some ⟨K.kb,0,none⟩)] w (CAns w c K κ b s yb (.bool true) (fun _ _ m' y'=>m'=m∧y'={ y with i:=1 })):=by
 have HS0:=hid h
 have HE0:Hid (Ext CY w κ w κ):=hid (Ext.refl _ _ _)
 have HZ:=hid (And.intro hz (And.intro hd (And.intro ht hi)))
 have p2:=h.cyc.p2
 rw [hi] at p2
 clear h hz hd ht hi
 go_enter Tryz.func95,Tryz.ntmps95
 have q12:=HS0.out.sys.cor.q12
 go_wp2_with fail
 go_still_tail 8,(by kernel_rfl)
 change wpList _ _ _ _ _ w.drew
 have HS1:=hid HS0.out.drew
 have HE1:Hid (Ext CY w κ w.drew κ):=hid (Ext.pure ((Only.refl (fun _=>False) w).drewN 1))
 clear p2 q12 HS0 HE0
 generalize w.drew=w1 at *
 go_wp2_with fail
 have hpl:=Cor.poll 0 z w1 HS1.out.sys.cor HZ.out.1
 rw [HZ.out.2.1] at hpl
 refine hpl.mono ?_
 clear hpl
 rintro r w2 ⟨rfl,he2,hc2⟩
 obtain ⟨e2,s2⟩:=HS1.out.cored he2 hc2
 have HS2:=hid s2
 have HE2:=hid (HE1.out.trans e2)
 clear he2 hc2 e2 s2
 have p2:=HS2.out.cyc.p2
 rw [HZ.out.2.2.2] at p2
 have ff:=HS2.out.cyc.fz
 go_upto_region 3 with fail
 obtain ⟨e3,s3⟩:=HS2.out.mine (Cyc.only_y (Only.refl _ w2) 2 (.int .i64 1)) (HS2.out.cyc.put 2 (.int .i64 1) { y with i:=1 } (fun _ _ _=>⟨_,_,_,rfl⟩))
 have HS3:=hid s3
 have HE3:=hid (HE2.out.trans e3)
 clear e3 s3
 clear p2 ff
 generalize (w2.setCell ⟨yb,2,none⟩ (.int .i64 1))=w3 at *
 have p2:w3.cell? ⟨yb,2,none⟩=some (.int .i64 1):=HS3.out.cyc.p2
 have k3:=(HS3.out.sys.cor.qc).2.2.2.1
 rw [HZ.out.2.2.1] at k3
 go_wp2_with fail
 go_quiet (fail)
 have HS4:=hid (HS3.out.pure ((Only.refl (fun _=>False) w3).drewN nq))
 have HE4:=hid (HE3.out.trans (Ext.pure ((Only.refl (fun _=>False) w3).drewN nq)))
 clear p2 k3
 generalize w3.drewN nq=w4 at *
 go_wp2_with fail
 go_ret
 exact ⟨rfl,_,_,_,HE4.out,HS4.out,rfl,rfl⟩
theorem polls_no (w:World) (h:Cys w c K κ m b s yb y) (z:Int) (hi:y.i=0) (ht:c.threads=1) (hz:m.stats[0]?=some z) (hd:(z == -1 || z == m.st)=false) :
  Calls Tryz.prog 95 #[.pointer (some ⟨yb,0,none⟩),.pointer (some ⟨K.kb,0,none⟩)] w (CAns w c K κ b s yb (.bool false) (fun _ _ m' y'=>m'=m∧y'=y)):=by
 have HS0:=hid h
 have HE0:Hid (Ext CY w κ w κ):=hid (Ext.refl _ _ _)
 have HZ:=hid (And.intro hz (And.intro hd (And.intro ht hi)))
 have p2:=h.cyc.p2
 rw [hi] at p2
 clear h hz hd ht hi
 go_enter Tryz.func95,Tryz.ntmps95
 have q12:=HS0.out.sys.cor.q12
 go_wp2_with fail
 go_still_tail 8,(by kernel_rfl)
 change wpList _ _ _ _ _ w.drew
 have HS1:=hid HS0.out.drew
 have HE1:Hid (Ext CY w κ w.drew κ):=hid (Ext.pure ((Only.refl (fun _=>False) w).drewN 1))
 clear p2 q12 HS0 HE0
 generalize w.drew=w1 at *
 go_wp2_with fail
 have hpl:=Cor.poll 0 z w1 HS1.out.sys.cor HZ.out.1
 rw [HZ.out.2.1] at hpl
 refine hpl.mono ?_
 clear hpl
 rintro r w2 ⟨rfl,he2,hc2⟩
 obtain ⟨e2,s2⟩:=HS1.out.cored he2 hc2
 have HS2:=hid s2
 have HE2:=hid (HE1.out.trans e2)
 clear he2 hc2 e2 s2
 have p2:=HS2.out.cyc.p2
 rw [HZ.out.2.2.2] at p2
 have ff:=HS2.out.cyc.fz
 clear ff
 have k3:=(HS2.out.sys.cor.qc).2.2.2.1
 rw [HZ.out.2.2.1] at k3
 go_wp2_with fail
 go_quiet (fail)
 have HS4:=hid (HS2.out.pure ((Only.refl (fun _=>False) w2).drewN nq))
 have HE4:=hid (HE2.out.trans (Ext.pure ((Only.refl (fun _=>False) w2).drewN nq)))
 clear p2 k3
 generalize w2.drewN nq=w4 at *
 go_wp2_with fail
 go_ret
 exact ⟨rfl,_,_,_,HE4.out,HS4.out,rfl,rfl⟩
end
open Go.RowKit
section
variable {w w':World} {c:Cn} {K:Cor.Q} {κ:Nat→Nat} {m:Cor.St} {b:Ac.B} {s:Ac.St} {xb:Nat} {v:Value} {sh:List Sh} {t:Tr.St}
theorem walks_grey (o:Tab.One) (y:Int) (l2:List Int) (w:World) (h:Trc w c K κ m b s xb v sh t) (hpc:t.pc=2) (hw:t.words=y :: l2) (ho:m.s.l[t.next]?=some o) (hwh:Sd.white o t.sense=true) (h2:o.st=2) (hl:m.xs.length<K.most) :
  Calls Tryz.prog 279 #[.pointer (some ⟨xb,0,none⟩),.pointer (some ⟨K.mb,0,none⟩),.pointer (some ⟨K.sb,0,none⟩)] w (TAns w c K κ b s xb v sh true (fun m' t'=>(∃ pv',m'={ m with pv:=pv',xs:=m.xs++[(t.next:Int)],s:={ m.s with l:=m.s.l.set t.next { o with sense:=t.sense } } })∧t'={ t with pc:=1 })):=by
 have HS:=hid h
 have HH:=hid (And.intro hw (And.intro ho (And.intro hwh (And.intro h2 hl))))
 have p11:=h.tr.p11
 rw [hpc] at p11
 clear h hw ho hwh h2 hl
 go_enter Tryz.func279,Tryz.ntmps279
 go_wp2_with fail
 refine wp_scope_hop 2 (fun C HC0=>?_)
 have HC:=hid HC0
 clear HC0
 go_wp2_with fail
 go_step3
 refine Hop_goto ((congrArg (fun d=>findLabel d 0) HC.out).trans rfl) ?_
 clear p11
 have p17:=HS.out.tr.p17
 have p10:=HS.out.tr.p10
 go_wp2_with fail
 go_still_tail 9,(by kernel_rfl)
 change wpList _ _ _ _ _ w.drew
 have HS1:=hid HS.out.drew
 have HE1:Hid (Ext CX w κ w.drew κ):=hid (Ext.pure ((Only.refl (fun _=>False) w).drewN 1))
 clear p17 p10 HS
 generalize w.drew=w1 at *
 go_wp2_with fail
 refine (Cor.grey_yes t.next o t.sense w1 HS1.out.sys.cor HH.out.2.1 HH.out.2.2.1 HH.out.2.2.2.1 HH.out.2.2.2.2).mono ?_
 rintro e w2 ⟨rfl,pv2,κ2,he2,hc2⟩
 obtain ⟨e2,s2⟩:=HS1.out.cored he2 hc2
 have HS2:=hid s2
 have HE2:=hid (HE1.out.trans e2)
 clear he2 hc2 e2 s2
 go_wp2_with fail
 go_step3
 refine Hop_goto ((congrArg (fun d=>findLabel d 3) HC.out).trans rfl) ?_
 clear HC
 go_wp2_with fail
 refine (Tr.goes_more y l2 w2 HS2.out.tr HH.out.1).mono ?_
 rintro e w5 ⟨rfl,rfl⟩
 have p11:=HS2.out.tr.p11
 have ff:=HS2.out.tr.fz
 go_upto_region 28 with fail
 have h6:=HS2.out.tr.put 11 (.int .i64 1) { t with pc:=1 } (fun n=>⟨n,rfl⟩) ⟨rfl,rfl,rfl,rfl⟩
 obtain ⟨e6,s6⟩:=HS2.out.mine (Tr.only_x (Only.refl _ w2) 11 (.int .i64 1)) h6 (fun k hk=>.inl hk)
 have HS6:=hid s6
 have HE6:=hid (HE2.out.trans e6)
 clear h6 e6 s6 p11 ff
 go_wp2_with fail
 simp only [Hop_ret]
 go_ret
 exact ⟨rfl,_,_,_,HE6.out,HS6.out,⟨_,rfl⟩,rfl⟩
theorem does_first (kd md nb:Nat) (s0:Sh) (w:World) (h:Trc w c K κ m b s xb v sh t) (hpc:t.pc=0) (hh:(t.head:Int)<c.frags) (hz:m.words[8 * t.head+1]?=some (headW kd md)) (hkd:sh[kd]?=some s0) (ha:s0.a=false) (hmd:md≤1) (hkn:kd≤1000) (hnb:s0.bs.length=nb+1) (hb:nb+1≤6) (hat:∀ (j:Nat) (b:Bool),s0.bs[j]?=some b→b=true) :
  Calls Tryz.prog 223 #[.pointer (some ⟨xb,0,none⟩),.pointer (some ⟨K.mb,0,none⟩),.pointer (some ⟨K.sb,0,none⟩)] w (TAns w c K κ b s xb v sh true (fun m' t'=>m'=m∧∃ rv' wv',t'={ t with pc:=1,rv:=rv',bs:=s0.bs,wv:=wv',words:=Tr.wl (nb+1) })):=by
 have HS:=hid h
 have HH:=hid (And.intro hz (And.intro hkd (And.intro ha hat)))
 have p11:=h.tr.p11
 rw [hpc] at p11
 have p9:=h.tr.p9
 clear h hz hkd ha hat
 go_enter Tryz.func223,Tryz.ntmps223
 go_wp2_with fail
 refine (Tr.read_in t.head 1 K.mb K.mg m.words (headW kd md) w HS.out.tr HS.out.sys.cor.mem hh (by omega) HH.out.1).mono ?_
 rintro e w2 ⟨rfl,ho2,hm2⟩
 have e2:=(HS.out.mem_ ho2 hm2).1
 have s2:=(HS.out.mem_ ho2 hm2).2
 have HS2:=hid s2
 have HE2:=hid e2
 clear ho2 hm2 e2 s2 p11 p9
 go_wp2_with fail
 refine (Tr.first_1 kd md nb s0 w2 HS2.out.tr HH.out.2.1 HH.out.2.2.1 hmd hkn hnb hb HH.out.2.2.2).mono ?_
 rintro e w3 ⟨rfl,ho3,rv3,wv3,h3,hn3⟩
 obtain ⟨e3,s3⟩:=HS2.out.mine ho3 h3 (fun k hk=>by
  rcases hk with hk | hk | hk
  ·exact .inl (.inl hk)
  ·exact .inr (hn3 k (.inl hk))
  ·exact .inr (hn3 k (.inr hk)))
 have HS3:=hid s3
 have HE3:=hid (HE2.out.trans e3)
 clear ho3 h3 hn3 e3 s3
 go_wp2_with fail
 go_ret
 exact ⟨rfl,_,_,_,HE3.out,HS3.out,rfl,_,_,rfl⟩
theorem does_walks (d:Bool) (Q:Cor.St→Tr.St→Prop) (w:World) (h:Trc w c K κ m b s xb v sh t) (hpc:t.pc=1∨t.pc=2)
  (hc:Calls Tryz.prog 279 #[.pointer (some ⟨xb,0,none⟩),.pointer (some ⟨K.mb,0,none⟩),.pointer (some ⟨K.sb,0,none⟩)] w (TAns w c K κ b s xb v sh d Q)) :
  Calls Tryz.prog 223 #[.pointer (some ⟨xb,0,none⟩),.pointer (some ⟨K.mb,0,none⟩),.pointer (some ⟨K.sb,0,none⟩)] w (TAns w c K κ b s xb v sh d Q):=by
 have HC:=hid hc
 have p11:=h.tr.p11
 clear h hc
 rcases hpc with hpc | hpc
 all_goals
  rw [hpc] at p11
  clear hpc
  go_enter Tryz.func223,Tryz.ntmps223
  go_wp2_with fail
  refine HC.out.mono ?_
  rintro e w2 ⟨rfl,κ2,m2,t2,e2,s2,q2⟩
  have HQ:=hid (And.intro e2 (And.intro s2 q2))
  clear e2 s2 q2
  go_wp2_with fail
  go_ret
  exact ⟨rfl,κ2,m2,t2,HQ.out⟩
theorem tstep (d:Bool) (Q:Cor.St→Tr.St→Prop) (w:World) (h:Trc w c K κ m b s xb v sh t) (hpc:t.pc=0∨t.pc=1∨t.pc=2)
  (hc:∀ w1,Trc w1 c K κ m b s xb v sh t→Calls Tryz.prog 223 #[.pointer (some ⟨xb,0,none⟩),.pointer (some ⟨K.mb,0,none⟩),.pointer (some ⟨K.sb,0,none⟩)] w1 (TAns w1 c K κ b s xb v sh true Q)) (hq:∀ m' t',Q m' t'→(t'.pc == 9)=d) :
  Calls Tryz.prog 155 #[.pointer (some ⟨xb,0,none⟩),.pointer (some ⟨K.mb,0,none⟩),.pointer (some ⟨K.sb,0,none⟩)] w (TAns w c K κ b s xb v sh d Q):=by
 have HS:=hid h
 have HC:=hid hc
 have HQQ:=hid hq
 have p11:=h.tr.p11
 obtain ⟨n,p22⟩:=h.tr.p22
 have ff:=h.tr.fz
 have hne:(t.pc == 9)=false:=by rcases hpc with h | h | h <;> rw [h] <;> rfl
 obtain ⟨pc,hpcx⟩:∃ pc,t.pc=pc:=⟨_,rfl⟩
 rw [hpcx] at p11 hne
 clear h hc hq hpc hpcx
 go_enter Tryz.func155,Tryz.ntmps155
 go_upto_region 4 with fail
 have h1:=HS.out.tr.put 22 (.int .i64 (wrap64 (n+1))) t (fun _=>⟨wrap64 (n+1),rfl⟩) ⟨rfl,rfl,rfl,rfl⟩
 have he1:=HS.out.mine (Tr.only_x (Only.refl _ w) 22 (.int .i64 (wrap64 (n+1)))) h1 (fun k hk=>.inl hk)
 have hp1:∀ k,k<w.heap.size→paint w.heap.size κ 8 k=κ k:=fun k hk=>paint_old hk
 have s1:Trc (w.setCell ⟨xb,22,none⟩ (.int .i64 (wrap64 (n+1)))) c K κ m b s xb v sh t:=by
  have hsz:(w.setCell ⟨xb,22,none⟩ (.int .i64 (wrap64 (n+1)))).heap.size=w.heap.size:=by simp [World.setCell]
  have hs:∀ k,k<(w.setCell ⟨xb,22,none⟩ (.int .i64 (wrap64 (n+1)))).heap.size→κ k=paint w.heap.size κ 8 k:=fun k hk=>(hp1 k (by omega)).symm
  exact ⟨⟨he1.2.sys.cor.recolour hs,he1.2.sys.act.keep (Only.refl (fun _=>False) _) (fun _ _ f=>f) hs⟩,he1.2.tr,HS.out.k11,HS.out.k8⟩
 have HS1:=hid s1
 have HE1:Hid (Ext CX w κ (w.setCell ⟨xb,22,none⟩ (.int .i64 (wrap64 (n+1)))) κ):=hid ⟨he1.1.only,fun _ _=>rfl⟩
 clear h1 he1 hp1 s1 p11 p22 ff HS
 generalize w.setCell ⟨xb,22,none⟩ (.int .i64 (wrap64 (n+1)))=w1 at *
 go_wp2_with fail
 refine (HC.out w1 HS1.out).mono ?_
 rintro e w2 ⟨rfl,κ2,m2,t2,e2,s2,q2⟩
 have p11:=s2.tr.p11
 have hd:=HQQ.out m2 t2 q2
 have HQ:=hid (And.intro (HE1.out.trans e2) (And.intro s2 q2))
 clear e2 s2 q2
 go_wp2_with fail
 go_ret
 exact ⟨rfl,κ2,m2,t2,HQ.out⟩
end
open Go.RowKit
section
variable {w:World} {c:Cn} {K:Cor.Q} {κ:Nat→Nat} {m:Cor.St} {b:Ac.B} {s:Ac.St} {yb:Nat} {y:Cyc.St}
theorem marks_none (w:World) (h:Cys w c K κ m b s yb y) (hat:y.at_=0) (hx:m.xs=[]) :
  Calls Tryz.prog 60 #[.pointer (some ⟨yb,0,none⟩),.pointer (some ⟨K.kb,0,none⟩)] w (CAns w c K κ b s yb (.tuple #[]) (fun _ _ m' y'=>m'=m∧y'={ y with head:=0,at_:=5 })):=by
 have HS0:=hid h
 have HE0:Hid (Ext CY w κ w κ):=hid (Ext.refl _ _ _)
 have HX:=hid hx
 have p1:=h.cyc.p1
 rw [hat] at p1
 clear h hx
 go_enter Tryz.func60,Tryz.ntmps60
 clear hat
 have q10:=HS0.out.sys.cor.q10
 go_wp2_with fail
 refine wp_scope_hop 0 (fun C HC0=>?_)
 have HC:=hid HC0
 clear HC0
 go_wp2_with fail
 refine (Cor.next_no w HS0.out.sys.cor HX.out).mono ?_
 rintro r w1 ⟨rfl,κ1,he1,hc1⟩
 obtain ⟨e1,s1⟩:=HS0.out.cored he1 hc1
 have HS1:=hid s1
 have HE1:=hid (HE0.out.trans e1)
 clear he1 hc1 e1 s1
 clear p1 q10
 have p3:=HS1.out.cyc.p3
 have p1:=HS1.out.cyc.p1
 have p4:=HS1.out.cyc.p4
 have ff:=HS1.out.cyc.fz
 have h2:=((HS1.out.cyc.put 3 (.int .i64 0) { y with head:=0 } (fun _ _ _=>⟨_,_,_,rfl⟩)).put 1 (.int .i64 5) { y with head:=0,at_:=5 } (fun _ _ _=>⟨_,_,_,rfl⟩)).put 4 (.bool false) { y with head:=0,at_:=5 } (fun _ _ _=>⟨_,_,_,rfl⟩)
 obtain ⟨e2,s2⟩:=HS1.out.mine (Cyc.only_y (Cyc.only_y (Cyc.only_y (Only.refl _ w1) 3 (.int .i64 0)) 1 (.int .i64 5)) 4 (.bool false)) h2
 have HS2:=hid s2
 have HE2:=hid (HE1.out.trans e2)
 clear h2 e2 s2
 go_wp2_with fail
 try (first | simp only [Hop_normal] | simp only [Hop_ret])
 go_end0
 exact ⟨rfl,_,_,_,HE2.out,HS2.out,rfl,rfl⟩
structure Cyt (w:World) (c:Cn) (K:Cor.Q) (κ:Nat→Nat) (m:Cor.St) (b:Ac.B) (s:Ac.St) (yb:Nat) (y:Cyc.St) (xb:Nat) (v:Value) (sh:List Sh) (t:Tr.St):Prop where
 cys:Cys w c K κ m b s yb y
 trc:Trc w c K κ m b s xb v sh t
 ptr:y.tr=.pointer (some ⟨xb,0,none⟩)
 like:alike K.csh sh
theorem marks_next (xs:List Int) (j:Nat) (w:World) (h:Cys w c K κ m b s yb y) (hat:y.at_=0) (hx:m.xs=xs++[(j:Int)]) (hl:∀ s∈K.csh,s.bs.length≤1000000) :
  Calls Tryz.prog 60 #[.pointer (some ⟨yb,0,none⟩),.pointer (some ⟨K.kb,0,none⟩)] w (CAns w c K κ b s yb (.tuple #[]) (fun w' κ' m' y'=>(∃ pv',m'={ m with pv:=pv',xs:=xs })∧∃ xb v sh,y'={ y with head:=(j:Int),at_:=4,tr:=.pointer (some ⟨xb,0,none⟩) }∧Trc w' c K κ' m' b s xb v sh ⟨j,y.sense,0,.slice none 0 0,[],.slice none 0 0,[],0⟩∧alike K.csh sh)):=by
 have HS0:=hid h
 have HE0:Hid (Ext CY w κ w κ):=hid (Ext.refl _ _ _)
 have HX:=hid hx
 have HL:=hid hl
 have p1:=h.cyc.p1
 rw [hat] at p1
 clear h hx hl
 go_enter Tryz.func60,Tryz.ntmps60
 clear hat
 have q10:=HS0.out.sys.cor.q10
 go_wp2_with fail
 refine wp_scope_hop 0 (fun C HC0=>?_)
 have HC:=hid HC0
 clear HC0
 go_wp2_with fail
 refine (Cor.next_in xs (j:Int) w HS0.out.sys.cor HX.out).mono ?_
 rintro r w1 ⟨rfl,pv1,κ1,he1,hc1⟩
 obtain ⟨e1,s1⟩:=HS0.out.cored he1 hc1
 have HS1:=hid s1
 have HE1:=hid (HE0.out.trans e1)
 clear he1 hc1 e1 s1
 clear p1 q10
 have p3:=HS1.out.cyc.p3
 have p1:=HS1.out.cyc.p1
 have p4:=HS1.out.cyc.p4
 have ff:=HS1.out.cyc.fz
 have h2:=((HS1.out.cyc.put 3 (.int .i64 (j:Int)) { y with head:=(j:Int) } (fun _ _ _=>⟨_,_,_,rfl⟩)).put 1 (.int .i64 5) { y with head:=(j:Int),at_:=5 } (fun _ _ _=>⟨_,_,_,rfl⟩)).put 4 (.bool false) { y with head:=(j:Int),at_:=5 } (fun _ _ _=>⟨_,_,_,rfl⟩)
 obtain ⟨e2,s2⟩:=HS1.out.mine (Cyc.only_y (Cyc.only_y (Cyc.only_y (Only.refl _ w1) 3 (.int .i64 (j:Int))) 1 (.int .i64 5)) 4 (.bool false)) h2
 have HS2:=hid s2
 have HE2:=hid (HE1.out.trans e2)
 clear h2 e2 s2
 go_upto_region 8 with fail
 clear p1 p3 p4 ff
 generalize ((w1.setCell ⟨yb,3,none⟩ (.int .i64 (j:Int))).setCell ⟨yb,1,none⟩ (.int .i64 5)).setCell ⟨yb,4,none⟩ (.bool false)=w2 at *
 obtain ⟨Av,cv,hcv⟩:∃ A cc,K.cv=.slice A K.csh.length cc:=by
  obtain ⟨⟨A,cc,h,_⟩,_⟩:=HS2.out.sys.cor.conf
  exact ⟨A,cc,h⟩
 have HCV:=hid hcv
 obtain ⟨k0,k1,k2,k3,k4,k5,k6,k7,k8⟩:=HS2.out.sys.cor.qc
 rw [hcv] at k8
 have p3:w2.cell? ⟨yb,3,none⟩=some (.int .i64 (j:Int)):=HS2.out.cyc.p3
 have p7:=HS2.out.cyc.p7
 have HT:=hid (Tr.new_in (c:=c) (v:=.slice Av K.csh.length cv) (sh:=K.csh) j y.sense w2.drew (HCV.out ▸ HS2.out.drew.sys.cor.conf) HS2.out.sys.cor.ok HL.out)
 clear hcv
 go_cut [4] (fun _ wx=>∃ (W7:World) (xb:Nat) (v':Value) (n:List Sh),wx=(W7.setCell ⟨yb,5,none⟩ (.pointer (some ⟨xb,0,none⟩))).setCell ⟨yb,1,none⟩ (.int .i64 4)∧Pure w2 W7∧w2.heap.size≤xb∧(∀ k,CfS v' n k→w2.heap.size≤k)∧alike K.csh n∧Tr.At W7 xb c v' n ⟨j,y.sense,0,.slice none 0 0,[],.slice none 0 0,[],0⟩)
 case first =>
  go_region_with (first | (go_at_call 100;refine HT.out.mono ?_;rintro e w7 ⟨xb,v7,n7,rfl,hp7,hl7,hc7,ha7,ht7⟩;have hp27:Pure w2 w7:=Pure.then (b:=w2.drew) ((Only.refl (fun _=>False) w2).drewN 1) hp7;have s7:=HS2.out.pure hp27;have d5:=s7.cyc.p5;have d1:=s7.cyc.p1;have dz:=s7.cyc.fz;clear s7))
  all_goals
   go_wp2_with fail
   go_meet
   exact ⟨_,_,_,_,rfl,hp27,hl7,hc7,ha7,ht7⟩
 case rest =>
  obtain ⟨W7,xb,v7,n7,rfl,hp7,hl7,hc7,ha7,ht7⟩:=hcut
  have e7:Ext CY w2 κ1 W7 (fun k=>if k=xb then 11 else paint w2.heap.size κ1 8 k):=⟨hp7.mono (fun _ _ f=>f.elim),fun k hk=>by show (if k=xb then 11 else paint w2.heap.size κ1 8 k)=κ1 k;rw [if_neg (by omega),paint_old hk]⟩
  have hsame:∀ k,k<w2.heap.size→(fun k=>if k=xb then 11 else paint w2.heap.size κ1 8 k) k=κ1 k:=e7.same
  have hlt7:=ht7.lt
  have y7:Cys W7 c K (fun k=>if k=xb then 11 else paint w2.heap.size κ1 8 k) { m with pv:=pv1,xs:=xs } b s yb { y with head:=(j:Int),at_:=5 }:=⟨⟨(HS2.out.sys.cor.recolour hsame).pure hp7,HS2.out.sys.act.keep hp7 (fun _ _ f=>f) hsame⟩,HS2.out.cyc.only hp7 (fun f=>f),(hsame _ HS2.out.cyc.lt).trans HS2.out.k10⟩
  have t7:Trc W7 c K (fun k=>if k=xb then 11 else paint w2.heap.size κ1 8 k) { m with pv:=pv1,xs:=xs } b s xb v7 n7 ⟨j,y.sense,0,.slice none 0 0,[],.slice none 0 0,[],0⟩:=⟨y7.sys,ht7,if_pos rfl,fun k hk=>by
   have hk2:=ht7.ro k hk
   show (if k=xb then 11 else paint w2.heap.size κ1 8 k)=8
   rw [if_neg hk2.1]
   rcases hk with hk | hk | hk
   ·exact paint_new (hc7 k hk)
   ·simp [Value.ownBlock] at hk
   ·simp [Value.ownBlock] at hk⟩
  have hyx:yb≠xb:=by have:=HS2.out.cyc.lt;omega
  obtain ⟨κ7,hκ7⟩:∃ κ7,(fun k=>if k=xb then 11 else paint w2.heap.size κ1 8 k)=κ7:=⟨_,rfl⟩
  rw [hκ7] at e7 y7 t7
  have h8:=(y7.cyc.put 5 (.pointer (some ⟨xb,0,none⟩)) { y with head:=(j:Int),at_:=5,tr:=.pointer (some ⟨xb,0,none⟩) } (fun _ _ _=>⟨_,_,_,rfl⟩)).put 1 (.int .i64 4) { y with head:=(j:Int),at_:=4,tr:=.pointer (some ⟨xb,0,none⟩) } (fun _ _ _=>⟨_,_,_,rfl⟩)
  have o8:=Cyc.only_y (Cyc.only_y (Only.refl (fun k=>k=yb) W7) 5 (.pointer (some ⟨xb,0,none⟩))) 1 (.int .i64 4)
  obtain ⟨e8,s8⟩:=y7.mine o8 h8
  have t8:Trc _ c K κ7 { m with pv:=pv1,xs:=xs } b s xb v7 n7 ⟨j,y.sense,0,.slice none 0 0,[],.slice none 0 0,[],0⟩:=⟨s8.sys,t7.tr.only o8 (fun e=>hyx e.symm) (fun k hk e=>by have:=t7.k8 k hk;rw [e,y7.k10] at this;omega),t7.k11,t7.k8⟩
  have HS8:=hid (And.intro s8 t8)
  have HE8:=hid ((HE2.out.trans e7).trans e8)
  have HA8:=hid ha7
  clear e7 hsame hlt7 y7 t7 hyx hκ7 h8 o8 e8 s8 t8 hp7 hl7 hc7 ha7 ht7
  go_wp2_with fail
  go_end0
  exact ⟨rfl,_,_,_,HE8.out,HS8.out.1,⟨_,rfl⟩,_,_,_,rfl,HS8.out.2,HA8.out⟩
end
open Go.RowKit
section
variable {w:World} {c:Cn} {K:Cor.Q} {κ:Nat→Nat} {m:Cor.St} {b:Ac.B} {s:Ac.St} {yb:Nat} {y:Cyc.St}
theorem terrno (w:World) {xb:Nat} {v:Value} {sh:List Sh} {t:Tr.St} (h:Tr.At w xb c v sh t):Calls Tryz.prog 156 #[.pointer (some ⟨xb,0,none⟩)] w fun e w'=>e=.returned (.int .i64 0)∧w=w':=by
 have p:=h.p21
 clear h
 go_enter Tryz.func156,Tryz.ntmps156
 go_wp2_with fail
 go_ret
 exact ⟨rfl,rfl⟩
theorem traces_true (xb:Nat) (v:Value) (sh:List Sh) (t:Tr.St) (Q:Cor.St→Tr.St→Prop) (w:World) (h:Cys w c K κ m b s yb y) (ht:Trc w c K κ m b s xb v sh t) (hp:y.tr=.pointer (some ⟨xb,0,none⟩)) (hst:∀ w1,Trc w1 c K κ m b s xb v sh t→Calls Tryz.prog 155 #[.pointer (some ⟨xb,0,none⟩),.pointer (some ⟨K.mb,0,none⟩),.pointer (some ⟨K.sb,0,none⟩)] w1 (TAns w1 c K κ b s xb v sh true Q)) :
  Calls Tryz.prog 101 #[.pointer (some ⟨yb,0,none⟩),.pointer (some ⟨K.kb,0,none⟩)] w (CAns w c K κ b s yb (.bool true) (fun w' κ' m' y'=>y'=y∧∃ t',Trc w' c K κ' m' b s xb v sh t'∧Q m' t')):=by
 have HS0:=hid h
 have HE0:Hid (Ext CY w κ w κ):=hid (Ext.refl _ _ _)
 have HT:=hid ht
 have HST:=hid hst
 have HP:=hid hp
 have p5:=h.cyc.p5
 rw [hp] at p5
 clear h ht hst hp
 go_enter Tryz.func101,Tryz.ntmps101
 have q9:=HS0.out.sys.cor.q9
 have q10:=HS0.out.sys.cor.q10
 go_wp2_with fail
 go_still_tail 12,(by kernel_rfl)
 change wpList _ _ _ _ _ w.drew
 have HS1:=hid HS0.out.drew
 have HT1:=hid HT.out.drew
 have HE1:Hid (Ext CY w κ w.drew κ):=hid (Ext.pure ((Only.refl (fun _=>False) w).drewN 1))
 clear p5 q9 q10 HS0 HE0 HT
 generalize w.drew=w1 at *
 go_wp2_with fail
 refine (HST.out w1 HT1.out).mono ?_
 rintro r w2 ⟨rfl,κ2,m2,t2,e2,s2,q2⟩
 obtain ⟨e3,s3⟩:=HS1.out.traced e2 s2.sys
 have HS3:=hid s3
 have HE3:=hid (HE1.out.trans e3)
 have HT3:=hid (And.intro s2 q2)
 clear e2 s2 q2 e3 s3
 have p5:=HS3.out.cyc.p5
 rw [HP.out] at p5
 go_wp2_with fail
 refine (terrno w2 HT3.out.1.tr).mono ?_
 rintro r w4 ⟨rfl,rfl⟩
 have p13:=HS3.out.cyc.p13
 have ff:=HS3.out.cyc.fz
 have h4:=HS3.out.cyc.put 13 (.int .i64 0) y (fun _ _ _=>⟨_,_,_,rfl⟩)
 have o4:=Cyc.only_y (Only.refl (fun k=>k=yb) w2) 13 (.int .i64 0)
 obtain ⟨e4,s4⟩:=HS3.out.mine o4 h4
 have hyx:yb≠xb:=fun e=>by have h1:=HS3.out.k10;have h2:=HT3.out.1.k11;rw [e,h2] at h1;omega
 have t4:Trc _ c K κ2 m2 b s xb v sh t2:=⟨s4.sys,HT3.out.1.tr.only o4 (fun e=>hyx e.symm) (fun k hk e=>by have:=HT3.out.1.k8 k hk;rw [e,HS3.out.k10] at this;omega),HT3.out.1.k11,HT3.out.1.k8⟩
 have HS4:=hid s4
 have HE4:=hid (HE3.out.trans e4)
 have HT4:=hid t4
 clear h4 o4 e4 s4 t4 hyx
 go_wp2_with fail
 go_ret
 exact ⟨rfl,_,_,_,HE4.out,HS4.out,rfl,_,HT4.out,HT3.out.2⟩
theorem traces_false (xb:Nat) (v:Value) (sh:List Sh) (t:Tr.St) (Q:Cor.St→Tr.St→Prop) (w:World) (h:Cys w c K κ m b s yb y) (ht:Trc w c K κ m b s xb v sh t) (hp:y.tr=.pointer (some ⟨xb,0,none⟩)) (hst:∀ w1,Trc w1 c K κ m b s xb v sh t→Calls Tryz.prog 155 #[.pointer (some ⟨xb,0,none⟩),.pointer (some ⟨K.mb,0,none⟩),.pointer (some ⟨K.sb,0,none⟩)] w1 (TAns w1 c K κ b s xb v sh false Q)) :
  Calls Tryz.prog 101 #[.pointer (some ⟨yb,0,none⟩),.pointer (some ⟨K.kb,0,none⟩)] w (CAns w c K κ b s yb (.bool false) (fun w' κ' m' y'=>y'=y∧∃ t',Trc w' c K κ' m' b s xb v sh t'∧Q m' t')):=by
 have HS0:=hid h
 have HE0:Hid (Ext CY w κ w κ):=hid (Ext.refl _ _ _)
 have HT:=hid ht
 have HST:=hid hst
 have HP:=hid hp
 have p5:=h.cyc.p5
 rw [hp] at p5
 clear h ht hst hp
 go_enter Tryz.func101,Tryz.ntmps101
 have q9:=HS0.out.sys.cor.q9
 have q10:=HS0.out.sys.cor.q10
 go_wp2_with fail
 go_still_tail 12,(by kernel_rfl)
 change wpList _ _ _ _ _ w.drew
 have HS1:=hid HS0.out.drew
 have HT1:=hid HT.out.drew
 have HE1:Hid (Ext CY w κ w.drew κ):=hid (Ext.pure ((Only.refl (fun _=>False) w).drewN 1))
 clear p5 q9 q10 HS0 HE0 HT
 generalize w.drew=w1 at *
 go_wp2_with fail
 refine (HST.out w1 HT1.out).mono ?_
 rintro r w2 ⟨rfl,κ2,m2,t2,e2,s2,q2⟩
 obtain ⟨e3,s3⟩:=HS1.out.traced e2 s2.sys
 have HS3:=hid s3
 have HE3:=hid (HE1.out.trans e3)
 have HT3:=hid (And.intro s2 q2)
 clear e2 s2 q2 e3 s3
 go_wp2_with fail
 go_ret
 exact ⟨rfl,_,_,_,HE3.out,HS3.out,rfl,_,HT3.out.1,HT3.out.2⟩
theorem marks_trace_true (xb:Nat) (v:Value) (sh:List Sh) (t:Tr.St) (Q:Cor.St→Tr.St→Prop) (w:World) (h:Cys w c K κ m b s yb y) (hat:y.at_=4) (ht:Trc w c K κ m b s xb v sh t) (hp:y.tr=.pointer (some ⟨xb,0,none⟩)) (hst:∀ w1,Trc w1 c K κ m b s xb v sh t→Calls Tryz.prog 155 #[.pointer (some ⟨xb,0,none⟩),.pointer (some ⟨K.mb,0,none⟩),.pointer (some ⟨K.sb,0,none⟩)] w1 (TAns w1 c K κ b s xb v sh true Q)) :
  Calls Tryz.prog 60 #[.pointer (some ⟨yb,0,none⟩),.pointer (some ⟨K.kb,0,none⟩)] w (CAns w c K κ b s yb (.tuple #[]) (fun w' κ' m' y'=>y'={ y with at_:=0 }∧∃ t',Trc w' c K κ' m' b s xb v sh t'∧Q m' t')):=by
 have HS0:=hid h
 have HE0:Hid (Ext CY w κ w κ):=hid (Ext.refl _ _ _)
 have HT:=hid ht
 have HST:=hid hst
 have HP:=hid hp
 have p1:=h.cyc.p1
 rw [hat] at p1
 clear h ht hst hp
 go_enter Tryz.func60,Tryz.ntmps60
 clear hat
 go_wp2_with fail
 refine wp_scope_hop 1 (fun C HC0=>?_)
 have HC:=hid HC0
 clear HC0
 go_wp2_with fail
 go_step3
 refine Hop_goto ((congrArg (fun d=>findLabel d 0) HC.out).trans rfl) ?_
 clear HC
 clear p1
 go_wp2_with fail
 refine (traces_true xb v sh t Q w HS0.out HT.out HP.out HST.out).mono ?_
 rintro r w1 ⟨rfl,κ1,m1,y1,e1,s1,rfl,t1,ht1,q1⟩
 have HS1:=hid s1
 have HE1:=hid (HE0.out.trans e1)
 have HT1:=hid (And.intro ht1 q1)
 clear e1 s1 ht1 q1
 have p1:=HS1.out.cyc.p1
 have p4:=HS1.out.cyc.p4
 have ff:=HS1.out.cyc.fz
 have h4:=HS1.out.cyc.put 1 (.int .i64 0) { y1 with at_:=0 } (fun _ _ _=>⟨_,_,_,rfl⟩)
 have o4:=Cyc.only_y (Only.refl (fun k=>k=yb) w1) 1 (.int .i64 0)
 obtain ⟨e4,s4⟩:=HS1.out.mine o4 h4
 have hyx:yb≠xb:=fun e=>by have h1:=HS1.out.k10;have h2:=HT1.out.1.k11;rw [e,h2] at h1;omega
 have t4:Trc _ c K κ1 m1 b s xb v sh t1:=⟨s4.sys,HT1.out.1.tr.only o4 (fun e=>hyx e.symm) (fun k hk e=>by have:=HT1.out.1.k8 k hk;rw [e,HS1.out.k10] at this;omega),HT1.out.1.k11,HT1.out.1.k8⟩
 have HS4:=hid s4
 have HE4:=hid (HE1.out.trans e4)
 have HT4:=hid t4
 clear h4 e4 s4 t4 hyx
 go_upto_region 11 with fail
 clear p1 p4
 generalize w1.setCell ⟨yb,1,none⟩ (.int .i64 0)=w4 at *
 have p4:=HS4.out.cyc.p4
 go_wp2_with fail
 try (first | simp only [Hop_normal] | simp only [Hop_ret])
 go_end0
 exact ⟨rfl,_,_,_,HE4.out,HS4.out,rfl,_,HT4.out,HT1.out.2⟩
theorem marks_trace_false (xb:Nat) (v:Value) (sh:List Sh) (t:Tr.St) (Q:Cor.St→Tr.St→Prop) (w:World) (h:Cys w c K κ m b s yb y) (hat:y.at_=4) (ht:Trc w c K κ m b s xb v sh t) (hp:y.tr=.pointer (some ⟨xb,0,none⟩)) (hst:∀ w1,Trc w1 c K κ m b s xb v sh t→Calls Tryz.prog 155 #[.pointer (some ⟨xb,0,none⟩),.pointer (some ⟨K.mb,0,none⟩),.pointer (some ⟨K.sb,0,none⟩)] w1 (TAns w1 c K κ b s xb v sh false Q)) :
  Calls Tryz.prog 60 #[.pointer (some ⟨yb,0,none⟩),.pointer (some ⟨K.kb,0,none⟩)] w (CAns w c K κ b s yb (.tuple #[]) (fun w' κ' m' y'=>y'=y∧∃ t',Trc w' c K κ' m' b s xb v sh t'∧Q m' t')):=by
 have HS0:=hid h
 have HE0:Hid (Ext CY w κ w κ):=hid (Ext.refl _ _ _)
 have HT:=hid ht
 have HST:=hid hst
 have HP:=hid hp
 have p1:=h.cyc.p1
 rw [hat] at p1
 clear h ht hst hp
 go_enter Tryz.func60,Tryz.ntmps60
 clear hat
 go_wp2_with fail
 refine wp_scope_hop 1 (fun C HC0=>?_)
 have HC:=hid HC0
 clear HC0
 go_wp2_with fail
 go_step3
 refine Hop_goto ((congrArg (fun d=>findLabel d 0) HC.out).trans rfl) ?_
 clear HC
 clear p1
 go_wp2_with fail
 refine (traces_false xb v sh t Q w HS0.out HT.out HP.out HST.out).mono ?_
 rintro r w1 ⟨rfl,κ1,m1,y1,e1,s1,rfl,t1,ht1,q1⟩
 have HS1:=hid s1
 have HE1:=hid (HE0.out.trans e1)
 have HT1:=hid (And.intro ht1 q1)
 clear e1 s1 ht1 q1
 go_wp2_with fail
 try (first | simp only [Hop_normal] | simp only [Hop_ret])
 go_end0
 exact ⟨rfl,_,_,_,HE1.out,HS1.out,rfl,_,HT1.out.1,HT1.out.2⟩
theorem marks_lost (w:World) (h:Cys w c K κ m b s yb y) (hat:y.at_=5) (hl:m.lost=false) :
  Calls Tryz.prog 60 #[.pointer (some ⟨yb,0,none⟩),.pointer (some ⟨K.kb,0,none⟩)] w (CAns w c K κ b s yb (.tuple #[]) (fun _ _ m' y'=>m'={ m with lost:=false }∧y'={ y with stage:=6,at_:=0,i:=0 })):=by
 have HS0:=hid h
 have HE0:Hid (Ext CY w κ w κ):=hid (Ext.refl _ _ _)
 have HL:=hid hl
 have p1:=h.cyc.p1
 rw [hat] at p1
 clear h hl
 go_enter Tryz.func60,Tryz.ntmps60
 clear hat
 go_wp2_with fail
 refine wp_scope_hop 1 (fun C HC0=>?_)
 have HC:=hid HC0
 clear HC0
 go_wp2_with fail
 go_step3
 refine Hop_goto ((congrArg (fun d=>findLabel d 1) HC.out).trans rfl) ?_
 clear HC
 have q10:=HS0.out.sys.cor.q10
 clear p1
 go_wp2_with fail
 have hlo:=Cor.lost w HS0.out.sys.cor
 rw [HL.out] at hlo
 refine hlo.mono ?_
 clear hlo
 rintro r w1 ⟨rfl,κ1,he1,hc1⟩
 obtain ⟨e1,s1⟩:=HS0.out.cored he1 hc1
 have HS1:=hid s1
 have HE1:=hid (HE0.out.trans e1)
 clear he1 hc1 e1 s1
 clear q10
 go_wp2_with fail
 refine (enters_ (6) w1 HS1.out).mono ?_
 rintro r w2 ⟨rfl,κ2,m2,y2,e2,s2,rfl,rfl,rfl⟩
 have HS2:=hid s2
 have HE2:=hid (HE1.out.trans e2)
 clear e2 s2
 go_wp2_with fail
 try (first | simp only [Hop_normal] | simp only [Hop_ret])
 go_end0
 exact ⟨rfl,_,_,_,HE2.out,HS2.out,rfl,rfl⟩
end
end Go.Proofs.YtpgdiceeimehiaaGreat
