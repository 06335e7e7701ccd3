/- Part 44 of the proof that spotop.TopOrder returns true for all arguments and leaves what was there as it was. -/
import Derived.StillTailTactics
import Derived.Deep.QuietTactic
import Derived.BigQuiet
import Derived.Deep.DeepCutAuto
import Derived.Deep.CutBlock
import Derived.Deep.RegionHeld3
import Derived.Test.YtpgdiceeimehiaaGreatQ25
set_option maxRecDepth 100000
set_option maxHeartbeats 16000000
open Go.Lib (hid)
namespace Go.Proofs.YtpgdiceeimehiaaGreat
open Go.RowKit
section
variable {w:World} {c:Cn} {K:Cor.Q} {κ:Nat→Nat} {m:Cor.St} {b:Ac.B} {s:Ac.St} {yb:Nat} {y:Cyc.St}
theorem hands_yes (st g:Int) (w:World) (h:Cys w c K κ m b s yb y) (hat:y.at_=0) (z:Int) (hi:y.i=0) (ht:c.threads=1) (hz:m.stats[0]?=some z) (hd:(z == -1 || z == m.st)=true) :
  Calls Tryz.prog 58 #[.pointer (some ⟨yb,0,none⟩),.pointer (some ⟨K.kb,0,none⟩),.int .i64 st,.int .i64 g] w (CAns w c K κ b s yb (.tuple #[]) (fun _ _ m' y'=>m'=m∧y'={ y with i:=1,at_:=2 })):=by
 have HS0:=hid h
 have HE0:Hid (Ext CY w κ w κ):=hid (Ext.refl _ _ _)
 have HZ:=hid (And.intro hi (And.intro ht (And.intro hz hd)))
 have p1:=h.cyc.p1
 rw [hat] at p1
 clear h hi ht hz hd
 go_enter Tryz.func58,Tryz.ntmps58
 clear hat
 go_wp2_with fail
 refine (polls_yes w HS0.out z HZ.out.1 HZ.out.2.1 HZ.out.2.2.1 HZ.out.2.2.2).mono ?_
 rintro r w1 ⟨rfl,κ1,m1,y1,e1,s1,rfl,rfl⟩
 have HS1:=hid s1
 have HE1:=hid (HE0.out.trans e1)
 clear e1 s1
 clear p1
 have p1:=HS1.out.cyc.p1
 have ff:=HS1.out.cyc.fz
 go_wp2_with fail
 obtain ⟨e2,s2⟩:=HS1.out.mine (Cyc.only_y (Only.refl _ w1) 1 (.int .i64 2)) (HS1.out.cyc.put 1 (.int .i64 2) { y with i:=1,at_:=2 } (fun _ _ _=>⟨_,_,_,rfl⟩))
 have HS2:=hid s2
 have HE2:=hid (HE1.out.trans e2)
 clear e2 s2
 clear p1 ff
 generalize (w1.setCell ⟨yb,1,none⟩ (.int .i64 2))=w2 at *
 go_end0
 exact ⟨rfl,_,_,_,HE2.out,HS2.out,rfl,rfl⟩
theorem hands_no (st g:Int) (w:World) (h:Cys w c K κ m b s yb y) (hat:y.at_=0) (z:Int) (hi:y.i=0) (ht:c.threads=1) (hz:m.stats[0]?=some z) (hd:(z == -1 || z == m.st)=false) :
  Calls Tryz.prog 58 #[.pointer (some ⟨yb,0,none⟩),.pointer (some ⟨K.kb,0,none⟩),.int .i64 st,.int .i64 g] w (CAns w c K κ b s yb (.tuple #[]) (fun _ _ m' y'=>m'=m∧y'=y)):=by
 have HS0:=hid h
 have HE0:Hid (Ext CY w κ w κ):=hid (Ext.refl _ _ _)
 have HZ:=hid (And.intro hi (And.intro ht (And.intro hz hd)))
 have p1:=h.cyc.p1
 rw [hat] at p1
 clear h hi ht hz hd
 go_enter Tryz.func58,Tryz.ntmps58
 clear hat
 go_wp2_with fail
 refine (polls_no w HS0.out z HZ.out.1 HZ.out.2.1 HZ.out.2.2.1 HZ.out.2.2.2).mono ?_
 rintro r w1 ⟨rfl,κ1,m1,y1,e1,s1,rfl,rfl⟩
 have HS1:=hid s1
 have HE1:=hid (HE0.out.trans e1)
 clear e1 s1
 clear p1
 go_wp2_with fail
 go_end0
 exact ⟨rfl,_,_,_,HE1.out,HS1.out,rfl,rfl⟩
theorem hands_post (st g:Int) (w:World) (h:Cys w c K κ m b s yb y) (hat:y.at_=2) (h0:0≤st) (h4:st≤4) :
  Calls Tryz.prog 58 #[.pointer (some ⟨yb,0,none⟩),.pointer (some ⟨K.kb,0,none⟩),.int .i64 st,.int .i64 g] w (CAns w c K κ b s yb (.tuple #[]) (fun _ _ m' y'=>m'={ m with st:=st,se:=m.se != false }∧y'={ y with stage:=g,at_:=0,i:=0 })):=by
 have HS0:=hid h
 have HE0:Hid (Ext CY w κ w κ):=hid (Ext.refl _ _ _)
 have p1:=h.cyc.p1
 rw [hat] at p1
 clear h
 go_enter Tryz.func58,Tryz.ntmps58
 clear hat
 have q12:=HS0.out.sys.cor.q12
 go_wp2_with fail
 refine (Cor.post st false w HS0.out.sys.cor h0 h4).mono ?_
 rintro r w1 ⟨rfl,he1,hc1⟩
 obtain ⟨e1,s1⟩:=HS0.out.cored he1 hc1
 have HS1:=hid s1
 have HE1:=hid (HE0.out.trans e1)
 clear he1 hc1 e1 s1
 clear p1 q12
 go_wp2_with fail
 refine (enters_ (g) w1 HS1.out).mono ?_
 rintro r w2 ⟨rfl,κ2,m2,y2,e2,s2,rfl,rfl,rfl⟩
 have HS2:=hid s2
 have HE2:=hid (HE1.out.trans e2)
 clear e2 s2
 go_wp2_with fail
 go_end0
 exact ⟨rfl,_,_,_,HE2.out,HS2.out,rfl,rfl⟩
theorem starts_begin (w:World) (h:Cys w c K κ m b s yb y) (hat:y.at_=0) :
  Calls Tryz.prog 57 #[.pointer (some ⟨yb,0,none⟩),.pointer (some ⟨K.kb,0,none⟩)] w (CAns w c K κ b s yb (.tuple #[]) (fun _ _ m' y'=>m'={ m with s:={ m.s with forced:=false,en:=m.s.en.map Ln.note } }∧y'={ y with at_:=2 })):=by
 have HS0:=hid h
 have HE0:Hid (Ext CY w κ w κ):=hid (Ext.refl _ _ _)
 have p1:=h.cyc.p1
 rw [hat] at p1
 clear h
 go_enter Tryz.func57,Tryz.ntmps57
 clear hat
 have q11:=HS0.out.sys.cor.q11
 go_wp2_with fail
 refine (Cor.begin_ w HS0.out.sys.cor).mono ?_
 rintro r w1 ⟨rfl,κ1,he1,hc1⟩
 obtain ⟨e1,s1⟩:=HS0.out.cored he1 hc1
 have HS1:=hid s1
 have HE1:=hid (HE0.out.trans e1)
 clear he1 hc1 e1 s1
 clear p1 q11
 have p1:=HS1.out.cyc.p1
 have ff:=HS1.out.cyc.fz
 go_wp2_with fail
 obtain ⟨e2,s2⟩:=HS1.out.mine (Cyc.only_y (Only.refl _ w1) 1 (.int .i64 2)) (HS1.out.cyc.put 1 (.int .i64 2) { y with at_:=2 } (fun _ _ _=>⟨_,_,_,rfl⟩))
 have HS2:=hid s2
 have HE2:=hid (HE1.out.trans e2)
 clear e2 s2
 clear p1 ff
 generalize (w1.setCell ⟨yb,1,none⟩ (.int .i64 2))=w2 at *
 go_end0
 exact ⟨rfl,_,_,_,HE2.out,HS2.out,rfl,rfl⟩
theorem starts_post (w:World) (h:Cys w c K κ m b s yb y) (hat:y.at_=2) (hs:y.started≤1000) :
  Calls Tryz.prog 57 #[.pointer (some ⟨yb,0,none⟩),.pointer (some ⟨K.kb,0,none⟩)] w (CAns w c K κ b s yb (.tuple #[]) (fun _ _ m' y'=>m'={ m with st:=1,se:=m.se != true }∧y'={ y with started:=y.started+1,sense:=!y.sense,stage:=2,at_:=0,i:=0 })):=by
 have HS0:=hid h
 have HE0:Hid (Ext CY w κ w κ):=hid (Ext.refl _ _ _)
 have p1:=h.cyc.p1
 rw [hat] at p1
 clear h
 go_enter Tryz.func57,Tryz.ntmps57
 clear hat
 have q12:=HS0.out.sys.cor.q12
 go_wp2_with fail
 refine (Cor.post 1 true w HS0.out.sys.cor (by omega) (by omega)).mono ?_
 rintro r w1 ⟨rfl,he1,hc1⟩
 obtain ⟨e1,s1⟩:=HS0.out.cored he1 hc1
 have HS1:=hid s1
 have HE1:=hid (HE0.out.trans e1)
 clear he1 hc1 e1 s1
 clear p1 q12
 have hs1:(y.started:Int)≤1000:=by omega
 have p8:=HS1.out.cyc.p8
 have p7:=HS1.out.cyc.p7
 obtain ⟨n12,p12⟩:=HS1.out.cyc.p12
 have ff:=HS1.out.cyc.fz
 go_upto_region 6 with fail
 obtain ⟨e2,s2⟩:=HS1.out.mine (Cyc.only_y (Cyc.only_y (Cyc.only_y (Only.refl _ w1) 8 (.int .i64 ((y.started:Int)+1))) 7 (.bool (!y.sense))) 12 (.int .i64 0)) (((HS1.out.cyc.put 8 (.int .i64 ((y.started:Int)+1)) { y with started:=y.started+1 } (fun _ _ _=>⟨_,_,_,rfl⟩)).put 7 (.bool (!y.sense)) { y with started:=y.started+1,sense:=!y.sense } (fun _ _ _=>⟨_,_,_,rfl⟩)).put 12 (.int .i64 0) { y with started:=y.started+1,sense:=!y.sense } (fun _ _ _=>⟨_,_,_,rfl⟩))
 have HS2:=hid s2
 have HE2:=hid (HE1.out.trans e2)
 clear e2 s2
 clear p8 p7 p12 ff
 generalize (((w1.setCell ⟨yb,8,none⟩ (.int .i64 ((y.started:Int)+1))).setCell ⟨yb,7,none⟩ (.bool (!y.sense))).setCell ⟨yb,12,none⟩ (.int .i64 0))=w2 at *
 go_wp2_with fail
 refine (enters_ (2) w2 HS2.out).mono ?_
 rintro r w3 ⟨rfl,κ3,m3,y3,e3,s3,rfl,rfl,rfl⟩
 have HS3:=hid s3
 have HE3:=hid (HE2.out.trans e3)
 clear e3 s3
 go_wp2_with fail
 go_end0
 exact ⟨rfl,_,_,_,HE3.out,HS3.out,rfl,rfl⟩
theorem turns_turn (w:World) (h:Cys w c K κ m b s yb y) (hat:y.at_=0) (hu:m.s.u (1-m.s.cur)=0) :
  Calls Tryz.prog 61 #[.pointer (some ⟨yb,0,none⟩),.pointer (some ⟨K.kb,0,none⟩)] w (CAns w c K κ b s yb (.tuple #[]) (fun _ _ m' y'=>m'={ m with s:={ m.s with cur:=1-m.s.cur,kept:=m.s.u m.s.cur } }∧y'={ y with at_:=2 })):=by
 have HS0:=hid h
 have HE0:Hid (Ext CY w κ w κ):=hid (Ext.refl _ _ _)
 have HU:=hid hu
 have p1:=h.cyc.p1
 rw [hat] at p1
 clear h hu
 go_enter Tryz.func61,Tryz.ntmps61
 clear hat
 have q11:=HS0.out.sys.cor.q11
 go_wp2_with fail
 refine (Cor.turn w HS0.out.sys.cor HU.out).mono ?_
 rintro r w1 ⟨rfl,κ1,he1,hc1⟩
 obtain ⟨e1,s1⟩:=HS0.out.cored he1 hc1
 have HS1:=hid s1
 have HE1:=hid (HE0.out.trans e1)
 clear he1 hc1 e1 s1
 clear p1 q11
 have p1:=HS1.out.cyc.p1
 have ff:=HS1.out.cyc.fz
 go_wp2_with fail
 obtain ⟨e2,s2⟩:=HS1.out.mine (Cyc.only_y (Only.refl _ w1) 1 (.int .i64 2)) (HS1.out.cyc.put 1 (.int .i64 2) { y with at_:=2 } (fun _ _ _=>⟨_,_,_,rfl⟩))
 have HS2:=hid s2
 have HE2:=hid (HE1.out.trans e2)
 clear e2 s2
 clear p1 ff
 generalize (w1.setCell ⟨yb,1,none⟩ (.int .i64 2))=w2 at *
 go_end0
 exact ⟨rfl,_,_,_,HE2.out,HS2.out,rfl,rfl⟩
theorem turns_post (w:World) (h:Cys w c K κ m b s yb y) (hat:y.at_=2) :
  Calls Tryz.prog 61 #[.pointer (some ⟨yb,0,none⟩),.pointer (some ⟨K.kb,0,none⟩)] w (CAns w c K κ b s yb (.tuple #[]) (fun _ _ m' y'=>m'={ m with st:=4,se:=m.se != false }∧y'={ y with at_:=1 })):=by
 have HS0:=hid h
 have HE0:Hid (Ext CY w κ w κ):=hid (Ext.refl _ _ _)
 have p1:=h.cyc.p1
 rw [hat] at p1
 clear h
 go_enter Tryz.func61,Tryz.ntmps61
 clear hat
 have q12:=HS0.out.sys.cor.q12
 go_wp2_with fail
 refine (Cor.post 4 false w HS0.out.sys.cor (by omega) (by omega)).mono ?_
 rintro r w1 ⟨rfl,he1,hc1⟩
 obtain ⟨e1,s1⟩:=HS0.out.cored he1 hc1
 have HS1:=hid s1
 have HE1:=hid (HE0.out.trans e1)
 clear he1 hc1 e1 s1
 clear p1 q12
 have p1:=HS1.out.cyc.p1
 have ff:=HS1.out.cyc.fz
 go_wp2_with fail
 obtain ⟨e2,s2⟩:=HS1.out.mine (Cyc.only_y (Only.refl _ w1) 1 (.int .i64 1)) (HS1.out.cyc.put 1 (.int .i64 1) { y with at_:=1 } (fun _ _ _=>⟨_,_,_,rfl⟩))
 have HS2:=hid s2
 have HE2:=hid (HE1.out.trans e2)
 clear e2 s2
 clear p1 ff
 generalize (w1.setCell ⟨yb,1,none⟩ (.int .i64 1))=w2 at *
 go_end0
 exact ⟨rfl,_,_,_,HE2.out,HS2.out,rfl,rfl⟩
theorem turns_yes (w:World) (h:Cys w c K κ m b s yb y) (hat:y.at_=1) (z:Int) (hi:y.i=0) (ht:c.threads=1) (hz:m.stats[0]?=some z) (hd:(z == -1 || z == m.st)=true) :
  Calls Tryz.prog 61 #[.pointer (some ⟨yb,0,none⟩),.pointer (some ⟨K.kb,0,none⟩)] w (CAns w c K κ b s yb (.tuple #[]) (fun _ _ m' y'=>m'=m∧y'={ y with stage:=7,at_:=0,i:=0,h:=.pointer none })):=by
 have HS0:=hid h
 have HE0:Hid (Ext CY w κ w κ):=hid (Ext.refl _ _ _)
 have HZ:=hid (And.intro hi (And.intro ht (And.intro hz hd)))
 have p1:=h.cyc.p1
 rw [hat] at p1
 clear h hi ht hz hd
 go_enter Tryz.func61,Tryz.ntmps61
 clear hat
 go_wp2_with fail
 refine (polls_yes w HS0.out z HZ.out.1 HZ.out.2.1 HZ.out.2.2.1 HZ.out.2.2.2).mono ?_
 rintro r w1 ⟨rfl,κ1,m1,y1,e1,s1,rfl,rfl⟩
 have HS1:=hid s1
 have HE1:=hid (HE0.out.trans e1)
 clear e1 s1
 clear p1
 go_wp2_with fail
 refine (enters_ (7) w1 HS1.out).mono ?_
 rintro r w2 ⟨rfl,κ2,m2,y2,e2,s2,rfl,rfl,rfl⟩
 have HS2:=hid s2
 have HE2:=hid (HE1.out.trans e2)
 clear e2 s2
 have p6:=HS2.out.cyc.p6
 have ff:=HS2.out.cyc.fz
 go_wp2_with fail
 obtain ⟨e3,s3⟩:=HS2.out.mine (Cyc.only_y (Only.refl _ w2) 6 (.pointer none)) (HS2.out.cyc.put 6 (.pointer none) { y with stage:=7,at_:=0,i:=0,h:=.pointer none } (fun _ _ _=>⟨_,_,_,rfl⟩))
 have HS3:=hid s3
 have HE3:=hid (HE2.out.trans e3)
 clear e3 s3
 clear p6 ff
 generalize (w2.setCell ⟨yb,6,none⟩ (.pointer none))=w3 at *
 go_end0
 exact ⟨rfl,_,_,_,HE3.out,HS3.out,rfl,rfl⟩
theorem turns_no (w:World) (h:Cys w c K κ m b s yb y) (hat:y.at_=1) (z:Int) (hi:y.i=0) (ht:c.threads=1) (hz:m.stats[0]?=some z) (hd:(z == -1 || z == m.st)=false) :
  Calls Tryz.prog 61 #[.pointer (some ⟨yb,0,none⟩),.pointer (some ⟨K.kb,0,none⟩)] w (CAns w c K κ b s yb (.tuple #[]) (fun _ _ m' y'=>m'=m∧y'=y)):=by
 have HS0:=hid h
 have HE0:Hid (Ext CY w κ w κ):=hid (Ext.refl _ _ _)
 have HZ:=hid (And.intro hi (And.intro ht (And.intro hz hd)))
 have p1:=h.cyc.p1
 rw [hat] at p1
 clear h hi ht hz hd
 go_enter Tryz.func61,Tryz.ntmps61
 clear hat
 go_wp2_with fail
 refine (polls_no w HS0.out z HZ.out.1 HZ.out.2.1 HZ.out.2.2.1 HZ.out.2.2.2).mono ?_
 rintro r w1 ⟨rfl,κ1,m1,y1,e1,s1,rfl,rfl⟩
 have HS1:=hid s1
 have HE1:=hid (HE0.out.trans e1)
 clear e1 s1
 clear p1
 go_wp2_with fail
 go_end0
 exact ⟨rfl,_,_,_,HE1.out,HS1.out,rfl,rfl⟩
theorem settles_yes (w:World) (h:Cys w c K κ m b s yb y) (hat:y.at_=0) (z:Int) (hi:y.i=0) (ht:c.threads=1) (hz:m.stats[0]?=some z) (hd:(z == -1 || z == m.st)=true) :
  Calls Tryz.prog 63 #[.pointer (some ⟨yb,0,none⟩),.pointer (some ⟨K.kb,0,none⟩)] w (CAns w c K κ b s yb (.tuple #[]) (fun _ _ m' y'=>m'=m∧y'={ y with i:=1,at_:=7 })):=by
 have HS0:=hid h
 have HE0:Hid (Ext CY w κ w κ):=hid (Ext.refl _ _ _)
 have HZ:=hid (And.intro hi (And.intro ht (And.intro hz hd)))
 have p1:=h.cyc.p1
 rw [hat] at p1
 clear h hi ht hz hd
 go_enter Tryz.func63,Tryz.ntmps63
 clear hat
 go_wp2_with fail
 refine (polls_yes w HS0.out z HZ.out.1 HZ.out.2.1 HZ.out.2.2.1 HZ.out.2.2.2).mono ?_
 rintro r w1 ⟨rfl,κ1,m1,y1,e1,s1,rfl,rfl⟩
 have HS1:=hid s1
 have HE1:=hid (HE0.out.trans e1)
 clear e1 s1
 clear p1
 have p1:=HS1.out.cyc.p1
 have ff:=HS1.out.cyc.fz
 go_wp2_with fail
 obtain ⟨e2,s2⟩:=HS1.out.mine (Cyc.only_y (Only.refl _ w1) 1 (.int .i64 7)) (HS1.out.cyc.put 1 (.int .i64 7) { y with i:=1,at_:=7 } (fun _ _ _=>⟨_,_,_,rfl⟩))
 have HS2:=hid s2
 have HE2:=hid (HE1.out.trans e2)
 clear e2 s2
 clear p1 ff
 generalize (w1.setCell ⟨yb,1,none⟩ (.int .i64 7))=w2 at *
 go_end0
 exact ⟨rfl,_,_,_,HE2.out,HS2.out,rfl,rfl⟩
theorem settles_no (w:World) (h:Cys w c K κ m b s yb y) (hat:y.at_=0) (z:Int) (hi:y.i=0) (ht:c.threads=1) (hz:m.stats[0]?=some z) (hd:(z == -1 || z == m.st)=false) :
  Calls Tryz.prog 63 #[.pointer (some ⟨yb,0,none⟩),.pointer (some ⟨K.kb,0,none⟩)] w (CAns w c K κ b s yb (.tuple #[]) (fun _ _ m' y'=>m'=m∧y'=y)):=by
 have HS0:=hid h
 have HE0:Hid (Ext CY w κ w κ):=hid (Ext.refl _ _ _)
 have HZ:=hid (And.intro hi (And.intro ht (And.intro hz hd)))
 have p1:=h.cyc.p1
 rw [hat] at p1
 clear h hi ht hz hd
 go_enter Tryz.func63,Tryz.ntmps63
 clear hat
 go_wp2_with fail
 refine (polls_no w HS0.out z HZ.out.1 HZ.out.2.1 HZ.out.2.2.1 HZ.out.2.2.2).mono ?_
 rintro r w1 ⟨rfl,κ1,m1,y1,e1,s1,rfl,rfl⟩
 have HS1:=hid s1
 have HE1:=hid (HE0.out.trans e1)
 clear e1 s1
 clear p1
 go_wp2_with fail
 go_end0
 exact ⟨rfl,_,_,_,HE1.out,HS1.out,rfl,rfl⟩
theorem settles_done (w:World) (h:Cys w c K κ m b s yb y) (hat:y.at_=7) (hk:m.s.kept=0) :
  Calls Tryz.prog 63 #[.pointer (some ⟨yb,0,none⟩),.pointer (some ⟨K.kb,0,none⟩)] w (CAns w c K κ b s yb (.tuple #[]) (fun _ _ m' y'=>m'={ m with s:={ m.s with u:=fun k=>if k=1-m.s.cur then 0 else m.s.u k,kept:=0 } }∧y'={ y with stage:=9,at_:=0,i:=0 })):=by
 have HS0:=hid h
 have HE0:Hid (Ext CY w κ w κ):=hid (Ext.refl _ _ _)
 have HU:=hid hk
 have p1:=h.cyc.p1
 rw [hat] at p1
 clear h hk
 go_enter Tryz.func63,Tryz.ntmps63
 clear hat
 have q11:=HS0.out.sys.cor.q11
 go_wp2_with fail
 refine (Cor.done_ w HS0.out.sys.cor HU.out).mono ?_
 rintro r w1 ⟨rfl,κ1,he1,hc1⟩
 obtain ⟨e1,s1⟩:=HS0.out.cored he1 hc1
 have HS1:=hid s1
 have HE1:=hid (HE0.out.trans e1)
 clear he1 hc1 e1 s1
 clear p1 q11
 go_wp2_with fail
 refine (enters_ (9) w1 HS1.out).mono ?_
 rintro r w2 ⟨rfl,κ2,m2,y2,e2,s2,rfl,rfl,rfl⟩
 have HS2:=hid s2
 have HE2:=hid (HE1.out.trans e2)
 clear e2 s2
 go_wp2_with fail
 go_end0
 exact ⟨rfl,_,_,_,HE2.out,HS2.out,rfl,rfl⟩
theorem serves_end (w:World) (h:Cys w c K κ m b s yb y) (hat:y.at_=0) (hcy:∀ e∈m.s.en,0≤e.cycles∧e.cycles≤100000) :
  Calls Tryz.prog 65 #[.pointer (some ⟨yb,0,none⟩),.pointer (some ⟨K.kb,0,none⟩)] w (CAns w c K κ b s yb (.tuple #[]) (fun _ _ m' y'=>m'={ m with s:={ m.s with en:=m.s.en.map Ln.tick } }∧y'={ y with at_:=7 })):=by
 have HS0:=hid h
 have HE0:Hid (Ext CY w κ w κ):=hid (Ext.refl _ _ _)
 have HU:=hid hcy
 have p1:=h.cyc.p1
 rw [hat] at p1
 clear h hcy
 go_enter Tryz.func65,Tryz.ntmps65
 clear hat
 have q11:=HS0.out.sys.cor.q11
 go_wp2_with fail
 refine (Cor.end_ w HS0.out.sys.cor HU.out).mono ?_
 rintro r w1 ⟨rfl,κ1,he1,hc1⟩
 obtain ⟨e1,s1⟩:=HS0.out.cored he1 hc1
 have HS1:=hid s1
 have HE1:=hid (HE0.out.trans e1)
 clear he1 hc1 e1 s1
 clear p1 q11
 have p1:=HS1.out.cyc.p1
 have ff:=HS1.out.cyc.fz
 go_wp2_with fail
 obtain ⟨e2,s2⟩:=HS1.out.mine (Cyc.only_y (Only.refl _ w1) 1 (.int .i64 7)) (HS1.out.cyc.put 1 (.int .i64 7) { y with at_:=7 } (fun _ _ _=>⟨_,_,_,rfl⟩))
 have HS2:=hid s2
 have HE2:=hid (HE1.out.trans e2)
 clear e2 s2
 clear p1 ff
 generalize (w1.setCell ⟨yb,1,none⟩ (.int .i64 7))=w2 at *
 go_end0
 exact ⟨rfl,_,_,_,HE2.out,HS2.out,rfl,rfl⟩
theorem serves_more (R:Cor.St→Prop) (w:World) (h:Cys w c K κ m b s yb y) (hat:y.at_=7) (hs:∀ w1 κ1,Cor.At w1 c K κ1 m→Calls Tryz.prog 116 #[.pointer (some ⟨K.q.sp,0,none⟩),.bool y.sense] w1 fun e w'=>e=.returned (.bool true)∧∃ κ' m',Ext Cor.C5 w1 κ1 w' κ'∧Cor.At w' c K κ' m'∧R m') :
  Calls Tryz.prog 65 #[.pointer (some ⟨yb,0,none⟩),.pointer (some ⟨K.kb,0,none⟩)] w (CAns w c K κ b s yb (.tuple #[]) (fun _ _ m' y'=>R m'∧y'=y)):=by
 have HS0:=hid h
 have HE0:Hid (Ext CY w κ w κ):=hid (Ext.refl _ _ _)
 have HSV:=hid hs
 have p1:=h.cyc.p1
 rw [hat] at p1
 have p7:=h.cyc.p7
 clear h hs
 go_enter Tryz.func65,Tryz.ntmps65
 clear hat
 have q11:=HS0.out.sys.cor.q11
 go_wp2_with fail
 go_still_tail 8,(by kernel_rfl)
 change wpList _ _ _ _ _ w.drew
 have HS1:=hid HS0.out.drew
 have HE1:Hid (Ext CY w κ w.drew κ):=hid (Ext.pure ((Only.refl (fun _=>False) w).drewN 1))
 clear p1 p7 q11 HS0 HE0
 generalize w.drew=w1 at *
 go_wp2_with fail
 refine (HSV.out w1 κ HS1.out.sys.cor).mono ?_
 rintro r w2 ⟨rfl,κ2,m2,he2,hc2,hr2⟩
 obtain ⟨e2,s2⟩:=HS1.out.cored he2 hc2
 have HS2:=hid s2
 have HE2:=hid (HE1.out.trans e2)
 have HR2:=hid hr2
 clear he2 hc2 e2 s2 hr2
 go_wp2_with fail
 go_end0
 exact ⟨rfl,_,_,_,HE2.out,HS2.out,HR2.out,rfl⟩
theorem serves_idle (R:Cor.St→Prop) (w:World) (h:Cys w c K κ m b s yb y) (hat:y.at_=7) (hfn:y.finished≤1000) (hs:∀ w1 κ1,Cor.At w1 c K κ1 m→Calls Tryz.prog 116 #[.pointer (some ⟨K.q.sp,0,none⟩),.bool y.sense] w1 fun e w'=>e=.returned (.bool false)∧∃ κ' m',Ext Cor.C5 w1 κ1 w' κ'∧Cor.At w' c K κ' m'∧R m') :
  Calls Tryz.prog 65 #[.pointer (some ⟨yb,0,none⟩),.pointer (some ⟨K.kb,0,none⟩)] w (CAns w c K κ b s yb (.tuple #[]) (fun _ _ m' y'=>R m'∧y'={ y with finished:=y.finished+1,stage:=0,at_:=0,i:=0 })):=by
 have HS0:=hid h
 have HE0:Hid (Ext CY w κ w κ):=hid (Ext.refl _ _ _)
 have HSV:=hid hs
 have p1:=h.cyc.p1
 rw [hat] at p1
 have p7:=h.cyc.p7
 clear h hs
 go_enter Tryz.func65,Tryz.ntmps65
 clear hat
 have q11:=HS0.out.sys.cor.q11
 go_wp2_with fail
 go_still_tail 8,(by kernel_rfl)
 change wpList _ _ _ _ _ w.drew
 have HS1:=hid HS0.out.drew
 have HE1:Hid (Ext CY w κ w.drew κ):=hid (Ext.pure ((Only.refl (fun _=>False) w).drewN 1))
 clear p1 p7 q11 HS0 HE0
 generalize w.drew=w1 at *
 go_wp2_with fail
 refine (HSV.out w1 κ HS1.out.sys.cor).mono ?_
 rintro r w2 ⟨rfl,κ2,m2,he2,hc2,hr2⟩
 obtain ⟨e2,s2⟩:=HS1.out.cored he2 hc2
 have HS2:=hid s2
 have HE2:=hid (HE1.out.trans e2)
 have HR2:=hid hr2
 clear he2 hc2 e2 s2 hr2
 have hs1:(y.finished:Int)≤1000:=by omega
 have p9:=HS2.out.cyc.p9
 have ff:=HS2.out.cyc.fz
 go_upto_region 5 with fail
 obtain ⟨e3,s3⟩:=HS2.out.mine (Cyc.only_y (Only.refl _ w2) 9 (.int .i64 ((y.finished:Int)+1))) (HS2.out.cyc.put 9 (.int .i64 ((y.finished:Int)+1)) { y with finished:=y.finished+1 } (fun _ _ _=>⟨_,_,_,rfl⟩))
 have HS3:=hid s3
 have HE3:=hid (HE2.out.trans e3)
 clear e3 s3
 clear p9 ff
 generalize (w2.setCell ⟨yb,9,none⟩ (.int .i64 ((y.finished:Int)+1)))=w3 at *
 go_wp2_with fail
 refine (enters_ (0) w3 HS3.out).mono ?_
 rintro r w4 ⟨rfl,κ4,m4,y4,e4,s4,rfl,rfl,rfl⟩
 have HS4:=hid s4
 have HE4:=hid (HE3.out.trans e4)
 clear e4 s4
 go_wp2_with fail
 go_end0
 exact ⟨rfl,_,_,_,HE4.out,HS4.out,HR2.out,rfl⟩
theorem sweeps_yes (R:Cor.St→Prop) (w:World) (h:Cys w c K κ m b s yb y) (hfr:((y.i+1:Nat):Int)<c.frags) (hf2:c.frags≤2000) (hs:∀ w1 κ1,Cor.At w1 c K κ1 m→Calls Tryz.prog 114 #[.pointer (some ⟨K.q.sp,0,none⟩),.int .i64 (y.i:Int),.bool y.sense] w1 fun e w'=>e=.returned (.bool true)∧∃ κ' m',Ext Cor.C5 w1 κ1 w' κ'∧Cor.At w' c K κ' m'∧R m') :
  Calls Tryz.prog 64 #[.pointer (some ⟨yb,0,none⟩),.pointer (some ⟨K.kb,0,none⟩)] w (CAns w c K κ b s yb (.tuple #[]) (fun _ _ m' y'=>R m'∧y'={ y with i:=y.i+1 })):=by
 have HS0:=hid h
 have HE0:Hid (Ext CY w κ w κ):=hid (Ext.refl _ _ _)
 have HSV:=hid hs
 have HFR:=hid hfr
 have p2:=h.cyc.p2
 have p7:=h.cyc.p7
 clear h hs
 go_enter Tryz.func64,Tryz.ntmps64
 have q11:=HS0.out.sys.cor.q11
 have hi2:(y.i:Int)≤2000:=by omega
 clear hfr
 go_wp2_with fail
 go_still_tail 12,(by kernel_rfl)
 change wpList _ _ _ _ _ w.drew
 have HS1:=hid HS0.out.drew
 have HE1:Hid (Ext CY w κ w.drew κ):=hid (Ext.pure ((Only.refl (fun _=>False) w).drewN 1))
 clear p2 p7 q11 HS0 HE0
 generalize w.drew=w1 at *
 go_wp2_with fail
 refine (HSV.out w1 κ HS1.out.sys.cor).mono ?_
 rintro r w2 ⟨rfl,κ2,m2,he2,hc2,hr2⟩
 obtain ⟨e2,s2⟩:=HS1.out.cored he2 hc2
 have HS2:=hid s2
 have HE2:=hid (HE1.out.trans e2)
 have HR2:=hid hr2
 clear he2 hc2 e2 s2 hr2
 obtain ⟨n10,p10⟩:=HS2.out.cyc.p10
 have ff:=HS2.out.cyc.fz
 go_upto_region 2 with fail
 obtain ⟨e3,s3⟩:=HS2.out.mine (Cyc.only_y (Only.refl _ w2) 10 (.int .i64 (wrap64 (n10+1)))) (HS2.out.cyc.put 10 (.int .i64 (wrap64 (n10+1))) y (fun _ _ _=>⟨_,_,_,rfl⟩))
 have HS3:=hid s3
 have HE3:=hid (HE2.out.trans e3)
 clear e3 s3
 clear p10 ff
 generalize (w2.setCell ⟨yb,10,none⟩ (.int .i64 (wrap64 (n10+1))))=w3 at *
 have p2:=HS3.out.cyc.p2
 have ff:=HS3.out.cyc.fz
 go_upto_region 3 with fail
 obtain ⟨e4,s4⟩:=HS3.out.mine (Cyc.only_y (Only.refl _ w3) 2 (.int .i64 ((y.i:Int)+1))) (HS3.out.cyc.put 2 (.int .i64 ((y.i:Int)+1)) { y with i:=y.i+1 } (fun _ _ _=>⟨_,_,_,rfl⟩))
 have HS4:=hid s4
 have HE4:=hid (HE3.out.trans e4)
 clear e4 s4
 clear p2 ff
 generalize (w3.setCell ⟨yb,2,none⟩ (.int .i64 ((y.i:Int)+1)))=w4 at *
 have p2:w4.cell? ⟨yb,2,none⟩=some (.int .i64 ((y.i+1:Nat):Int)):=HS4.out.cyc.p2
 obtain ⟨i1,hi1⟩:∃ i1:Int,((y.i+1:Nat):Int)=i1:=⟨_,rfl⟩
 rw [hi1] at p2
 have hfr:=HFR.out
 rw [hi1] at hfr
 have k0:=(HS4.out.sys.cor.qc).1
 have hcmp:(i1 == c.frags)=false:=by simp;omega
 clear hi1
 go_wp2_with fail
 go_quiet (fail)
 have HS9:=hid (HS4.out.pure ((Only.refl (fun _=>False) w4).drewN nq))
 have HE9:=hid (HE4.out.trans (Ext.pure ((Only.refl (fun _=>False) w4).drewN nq)))
 clear p2 k0
 generalize w4.drewN nq=w9 at *
 go_wp2_with fail
 go_end0
 exact ⟨rfl,_,_,_,HE9.out,HS9.out,HR2.out,rfl⟩
theorem sweeps_no (R:Cor.St→Prop) (w:World) (h:Cys w c K κ m b s yb y) (hfr:((y.i+1:Nat):Int)<c.frags) (hf2:c.frags≤2000) (hs:∀ w1 κ1,Cor.At w1 c K κ1 m→Calls Tryz.prog 114 #[.pointer (some ⟨K.q.sp,0,none⟩),.int .i64 (y.i:Int),.bool y.sense] w1 fun e w'=>e=.returned (.bool false)∧∃ κ' m',Ext Cor.C5 w1 κ1 w' κ'∧Cor.At w' c K κ' m'∧R m') :
  Calls Tryz.prog 64 #[.pointer (some ⟨yb,0,none⟩),.pointer (some ⟨K.kb,0,none⟩)] w (CAns w c K κ b s yb (.tuple #[]) (fun _ _ m' y'=>R m'∧y'={ y with i:=y.i+1 })):=by
 have HS0:=hid h
 have HE0:Hid (Ext CY w κ w κ):=hid (Ext.refl _ _ _)
 have HSV:=hid hs
 have HFR:=hid hfr
 have p2:=h.cyc.p2
 have p7:=h.cyc.p7
 clear h hs
 go_enter Tryz.func64,Tryz.ntmps64
 have q11:=HS0.out.sys.cor.q11
 have hi2:(y.i:Int)≤2000:=by omega
 clear hfr
 go_wp2_with fail
 go_still_tail 12,(by kernel_rfl)
 change wpList _ _ _ _ _ w.drew
 have HS1:=hid HS0.out.drew
 have HE1:Hid (Ext CY w κ w.drew κ):=hid (Ext.pure ((Only.refl (fun _=>False) w).drewN 1))
 clear p2 p7 q11 HS0 HE0
 generalize w.drew=w1 at *
 go_wp2_with fail
 refine (HSV.out w1 κ HS1.out.sys.cor).mono ?_
 rintro r w2 ⟨rfl,κ2,m2,he2,hc2,hr2⟩
 obtain ⟨e2,s2⟩:=HS1.out.cored he2 hc2
 have HS2:=hid s2
 have HE2:=hid (HE1.out.trans e2)
 have HR2:=hid hr2
 clear he2 hc2 e2 s2 hr2
 have p2:=HS2.out.cyc.p2
 have ff:=HS2.out.cyc.fz
 go_upto_region 3 with fail
 obtain ⟨e3,s3⟩:=HS2.out.mine (Cyc.only_y (Only.refl _ w2) 2 (.int .i64 ((y.i:Int)+1))) (HS2.out.cyc.put 2 (.int .i64 ((y.i:Int)+1)) { y with i:=y.i+1 } (fun _ _ _=>⟨_,_,_,rfl⟩))
 have HS3:=hid s3
 have HE3:=hid (HE2.out.trans e3)
 clear e3 s3
 clear p2 ff
 generalize (w2.setCell ⟨yb,2,none⟩ (.int .i64 ((y.i:Int)+1)))=w3 at *
 have p2:w3.cell? ⟨yb,2,none⟩=some (.int .i64 ((y.i+1:Nat):Int)):=HS3.out.cyc.p2
 obtain ⟨i1,hi1⟩:∃ i1:Int,((y.i+1:Nat):Int)=i1:=⟨_,rfl⟩
 rw [hi1] at p2
 have hfr:=HFR.out
 rw [hi1] at hfr
 have k0:=(HS3.out.sys.cor.qc).1
 have hcmp:(i1 == c.frags)=false:=by simp;omega
 clear hi1
 go_wp2_with fail
 go_quiet (fail)
 have HS9:=hid (HS3.out.pure ((Only.refl (fun _=>False) w3).drewN nq))
 have HE9:=hid (HE3.out.trans (Ext.pure ((Only.refl (fun _=>False) w3).drewN nq)))
 clear p2 k0
 generalize w3.drewN nq=w9 at *
 go_wp2_with fail
 go_end0
 exact ⟨rfl,_,_,_,HE9.out,HS9.out,HR2.out,rfl⟩
theorem sweeps_yes_last (R:Cor.St→Prop) (w:World) (h:Cys w c K κ m b s yb y) (hfr:((y.i+1:Nat):Int)=c.frags) (hf2:c.frags≤2000) (hs:∀ w1 κ1,Cor.At w1 c K κ1 m→Calls Tryz.prog 114 #[.pointer (some ⟨K.q.sp,0,none⟩),.int .i64 (y.i:Int),.bool y.sense] w1 fun e w'=>e=.returned (.bool true)∧∃ κ' m',Ext Cor.C5 w1 κ1 w' κ'∧Cor.At w' c K κ' m'∧R m') :
  Calls Tryz.prog 64 #[.pointer (some ⟨yb,0,none⟩),.pointer (some ⟨K.kb,0,none⟩)] w (CAns w c K κ b s yb (.tuple #[]) (fun _ _ m' y'=>R m'∧y'={ y with stage:=10,at_:=0,i:=0 })):=by
 have HS0:=hid h
 have HE0:Hid (Ext CY w κ w κ):=hid (Ext.refl _ _ _)
 have HSV:=hid hs
 have HFR:=hid hfr
 have p2:=h.cyc.p2
 have p7:=h.cyc.p7
 clear h hs
 go_enter Tryz.func64,Tryz.ntmps64
 have q11:=HS0.out.sys.cor.q11
 have hi2:(y.i:Int)≤2000:=by omega
 clear hfr
 go_wp2_with fail
 go_still_tail 12,(by kernel_rfl)
 change wpList _ _ _ _ _ w.drew
 have HS1:=hid HS0.out.drew
 have HE1:Hid (Ext CY w κ w.drew κ):=hid (Ext.pure ((Only.refl (fun _=>False) w).drewN 1))
 clear p2 p7 q11 HS0 HE0
 generalize w.drew=w1 at *
 go_wp2_with fail
 refine (HSV.out w1 κ HS1.out.sys.cor).mono ?_
 rintro r w2 ⟨rfl,κ2,m2,he2,hc2,hr2⟩
 obtain ⟨e2,s2⟩:=HS1.out.cored he2 hc2
 have HS2:=hid s2
 have HE2:=hid (HE1.out.trans e2)
 have HR2:=hid hr2
 clear he2 hc2 e2 s2 hr2
 obtain ⟨n10,p10⟩:=HS2.out.cyc.p10
 have ff:=HS2.out.cyc.fz
 go_upto_region 2 with fail
 obtain ⟨e3,s3⟩:=HS2.out.mine (Cyc.only_y (Only.refl _ w2) 10 (.int .i64 (wrap64 (n10+1)))) (HS2.out.cyc.put 10 (.int .i64 (wrap64 (n10+1))) y (fun _ _ _=>⟨_,_,_,rfl⟩))
 have HS3:=hid s3
 have HE3:=hid (HE2.out.trans e3)
 clear e3 s3
 clear p10 ff
 generalize (w2.setCell ⟨yb,10,none⟩ (.int .i64 (wrap64 (n10+1))))=w3 at *
 have p2:=HS3.out.cyc.p2
 have ff:=HS3.out.cyc.fz
 go_upto_region 3 with fail
 obtain ⟨e4,s4⟩:=HS3.out.mine (Cyc.only_y (Only.refl _ w3) 2 (.int .i64 ((y.i:Int)+1))) (HS3.out.cyc.put 2 (.int .i64 ((y.i:Int)+1)) { y with i:=y.i+1 } (fun _ _ _=>⟨_,_,_,rfl⟩))
 have HS4:=hid s4
 have HE4:=hid (HE3.out.trans e4)
 clear e4 s4
 clear p2 ff
 generalize (w3.setCell ⟨yb,2,none⟩ (.int .i64 ((y.i:Int)+1)))=w4 at *
 have p2:w4.cell? ⟨yb,2,none⟩=some (.int .i64 ((y.i+1:Nat):Int)):=HS4.out.cyc.p2
 obtain ⟨i1,hi1⟩:∃ i1:Int,((y.i+1:Nat):Int)=i1:=⟨_,rfl⟩
 rw [hi1] at p2
 have hfr:=HFR.out
 rw [hi1] at hfr
 have k0:=(HS4.out.sys.cor.qc).1
 have hcmp:(i1 == c.frags)=true:=by simp;omega
 clear hi1
 go_wp2_with fail
 go_quiet (fail)
 have HS9:=hid (HS4.out.pure ((Only.refl (fun _=>False) w4).drewN nq))
 have HE9:=hid (HE4.out.trans (Ext.pure ((Only.refl (fun _=>False) w4).drewN nq)))
 clear p2 k0
 generalize w4.drewN nq=w9 at *
 go_wp2_with fail
 refine (enters_ (10) w9 HS9.out).mono ?_
 rintro r w10 ⟨rfl,κ10,m10,y10,e10,s10,rfl,rfl,rfl⟩
 have HS10:=hid s10
 have HE10:=hid (HE9.out.trans e10)
 clear e10 s10
 go_wp2_with fail
 go_end0
 exact ⟨rfl,_,_,_,HE10.out,HS10.out,HR2.out,rfl⟩
theorem sweeps_no_last (R:Cor.St→Prop) (w:World) (h:Cys w c K κ m b s yb y) (hfr:((y.i+1:Nat):Int)=c.frags) (hf2:c.frags≤2000) (hs:∀ w1 κ1,Cor.At w1 c K κ1 m→Calls Tryz.prog 114 #[.pointer (some ⟨K.q.sp,0,none⟩),.int .i64 (y.i:Int),.bool y.sense] w1 fun e w'=>e=.returned (.bool false)∧∃ κ' m',Ext Cor.C5 w1 κ1 w' κ'∧Cor.At w' c K κ' m'∧R m') :
  Calls Tryz.prog 64 #[.pointer (some ⟨yb,0,none⟩),.pointer (some ⟨K.kb,0,none⟩)] w (CAns w c K κ b s yb (.tuple #[]) (fun _ _ m' y'=>R m'∧y'={ y with stage:=10,at_:=0,i:=0 })):=by
 have HS0:=hid h
 have HE0:Hid (Ext CY w κ w κ):=hid (Ext.refl _ _ _)
 have HSV:=hid hs
 have HFR:=hid hfr
 have p2:=h.cyc.p2
 have p7:=h.cyc.p7
 clear h hs
 go_enter Tryz.func64,Tryz.ntmps64
 have q11:=HS0.out.sys.cor.q11
 have hi2:(y.i:Int)≤2000:=by omega
 clear hfr
 go_wp2_with fail
 go_still_tail 12,(by kernel_rfl)
 change wpList _ _ _ _ _ w.drew
 have HS1:=hid HS0.out.drew
 have HE1:Hid (Ext CY w κ w.drew κ):=hid (Ext.pure ((Only.refl (fun _=>False) w).drewN 1))
 clear p2 p7 q11 HS0 HE0
 generalize w.drew=w1 at *
 go_wp2_with fail
 refine (HSV.out w1 κ HS1.out.sys.cor).mono ?_
 rintro r w2 ⟨rfl,κ2,m2,he2,hc2,hr2⟩
 obtain ⟨e2,s2⟩:=HS1.out.cored he2 hc2
 have HS2:=hid s2
 have HE2:=hid (HE1.out.trans e2)
 have HR2:=hid hr2
 clear he2 hc2 e2 s2 hr2
 have p2:=HS2.out.cyc.p2
 have ff:=HS2.out.cyc.fz
 go_upto_region 3 with fail
 obtain ⟨e3,s3⟩:=HS2.out.mine (Cyc.only_y (Only.refl _ w2) 2 (.int .i64 ((y.i:Int)+1))) (HS2.out.cyc.put 2 (.int .i64 ((y.i:Int)+1)) { y with i:=y.i+1 } (fun _ _ _=>⟨_,_,_,rfl⟩))
 have HS3:=hid s3
 have HE3:=hid (HE2.out.trans e3)
 clear e3 s3
 clear p2 ff
 generalize (w2.setCell ⟨yb,2,none⟩ (.int .i64 ((y.i:Int)+1)))=w3 at *
 have p2:w3.cell? ⟨yb,2,none⟩=some (.int .i64 ((y.i+1:Nat):Int)):=HS3.out.cyc.p2
 obtain ⟨i1,hi1⟩:∃ i1:Int,((y.i+1:Nat):Int)=i1:=⟨_,rfl⟩
 rw [hi1] at p2
 have hfr:=HFR.out
 rw [hi1] at hfr
 have k0:=(HS3.out.sys.cor.qc).1
 have hcmp:(i1 == c.frags)=true:=by simp;omega
 clear hi1
 go_wp2_with fail
 go_quiet (fail)
 have HS9:=hid (HS3.out.pure ((Only.refl (fun _=>False) w3).drewN nq))
 have HE9:=hid (HE3.out.trans (Ext.pure ((Only.refl (fun _=>False) w3).drewN nq)))
 clear p2 k0
 generalize w3.drewN nq=w9 at *
 go_wp2_with fail
 refine (enters_ (10) w9 HS9.out).mono ?_
 rintro r w10 ⟨rfl,κ10,m10,y10,e10,s10,rfl,rfl,rfl⟩
 have HS10:=hid s10
 have HE10:=hid (HE9.out.trans e10)
 clear e10 s10
 go_wp2_with fail
 go_end0
 exact ⟨rfl,_,_,_,HE10.out,HS10.out,HR2.out,rfl⟩
end
end Go.Proofs.YtpgdiceeimehiaaGreat
