/- Part 27 of the proof that spotop.TopOrder returns true for all arguments and leaves what was there as it was. -/
import Derived.Test.YtpgdiceeimehiaaGreatQ02
import Derived.Test.YtpgdiceeimehiaaGreatQ21
import Derived.Test.YtpgdiceeimehiaaGreatQ23
import Derived.Test.YtpgdiceeimehiaaGreatQ24
import Derived.Test.YtpgdiceeimehiaaGreatQ26
set_option maxRecDepth 100000
set_option maxHeartbeats 16000000
open Go.Lib (hid)
namespace Go.Proofs.YtpgdiceeimehiaaGreat.Opn
open Go.RowKit
open Ac (OpD opV opO op_cells)
open Go.ChangeMaps (setBlock)
def SgOk (c:Cn) (o:OpD) (x:UInt8):Prop:=(x=97→0≤o.a∧o.a<c.locals)∧(x=98→0≤o.b∧o.b<c.locals)∧(x=99→0≤o.c∧o.c<c.locals)∧(x=103→0≤o.n∧o.n<c.globals)
structure Made (c:Cn) (sh:List Sh) (o:OpD) (k:Nat) (s:Sh):Prop where
 b:o.b=(k:Int)
 at_:sh[k]?=some s
 arr:s.a=(o.kind == 2)
 few:s.bs.length≤1000000
 size0:0≤sizeI s.a s.bs.length (if o.kind=2 then o.n else 0)
 size1:sizeI s.a s.bs.length (if o.kind=2 then o.n else 0)≤c.frags
 spine:spineI s.a s.bs.length o.n≤c.spine
abbrev opO' (o:OpD):Obj:=.cells #[.int .i64 (o.kind:Int),.int .i64 o.a,.int .i64 o.b,.int .i64 o.c,.int .i64 o.n,.complex .f64 o.x o.y] 32 (0,0)
structure CkR (w:World) (c:Cn) (A:Option Addr) (n cc:Nat) (o:OpD) (r j:Nat) (nm:List UInt8) (wr:World):Prop where
 pu:Pure w wr
 cf:Row w w.heap.size c (.slice A n cc) wr
 op:wr.heap[w.heap.size+1]?=some (opO' o)
 it:wr.heap[r]?=some (.stringIter (str nm) j)
 rlo:w.heap.size+1<r
section
variable {w wr w':World} {c:Cn} {A:Option Addr} {n cc r j:Nat} {o:OpD} {nm:List UInt8}
theorem CkR.keep (h:CkR w c A n cc o r j nm wr) (k:Pure wr w'):CkR w c A n cc o r j nm w':=⟨h.pu.then k,h.cf.keep k,k.blk h.op,k.blk h.it,h.rlo⟩
theorem CkR.next (h:CkR w c A n cc o r j nm wr):CkR w c A n cc o r (j+1) nm (setBlock wr r (.stringIter (str nm) (j+1))):=by
 have hs:=setBlock_only wr r (.stringIter (str nm) (j+1))
 have hlt:=(Array.getElem?_eq_some_iff.1 h.it).1
 have hr:=h.rlo
 have hp:Pure w (setBlock wr r (.stringIter (str nm) (j+1))):=h.pu.trans hs (fun k hk e=>by omega)
 exact ⟨hp,⟨h.cf.1,hs.blk h.cf.2.1 (by omega),hp⟩,hs.blk h.op (by omega),setBlock_get _ _ _ hlt,hr⟩
end
theorem size_op (o:OpD) (s:Sh) (A:Option Addr) (cc:Nat) (w:World) (hb:s.bs.length≤1000000) (k:Int) (hk:k=if o.kind=2 then o.n else 0):Calls Tryz.prog 239 #[shV s.a A s.bs.length cc,opV o] w fun e w'=>e=.returned (.int .i64 (sizeI s.a s.bs.length k))∧Pure w w':=by
 obtain ⟨hp,-,h1,h2⟩:=Ac.two_new w #[.bool s.a,.slice A s.bs.length cc] #[.int .i64 (o.kind:Int),.int .i64 o.a,.int .i64 o.b,.int .i64 o.c,.int .i64 o.n,.complex .f64 o.x o.y] 35 32
 have HP:=hid hp
 have H1:=hid h1
 have H2:=hid h2
 have HK:=hid hk
 clear hp h1 h2 hk
 have hbl:s.bs.length≤9223372036854775807:=by omega
 by_cases h2:o.kind=2
 ·have H2K:=hid h2
  clear h2
  go_enter Tryz.func239,Tryz.ntmps239
  go_upto_region 1 with fail
  generalize (w.alloc (.cells #[.bool s.a,.slice A s.bs.length cc] 35)).alloc (opO o)=W at *
  obtain ⟨o0,-,-,-,o4,-⟩:=op_cells H2.out
  have y0:W.cell? ⟨w.heap.size,0,none⟩=some (.bool s.a):=by rw [cell_of_row W _ _ _ _ _ H1.out];rfl
  have y1:W.cell? ⟨w.heap.size,1,none⟩=some (.slice A s.bs.length cc):=by rw [cell_of_row W _ _ _ _ _ H1.out];rfl
  rw [H2K.out] at o0
  go_wp2_with fail
  refine (size_any s.a A s.bs.length cc o.n W hbl).mono ?_
  rintro e w2 ⟨rfl,hp2⟩
  have HP2:=hid (HP.out.then hp2)
  clear hp2
  go_wp2_with fail
  go_ret
  exact ⟨by rw [HK.out,if_pos H2K.out];rfl,HP2.out⟩
 ·have h2b:((o.kind:Int) == 2)=false:=by simp;omega
  go_enter Tryz.func239,Tryz.ntmps239
  go_upto_region 1 with fail
  generalize (w.alloc (.cells #[.bool s.a,.slice A s.bs.length cc] 35)).alloc (opO o)=W at *
  obtain ⟨o0,-,-,-,o4,-⟩:=op_cells H2.out
  have y0:W.cell? ⟨w.heap.size,0,none⟩=some (.bool s.a):=by rw [cell_of_row W _ _ _ _ _ H1.out];rfl
  have y1:W.cell? ⟨w.heap.size,1,none⟩=some (.slice A s.bs.length cc):=by rw [cell_of_row W _ _ _ _ _ H1.out];rfl
  go_wp2_with fail
  refine (size_any s.a A s.bs.length cc 0 W hbl).mono ?_
  rintro e w2 ⟨rfl,hp2⟩
  have HP2:=hid (HP.out.then hp2)
  clear hp2
  go_wp2_with fail
  go_ret
  exact ⟨by rw [HK.out,if_neg h2];rfl,HP2.out⟩
theorem check_ok (c:Cn) (v:Value) (sh:List Sh) (o:OpD) (w:World) (hl:ShsR w w.heap.size v sh) (hok:checkI c sh=0) (hk1:1≤o.kind) (hk2:o.kind<19) (hs:∀ x∈kn o.kind,SgOk c o x) (hm:(o.kind=1∨o.kind=2)→∃ k s,Made c sh o k s) :
  Calls Tryz.prog 177 #[cnV c v,opV o] w fun e w'=>e=.returned (.int .i64 0)∧Pure w w':=by
 obtain ⟨A,cc,rfl⟩:∃ A cc,v=.slice A sh.length cc:=by
  obtain ⟨⟨A,cc,rfl,_⟩,_⟩:=hl
  exact ⟨A,cc,rfl⟩
 obtain ⟨hp,hz,hcf,hop⟩:=Ac.two_new w #[.int .i64 c.frags,.int .i64 c.spine,.int .i64 c.globals,.int .i64 c.threads,.int .i64 c.locals,.int .i64 c.cache,.int .i64 c.stack,.int .i64 c.low,.slice A sh.length cc] #[.int .i64 (o.kind:Int),.int .i64 o.a,.int .i64 o.b,.int .i64 o.c,.int .i64 o.n,.complex .f64 o.x o.y] 24 32
 have HL:=hid (fun (w':World) (hp:Pure w w')=>hl.pure hp)
 have HR:Hid (Row w w.heap.size c (.slice A sh.length cc) _):=hid ⟨Nat.le_refl _,hcf,hp⟩
 have HO:=hid hop
 have HZ:=hid hz
 have HH:=hid (And.intro hok (And.intro hs hm))
 have HKW:Hid (kw o.kind≠[]):=hid (by
  rcases (by omega:o.kind=1∨o.kind=2∨o.kind=3∨o.kind=4∨o.kind=5∨o.kind=6∨o.kind=7∨o.kind=8∨o.kind=9∨o.kind=10∨o.kind=11∨o.kind=12∨o.kind=13∨o.kind=14∨o.kind=15∨o.kind=16∨o.kind=17∨o.kind=18) with h | h | h | h | h | h | h | h | h | h | h | h | h | h | h | h | h | h <;> (rw [h];decide))
 clear hl hok hs hm hp hz hcf hop
 go_enter Tryz.func177,Tryz.ntmps177
 go_upto_region 1 with fail
 generalize (w.alloc (.cells #[.int .i64 c.frags,.int .i64 c.spine,.int .i64 c.globals,.int .i64 c.threads,.int .i64 c.locals,.int .i64 c.cache,.int .i64 c.stack,.int .i64 c.low,.slice A sh.length cc] 24)).alloc (opO o)=W at *
 obtain ⟨o0,o1,o2,o3,o4,o5⟩:=op_cells HO.out
 go_wp2_with fail
 refine (words_l o.kind hk2 W).mono ?_
 rintro e w1 ⟨rfl,hp1⟩
 have HR1:=hid (HR.out.keep hp1)
 have HO1:=hid (hp1.blk HO.out)
 have HS1:Hid (w.heap.size+2≤w1.heap.size):=hid (by have:=hp1.size;have:=HZ.out;omega)
 have hne:(str (kw o.kind)).toList.isEmpty=false:=by
  have:=HKW.out
  rw [str_toList]
  cases hkw:kw o.kind with
  | nil=>exact absurd hkw this
  | cons a l=>rfl
 clear hp1 o0 o1 o2 o3 o4 o5 HR HO
 obtain ⟨k0,k1,k2,k3,k4,k5,k6,k7,k8,kf⟩:=HR1.out.cells
 go_wp2_with fail
 refine (check_any c _ sh w1 (HL.out w1 HR1.out.2.2)).mono ?_
 rw [HH.out.1]
 rintro e w2 ⟨rfl,hp2⟩
 have HR2:=hid (HR1.out.keep hp2)
 have HO2:=hid (hp2.blk HO1.out)
 have HS2:Hid (w.heap.size+2≤w2.heap.size):=hid (by have:=hp2.size;have:=HS1.out;omega)
 clear hp2 HR1 HO1 k0 k1 k2 k3 k4 k5 k6 k7 k8 kf
 have hst:CkR w c A sh.length cc o w2.heap.size 0 (kn o.kind) (w2.iter (str (kn o.kind)) 0):=by
  have q2:Pure w2 (w2.iter (str (kn o.kind)) 0):=(Only.refl _ w2).alloc _
  exact ⟨HR2.out.2.2.then q2,HR2.out.keep q2,q2.blk HO2.out,World.iter_heap _ _ _,by have:=HS2.out;omega⟩
 have HST:=hid hst
 clear hst
 go_wp2_with fail
 generalize w2.iter (str (kn o.kind)) 0=w3 at *
 generalize w2.heap.size=r at *
 go_loopg [] ((kn o.kind).length) (fun g wr=>∃ j:Nat,j≤(kn o.kind).length∧g=(kn o.kind).length-j∧CkR w c A sh.length cc o r j (kn o.kind) wr)
 case atStart=>exact ⟨0,Nat.zero_le _,rfl,HST.out⟩
 case round =>
  clear HST
  obtain ⟨j,hj,rfl,hpr⟩:=hrel
  have HPR:=hid hpr
  have HPN:=hid hpr.next
  obtain ⟨o0,o1,o2,o3,o4,o5⟩:=op_cells hpr.next.op
  obtain ⟨k0,k1,k2,k3,k4,k5,k6,k7,k8,kf⟩:=hpr.next.cf.cells
  by_cases hlt:j<(kn o.kind).length
  ·clear hpr
   obtain ⟨x,hb⟩:∃ x,(kn o.kind)[j]?=some x:=⟨_,List.getElem?_eq_getElem hlt⟩
   have hat:(str (kn o.kind))[j]'(by rw [str_size];exact hlt)=x:=str_at (kn o.kind) j x hb _
   have hsg:=HH.out.2.1 x (List.mem_of_getElem? hb)
   rcases kn_sig o.kind hk2 x (List.mem_of_getElem? hb) with rfl | rfl | rfl | rfl | rfl | rfl | rfl
   ·have hnx:=fun ty=>next_str (P:=Tryz.prog) ty HPR.out.it (by rw [str_size];exact hlt) (by rw [hat];decide)
    rw [hat] at hnx
    obtain ⟨b0,b1⟩:=hsg.1 rfl
    have d0:decide (o.a<0)=false:=by simp;omega
    have d1:decide (o.a ≥ c.locals)=false:=by simp;omega
    have d2:decide (c.locals≤o.a)=false:=by simp;omega
    clear hsg hb hat
    go_wp2_with fail
    refine (field_any (w.heap.size+1) 97 1 _ (by simp)).mono ?_
    rintro e w4 ⟨rfl,rfl⟩
    go_wp2_with fail
    go_roundg ((kn o.kind).length-(j+1))
    case measure=>omega
    case rel=>exact ⟨j+1,by omega,rfl,HPN.out⟩
   ·have hnx:=fun ty=>next_str (P:=Tryz.prog) ty HPR.out.it (by rw [str_size];exact hlt) (by rw [hat];decide)
    rw [hat] at hnx
    obtain ⟨b0,b1⟩:=hsg.2.1 rfl
    have d0:decide (o.b<0)=false:=by simp;omega
    have d1:decide (o.b ≥ c.locals)=false:=by simp;omega
    have d2:decide (c.locals≤o.b)=false:=by simp;omega
    clear hsg hb hat
    go_wp2_with fail
    refine (field_any (w.heap.size+1) 98 2 _ (by simp)).mono ?_
    rintro e w4 ⟨rfl,rfl⟩
    go_wp2_with fail
    go_roundg ((kn o.kind).length-(j+1))
    case measure=>omega
    case rel=>exact ⟨j+1,by omega,rfl,HPN.out⟩
   ·have hnx:=fun ty=>next_str (P:=Tryz.prog) ty HPR.out.it (by rw [str_size];exact hlt) (by rw [hat];decide)
    rw [hat] at hnx
    clear hsg hb hat
    go_wp2_with fail
    go_roundg ((kn o.kind).length-(j+1))
    case measure=>omega
    case rel=>exact ⟨j+1,by omega,rfl,HPN.out⟩
   ·have hnx:=fun ty=>next_str (P:=Tryz.prog) ty HPR.out.it (by rw [str_size];exact hlt) (by rw [hat];decide)
    rw [hat] at hnx
    obtain ⟨b0,b1⟩:=hsg.2.2.1 rfl
    have d0:decide (o.c<0)=false:=by simp;omega
    have d1:decide (o.c ≥ c.locals)=false:=by simp;omega
    have d2:decide (c.locals≤o.c)=false:=by simp;omega
    clear hsg hb hat
    go_wp2_with fail
    refine (field_any (w.heap.size+1) 99 3 _ (by simp)).mono ?_
    rintro e w4 ⟨rfl,rfl⟩
    go_wp2_with fail
    go_roundg ((kn o.kind).length-(j+1))
    case measure=>omega
    case rel=>exact ⟨j+1,by omega,rfl,HPN.out⟩
   ·have hnx:=fun ty=>next_str (P:=Tryz.prog) ty HPR.out.it (by rw [str_size];exact hlt) (by rw [hat];decide)
    rw [hat] at hnx
    clear hsg hb hat
    go_wp2_with fail
    go_roundg ((kn o.kind).length-(j+1))
    case measure=>omega
    case rel=>exact ⟨j+1,by omega,rfl,HPN.out⟩
   ·have hnx:=fun ty=>next_str (P:=Tryz.prog) ty HPR.out.it (by rw [str_size];exact hlt) (by rw [hat];decide)
    rw [hat] at hnx
    obtain ⟨b0,b1⟩:=hsg.2.2.2 rfl
    have d0:decide (o.n<0)=false:=by simp;omega
    have d1:decide (o.n ≥ c.globals)=false:=by simp;omega
    have d2:decide (c.globals≤o.n)=false:=by simp;omega
    clear hsg hb hat
    go_wp2_with fail
    refine (field_any (w.heap.size+1) 103 4 _ (by simp)).mono ?_
    rintro e w4 ⟨rfl,rfl⟩
    go_wp2_with fail
    go_roundg ((kn o.kind).length-(j+1))
    case measure=>omega
    case rel=>exact ⟨j+1,by omega,rfl,HPN.out⟩
   ·have hnx:=fun ty=>next_str (P:=Tryz.prog) ty HPR.out.it (by rw [str_size];exact hlt) (by rw [hat];decide)
    rw [hat] at hnx
    clear hsg hb hat
    go_wp2_with fail
    go_roundg ((kn o.kind).length-(j+1))
    case measure=>omega
    case rel=>exact ⟨j+1,by omega,rfl,HPN.out⟩
  ·have hnx:=fun ty=>next_str_end (P:=Tryz.prog) ty HPR.out.it (by rw [str_size];exact hlt)
   clear hlt HPN o0 o1 o2 o3 o4 o5 k0 k1 k2 k3 k4 k5 k6 k7 k8 kf
   obtain ⟨o0,o1,o2,o3,o4,o5⟩:=op_cells hpr.op
   obtain ⟨k0,k1,k2,k3,k4,k5,k6,k7,k8,kf⟩:=hpr.cf.cells
   clear hpr
   by_cases hmk:o.kind=1∨o.kind=2
   ·rcases hmk with hkd | hkd
    ·have HKD:=hid hkd
     obtain ⟨k,s,hm⟩:=HH.out.2.2 (.inl hkd)
     have harr:s.a=false:=by rw [hm.arr,hkd];rfl
     obtain ⟨z,hz⟩:∃ z,sizeI false s.bs.length 0=z:=⟨_,rfl⟩
     obtain ⟨y,hy⟩:∃ y,spineI false s.bs.length o.n=y:=⟨_,rfl⟩
     have hs0:0≤z:=by have:=hm.size0;rw [harr,hkd] at this;rw [← hz];exact this
     have hs1:z≤c.frags:=by have:=hm.size1;rw [harr,hkd] at this;rw [← hz];exact this
     have hsp:y≤c.spine:=by have:=hm.spine;rw [harr] at this;rw [← hy];exact this
     have hso:∀ (A:Option Addr) (cc:Nat) (w:World),Calls Tryz.prog 239 #[shV false A s.bs.length cc,opV o] w fun e w'=>e=.returned (.int .i64 z)∧Pure w w':=fun A cc w=>by
      have:=size_op o s A cc w hm.few 0 (by rw [hkd];rfl)
      rw [harr,hz] at this
      exact this
     have hspi:∀ (A:Option Addr) (cc:Nat) (w:World),Calls Tryz.prog 240 #[shV false A s.bs.length cc,.int .i64 o.n] w fun e w'=>e=.returned (.int .i64 y)∧Pure w w':=fun A cc w=>by
      have:=spine_any false A s.bs.length cc o.n w (by have:=hm.few;omega)
      rw [hy] at this
      exact this
     have HM:=hid (And.intro hm.at_ (And.intro hm.few (And.intro harr (And.intro hso hspi))))
     rw [hm.b] at o2
     have hb:=hid hm.b
     have e1:((o.kind:Int) != 1)=false:=by rw [hkd];rfl
     have e12:((o.kind:Int) == 2)=false:=by rw [hkd];rfl
     have d0:decide (z<0)=false:=by simpa using hs0
     have d1:decide (z > c.frags)=false:=by simpa using hs1
     have d2:decide (c.frags<z)=false:=by simpa using hs1
     have d3:decide (y > c.spine)=false:=by simpa using hsp
     have d4:decide (c.spine<y)=false:=by simpa using hsp
     clear hm harr hs0 hs1 hsp hkd hz hy hso hspi
     go_wp2_with fail
     refine (shape_in c _ sh k s wr (HL.out wr HPR.out.pu) HM.out.1 HM.out.2.1).mono ?_
     rw [HM.out.2.2.1]
     rintro e w4 ⟨A4,d4',rfl,hp4,hs4,-⟩
     have HP4:=hid (HPR.out.keep hp4)
     clear hp4 hs4 o0 o1 o2 o3 o4 o5 k0 k1 k2 k3 k4 k5 k6 k7 k8 kf
     go_upto_region 21 with fail
     obtain ⟨hp5,-,hx5⟩:=Ac.one_new w4 #[.bool false,.slice A4 s.bs.length d4'] 35
     have HP5:=hid (HP4.out.keep hp5)
     have HX5:=hid hx5
     clear hp5 hx5 HP4
     generalize w4.alloc (.cells #[.bool false,.slice A4 s.bs.length d4'] 35)=w5 at *
     generalize w4.heap.size=X5 at *
     obtain ⟨o0,o1,o2,o3,o4,o5⟩:=op_cells HP5.out.op
     obtain ⟨k0,k1,k2,k3,k4,k5,k6,k7,k8,kf⟩:=HP5.out.cf.cells
     have y0:w5.cell? ⟨X5,0,none⟩=some (.bool false):=by rw [cell_of_row w5 _ _ _ _ _ HX5.out];rfl
     have y1:w5.cell? ⟨X5,1,none⟩=some (.slice A4 s.bs.length d4'):=by rw [cell_of_row w5 _ _ _ _ _ HX5.out];rfl
     go_wp2_with fail
     refine (HM.out.2.2.2.1 A4 d4' w5).mono ?_
     rintro e w6 ⟨rfl,hp6⟩
     have HP6:=hid (HP5.out.keep hp6)
     have HX6:=hid (hp6.blk HX5.out)
     clear hp6 HP5 HX5 y0 y1 o0 o1 o2 o3 o4 o5 k0 k1 k2 k3 k4 k5 k6 k7 k8 kf
     go_wp2_with fail
     refine region_class (fun w'=>CkR w c A sh.length cc o r j (kn o.kind) w'∧w'.heap[X5]?=some (.cells #[.bool false,.slice A4 s.bs.length d4'] 35 (0,0))) ⟨HP6.out.keep ((Only.refl _ w6).drewN 1),HX6.out⟩ (by kernel_rfl) (by kernel_rfl) ?_
     intro S f _ hf hmk
     have o0:=fun s=>(op_cells (hf s).1.op).1
     have o1:=fun s=>(op_cells (hf s).1.op).2.1
     have o2:=fun s=>(op_cells (hf s).1.op).2.2.1
     have o3:=fun s=>(op_cells (hf s).1.op).2.2.2.1
     have o4:=fun s=>(op_cells (hf s).1.op).2.2.2.2.1
     have o5:=fun s=>(op_cells (hf s).1.op).2.2.2.2.2
     have k0:=fun s=>(hf s).1.cf.cells.1
     have k1:=fun s=>(hf s).1.cf.cells.2.1
     have y0:∀ q,(f q).cell? ⟨X5,0,none⟩=some (.bool false):=fun q=>by rw [cell_of_row _ _ _ _ _ _ (hf q).2];rfl
     have y1:∀ q,(f q).cell? ⟨X5,1,none⟩=some (.slice A4 s.bs.length d4'):=fun q=>by rw [cell_of_row _ _ _ _ _ _ (hf q).2];rfl
     have HF:=hid hf
     have HMK:=hid hmk
     clear hf hmk
     repeat (go_big_quiet_step ((first | (go_at_call 239;exact class_call HMK.out (HF.out _) (fun w' hD k=>⟨hD.1.keep k,k.blk hD.2⟩) (HM.out.2.2.2.1 A4 d4' _)) | (go_at_call 240;exact class_call HMK.out (HF.out _) (fun w' hD k=>⟨hD.1.keep k,k.blk hD.2⟩) (HM.out.2.2.2.2 A4 d4' _)))))
     refine wpQuiet_nil ?_
     rintro w7 ⟨q,rfl⟩
     have P7:=hid (HF.out q).1.pu
     clear o0 o1 o2 o3 o4 o5 k0 k1 y0 y1
     go_wp2_with fail
     go_ret
     exact ⟨rfl,P7.out⟩
    ·have HKD:=hid hkd
     obtain ⟨k,s,hm⟩:=HH.out.2.2 (.inr hkd)
     have harr:s.a=true:=by rw [hm.arr,hkd];rfl
     obtain ⟨z,hz⟩:∃ z,sizeI true s.bs.length o.n=z:=⟨_,rfl⟩
     obtain ⟨y,hy⟩:∃ y,spineI true s.bs.length o.n=y:=⟨_,rfl⟩
     have hs0:0≤z:=by have:=hm.size0;rw [harr,hkd] at this;rw [← hz];exact this
     have hs1:z≤c.frags:=by have:=hm.size1;rw [harr,hkd] at this;rw [← hz];exact this
     have hsp:y≤c.spine:=by have:=hm.spine;rw [harr] at this;rw [← hy];exact this
     have hso:∀ (A:Option Addr) (cc:Nat) (w:World),Calls Tryz.prog 239 #[shV true A s.bs.length cc,opV o] w fun e w'=>e=.returned (.int .i64 z)∧Pure w w':=fun A cc w=>by
      have:=size_op o s A cc w hm.few o.n (by rw [hkd];rfl)
      rw [harr,hz] at this
      exact this
     have hspi:∀ (A:Option Addr) (cc:Nat) (w:World),Calls Tryz.prog 240 #[shV true A s.bs.length cc,.int .i64 o.n] w fun e w'=>e=.returned (.int .i64 y)∧Pure w w':=fun A cc w=>by
      have:=spine_any true A s.bs.length cc o.n w (by have:=hm.few;omega)
      rw [hy] at this
      exact this
     have HM:=hid (And.intro hm.at_ (And.intro hm.few (And.intro harr (And.intro hso hspi))))
     rw [hm.b] at o2
     have hb:=hid hm.b
     have e1:((o.kind:Int) != 1)=true:=by rw [hkd];rfl
     have e2:((o.kind:Int) != 2)=false:=by rw [hkd];rfl
     have e12:((o.kind:Int) == 2)=true:=by rw [hkd];rfl
     have d0:decide (z<0)=false:=by simpa using hs0
     have d1:decide (z > c.frags)=false:=by simpa using hs1
     have d2:decide (c.frags<z)=false:=by simpa using hs1
     have d3:decide (y > c.spine)=false:=by simpa using hsp
     have d4:decide (c.spine<y)=false:=by simpa using hsp
     clear hm harr hs0 hs1 hsp hkd hz hy hso hspi
     go_wp2_with fail
     refine (shape_in c _ sh k s wr (HL.out wr HPR.out.pu) HM.out.1 HM.out.2.1).mono ?_
     rw [HM.out.2.2.1]
     rintro e w4 ⟨A4,d4',rfl,hp4,hs4,-⟩
     have HP4:=hid (HPR.out.keep hp4)
     clear hp4 hs4 o0 o1 o2 o3 o4 o5 k0 k1 k2 k3 k4 k5 k6 k7 k8 kf
     go_upto_region 21 with fail
     obtain ⟨hp5,-,hx5⟩:=Ac.one_new w4 #[.bool true,.slice A4 s.bs.length d4'] 35
     have HP5:=hid (HP4.out.keep hp5)
     have HX5:=hid hx5
     clear hp5 hx5 HP4
     generalize w4.alloc (.cells #[.bool true,.slice A4 s.bs.length d4'] 35)=w5 at *
     generalize w4.heap.size=X5 at *
     obtain ⟨o0,o1,o2,o3,o4,o5⟩:=op_cells HP5.out.op
     obtain ⟨k0,k1,k2,k3,k4,k5,k6,k7,k8,kf⟩:=HP5.out.cf.cells
     have y0:w5.cell? ⟨X5,0,none⟩=some (.bool true):=by rw [cell_of_row w5 _ _ _ _ _ HX5.out];rfl
     have y1:w5.cell? ⟨X5,1,none⟩=some (.slice A4 s.bs.length d4'):=by rw [cell_of_row w5 _ _ _ _ _ HX5.out];rfl
     go_wp2_with fail
     refine (HM.out.2.2.2.1 A4 d4' w5).mono ?_
     rintro e w6 ⟨rfl,hp6⟩
     have HP6:=hid (HP5.out.keep hp6)
     have HX6:=hid (hp6.blk HX5.out)
     clear hp6 HP5 HX5 y0 y1 o0 o1 o2 o3 o4 o5 k0 k1 k2 k3 k4 k5 k6 k7 k8 kf
     go_wp2_with fail
     refine region_class (fun w'=>CkR w c A sh.length cc o r j (kn o.kind) w'∧w'.heap[X5]?=some (.cells #[.bool true,.slice A4 s.bs.length d4'] 35 (0,0))) ⟨HP6.out.keep ((Only.refl _ w6).drewN 1),HX6.out⟩ (by kernel_rfl) (by kernel_rfl) ?_
     intro S f _ hf hmk
     have o0:=fun s=>(op_cells (hf s).1.op).1
     have o1:=fun s=>(op_cells (hf s).1.op).2.1
     have o2:=fun s=>(op_cells (hf s).1.op).2.2.1
     have o3:=fun s=>(op_cells (hf s).1.op).2.2.2.1
     have o4:=fun s=>(op_cells (hf s).1.op).2.2.2.2.1
     have o5:=fun s=>(op_cells (hf s).1.op).2.2.2.2.2
     have k0:=fun s=>(hf s).1.cf.cells.1
     have k1:=fun s=>(hf s).1.cf.cells.2.1
     have y0:∀ q,(f q).cell? ⟨X5,0,none⟩=some (.bool true):=fun q=>by rw [cell_of_row _ _ _ _ _ _ (hf q).2];rfl
     have y1:∀ q,(f q).cell? ⟨X5,1,none⟩=some (.slice A4 s.bs.length d4'):=fun q=>by rw [cell_of_row _ _ _ _ _ _ (hf q).2];rfl
     have HF:=hid hf
     have HMK:=hid hmk
     clear hf hmk
     repeat (go_big_quiet_step ((first | (go_at_call 239;exact class_call HMK.out (HF.out _) (fun w' hD k=>⟨hD.1.keep k,k.blk hD.2⟩) (HM.out.2.2.2.1 A4 d4' _)) | (go_at_call 240;exact class_call HMK.out (HF.out _) (fun w' hD k=>⟨hD.1.keep k,k.blk hD.2⟩) (HM.out.2.2.2.2 A4 d4' _)))))
     refine wpQuiet_nil ?_
     rintro w7 ⟨q,rfl⟩
     have P7:=hid (HF.out q).1.pu
     clear o0 o1 o2 o3 o4 o5 k0 k1 y0 y1
     go_wp2_with fail
     go_ret
     exact ⟨rfl,P7.out⟩
   ·have e1:((o.kind:Int) != 1)=true:=by simp;omega
    have e2:((o.kind:Int) != 2)=true:=by simp;omega
    clear hmk
    go_wp2_with fail
    go_ret
    exact ⟨rfl,HPR.out.pu⟩
end Go.Proofs.YtpgdiceeimehiaaGreat.Opn
namespace Go.Proofs.YtpgdiceeimehiaaGreat.Opn
open Go.RowKit
open Ac (OpD opV opO op_cells)
theorem need_new (c:Cn) (v:Value) (sh:List Sh) (o:OpD) (k:Nat) (s:Sh) (z y:Int) (w:World) (hl:ShsR w w.heap.size v sh) (hok:checkI c sh=0) (hkd:o.kind=1) (hs:∀ x∈kn o.kind,SgOk c o x) (hm:Made c sh o k s) (hz:sizeI false s.bs.length 0=z) (hy:spineI false s.bs.length o.n=y) :
  Calls Tryz.prog 247 #[cnV c v,opV o] w fun e w'=>e=.returned (.tuple #[.int .i64 z,.int .i64 y])∧Pure w w':=by
 obtain ⟨A,cc,rfl⟩:∃ A cc,v=.slice A sh.length cc:=by
  obtain ⟨⟨A,cc,rfl,_⟩,_⟩:=hl
  exact ⟨A,cc,rfl⟩
 obtain ⟨hp,hz0,hcf,hop⟩:=Ac.two_new w #[.int .i64 c.frags,.int .i64 c.spine,.int .i64 c.globals,.int .i64 c.threads,.int .i64 c.locals,.int .i64 c.cache,.int .i64 c.stack,.int .i64 c.low,.slice A sh.length cc] #[.int .i64 (o.kind:Int),.int .i64 o.a,.int .i64 o.b,.int .i64 o.c,.int .i64 o.n,.complex .f64 o.x o.y] 24 32
 have HL:=hid (fun (w':World) (hp:Pure w w')=>hl.pure hp)
 have HR:Hid (Row w w.heap.size c (.slice A sh.length cc) _):=hid ⟨Nat.le_refl _,hcf,hp⟩
 have HO:=hid hop
 have harr:s.a=false:=by rw [hm.arr,hkd];rfl
 have hso:∀ (A:Option Addr) (cc:Nat) (w:World),Calls Tryz.prog 239 #[shV false A s.bs.length cc,opV o] w fun e w'=>e=.returned (.int .i64 z)∧Pure w w':=fun A cc w=>by
  have:=size_op o s A cc w hm.few 0 (by rw [hkd];rfl)
  rw [harr,hz] at this
  exact this
 have hspi:∀ (A:Option Addr) (cc:Nat) (w:World),Calls Tryz.prog 240 #[shV false A s.bs.length cc,.int .i64 o.n] w fun e w'=>e=.returned (.int .i64 y)∧Pure w w':=fun A cc w=>by
  have:=spine_any false A s.bs.length cc o.n w (by have:=hm.few;omega)
  rw [hy] at this
  exact this
 have HCK:Hid (∀ w':World,Pure w w'→Calls Tryz.prog 177 #[cnV c (.slice A sh.length cc),opV o] w' fun e w''=>e=.returned (.int .i64 0)∧Pure w' w''):=hid (fun w' hp'=>check_ok c _ sh o w' (hl.pure hp') hok (by omega) (by omega) hs (fun _=>⟨k,s,hm⟩))
 have HM:=hid (And.intro hm.at_ (And.intro hm.few (And.intro harr (And.intro hso hspi))))
 have hb:=hid hm.b
 have e1:((o.kind:Int) != 1)=false:=by rw [hkd];rfl
 clear hl hok hs hm hp hz0 hcf hop harr hkd hz hy hso hspi
 go_enter Tryz.func247,Tryz.ntmps247
 go_upto_region 1 with fail
 generalize (w.alloc (.cells #[.int .i64 c.frags,.int .i64 c.spine,.int .i64 c.globals,.int .i64 c.threads,.int .i64 c.locals,.int .i64 c.cache,.int .i64 c.stack,.int .i64 c.low,.slice A sh.length cc] 24)).alloc (opO o)=W at *
 obtain ⟨o0,o1,o2,o3,o4,o5⟩:=op_cells HO.out
 obtain ⟨k0,k1,k2,k3,k4,k5,k6,k7,k8,kf⟩:=HR.out.cells
 go_wp2_with fail
 refine (HCK.out W HR.out.2.2).mono ?_
 rintro e w2 ⟨rfl,hp2⟩
 have HR2:=hid (HR.out.keep hp2)
 have HO2:=hid (hp2.blk HO.out)
 clear hp2 HR HO o0 o1 o2 o3 o4 o5 k0 k1 k2 k3 k4 k5 k6 k7 k8 kf
 obtain ⟨o0,o1,o2,o3,o4,o5⟩:=op_cells HO2.out
 rw [hb.out] at o2
 obtain ⟨k0,k1,k2,k3,k4,k5,k6,k7,k8,kf⟩:=HR2.out.cells
 go_wp2_with fail
 refine (shape_in c _ sh k s w2 (HL.out w2 HR2.out.2.2) HM.out.1 HM.out.2.1).mono ?_
 rw [HM.out.2.2.1]
 rintro e w4 ⟨A4,d4',rfl,hp4,hs4,-⟩
 have HR4:=hid (HR2.out.keep hp4)
 have HO4:=hid (hp4.blk HO2.out)
 clear hp4 hs4 HR2 HO2 o0 o1 o2 o3 o4 o5 k0 k1 k2 k3 k4 k5 k6 k7 k8 kf
 go_upto_region 4 with fail
 obtain ⟨hp5,-,hx5⟩:=Ac.one_new w4 #[.bool false,.slice A4 s.bs.length d4'] 35
 have HP5:=hid (HR4.out.2.2.then hp5)
 have HO5:=hid (hp5.blk HO4.out)
 have HX5:=hid hx5
 clear hp5 hx5 HR4 HO4
 generalize w4.alloc (.cells #[.bool false,.slice A4 s.bs.length d4'] 35)=w5 at *
 generalize w4.heap.size=X5 at *
 refine region_class (fun w'=>Pure w w'∧w'.heap[w.heap.size+1]?=some (opO' o)∧w'.heap[X5]?=some (.cells #[.bool false,.slice A4 s.bs.length d4'] 35 (0,0))) ⟨HP5.out.drewN 1,HO5.out,HX5.out⟩ (by kernel_rfl) (by kernel_rfl) ?_
 intro S f _ hf hmk
 have o0:=fun s=>(op_cells (hf s).2.1).1
 have o1:=fun s=>(op_cells (hf s).2.1).2.1
 have o2:=fun s=>(op_cells (hf s).2.1).2.2.1
 have o3:=fun s=>(op_cells (hf s).2.1).2.2.2.1
 have o4:=fun s=>(op_cells (hf s).2.1).2.2.2.2.1
 have o5:=fun s=>(op_cells (hf s).2.1).2.2.2.2.2
 have y0:∀ q,(f q).cell? ⟨X5,0,none⟩=some (.bool false):=fun q=>by rw [cell_of_row _ _ _ _ _ _ (hf q).2.2];rfl
 have y1:∀ q,(f q).cell? ⟨X5,1,none⟩=some (.slice A4 s.bs.length d4'):=fun q=>by rw [cell_of_row _ _ _ _ _ _ (hf q).2.2];rfl
 have HF:=hid hf
 have HMK:=hid hmk
 clear hf hmk
 repeat (go_big_quiet_step ((first | (go_at_call 239;exact class_call HMK.out (HF.out _) (fun w' hD k=>⟨hD.1.then k,k.blk hD.2.1,k.blk hD.2.2⟩) (HM.out.2.2.2.1 A4 d4' _)) | (go_at_call 240;exact class_call HMK.out (HF.out _) (fun w' hD k=>⟨hD.1.then k,k.blk hD.2.1,k.blk hD.2.2⟩) (HM.out.2.2.2.2 A4 d4' _)))))
 refine wpQuiet_nil ?_
 rintro w7 ⟨q,rfl⟩
 have P7:=hid (HF.out q).1
 clear o0 o1 o2 o3 o4 o5 y0 y1
 go_wp2_with fail
 go_ret2
 exact ⟨rfl,P7.out⟩
end Go.Proofs.YtpgdiceeimehiaaGreat.Opn
namespace Go.Proofs.YtpgdiceeimehiaaGreat
open Go.RowKit
open Ac (wrs OpD opV opO op_cells Vl Wr resV resZ zeroVl res_cells res_kept nT one_new two_new lays_any done_any fails_any CT)
section
variable {w w':World} {c:Cn} {K:Cor.Q} {κ:Nat→Nat} {m:Cor.St} {b:Ac.B} {s:Ac.St}
open Pl (natI objJ object_ok)
theorem Sys.paintc (n:Nat) (h:Sys w c K κ m b s) (hp:Pure w w'):Ext CT w κ w' (paint w.heap.size κ n)∧Sys w' c K (paint w.heap.size κ n) m b s :=
 ⟨Ext.paint n (hp.mono (fun _ _ f=>f.elim)),h.cor.ext (C:=fun _=>False) (Ext.paint n (hp.mono (fun _ _ f=>f.elim))) (fun _ f=>f.elim),h.act.keep hp (fun _ _ f=>f) (fun _ hk=>paint_old hk)⟩
theorem Cor.At.cfs (h:Cor.At w c K κ m):∀ k,CfS K.cv K.csh k→k<w.heap.size:=fun k hk=>(h.k0 k (.inr (.inl hk))).2
theorem Ac.At.putt (h:Ac.At w κ b s) (v':Value) (l':List Int) (hT:Ac.GotR w v' l') (hk:∀ k,v'.ownBlock=some k→κ k=8):Ac.At (w.setCell ⟨b.ab,17,none⟩ v') κ b { s with tv:=v',got:=l' }:=by
 have hm:=set_me (i:=17) (u:=v') h.me
 refine h.mine _ ((Only.refl (fun k=>k=b.ab) w).setCell (p:=⟨b.ab,17,none⟩) (fun _=>rfl) _) hm rfl ⟨h.rd.ops,h.rd.grey,hT,h.rd.wr,fun k hk'=>?_⟩
 rcases hk' with hk' | hk' | hk' | hk'
 ·exact h.rd.k8 k (.inl hk')
 ·exact h.rd.k8 k (.inr (.inl hk'))
 ·exact hk k hk'
 ·exact h.rd.k8 k (.inr (.inr (.inr hk')))
abbrev grO (Ag:Option Addr) (n cg:Nat) (st at_:Int):Obj:=.cells #[.int .i64 st,.slice Ag n cg,.int .i64 at_] 191
structure ObjOk (c:Cn) (sh:List Sh) (kd:Nat) (bs:List Bool) (xs:List Nat) (sd:Bool):Prop where
 at_:∃ s,sh[kd]?=some s∧s.a=false∧s.bs=bs
 size:sizeI false bs.length 0=xs.length
 lt:∀ x∈xs,(x:Int)<c.frags
 nd:xs.Nodup
 side:Sk.sideB (natI xs)=sd
 few:bs.length≤40
 kd:kd≤1000
 pos:1≤xs.length
theorem ObjOk.len {c:Cn} {sh:List Sh} {kd:Nat} {bs:List Bool} {xs:List Nat} {sd:Bool} (h:ObjOk c sh kd bs xs sd):xs.length≤2000:=by
 have h1:=h.size
 have h2:=h.few
 unfold sizeI at h1
 split at h1
 ·omega
 ·rw [if_neg (by decide)] at h1
  split at h1 <;> omega
theorem takes_new (o:OpD) (kd:Nat) (bs:List Bool) (xs:List Nat) (sd:Bool) (Ag:Option Addr) (cg:Nat) (gat:Int) (w:World) (h:Sys w c K κ m b s) (hk:o.kind=1) (hb:o.b=(kd:Int)) (ho:ObjOk c K.csh kd bs xs sd)
  (hg:SlI w w.heap.size (.slice Ag xs.length cg) (natI xs)) (hg8:∀ k,(Value.slice Ag xs.length cg).ownBlock=some k→κ k=8∧k<w.heap.size) :
  Calls Tryz.prog 130 #[.pointer (some ⟨b.ab,0,none⟩),.pointer (some ⟨K.kb,0,none⟩),opV o,.agg #[.int .i64 1,.slice Ag xs.length cg,.int .i64 gat]] w fun r w' =>
  r=.returned (.bool true)∧∃ κ',Ext CT w κ w' κ'∧∃ wv',Sys w' c K κ' m b { s with phase:=2,at_:=7,wv:=wv',writes:=objJ kd sd xs bs xs.length,tv:=.slice Ag xs.length cg,got:=natI xs }:=by
 obtain ⟨hp,hz,hv,hgr⟩:=two_new w #[.int .i64 (o.kind:Int),.int .i64 o.a,.int .i64 o.b,.int .i64 o.c,.int .i64 o.n,.complex .f64 o.x o.y] #[.int .i64 1,.slice Ag xs.length cg,.int .i64 gat] 32 191
 have H1:=hid (h.pure9 hp)
 have HV:=hid hv
 have HGR:=hid hgr
 have HG:=hid (hg.only hp (fun _ _ f=>f):SlI _ _ (.slice Ag xs.length cg) (natI xs))
 have HG8:Hid (∀ k,(Value.slice Ag xs.length cg).ownBlock=some k→paint w.heap.size κ 9 k=8∧k<w.heap.size):=hid (fun k hk=>⟨(paint_old (hg8 k hk).2).trans (hg8 k hk).1,(hg8 k hk).2⟩)
 have HY1:Hid (paint w.heap.size κ 9 w.heap.size=9):=hid (paint_new (by omega))
 have HX1:Hid (paint w.heap.size κ 9 (w.heap.size+1)=9):=hid (paint_new (by omega))
 have HZ:=hid hz
 have HK:=hid hk
 have HB:=hid hb
 have HO:=hid ho
 have e1:((o.kind:Int) == 1)=true:=by rw [hk];rfl
 clear h hp hz hv hgr hg hg8 hk hb ho
 go_enter Tryz.func130,Tryz.ntmps130
 go_upto_region 1 with fail
 generalize (w.alloc (opO o)).alloc (grO Ag xs.length cg 1 gat)=W at *
 generalize paint w.heap.size κ 9=κ1 at *
 obtain ⟨E1,S1⟩:=H1.out
 have HE1:=hid E1
 have HS1:=hid S1
 clear E1 S1 H1
 obtain ⟨o0,-,o2,-,-,-⟩:=op_cells HV.out
 rw [HB.out] at o2
 have g1:W.cell? ⟨w.heap.size+1,1,none⟩=some (.slice Ag xs.length cg):=by rw [cell_of_row W _ _ _ _ _ HGR.out];rfl
 obtain ⟨k0,k1,k2,k3,k4,k5,k6,k7,k8⟩:=HS1.out.cor.qc
 obtain ⟨Ac8,cc8,hcv⟩:∃ A cc,K.cv=.slice A K.csh.length cc:=by
  obtain ⟨⟨A,cc,h,_⟩,_⟩:=HS1.out.cor.conf
  exact ⟨A,cc,h⟩
 rw [hcv] at k8
 have HCV:=hid hcv
 have c18:=HS1.out.act.p18
 obtain ⟨Aw,cw,hwv,-⟩:=HS1.out.act.rd.wr
 rw [hwv] at c18
 have fb:=HS1.out.act.fb
 clear hcv hwv
 go_wp2_with fail
 go_region_with (go_at_call 200;have hob:=object_ok c _ K.csh kd _ _ xs sd W.drew HS1.out.drew.cor.conf HS1.out.drew.cor.cfs HS1.out.cor.ok HO.out.at_.choose_spec.1 HO.out.at_.choose_spec.2.1 (by rw [HO.out.at_.choose_spec.2.2];exact HO.out.size) (HG.out.only ((Only.refl (fun _=>False) W).drewN 1) (fun _ _ f=>f)) HO.out.lt HO.out.nd HO.out.len HO.out.side (by rw [HO.out.at_.choose_spec.2.2];exact HO.out.few) HO.out.kd HO.out.pos;rw [HCV.out,HO.out.at_.choose_spec.2.2] at hob;refine hob.mono ?_;clear hob;rintro r w2 ⟨v2,rfl,hp2,hown2⟩;obtain ⟨A2,c2,rfl⟩:=own_form hown2;have HP2:=hid hp2;have HOW:=hid hown2;have hS2:=(HS1.out.drew.paintc 8 hp2);have HS2:=hid hS2.2;have HE2:=hid (HE1.out.trans hS2.1.drewl);have fb2:=hS2.2.act.fb;have c18b:=hS2.2.act.p18;clear hp2 hown2 hS2)
 all_goals
  have HT:Hid (Ac.TailW w2 (.slice A2 (8 * xs.length) c2) (objJ kd sd xs bs xs.length)):=hid (Ac.TailW.of_own (by rw [Pl.objJ_len];exact HOW.out))
  have h8w:∀ k,(Value.slice A2 (8 * xs.length) c2).ownBlock=some k→paint W.drew.heap.size κ1 8 k=8:=fun k hk=>paint_new (HOW.out.lt k hk).1
  have h3:=HS2.out.act.putw _ _ HT.out h8w
  obtain ⟨e3,S3⟩:=HS2.out.acted (Ac.ext_me HS2.out.act.k6 (Ac.Only.me (Only.refl _ w2) _ _)) h3
  have HS3:=hid S3
  have HE3:=hid (HE2.out.trans e3)
  have g3:(w2.setCell ⟨b.ab,18,none⟩ (.slice A2 (8 * xs.length) c2)).heap[w.heap.size+1]?=some (.cells #[.int .i64 1,.slice Ag xs.length cg,.int .i64 gat] 191 (0,0)):=set_other (Pure.blk (Pure.then ((Only.refl (fun _=>False) W).drewN 1) HP2.out) HGR.out) (fun e=>by have h9:=HX1.out;rw [e,HS1.out.act.k6] at h9;omega)
  have hg3:SlI (w2.setCell ⟨b.ab,18,none⟩ (.slice A2 (8 * xs.length) c2)) (w2.setCell ⟨b.ab,18,none⟩ (.slice A2 (8 * xs.length) c2)).heap.size (.slice Ag xs.length cg) (natI xs):=(HG.out.only (Pure.then ((Only.refl (fun _=>False) W).drewN 1) HP2.out) (fun _ _ f=>f)).only (Ac.Only.me (Only.refl _ w2) _ _) (fun k hk e=>by have h9:=(HG8.out k hk).1;rw [e,HS1.out.act.k6] at h9;omega)
  have hgl3:∀ k,(Value.slice Ag xs.length cg).ownBlock=some k→k<(w2.setCell ⟨b.ab,18,none⟩ (.slice A2 (8 * xs.length) c2)).heap.size∧paint W.drew.heap.size κ1 8 k=8:=fun k hk=>by
   have h1:=HG8.out k hk
   have h2:=HS2.out.cor.lkb
   have hz:W.heap.size≤w2.heap.size:=by have:=HP2.out.size;simpa using this
   have hz2:=HZ.out
   refine ⟨by simp [World.setCell];omega,?_⟩
   rw [paint_old (by simp;omega)]
   exact h1.1
  have HG3:=hid (And.intro hg3 hgl3)
  have HGR3:=hid g3
  clear HT h8w h3 e3 S3 g3 hg3 hgl3 fb2 c18b fb c18 k0 k1 k2 k3 k4 k5 k6 k7 k8 g1 o0 o2
  generalize w2.setCell ⟨b.ab,18,none⟩ (.slice A2 (8 * xs.length) c2)=w3 at *
  have g1:w3.cell? ⟨w.heap.size+1,1,none⟩=some (.slice Ag xs.length cg):=by rw [cell_of_row w3 _ _ _ _ _ HGR3.out];rfl
  have c17:=HS3.out.act.p17
  have fb:=HS3.out.act.fb
  have c3:=HS3.out.act.p3
  have c11:=HS3.out.act.p11
  obtain ⟨At,ct,htv,-⟩:=HS3.out.act.rd.got.1
  rw [htv] at c17
  clear htv
  have h4:=((HS3.out.act.putt (.slice Ag xs.length cg) (natI xs) ⟨HG3.out.1,fun k hk=>(HG3.out.2 k hk).1⟩ (fun k hk=>(HG3.out.2 k hk).2)).put 3 (.int .i64 2) { s with wv:=.slice A2 (8 * xs.length) c2,writes:=objJ kd sd xs bs xs.length,tv:=.slice Ag xs.length cg,got:=natI xs,phase:=2 } rfl rfl ⟨rfl,rfl,rfl,rfl,rfl,rfl⟩).put 11 (.int .i64 7) { s with wv:=.slice A2 (8 * xs.length) c2,writes:=objJ kd sd xs bs xs.length,tv:=.slice Ag xs.length cg,got:=natI xs,phase:=2,at_:=7 } rfl rfl ⟨rfl,rfl,rfl,rfl,rfl,rfl⟩
  obtain ⟨e4,S4⟩:=HS3.out.acted (Ac.ext_me HS3.out.act.k6 (Ac.Only.me (Ac.Only.me (Ac.Only.me (Only.refl _ w3) _ _) _ _) _ _)) h4
  have HS4:=hid S4
  have HE4:=hid (HE3.out.trans e4)
  clear h4 e4 S4
  go_wp2_with fail
  go_ret
  exact ⟨rfl,_,HE4.out,_,HS4.out⟩
end
end Go.Proofs.YtpgdiceeimehiaaGreat
