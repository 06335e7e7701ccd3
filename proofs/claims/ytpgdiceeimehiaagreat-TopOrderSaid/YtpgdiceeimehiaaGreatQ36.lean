/- Part 36 of the proof that spotop.TopOrder returns true for all arguments and leaves what was there as it was. -/
import Derived.Deep.QuietTactic
import Derived.BigQuiet
import Derived.Test.YtpgdiceeimehiaaGreatQ21
import Derived.Test.YtpgdiceeimehiaaGreatQ23
set_option maxRecDepth 100000
set_option maxHeartbeats 16000000
open Go.Lib (hid)
namespace Go.Proofs.YtpgdiceeimehiaaGreat
open Go.RowKit
open Ac (wrs OpD opV opO op_cells Vl Wr resV resZ zeroVl res_cells res_kept nT one_new two_new lays_any done_any fails_any CT)
section
variable {w w':World} {c:Cn} {K:Cor.Q} {κ:Nat→Nat} {m:Cor.St} {b:Ac.B} {s:Ac.St}
open Ac (vals vlV vlL vl_get vl_len op_cells)
def VlsR (w:World) (v:Value) (l:List Vl):Prop:=∃ (A:Option Addr) (c:Nat),v=.slice A l.length c∧l.length≤8∧(0<l.length→∃ g,A=some ⟨g,0,none⟩∧g<w.heap.size∧∀ j u,(vals l)[j]?=some u→w.cell? ⟨g,j,none⟩=some u)
theorem VlsR.pure {l:List Vl} {v:Value} (h:VlsR w v l) (hp:Pure w w'):VlsR w' v l:=by
 obtain ⟨A,c,e,h1,h2⟩:=h
 refine ⟨A,c,e,h1,fun hl=>?_⟩
 obtain ⟨g,e,hg,hx⟩:=h2 hl
 exact ⟨g,e,Nat.lt_of_lt_of_le hg hp.size,fun j u hu=>hp.keep (hx j u hu)⟩
theorem VlsR.nil:VlsR w (.slice none 0 0) []:=⟨none,0,rfl,by simp,fun h=>absurd h (by simp)⟩
theorem VlsR.one {x:Vl} {g c:Nat} (hg:w.heap[g]?=some (.cells #[.bool x.1,.complex .f64 x.2.1 x.2.2] 44 (0,0))):VlsR w (.slice (some ⟨g,0,none⟩) 1 c) [x]:=by
 refine ⟨_,c,rfl,by simp,fun _=>⟨g,rfl,(Array.getElem?_eq_some_iff.1 hg).1,fun j u hu=>?_⟩⟩
 have hj:j<2:=by have:=(List.getElem?_eq_some_iff.1 hu).1;rw [vl_len] at this;simpa using this
 rw [cell_of_row w _ _ _ _ _ hg]
 rcases (by omega:j=0∨j=1) with rfl | rfl
 ·exact hu
 ·exact hu
theorem VlsR.get {l:List Vl} {A:Option Addr} {n c j:Nat} {x:Vl} (h:VlsR w (.slice A n c) l) (hj:l[j]?=some x):∃ g,A=some ⟨g,0,none⟩∧w.cell? ⟨g,j * 2,none⟩=some (.bool x.1)∧w.cell? ⟨g,j * 2+1,none⟩=some (.complex .f64 x.2.1 x.2.2):=by
 obtain ⟨A',c',e,h1,h2⟩:=h
 injection e with e1 e2 e3
 subst e1
 have hl:=(List.getElem?_eq_some_iff.1 hj).1
 obtain ⟨g,eg,hg,hx⟩:=h2 (by omega)
 exact ⟨g,eg,by simpa using hx (j * 2+0) _ ((vl_get hj 0 (by omega)).trans rfl),hx (j * 2+1) _ ((vl_get hj 1 (by omega)).trans rfl)⟩
def ixV (p:Vl→Bool) (l:List Vl):Int:=if l.findIdx p<l.length then (l.findIdx p:Int) else -1
theorem ixV_at {p:Vl→Bool} {l:List Vl} {i:Nat} {t:Vl} (hi:l[i]?=some t) (hp:p t=true) (hall:∀ k,k<i→∀ u,l[k]?=some u→p u=false):(i:Int)=ixV p l:=by
 have hlt:=(List.getElem?_eq_some_iff.1 hi).1
 have h:l.findIdx p=i:=by
  refine (List.findIdx_eq hlt).2 ⟨?_,fun j hj=>?_⟩
  ·rw [(List.getElem?_eq_some_iff.1 hi).2];exact hp
  ·exact hall j hj _ (List.getElem?_eq_getElem (by omega))
 rw [ixV,h,if_pos hlt]
theorem ixV_none {p:Vl→Bool} {l:List Vl} (hall:∀ (k:Nat) (u:Vl),l[k]?=some u→p u=false):-1=ixV p l:=by
 rw [ixV,if_neg]
 intro h
 have:=List.findIdx_getElem (w:=h)
 rw [hall _ _ (List.getElem?_eq_getElem h)] at this
 cases this
theorem ixV_one (p:Vl→Bool) (x:Vl):ixV p [x]=if p x then 0 else -1:=by
 cases h:p x <;> simp [ixV,List.findIdx_cons,h]
def neqV (r:Bool) (v:Vl):Bool:=v.1 != r
def noneV (v:Vl):Bool:=sameB v.2.1 v.2.2 0 oneB
theorem oper1_any (r:Bool) (x:Vl) (b:Nat) (w:World) (hc:w.cell? ⟨b,0,none⟩=some (.bool r)) :
  Calls Tryz.prog 242 #[vlV x,.pointer (some ⟨b,0,none⟩)] w fun e' w'=>e'=.returned (.bool (neqV r x))∧Pure w w':=by
 obtain ⟨x1,x2,x3⟩:=x
 have hc':=Pure.keep ((Only.refl (fun _=>False) w).alloc (.cells #[.bool x1,.complex .f64 x2 x3] 44)) hc
 go_enter Tryz.func242,Tryz.ntmps242
 go_wp2_with fail
 go_ret
 exact ⟨rfl,(Only.refl _ _).alloc _⟩
theorem oper2_any (x:Vl) (w:World) :
  Calls Tryz.prog 243 #[vlV x] w fun e' w'=>e'=.returned (.bool (noneV x))∧Pure w w':=by
 obtain ⟨x1,x2,x3⟩:=x
 go_enter Tryz.func243,Tryz.ntmps243
 go_wp2_with fail
 obtain ⟨hp,-,hr⟩:=Ac.one_new w #[.bool x1,.complex .f64 x2 x3] 44
 have HP:=hid hp
 generalize w.alloc (.cells #[.bool x1,.complex .f64 x2 x3] 44)=w1 at *
 generalize w.heap.size=X at *
 have c1:w1.cell? ⟨X,1,none⟩=some (.complex .f64 x2 x3):=by rw [cell_of_row w1 _ _ _ _ _ hr];rfl
 clear hp hr
 go_quiet ((first | (go_at_call 52;exact Calls.quiet_of_same ((Pl.none_w _).mono fun _ _ h=>⟨h.1,h.2.symm⟩)) | (go_at_call 152;exact Calls.quiet_of_same ((same_any _ _ _ _ _).mono fun _ _ h=>⟨h.1,h.2.symm⟩))))
 go_wp2_with fail
 go_ret
 exact ⟨rfl,HP.out.then ((Only.refl _ _).drewN _)⟩
theorem ixf_ref (b:Nat) (r:Bool) (v:Value) (l:List Vl) (w:World) (hl:VlsR w v l) (hc:w.cell? ⟨b,0,none⟩=some (.bool r)) :
  Calls Tryz.prog 291 #[v,.func (.func 242) #[] #[.pointer (some ⟨b,0,none⟩)]] w fun e w'=>e=.returned (.int .i64 (ixV (neqV r) l))∧Pure w w':=by
 have HL:=hid (fun (w':World) (hp:Pure w w')=>hl.pure hp)
 obtain ⟨A,c,rfl,hfew,-⟩:=hl
 go_enter Tryz.func291,Tryz.ntmps291
 go_wp2_with fail
 go_loopw [8] (fun i wr=>∃ k:Nat,k≤l.length∧i=.int .i64 k∧(∀ j,j<k→∀ u,l[j]?=some u→((neqV r)) u=false)∧Pure w wr) (fun i _=>l.length-(intOf i).toNat)
 case atStart=>exact ⟨0,Nat.zero_le _,rfl,(by omega),Only.refl _ _⟩
 case round =>
  obtain ⟨k,hk,rfl,hall,hp⟩:=hrel
  have HALL:=hid hall
  have HP:=hid hp
  clear hall hp
  by_cases hlt:k<l.length
  ·obtain ⟨e,he⟩:∃ e,l[k]?=some e:=⟨l[k],List.getElem?_eq_getElem hlt⟩
   obtain ⟨g,hv1,d0,d1⟩:=(HL.out _ HP.out).get he
   subst hv1
   have HE:=hid he
   clear he
   cases hm:((neqV r)) e with
   | true =>
    have HM:=hid hm
    go_wp2_with fail
    refine (oper1_any r e b _ (HP.out.keep hc)).mono ?_
    rw [HM.out]
    rintro e1 w1 ⟨rfl,hp1⟩
    have P1:=hid (HP.out.then hp1)
    clear hp1 hm
    go_wp2_with fail
    go_ret
    exact ⟨ret_i (ixV_at HE.out HM.out HALL.out).symm,P1.out⟩
   | false =>
    have HM:=hid hm
    go_wp2_with fail
    refine (oper1_any r e b _ (HP.out.keep hc)).mono ?_
    rw [HM.out]
    rintro e1 w1 ⟨rfl,hp1⟩
    have P1:=hid (HP.out.then hp1)
    clear hp1 hm
    go_wp2_with fail
    go_roundw
    case rel =>
     refine ⟨k+1,by omega,by first | rfl | simp,?_,P1.out⟩
     intro j hj u hu
     by_cases e':j<k
     ·exact HALL.out j e' u hu
     ·obtain rfl:j=k:=by omega
      rw [HE.out] at hu
      cases hu
      exact HM.out
    case measure=>simp [intOf];omega
  ·obtain rfl:k=l.length:=by omega
   go_wp2_with fail
   go_ret
   refine ⟨ret_i (ixV_none fun j t ht=>HALL.out j (List.getElem?_eq_some_iff.1 ht).1 t ht).symm,HP.out⟩
theorem has_ref (b:Nat) (r:Bool) (v:Value) (l:List Vl) (rb:Bool) (w:World) (hl:VlsR w v l) (hc:w.cell? ⟨b,0,none⟩=some (.bool r)) (hr:decide (0≤ixV (neqV r) l)=rb) :
  Calls Tryz.prog 241 #[v,.func (.func 242) #[] #[.pointer (some ⟨b,0,none⟩)]] w fun e w'=>e=.returned (.bool rb)∧Pure w w':=by
 have HL:=hid hl
 have HRB:=hid hr
 obtain ⟨A,c,rfl,hfew,-⟩:=hl
 clear hr
 go_enter Tryz.func241,Tryz.ntmps241
 go_wp2_with fail
 refine (ixf_ref b r _ l _ HL.out hc).mono ?_
 obtain ⟨ix,hix⟩:∃ ix,ixV (neqV r) l=ix:=⟨_,rfl⟩
 rw [hix]
 have hrb:=HRB.out
 rw [hix] at hrb
 have HR2:=hid hrb
 clear hix hrb
 rintro e w1 ⟨rfl,hp1⟩
 have P1:=hid hp1
 clear hp1
 go_wp2_with fail
 go_ret
 refine ⟨ret_b ?_,P1.out⟩
 rw [← HR2.out]
theorem ixf_none (v:Value) (l:List Vl) (w:World) (hl:VlsR w v l) :
  Calls Tryz.prog 291 #[v,.func (.func 243) #[] #[]] w fun e w'=>e=.returned (.int .i64 (ixV noneV l))∧Pure w w':=by
 have HL:=hid (fun (w':World) (hp:Pure w w')=>hl.pure hp)
 obtain ⟨A,c,rfl,hfew,-⟩:=hl
 go_enter Tryz.func291,Tryz.ntmps291
 go_wp2_with fail
 go_loopw [8] (fun i wr=>∃ k:Nat,k≤l.length∧i=.int .i64 k∧(∀ j,j<k→∀ u,l[j]?=some u→(noneV) u=false)∧Pure w wr) (fun i _=>l.length-(intOf i).toNat)
 case atStart=>exact ⟨0,Nat.zero_le _,rfl,(by omega),Only.refl _ _⟩
 case round =>
  obtain ⟨k,hk,rfl,hall,hp⟩:=hrel
  have HALL:=hid hall
  have HP:=hid hp
  clear hall hp
  by_cases hlt:k<l.length
  ·obtain ⟨e,he⟩:∃ e,l[k]?=some e:=⟨l[k],List.getElem?_eq_getElem hlt⟩
   obtain ⟨g,hv1,d0,d1⟩:=(HL.out _ HP.out).get he
   subst hv1
   have HE:=hid he
   clear he
   cases hm:(noneV) e with
   | true =>
    have HM:=hid hm
    go_wp2_with fail
    refine (oper2_any e _).mono ?_
    rw [HM.out]
    rintro e1 w1 ⟨rfl,hp1⟩
    have P1:=hid (HP.out.then hp1)
    clear hp1 hm
    go_wp2_with fail
    go_ret
    exact ⟨ret_i (ixV_at HE.out HM.out HALL.out).symm,P1.out⟩
   | false =>
    have HM:=hid hm
    go_wp2_with fail
    refine (oper2_any e _).mono ?_
    rw [HM.out]
    rintro e1 w1 ⟨rfl,hp1⟩
    have P1:=hid (HP.out.then hp1)
    clear hp1 hm
    go_wp2_with fail
    go_roundw
    case rel =>
     refine ⟨k+1,by omega,by first | rfl | simp,?_,P1.out⟩
     intro j hj u hu
     by_cases e':j<k
     ·exact HALL.out j e' u hu
     ·obtain rfl:j=k:=by omega
      rw [HE.out] at hu
      cases hu
      exact HM.out
    case measure=>simp [intOf];omega
  ·obtain rfl:k=l.length:=by omega
   go_wp2_with fail
   go_ret
   refine ⟨ret_i (ixV_none fun j t ht=>HALL.out j (List.getElem?_eq_some_iff.1 ht).1 t ht).symm,HP.out⟩
theorem has_none (v:Value) (l:List Vl) (rb:Bool) (w:World) (hl:VlsR w v l) (hr:decide (0≤ixV noneV l)=rb) :
  Calls Tryz.prog 241 #[v,.func (.func 243) #[] #[]] w fun e w'=>e=.returned (.bool rb)∧Pure w w':=by
 have HL:=hid hl
 have HRB:=hid hr
 obtain ⟨A,c,rfl,hfew,-⟩:=hl
 clear hr
 go_enter Tryz.func241,Tryz.ntmps241
 go_wp2_with fail
 refine (ixf_none _ l _ HL.out).mono ?_
 obtain ⟨ix,hix⟩:∃ ix,ixV noneV l=ix:=⟨_,rfl⟩
 rw [hix]
 have hrb:=HRB.out
 rw [hix] at hrb
 have HR2:=hid hrb
 clear hix hrb
 rintro e w1 ⟨rfl,hp1⟩
 have P1:=hid hp1
 clear hp1
 go_wp2_with fail
 go_ret
 refine ⟨ret_b ?_,P1.out⟩
 rw [← HR2.out]
end
open Go.RowKit
open Ac (wrs OpD opV opO op_cells Vl Wr resV resZ zeroVl res_cells res_kept nT one_new two_new lays_any done_any fails_any CT)
section
variable {w w':World} {c:Cn} {K:Cor.Q} {κ:Nat→Nat} {m:Cor.St} {b:Ac.B} {s:Ac.St}
open Ac (vals vlV vlL op_cells)
theorem ixV_no {p:Vl→Bool} {x:Vl} (h:p x=false):decide (0≤ixV p [x])=false:=by rw [ixV_one,h];rfl
theorem ixV_yes {p:Vl→Bool} {x:Vl} (h:p x=true):decide (0≤ixV p [x])=true:=by rw [ixV_one,h];rfl
theorem ixV_0 (p:Vl→Bool):decide (0≤ixV p [])=false:=rfl
theorem noneV_ref (i:Nat) (h:i≤1000000):noneV (true,refW i)=false:=same_none i h
theorem operands_new (o:OpD) (w:World) (h:Ac.At w κ b s) (hk:o.kind=1) :
  Calls Tryz.prog 178 #[.pointer (some ⟨b.ab,0,none⟩),opV o] w fun e w'=>e=.returned (.int .i64 0)∧Pure w w':=by
 obtain ⟨hp1,-,hv1⟩:=one_new w #[.int .i64 (o.kind:Int),.int .i64 o.a,.int .i64 o.b,.int .i64 o.c,.int .i64 o.n,.complex .f64 o.x o.y] 32
 have HP1:=hid hp1
 have H1:=hid (h.pure hp1)
 have HK:=hid hk
 have HV1:=hid hv1
 clear hp1 hv1 h hk
 go_enter Tryz.func178,Tryz.ntmps178
 go_upto_region 1 with fail
 generalize w.alloc (opO o)=W1 at *
 generalize w.heap.size=X at *
 have c2:=H1.out.p2
 go_upto_region 4 with fail
 obtain ⟨hp2,-,hr2⟩:=one_new W1 #[.bool true] 4
 have HP2:=hid (HP1.out.then hp2)
 have H2:=hid (H1.out.pure hp2)
 have HV:=hid (Pure.blk hp2 HV1.out)
 have HR:=hid hr2
 clear c2 hp2 hr2 HP1 H1 HV1
 generalize W1.alloc (.cells #[.bool true] 4)=W at *
 generalize W1.heap.size=R at *
 have c2:=H2.out.p2
 obtain ⟨o0,o1,o2,o3,o4,o5⟩:=op_cells HV.out
 rw [HK.out] at o0
 have cr:W.cell? ⟨R,0,none⟩=some (.bool true):=by rw [cell_of_row W _ _ _ _ _ HR.out];rfl
 go_wp2_with fail
 have HP3:=HP2
 have cr3:=cr
 have HV3:Hid (VlsR W (.slice none 0 0) []):=hid VlsR.nil
 clear c2 o0 o1 o2 o3 o4 o5 cr
 refine (has_ref R true _ [] false W HV3.out cr3 (ixV_0 _)).mono ?_
 rintro e w4 ⟨rfl,hp4⟩
 have HP4:=hid (HP3.out.then hp4)
 have HV4:=hid (HV3.out.pure hp4)
 clear hp4 cr3 HV3
 go_wp2_with fail
 refine (has_none _ [] false w4 HV4.out (ixV_0 _)).mono ?_
 rintro e w5 ⟨rfl,hp5⟩
 have HP5:=hid (HP4.out.then hp5)
 clear hp5
 go_wp2_with fail
 go_ret
 exact ⟨rfl,HP5.out⟩
theorem operands_look (o:OpD) (w:World) (h:Ac.At w κ b s) (hk:o.kind=7) :
  Calls Tryz.prog 178 #[.pointer (some ⟨b.ab,0,none⟩),opV o] w fun e w'=>e=.returned (.int .i64 0)∧Pure w w':=by
 obtain ⟨hp1,-,hv1⟩:=one_new w #[.int .i64 (o.kind:Int),.int .i64 o.a,.int .i64 o.b,.int .i64 o.c,.int .i64 o.n,.complex .f64 o.x o.y] 32
 have HP1:=hid hp1
 have H1:=hid (h.pure hp1)
 have HK:=hid hk
 have HV1:=hid hv1
 clear hp1 hv1 h hk
 go_enter Tryz.func178,Tryz.ntmps178
 go_upto_region 1 with fail
 generalize w.alloc (opO o)=W1 at *
 generalize w.heap.size=X at *
 have c2:=H1.out.p2
 go_upto_region 4 with fail
 obtain ⟨hp2,-,hr2⟩:=one_new W1 #[.bool true] 4
 have HP2:=hid (HP1.out.then hp2)
 have H2:=hid (H1.out.pure hp2)
 have HV:=hid (Pure.blk hp2 HV1.out)
 have HR:=hid hr2
 clear c2 hp2 hr2 HP1 H1 HV1
 generalize W1.alloc (.cells #[.bool true] 4)=W at *
 generalize W1.heap.size=R at *
 have c2:=H2.out.p2
 obtain ⟨o0,o1,o2,o3,o4,o5⟩:=op_cells HV.out
 rw [HK.out] at o0
 have cr:W.cell? ⟨R,0,none⟩=some (.bool true):=by rw [cell_of_row W _ _ _ _ _ HR.out];rfl
 go_wp2_with fail
 have HP3:=HP2
 have cr3:=cr
 have HV3:Hid (VlsR W (.slice none 0 0) []):=hid VlsR.nil
 clear c2 o0 o1 o2 o3 o4 o5 cr
 refine (has_ref R true _ [] false W HV3.out cr3 (ixV_0 _)).mono ?_
 rintro e w4 ⟨rfl,hp4⟩
 have HP4:=hid (HP3.out.then hp4)
 have HV4:=hid (HV3.out.pure hp4)
 clear hp4 cr3 HV3
 go_wp2_with fail
 refine (has_none _ [] false w4 HV4.out (ixV_0 _)).mono ?_
 rintro e w5 ⟨rfl,hp5⟩
 have HP5:=hid (HP4.out.then hp5)
 clear hp5
 go_wp2_with fail
 go_ret
 exact ⟨rfl,HP5.out⟩
theorem operands_clear (o:OpD) (w:World) (h:Ac.At w κ b s) (hk:o.kind=13) :
  Calls Tryz.prog 178 #[.pointer (some ⟨b.ab,0,none⟩),opV o] w fun e w'=>e=.returned (.int .i64 0)∧Pure w w':=by
 obtain ⟨hp1,-,hv1⟩:=one_new w #[.int .i64 (o.kind:Int),.int .i64 o.a,.int .i64 o.b,.int .i64 o.c,.int .i64 o.n,.complex .f64 o.x o.y] 32
 have HP1:=hid hp1
 have H1:=hid (h.pure hp1)
 have HK:=hid hk
 have HV1:=hid hv1
 clear hp1 hv1 h hk
 go_enter Tryz.func178,Tryz.ntmps178
 go_upto_region 1 with fail
 generalize w.alloc (opO o)=W1 at *
 generalize w.heap.size=X at *
 have c2:=H1.out.p2
 go_upto_region 4 with fail
 obtain ⟨hp2,-,hr2⟩:=one_new W1 #[.bool true] 4
 have HP2:=hid (HP1.out.then hp2)
 have H2:=hid (H1.out.pure hp2)
 have HV:=hid (Pure.blk hp2 HV1.out)
 have HR:=hid hr2
 clear c2 hp2 hr2 HP1 H1 HV1
 generalize W1.alloc (.cells #[.bool true] 4)=W at *
 generalize W1.heap.size=R at *
 have c2:=H2.out.p2
 obtain ⟨o0,o1,o2,o3,o4,o5⟩:=op_cells HV.out
 rw [HK.out] at o0
 have cr:W.cell? ⟨R,0,none⟩=some (.bool true):=by rw [cell_of_row W _ _ _ _ _ HR.out];rfl
 go_wp2_with fail
 have HP3:=HP2
 have cr3:=cr
 have HV3:Hid (VlsR W (.slice none 0 0) []):=hid VlsR.nil
 clear c2 o0 o1 o2 o3 o4 o5 cr
 refine (has_ref R true _ [] false W HV3.out cr3 (ixV_0 _)).mono ?_
 rintro e w4 ⟨rfl,hp4⟩
 have HP4:=hid (HP3.out.then hp4)
 have HV4:=hid (HV3.out.pure hp4)
 clear hp4 cr3 HV3
 go_wp2_with fail
 refine (has_none _ [] false w4 HV4.out (ixV_0 _)).mono ?_
 rintro e w5 ⟨rfl,hp5⟩
 have HP5:=hid (HP4.out.then hp5)
 clear hp5
 go_wp2_with fail
 go_ret
 exact ⟨rfl,HP5.out⟩
theorem operands_load (o:OpD) (j:Nat) (x:Vl) (w:World) (h:Ac.At w κ b s) (hk:o.kind=3) (ho:o.b=(j:Int)) (hj:s.locals[j]?=some x) (hx:x.1=true) (hn:noneV x=false) :
  Calls Tryz.prog 178 #[.pointer (some ⟨b.ab,0,none⟩),opV o] w fun e w'=>e=.returned (.int .i64 0)∧Pure w w':=by
 obtain ⟨x1,x2,x3⟩:=x
 obtain ⟨hp1,-,hv1⟩:=one_new w #[.int .i64 (o.kind:Int),.int .i64 o.a,.int .i64 o.b,.int .i64 o.c,.int .i64 o.n,.complex .f64 o.x o.y] 32
 have HP1:=hid hp1
 have H1:=hid (h.pure hp1)
 have HK:=hid hk
 have HO:=hid ho
 have HJ:=hid hj
 have HX:=hid hx
 have HN:=hid hn
 have HV1:=hid hv1
 clear hp1 hv1 h hk ho hj hx hn
 go_enter Tryz.func178,Tryz.ntmps178
 go_upto_region 1 with fail
 generalize w.alloc (opO o)=W1 at *
 generalize w.heap.size=X at *
 have c2:=H1.out.p2
 go_upto_region 4 with fail
 obtain ⟨hp2,-,hr2⟩:=one_new W1 #[.bool true] 4
 have HP2:=hid (HP1.out.then hp2)
 have H2:=hid (H1.out.pure hp2)
 have HV:=hid (Pure.blk hp2 HV1.out)
 have HR:=hid hr2
 clear c2 hp2 hr2 HP1 H1 HV1
 generalize W1.alloc (.cells #[.bool true] 4)=W at *
 generalize W1.heap.size=R at *
 have c2:=H2.out.p2
 obtain ⟨o0,o1,o2,o3,o4,o5⟩:=op_cells HV.out
 rw [HK.out] at o0
 have cr:W.cell? ⟨R,0,none⟩=some (.bool true):=by rw [cell_of_row W _ _ _ _ _ HR.out];rfl
 rw [HO.out] at o2
 obtain ⟨l0,l1⟩:=H2.out.local_ HJ.out
 have hjl:=(List.getElem?_eq_some_iff.1 HJ.out).1
 have i0:(0:Int)≤(j:Int):=by omega
 have i1:(j:Int)<(s.locals.length:Int):=by omega
 go_wp2_with fail
 obtain ⟨hp3,-,hg3⟩:=one_new W #[.bool x1,.complex .f64 x2 x3] 44
 have HP3:=hid (HP2.out.then hp3)
 have cr3:=hp3.keep cr
 have HV3:Hid (VlsR (W.alloc (.cells #[.bool x1,.complex .f64 x2 x3] 44)) (.slice (some ⟨W.heap.size,0,none⟩) 1 1) [(x1,x2,x3)]):=hid (VlsR.one (x:=(x1,x2,x3)) hg3)
 clear hp3 hg3 l0 l1 i0 i1 hjl c2 o0 o1 o2 o3 o4 o5 cr
 generalize W.alloc (.cells #[.bool x1,.complex .f64 x2 x3] 44)=W3 at *
 generalize W.heap.size=G at *
 refine (has_ref R true _ [(x1,x2,x3)] false W3 HV3.out cr3 (ixV_no (show neqV true (x1,x2,x3)=false from by show (x1 != true)=false;rw [show x1=true from HX.out];rfl))).mono ?_
 rintro e w4 ⟨rfl,hp4⟩
 have HP4:=hid (HP3.out.then hp4)
 have HV4:=hid (HV3.out.pure hp4)
 clear hp4 cr3 HV3
 go_wp2_with fail
 refine (has_none _ [(x1,x2,x3)] false w4 HV4.out (ixV_no HN.out)).mono ?_
 rintro e w5 ⟨rfl,hp5⟩
 have HP5:=hid (HP4.out.then hp5)
 clear hp5
 go_wp2_with fail
 go_ret
 exact ⟨rfl,HP5.out⟩
theorem operands_kind (o:OpD) (j:Nat) (x:Vl) (w:World) (h:Ac.At w κ b s) (hk:o.kind=11) (ho:o.b=(j:Int)) (hj:s.locals[j]?=some x) (hx:x.1=true) (hn:noneV x=false) :
  Calls Tryz.prog 178 #[.pointer (some ⟨b.ab,0,none⟩),opV o] w fun e w'=>e=.returned (.int .i64 0)∧Pure w w':=by
 obtain ⟨x1,x2,x3⟩:=x
 obtain ⟨hp1,-,hv1⟩:=one_new w #[.int .i64 (o.kind:Int),.int .i64 o.a,.int .i64 o.b,.int .i64 o.c,.int .i64 o.n,.complex .f64 o.x o.y] 32
 have HP1:=hid hp1
 have H1:=hid (h.pure hp1)
 have HK:=hid hk
 have HO:=hid ho
 have HJ:=hid hj
 have HX:=hid hx
 have HN:=hid hn
 have HV1:=hid hv1
 clear hp1 hv1 h hk ho hj hx hn
 go_enter Tryz.func178,Tryz.ntmps178
 go_upto_region 1 with fail
 generalize w.alloc (opO o)=W1 at *
 generalize w.heap.size=X at *
 have c2:=H1.out.p2
 go_upto_region 4 with fail
 obtain ⟨hp2,-,hr2⟩:=one_new W1 #[.bool true] 4
 have HP2:=hid (HP1.out.then hp2)
 have H2:=hid (H1.out.pure hp2)
 have HV:=hid (Pure.blk hp2 HV1.out)
 have HR:=hid hr2
 clear c2 hp2 hr2 HP1 H1 HV1
 generalize W1.alloc (.cells #[.bool true] 4)=W at *
 generalize W1.heap.size=R at *
 have c2:=H2.out.p2
 obtain ⟨o0,o1,o2,o3,o4,o5⟩:=op_cells HV.out
 rw [HK.out] at o0
 have cr:W.cell? ⟨R,0,none⟩=some (.bool true):=by rw [cell_of_row W _ _ _ _ _ HR.out];rfl
 rw [HO.out] at o2
 obtain ⟨l0,l1⟩:=H2.out.local_ HJ.out
 have hjl:=(List.getElem?_eq_some_iff.1 HJ.out).1
 have i0:(0:Int)≤(j:Int):=by omega
 have i1:(j:Int)<(s.locals.length:Int):=by omega
 go_wp2_with fail
 obtain ⟨hp3,-,hg3⟩:=one_new W #[.bool x1,.complex .f64 x2 x3] 44
 have HP3:=hid (HP2.out.then hp3)
 have cr3:=hp3.keep cr
 have HV3:Hid (VlsR (W.alloc (.cells #[.bool x1,.complex .f64 x2 x3] 44)) (.slice (some ⟨W.heap.size,0,none⟩) 1 1) [(x1,x2,x3)]):=hid (VlsR.one (x:=(x1,x2,x3)) hg3)
 clear hp3 hg3 l0 l1 i0 i1 hjl c2 o0 o1 o2 o3 o4 o5 cr
 generalize W.alloc (.cells #[.bool x1,.complex .f64 x2 x3] 44)=W3 at *
 generalize W.heap.size=G at *
 refine (has_ref R true _ [(x1,x2,x3)] false W3 HV3.out cr3 (ixV_no (show neqV true (x1,x2,x3)=false from by show (x1 != true)=false;rw [show x1=true from HX.out];rfl))).mono ?_
 rintro e w4 ⟨rfl,hp4⟩
 have HP4:=hid (HP3.out.then hp4)
 have HV4:=hid (HV3.out.pure hp4)
 clear hp4 cr3 HV3
 go_wp2_with fail
 refine (has_none _ [(x1,x2,x3)] false w4 HV4.out (ixV_no HN.out)).mono ?_
 rintro e w5 ⟨rfl,hp5⟩
 have HP5:=hid (HP4.out.then hp5)
 clear hp5
 go_wp2_with fail
 go_ret
 exact ⟨rfl,HP5.out⟩
theorem operands_store (o:OpD) (j:Nat) (x:Vl) (w:World) (h:Ac.At w κ b s) (hk:o.kind=4) (ho:o.a=(j:Int)) (hj:s.locals[j]?=some x) (hx:x.1=true) (hn:noneV x=false) :
  Calls Tryz.prog 178 #[.pointer (some ⟨b.ab,0,none⟩),opV o] w fun e w'=>e=.returned (.int .i64 0)∧Pure w w':=by
 obtain ⟨x1,x2,x3⟩:=x
 obtain ⟨hp1,-,hv1⟩:=one_new w #[.int .i64 (o.kind:Int),.int .i64 o.a,.int .i64 o.b,.int .i64 o.c,.int .i64 o.n,.complex .f64 o.x o.y] 32
 have HP1:=hid hp1
 have H1:=hid (h.pure hp1)
 have HK:=hid hk
 have HO:=hid ho
 have HJ:=hid hj
 have HX:=hid hx
 have HN:=hid hn
 have HV1:=hid hv1
 clear hp1 hv1 h hk ho hj hx hn
 go_enter Tryz.func178,Tryz.ntmps178
 go_upto_region 1 with fail
 generalize w.alloc (opO o)=W1 at *
 generalize w.heap.size=X at *
 have c2:=H1.out.p2
 go_upto_region 4 with fail
 obtain ⟨hp2,-,hr2⟩:=one_new W1 #[.bool true] 4
 have HP2:=hid (HP1.out.then hp2)
 have H2:=hid (H1.out.pure hp2)
 have HV:=hid (Pure.blk hp2 HV1.out)
 have HR:=hid hr2
 clear c2 hp2 hr2 HP1 H1 HV1
 generalize W1.alloc (.cells #[.bool true] 4)=W at *
 generalize W1.heap.size=R at *
 have c2:=H2.out.p2
 obtain ⟨o0,o1,o2,o3,o4,o5⟩:=op_cells HV.out
 rw [HK.out] at o0
 have cr:W.cell? ⟨R,0,none⟩=some (.bool true):=by rw [cell_of_row W _ _ _ _ _ HR.out];rfl
 rw [HO.out] at o1
 obtain ⟨l0,l1⟩:=H2.out.local_ HJ.out
 have hjl:=(List.getElem?_eq_some_iff.1 HJ.out).1
 have i0:(0:Int)≤(j:Int):=by omega
 have i1:(j:Int)<(s.locals.length:Int):=by omega
 go_wp2_with fail
 obtain ⟨hp3,-,hg3⟩:=one_new W #[.bool x1,.complex .f64 x2 x3] 44
 have HP3:=hid (HP2.out.then hp3)
 have cr3:=hp3.keep cr
 have HV3:Hid (VlsR (W.alloc (.cells #[.bool x1,.complex .f64 x2 x3] 44)) (.slice (some ⟨W.heap.size,0,none⟩) 1 1) [(x1,x2,x3)]):=hid (VlsR.one (x:=(x1,x2,x3)) hg3)
 clear hp3 hg3 l0 l1 i0 i1 hjl c2 o0 o1 o2 o3 o4 o5 cr
 generalize W.alloc (.cells #[.bool x1,.complex .f64 x2 x3] 44)=W3 at *
 generalize W.heap.size=G at *
 refine (has_ref R true _ [(x1,x2,x3)] false W3 HV3.out cr3 (ixV_no (show neqV true (x1,x2,x3)=false from by show (x1 != true)=false;rw [show x1=true from HX.out];rfl))).mono ?_
 rintro e w4 ⟨rfl,hp4⟩
 have HP4:=hid (HP3.out.then hp4)
 have HV4:=hid (HV3.out.pure hp4)
 clear hp4 cr3 HV3
 go_wp2_with fail
 refine (has_none _ [(x1,x2,x3)] false w4 HV4.out (ixV_no HN.out)).mono ?_
 rintro e w5 ⟨rfl,hp5⟩
 have HP5:=hid (HP4.out.then hp5)
 clear hp5
 go_wp2_with fail
 go_ret
 exact ⟨rfl,HP5.out⟩
theorem operands_set (o:OpD) (j:Nat) (x:Vl) (w:World) (h:Ac.At w κ b s) (hk:o.kind=8) (ho:o.b=(j:Int)) (hj:s.locals[j]?=some x) (hx:x.1=true) :
  Calls Tryz.prog 178 #[.pointer (some ⟨b.ab,0,none⟩),opV o] w fun e w'=>e=.returned (.int .i64 0)∧Pure w w':=by
 obtain ⟨x1,x2,x3⟩:=x
 obtain ⟨hp1,-,hv1⟩:=one_new w #[.int .i64 (o.kind:Int),.int .i64 o.a,.int .i64 o.b,.int .i64 o.c,.int .i64 o.n,.complex .f64 o.x o.y] 32
 have HP1:=hid hp1
 have H1:=hid (h.pure hp1)
 have HK:=hid hk
 have HO:=hid ho
 have HJ:=hid hj
 have HX:=hid hx
 have HV1:=hid hv1
 clear hp1 hv1 h hk ho hj hx
 go_enter Tryz.func178,Tryz.ntmps178
 go_upto_region 1 with fail
 generalize w.alloc (opO o)=W1 at *
 generalize w.heap.size=X at *
 have c2:=H1.out.p2
 go_upto_region 4 with fail
 obtain ⟨hp2,-,hr2⟩:=one_new W1 #[.bool true] 4
 have HP2:=hid (HP1.out.then hp2)
 have H2:=hid (H1.out.pure hp2)
 have HV:=hid (Pure.blk hp2 HV1.out)
 have HR:=hid hr2
 clear c2 hp2 hr2 HP1 H1 HV1
 generalize W1.alloc (.cells #[.bool true] 4)=W at *
 generalize W1.heap.size=R at *
 have c2:=H2.out.p2
 obtain ⟨o0,o1,o2,o3,o4,o5⟩:=op_cells HV.out
 rw [HK.out] at o0
 have cr:W.cell? ⟨R,0,none⟩=some (.bool true):=by rw [cell_of_row W _ _ _ _ _ HR.out];rfl
 rw [HO.out] at o2
 obtain ⟨l0,l1⟩:=H2.out.local_ HJ.out
 have hjl:=(List.getElem?_eq_some_iff.1 HJ.out).1
 have i0:(0:Int)≤(j:Int):=by omega
 have i1:(j:Int)<(s.locals.length:Int):=by omega
 go_wp2_with fail
 obtain ⟨hp3,-,hg3⟩:=one_new W #[.bool x1,.complex .f64 x2 x3] 44
 have HP3:=hid (HP2.out.then hp3)
 have cr3:=hp3.keep cr
 have HV3:Hid (VlsR (W.alloc (.cells #[.bool x1,.complex .f64 x2 x3] 44)) (.slice (some ⟨W.heap.size,0,none⟩) 1 1) [(x1,x2,x3)]):=hid (VlsR.one (x:=(x1,x2,x3)) hg3)
 clear hp3 hg3 l0 l1 i0 i1 hjl c2 o0 o1 o2 o3 o4 o5 cr
 generalize W.alloc (.cells #[.bool x1,.complex .f64 x2 x3] 44)=W3 at *
 generalize W.heap.size=G at *
 refine (has_ref R true _ [(x1,x2,x3)] false W3 HV3.out cr3 (ixV_no (show neqV true (x1,x2,x3)=false from by show (x1 != true)=false;rw [show x1=true from HX.out];rfl))).mono ?_
 rintro e w4 ⟨rfl,hp4⟩
 have HP4:=hid (HP3.out.then hp4)
 clear hp4 cr3 HV3
 go_wp2_with fail
 go_ret
 exact ⟨rfl,HP4.out⟩
theorem operands_kind_no (o:OpD) (j:Nat) (x:Vl) (w:World) (h:Ac.At w κ b s) (hk:o.kind=11) (ho:o.b=(j:Int)) (hj:s.locals[j]?=some x) (hx:x.1=false) :
  Calls Tryz.prog 178 #[.pointer (some ⟨b.ab,0,none⟩),opV o] w fun e w'=>e=.returned (.int .i64 4)∧Pure w w':=by
 obtain ⟨x1,x2,x3⟩:=x
 obtain ⟨hp1,-,hv1⟩:=one_new w #[.int .i64 (o.kind:Int),.int .i64 o.a,.int .i64 o.b,.int .i64 o.c,.int .i64 o.n,.complex .f64 o.x o.y] 32
 have HP1:=hid hp1
 have H1:=hid (h.pure hp1)
 have HK:=hid hk
 have HO:=hid ho
 have HJ:=hid hj
 have HX:=hid hx
 have HV1:=hid hv1
 clear hp1 hv1 h hk ho hj hx
 go_enter Tryz.func178,Tryz.ntmps178
 go_upto_region 1 with fail
 generalize w.alloc (opO o)=W1 at *
 generalize w.heap.size=X at *
 have c2:=H1.out.p2
 go_upto_region 4 with fail
 obtain ⟨hp2,-,hr2⟩:=one_new W1 #[.bool true] 4
 have HP2:=hid (HP1.out.then hp2)
 have H2:=hid (H1.out.pure hp2)
 have HV:=hid (Pure.blk hp2 HV1.out)
 have HR:=hid hr2
 clear c2 hp2 hr2 HP1 H1 HV1
 generalize W1.alloc (.cells #[.bool true] 4)=W at *
 generalize W1.heap.size=R at *
 have c2:=H2.out.p2
 obtain ⟨o0,o1,o2,o3,o4,o5⟩:=op_cells HV.out
 rw [HK.out] at o0
 have cr:W.cell? ⟨R,0,none⟩=some (.bool true):=by rw [cell_of_row W _ _ _ _ _ HR.out];rfl
 rw [HO.out] at o2
 obtain ⟨l0,l1⟩:=H2.out.local_ HJ.out
 have hjl:=(List.getElem?_eq_some_iff.1 HJ.out).1
 have i0:(0:Int)≤(j:Int):=by omega
 have i1:(j:Int)<(s.locals.length:Int):=by omega
 go_wp2_with fail
 obtain ⟨hp3,-,hg3⟩:=one_new W #[.bool x1,.complex .f64 x2 x3] 44
 have HP3:=hid (HP2.out.then hp3)
 have cr3:=hp3.keep cr
 have HV3:Hid (VlsR (W.alloc (.cells #[.bool x1,.complex .f64 x2 x3] 44)) (.slice (some ⟨W.heap.size,0,none⟩) 1 1) [(x1,x2,x3)]):=hid (VlsR.one (x:=(x1,x2,x3)) hg3)
 clear hp3 hg3 l0 l1 i0 i1 hjl c2 o0 o1 o2 o3 o4 o5 cr
 generalize W.alloc (.cells #[.bool x1,.complex .f64 x2 x3] 44)=W3 at *
 generalize W.heap.size=G at *
 refine (has_ref R true _ [(x1,x2,x3)] true W3 HV3.out cr3 (ixV_yes (show neqV true (x1,x2,x3)=true from by show (x1 != true)=true;rw [show x1=false from HX.out];rfl))).mono ?_
 rintro e w4 ⟨rfl,hp4⟩
 have HP4:=hid (HP3.out.then hp4)
 clear hp4 cr3 HV3
 go_wp2_with fail
 go_ret
 exact ⟨rfl,HP4.out⟩
end
end Go.Proofs.YtpgdiceeimehiaaGreat
