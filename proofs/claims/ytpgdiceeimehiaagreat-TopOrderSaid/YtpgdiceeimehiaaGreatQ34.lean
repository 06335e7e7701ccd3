/- Part 34 of the proof that spotop.TopOrder returns true for all arguments and leaves what was there as it was. -/
import Derived.Deep.DeepCutAuto
import Derived.Deep.CutBlock
import Derived.Test.YtpgdiceeimehiaaGreatQ30
import Derived.Test.YtpgdiceeimehiaaGreatQ33
set_option maxRecDepth 100000
set_option maxHeartbeats 16000000
open Go.Lib (hid)
namespace Go.Proofs.YtpgdiceeimehiaaGreat
open Go.RowKit
open Ac (Vl vals vlL vl_get)
namespace Vw
def Ixn (z:Nat × Nat):Prop:=∃ r:Int,∀ w:World,Calls Tryz.prog 98 #[.complex .f64 z.1 z.2] w fun e w'=>e=.returned (.tuple #[.int .i64 r,.bool false])∧w=w'
def LocOk (O:Nat→Prop) (v:Vl):Prop:=(∃ i,i≤1000000∧v.2=refW i∧(v.1=true→O i))∨Ixn v.2
def Rl (W0:World) (O:Nat→Prop) (n:Nat) (v:Value) (wr:World):Prop:=Pure W0 wr∧∃ xs:List Int,wr.ownsRow W0.heap.size 3 1 v xs.length (ints xs)∧xs.length≤n∧∀ x∈xs,∃ i:Nat,x=(i:Int)∧O i
theorem LocOk.ix {O:Nat→Prop} {v:Vl} (h:LocOk O v):∃ (ri:Int) (rb:Bool),(∀ w:World,Calls Tryz.prog 98 #[.complex .f64 v.2.1 v.2.2] w fun e w'=>e=.returned (.tuple #[.int .i64 ri,.bool rb])∧w=w')∧(v.1=true→rb=true→∃ i:Nat,ri=(i:Int)∧O i):=by
 rcases h with ⟨i,hi,hz,ho⟩ | ⟨r,hr⟩
 ·exact ⟨i,true,fun w=>by rw [hz];exact index_ref i w hi,fun h1 _=>⟨i,rfl,ho h1⟩⟩
 ·exact ⟨r,false,hr,fun _ h2=>by cases h2⟩
theorem Rl.app {W0 w w9:World} {O:Nat→Prop} {n:Nat} {A A9:Option Addr} {cc n9 i:Nat} {ob:Obj} {zs:List Int} (h0:Pure W0 w) (hown:w.ownsRow W0.heap.size 3 1 (.slice A zs.length cc) zs.length (ints zs)) (hg:(w.alloc ob).grownBy w9 (Value.slice A zs.length cc).ownBlock)
  (hown9:w9.ownsRow W0.heap.size 3 1 (.slice A9 (zs.length+1) n9) (zs.length+1) (ints zs++[.int .i64 (i:Int)])) (hz:zs.length≤n∧∀ x∈zs,∃ i:Nat,x=(i:Int)∧O i) (hi:O i):Only (fun q=>(Value.slice A zs.length cc).ownBlock=some q) w w9∧Rl W0 O (n+1) (.slice A9 (zs.length+1) n9) w9:=by
 have hT:Only (fun q=>(Value.slice A zs.length cc).ownBlock=some q) w w9:=((Only.refl _ w).alloc _).grown hg (fun q _ hq=>hq)
 refine ⟨hT,h0.trans hT (fun q hq hq2=>by have:=(hown.lt q hq2).1;omega),zs++[(i:Int)],by simpa [ints] using hown9,by simp;exact hz.1,fun x hx=>?_⟩
 rcases List.mem_append.1 hx with hx | hx
 ·exact hz.2 x hx
 ·simp at hx;exact ⟨i,hx,hi⟩
theorem Rl.base {W0 w3 w:World} {O:Nat→Prop} {n:Nat} {v:Value} (h:Rl w3 O n v w) (hp:Pure W0 w3):Rl W0 O n v w:=by
 obtain ⟨h0,xs,h1,h2,h3⟩:=h
 exact ⟨hp.then h0,xs,own_mono h1 hp.size,h2,h3⟩
section
variable {B vb hb lg yb:Nat} {c:Cn} {K:Cor.Q} {κ:Nat→Nat} {m:Cor.St} {b:Ac.B} {s:Ac.St} {y:Cyc.St} {O:Nat→Prop} {fr:Nat→List Nat}
theorem roots_s (w:World) (h:Mac w c K κ m b s yb y hb lg) (hx:∀ s∈K.csh,s.bs.length≤1000000) (hT:c.threads=1) (hL:s.phase≠0→s.phase≠4→∀ v∈s.locals,LocOk O v) (hg0:0≤c.globals) (hg9:c.globals≤900) (ad:Nat) (had:8 * c.frags+2 * c.spine=(ad:Int)) (hG:∀ g:Nat,(g:Int)<c.globals→∃ z,m.words[ad+g]?=some z∧LocOk O (true,z)) :
  Calls Tryz.prog 72 #[.pointer (some ⟨hb,0,none⟩)] w fun e w'=>∃ v,e=.returned v∧Rl w O 1000 v w':=by
 have HM:=hid h
 have HX:=hid hx
 have HL:=hid hL
 have HG:=hid hG
 have HAD:=hid had
 have HT:=hid hT
 clear h hx hL hG had hT
 go_enter Tryz.func72,Tryz.ntmps72
 go_wp2_with fail
 refine (conf_h w HM.out HX.out).mono ?_
 rintro e w2 ⟨A2,d2,n2,rfl,hp2,hs2,hal2,hf2⟩
 have hrow:=Row.new w2 c (.slice A2 K.csh.length d2)
 have HR:Hid (Row w2 w2.heap.size c (.slice A2 K.csh.length d2) (w2.alloc (.cells #[.int .i64 c.frags,.int .i64 c.spine,.int .i64 c.globals,.int .i64 c.threads,.int .i64 c.locals,.int .i64 c.cache,.int .i64 c.stack,.int .i64 c.low,.slice A2 K.csh.length d2] 24))):=hid hrow
 have HP3:Hid (Pure w (w2.alloc (.cells #[.int .i64 c.frags,.int .i64 c.spine,.int .i64 c.globals,.int .i64 c.threads,.int .i64 c.locals,.int .i64 c.cache,.int .i64 c.stack,.int .i64 c.low,.slice A2 K.csh.length d2] 24))):=hid (hp2.then ((Only.refl _ w2).alloc _))
 have HS2:Hid (ShsR (w2.alloc (.cells #[.int .i64 c.frags,.int .i64 c.spine,.int .i64 c.globals,.int .i64 c.threads,.int .i64 c.locals,.int .i64 c.cache,.int .i64 c.stack,.int .i64 c.low,.slice A2 K.csh.length d2] 24)) (w2.alloc (.cells #[.int .i64 c.frags,.int .i64 c.spine,.int .i64 c.globals,.int .i64 c.threads,.int .i64 c.locals,.int .i64 c.cache,.int .i64 c.stack,.int .i64 c.low,.slice A2 K.csh.length d2] 24)).heap.size (.slice A2 K.csh.length d2) n2∧checkI c n2=0):=hid ⟨hs2.pure ((Only.refl _ w2).alloc _),by rw [← hal2.check];exact HM.out.cys.sys.cor.ok⟩
 clear hp2 hs2 hal2 hf2 hrow
 go_upto_region 3 with fail
 generalize w2.alloc (.cells #[.int .i64 c.frags,.int .i64 c.spine,.int .i64 c.globals,.int .i64 c.threads,.int .i64 c.locals,.int .i64 c.cache,.int .i64 c.stack,.int .i64 c.low,.slice A2 K.csh.length d2] 24)=w3 at *
 generalize w2.heap.size=X at *
 have h3:(3:Nat)=3:=rfl
 obtain ⟨k0,k1,k2,k3,k4,k5,k6,k7,k8,kf⟩:=HR.out.cells
 rw [HT.out] at k3
 go_wp2_with fail
 clear k0 k1 k2 k3 k4 k5 k6 k7 k8 kf h3
 go_loopw [3,22] (fun v i wr=>∃ j:Nat,j≤1∧i=.int .i64 (j:Int)∧Rl w3 O (8 * j) v wr) (fun _ i _=>1-(intOf i).toNat)
 case atStart=>exact ⟨0,Nat.zero_le _,rfl,Only.refl _ _,[],World.ownsRow_nil _ _ _ _,by simp,by simp⟩
 case round =>
  obtain ⟨j,hj,rfl,hpw,xs,hown,hxl,hxo⟩:=hrel
  obtain ⟨A,cc,rfl⟩:=own_form hown
  have HPW:=hid hpw
  have HOWN:=hid hown
  have HXO:=hid (And.intro hxl hxo)
  clear hpw hown hxl hxo
  by_cases hlt:j<1
  ·obtain rfl:j=0:=by omega
   clear hlt
   go_wp2_with fail
   refine (thread_h wr (HM.out.pure (HP3.out.then HPW.out))).mono ?_
   rintro e w4 ⟨v4,rfl,hp4,hown4⟩
   have HP4:=hid (HPW.out.then hp4)
   have HO4:Hid (w4.ownsRow w3.heap.size 3 1 (.slice A xs.length cc) xs.length (ints xs)):=hid (hp4.own HOWN.out (fun _ _ f=>f))
   obtain ⟨Av,cv,rfl⟩:=own_form hown4
   have HV4:=hid hown4
   clear hp4 hown4 HOWN HPW
   by_cases hph:s.phase=0∨s.phase=4
   ·rcases hph with hq | hq
    all_goals
     have HQ:=hid hq
     clear hq
     rw [HQ.out]
     go_wp2_with fail
     go_roundw
     case rel=>exact ⟨1,by omega,by first | rfl | simp,HP4.out,xs,HO4.out,by have:=HXO.out.1;omega,HXO.out.2⟩
     case measure=>simp [intOf]
   ·have hq0:(s.phase == 0)=false:=by simp;omega
    have hq4:(s.phase == 4)=false:=by simp;omega
    have HLL:Hid (∀ v∈s.locals,LocOk O v):=hid (HL.out (by omega) (by omega))
    have HF8:Hid (s.locals.length≤8):=hid HM.out.cys.sys.act.few
    clear hph
    obtain ⟨nl,hnl⟩:∃ nl:Nat,s.locals.length=nl:=⟨_,rfl⟩
    have HNL:=hid hnl
    have hn8:nl≤8:=by have:=HF8.out;omega
    rw [hnl]
    clear hnl
    go_wp2_with fail
    go_loopw [3,40] (fun v i wr=>∃ j:Nat,j≤nl∧i=.int .i64 (j:Int)∧wr.ownsRow 0 44 2 (.slice Av nl cv) nl (vals s.locals)∧Rl w3 O j v wr) (fun _ i _=>nl-(intOf i).toNat)
    case atStart=>exact ⟨0,Nat.zero_le _,rfl,by have h1:=HV4.out;rw [HNL.out] at h1;exact own_mono h1 (Nat.zero_le _),HP4.out,xs,HO4.out,HXO.out.1,HXO.out.2⟩
    case round =>
     clear hq0 hq4
     obtain ⟨k,hk,rfl,hv5,hpw,zs,hown,hzl,hzo⟩:=hrel
     obtain ⟨Az,cz,rfl⟩:=own_form hown
     have HV5:=hid hv5
     have HP5:=hid hpw
     have HOZ:=hid hown
     have HZO:=hid (And.intro hzl hzo)
     clear hv5 hpw hown hzl hzo
     by_cases hlt:k<nl
     ·obtain ⟨v,hv⟩:∃ v,s.locals[k]?=some v:=⟨_,List.getElem?_eq_getElem (by rw [HNL.out];omega)⟩
      have hlo:=HLL.out v (List.mem_of_getElem? hv)
      have hov:=HV5.out
      obtain ⟨gv,rfl⟩:∃ gv,Av=some ⟨gv,0,none⟩:=by
       rcases hov.2 with ⟨h1,h2⟩ | ⟨g,_,_,h1,_⟩
       ·omega
       ·injection h1 with h1;exact ⟨g,h1⟩
      have d0:wr.cell? ⟨gv,k * 2,none⟩=some (.bool v.1):=by rw [hov.cellAt (k * 2) (by omega)];exact vl_get hv 0 (by omega)
      have d1:wr.cell? ⟨gv,k * 2+1,none⟩=some (.complex .f64 v.2.1 v.2.2):=by rw [hov.cellAt (k * 2+1) (by omega)];exact vl_get hv 1 (by omega)
      obtain ⟨ri,rb,hix,hfin⟩:=hlo.ix
      obtain ⟨vr,vx,vy⟩:=v
      simp only [] at d0 d1 hix hfin
      have HIX:=hid hix
      have HFIN:=hid hfin
      clear hlo hov hv hix hfin
      go_upto_region 11 with fail
      obtain ⟨hp6,-,hg6⟩:=Ac.one_new wr #[.bool vr,.complex .f64 vx vy] 44
      have e0:(wr.alloc (.cells #[.bool vr,.complex .f64 vx vy] 44)).cell? ⟨wr.heap.size,0,none⟩=some (.bool vr):=by rw [cell_of_row (wr.alloc (.cells #[.bool vr,.complex .f64 vx vy] 44)) _ _ _ _ _ hg6];rfl
      have e1:(wr.alloc (.cells #[.bool vr,.complex .f64 vx vy] 44)).cell? ⟨wr.heap.size,1,none⟩=some (.complex .f64 vx vy):=by rw [cell_of_row (wr.alloc (.cells #[.bool vr,.complex .f64 vx vy] 44)) _ _ _ _ _ hg6];rfl
      have HP6:=hid hp6
      clear hp6 hg6
      generalize wr.alloc (.cells #[.bool vr,.complex .f64 vx vy] 44)=w6 at *
      generalize wr.heap.size=X6 at *
      have HPZ:Hid (Pure w3 w6):=hid (HP5.out.then HP6.out)
      have HV6:Hid (w6.ownsRow 0 44 2 (.slice (some ⟨gv,0,none⟩) nl cv) nl (vals s.locals)):=hid (HP6.out.own HV5.out (fun _ _ f=>f))
      have HOZ6:Hid (w6.ownsRow w3.heap.size 3 1 (.slice Az zs.length cz) zs.length (ints zs)):=hid (HP6.out.own HOZ.out (fun _ _ f=>f))
      clear HOZ HP5 HP6 HV5 d0 d1
      go_wp2_with fail
      refine (HIX.out _).mono ?_
      rintro e w7 ⟨rfl,rfl⟩
      cases vr with
      | false =>
       go_wp2_with fail
       go_roundw
       case rel=>exact ⟨k+1,by omega,by first | rfl | simp,HV6.out,HPZ.out,zs,HOZ6.out,by have:=HZO.out.1;omega,HZO.out.2⟩
       case measure=>simp [intOf];omega
      | true =>
       cases rb with
       | false =>
        go_wp2_with fail
        go_roundw
        case rel=>exact ⟨k+1,by omega,by first | rfl | simp,HV6.out,HPZ.out,zs,HOZ6.out,by have:=HZO.out.1;omega,HZO.out.2⟩
        case measure=>simp [intOf];omega
       | true =>
        obtain ⟨i,rfl,hOi⟩:=HFIN.out (by simp) rfl
        have HOI:=hid hOi
        clear hOi
        obtain ⟨i0,hi0,hz0,hz1,hz2⟩:=info_parts Po.int_info
        have hzl:zs.length≤1000000:=by have:=HZO.out.1;have:=HF8.out;have:=HNL.out;omega
        have hszB:Hid (w3.heap.size≤w6.heap.size):=hid HPZ.out.size
        go_wp2_with (at_builtin;refine wpList_app _ rfl (.tmp 55) (.tmp 57) _ rfl w3.heap.size 3 i0 _ 1 8 Tryz.underlying25 hi0 hz0 hz1 hz2 rfl (by omega) (.slice Az zs.length cz) zs.length _ rfl (World.ownsRow.alloc HOZ6.out _) _ 1 1 [.int .i64 (i:Int)] rfl (Src.row _ _ #[.int .i64 (i:Int)] 1 1 _ rfl rfl) (by simp [Value.oneCell']) (by simp only [maxLen];omega) (by omega) (by have:=hszB.out;simp;omega) ?_;intro v9 w9 hown9 hg9 hat9;obtain ⟨A9,n9,rfl⟩:=own_form hown9;have HO9:=hid hown9;have HW9:=hid (Rl.app HPZ.out HOZ6.out hg9 hown9 HZO.out HOI.out);clear hown9 hg9 hat9;go_frame)
        go_roundw
        case rel =>
         refine ⟨k+1,by omega,by first | rfl | simp,HW9.out.1.own HV6.out (fun q hq e=>?_),HW9.out.2⟩
         rcases HV6.out.2 with ⟨h1,-⟩ | ⟨g,cap,cur,h1,-,hgc,-⟩
         ·cases h1
         ·injection h1 with h1 h2 h3
          injection h1 with h1
          injection h1 with h1
          subst h1
          simp [Value.ownBlock] at hq
          subst hq
          exact own_ne HOZ6.out hgc (by decide) e
        case measure=>simp [intOf];omega
     ·obtain rfl:k=nl:=by omega
      clear hlt
      go_wp2_with fail
      go_roundw
      case rel=>exact ⟨1,by omega,by first | rfl | simp,HP5.out,zs,HOZ.out,by have:=HZO.out.1;have:=HF8.out;have:=HNL.out;omega,HZO.out.2⟩
      case measure=>simp [intOf]
  ·have hlt2:¬ ((j:Int)<1):=by omega
   have HJ1:Hid (j=1):=hid (by omega)
   clear hlt hj
   obtain ⟨k0,k1,k2,k3,k4,k5,k6,k7,k8,kf⟩:=(HR.out.keep HPW.out).cells
   rw [HT.out] at k3
   obtain ⟨gl,hgl⟩:∃ gl:Nat,c.globals=(gl:Int):=Int.eq_ofNat_of_zero_le hg0
   have HGL:=hid hgl
   rw [hgl] at k2
   have hg900:gl≤900:=by omega
   clear hgl
   go_wp2_with fail
   clear k0 k1 k2 k3 k4 k5 k6 k7 k8 kf
   go_loopw [3,63] (fun v i wr=>∃ j:Nat,j≤gl∧i=.int .i64 (j:Int)∧Rl w3 O (8+j) v wr) (fun _ i _=>gl-(intOf i).toNat)
   case atStart=>exact ⟨0,Nat.zero_le _,rfl,HPW.out,xs,HOWN.out,by have:=HXO.out.1;have:=HJ1.out;omega,HXO.out.2⟩
   case round =>
    obtain ⟨k,hk,rfl,hpw,zs,hown,hzl,hzo⟩:=hrel
    obtain ⟨Az,cz,rfl⟩:=own_form hown
    have HP5:=hid hpw
    have HOZ:=hid hown
    have HZO:=hid (And.intro hzl hzo)
    clear hpw hown hzl hzo
    by_cases hlt:k<gl
    ·obtain ⟨z,hz,hlo⟩:=HG.out k (by rw [HGL.out];omega)
     obtain ⟨ri,rb,hix,hfin⟩:=hlo.ix
     obtain ⟨vx,vy⟩:=z
     simp only [] at hix hfin
     have HIX:=hid hix
     have HFIN:=hid hfin
     have HZ:=hid hz
     clear hlo hix hfin hz
     obtain ⟨k0,k1,k2,k3,k4,k5,k6,k7,k8,kf⟩:=(HR.out.keep HP5.out).cells
     have hsh:ShsR wr wr.heap.size (.slice A2 K.csh.length d2) n2:=HS2.out.1.pure HP5.out
     have HSH:=hid hsh
     clear hsh
     go_wp2_with fail
     refine (global_in c _ n2 (k:Int) wr HSH.out HS2.out.2 (by omega) (by rw [HGL.out];omega)).mono ?_
     have e8:8 * c.frags+2 * c.spine+(k:Int)=((ad+k:Nat):Int):=by have:=HAD.out;omega
     rw [e8]
     rintro e w5 ⟨rfl,hp5⟩
     have HP6:Hid (Pure w3 w5):=hid (HP5.out.then hp5)
     have HOZ5:Hid (w5.ownsRow w3.heap.size 3 1 (.slice Az zs.length cz) zs.length (ints zs)):=hid (hp5.own HOZ.out (fun _ _ f=>f))
     clear hp5 e8 HOZ HP5 k0 k1 k2 k3 k4 k5 k6 k7 k8 kf
     obtain ⟨adk,hadk⟩:∃ adk:Nat,ad+k=adk:=⟨_,rfl⟩
     rw [hadk]
     have HZ2:Hid (m.words[adk]?=some (vx,vy)):=hid (by rw [← hadk];exact HZ.out)
     clear hadk
     go_wp2_with fail
     refine (peek_h adk (vx,vy) w5 (HM.out.pure (HP3.out.then HP6.out)) HZ2.out).mono ?_
     rintro e w6 ⟨rfl,rfl⟩
     go_wp2_with fail
     refine (HIX.out _).mono ?_
     rintro e w7 ⟨rfl,rfl⟩
     cases rb with
     | false =>
      go_wp2_with fail
      go_roundw
      case rel=>exact ⟨k+1,by omega,by first | rfl | simp,HP6.out,zs,HOZ5.out,by have:=HZO.out.1;omega,HZO.out.2⟩
      case measure=>simp [intOf];omega
     | true =>
      obtain ⟨i,rfl,hOi⟩:=HFIN.out (by simp) rfl
      have HOI:=hid hOi
      clear hOi
      obtain ⟨i0,hi0,hz0,hz1,hz2⟩:=info_parts Po.int_info
      have hzl:zs.length≤1000000:=by have:=HZO.out.1;omega
      have hszB:Hid (w3.heap.size≤w5.heap.size):=hid HP6.out.size
      go_wp2_with (at_builtin;refine wpList_app _ rfl (.tmp 80) (.tmp 82) _ rfl w3.heap.size 3 i0 _ 1 8 Tryz.underlying25 hi0 hz0 hz1 hz2 rfl (by omega) (.slice Az zs.length cz) zs.length _ rfl (World.ownsRow.alloc HOZ5.out _) _ 1 1 [.int .i64 (i:Int)] rfl (Src.row _ _ #[.int .i64 (i:Int)] 1 1 _ rfl rfl) (by simp [Value.oneCell']) (by simp only [maxLen];omega) (by omega) (by have:=hszB.out;simp;omega) ?_;intro v9 w9 hown9 hg9 hat9;obtain ⟨A9,n9,rfl⟩:=own_form hown9;have HO9:=hid hown9;have HW9:=hid (Rl.app HP6.out HOZ5.out hg9 hown9 HZO.out HOI.out);clear hown9 hg9 hat9;go_frame)
      go_roundw
      case rel=>exact ⟨k+1,by omega,by first | rfl | simp,HW9.out.2⟩
      case measure=>simp [intOf];omega
    ·obtain rfl:k=gl:=by omega
     clear hlt
     go_wp2_with fail
     go_ret
     exact ⟨_,rfl,Rl.base ⟨HP5.out,zs,HOZ.out,by have:=HZO.out.1;omega,HZO.out.2⟩ HP3.out⟩
end
end Vw
open Go.RowKit
open Ac (Vl CT)
abbrev tickV (p:Int) (d:Bool) (a1 a2 a3:Int) (v:Vl):Value:=.agg #[.int .i64 p,.bool d,.int .i64 a1,.int .i64 a2,.int .i64 a3,.bool v.1,.complex .f64 v.2.1 v.2.2]
theorem tick_cells {w:World} {X:Nat} {v0 v1 v2 v3 v4 v5 v6:Value} (h:w.heap[X]?=some (.cells #[v0,v1,v2,v3,v4,v5,v6] 48 (0,0))) :
  w.cell? ⟨X,0,none⟩=some v0∧w.cell? ⟨X,1,none⟩=some v1∧w.cell? ⟨X,2,none⟩=some v2∧w.cell? ⟨X,3,none⟩=some v3∧w.cell? ⟨X,4,none⟩=some v4∧w.cell? ⟨X,5,none⟩=some v5∧w.cell? ⟨X,6,none⟩=some v6:=by
 refine ⟨?_,?_,?_,?_,?_,?_,?_⟩ <;> (rw [cell_of_row w _ _ _ _ _ h];rfl)
section
variable {c:Cn} {K:Cor.Q} {κ:Nat→Nat} {m:Cor.St} {b:Ac.B} {s:Ac.St} {yb hb lg:Nat} {y:Cyc.St}
def C912 (x:Nat):Prop:=x=12
def MAns (w:World) (κ:Nat→Nat) (p:Int) (d:Bool) (a1 a2 a3:Int) (v:Vl) (P:World→(Nat→Nat)→Prop) (r:Ending) (w':World):Prop :=
 r=.returned (tickV p d a1 a2 a3 v)∧∃ κ',Ext CM w κ w' κ'∧P w' κ'
theorem hstep_0 (P:World→(Nat→Nat)→Prop) (w:World) (h:Mac w c K κ m b s yb y hb lg) (hP:∀ (w:World) (κ:Nat→Nat) (X i:Nat) (v:Value),κ X=9→P w κ→P (w.setCell ⟨X,i,none⟩ v) κ)
  (hc:∀ w1 κ1,Ext (fun x=>x=12) w κ w1 κ1→Mac w1 c K κ1 m b s yb y hb lg→Calls Tryz.prog 24 #[.pointer (some ⟨yb,0,none⟩),.pointer (some ⟨K.kb,0,none⟩)] w1 fun r w'=>r=.returned (.tuple #[])∧∃ κ',Ext CY w1 κ1 w' κ'∧P w' κ') :
  Calls Tryz.prog 10 #[.pointer (some ⟨hb,0,none⟩),.int .i64 0] w (MAns w κ 0 false 0 0 0 (false,0,0) P):=by
 have hne:lg≠hb:=fun e=>by have h1:=h.k12;rw [← e,h.k8] at h1;omega
 obtain ⟨hp1,-,hr1⟩:=Ac.one_new w #[.int .i64 0,.bool false,.int .i64 0,.int .i64 0,.int .i64 0,.bool false,.complex .f64 0 0] 48
 have h1:=h.pure9 hp1
 have HM1:=hid h1
 have HR1:=hid hr1
 have HP1:=hid hp1
 have HC:=hid (And.intro hc (And.intro hP hne))
 have HX1:Hid (paint w.heap.size κ 9 w.heap.size=9):=hid (paint_new (Nat.le_refl _))
 clear hp1 hr1 h1 h hc hP hne
 go_enter Tryz.func10,Tryz.ntmps10
 go_upto_region 1 with fail
 generalize w.alloc (.cells #[.int .i64 0,.bool false,.int .i64 0,.int .i64 0,.int .i64 0,.bool false,.complex .f64 0 0] 48)=w1 at *
 go_upto_region 2 with fail
 obtain ⟨hp2,-,hr2⟩:=Ac.one_new w1 #[.int .i64 0,.bool false,.int .i64 0,.int .i64 0,.int .i64 0,.bool false,.complex .f64 0 0] 48
 have HM2:=hid (HM1.out.pure9 hp2)
 have HP2:=hid (HP1.out.then hp2)
 have HR2:=hid (hp2.blk HR1.out)
 have HT2:=hid hr2
 have HX2:Hid (paint w1.heap.size (paint w.heap.size κ 9) 9 w.heap.size=9):=hid ((paint_old (Array.getElem?_eq_some_iff.1 HR1.out).1).trans HX1.out)
 have HY2:Hid (paint w1.heap.size (paint w.heap.size κ 9) 9 w1.heap.size=9):=hid (paint_new (Nat.le_refl _))
 have HS2:Hid (∀ k,k<w.heap.size→paint w1.heap.size (paint w.heap.size κ 9) 9 k=κ k):=hid (fun k hk=>(paint_old (Nat.lt_of_lt_of_le hk HP1.out.size)).trans (paint_old hk))
 have HYL:Hid (w.heap.size≤w1.heap.size):=hid HP1.out.size
 have HXY:Hid (w.heap.size≠w1.heap.size):=hid (by have:=(Array.getElem?_eq_some_iff.1 HR1.out).1;omega)
 clear hp2 hr2 HM1 HR1 HP1 HX1
 generalize w1.alloc (.cells #[.int .i64 0,.bool false,.int .i64 0,.int .i64 0,.int .i64 0,.bool false,.complex .f64 0 0] 48)=w2 at *
 generalize paint w1.heap.size (paint w.heap.size κ 9) 9=κ2 at *
 generalize w1.heap.size=Y at *
 have g0:=HM2.out.hp.p0
 have g1:=HM2.out.hp.p1
 obtain ⟨cc,g2⟩:=HM2.out.hp.p2
 obtain ⟨n3,g3⟩:=HM2.out.hp.p3
 have gf:=HM2.out.hp.fz
 go_upto_region 5 with fail
 have o3:Only (fun k=>k=hb) w2 (w2.setCell ⟨hb,3,none⟩ (.int .i64 (wrap64 (n3+1)))):=(Only.refl (fun k=>k=hb) w2).setCell (p:=⟨hb,3,none⟩) (fun _=>rfl) _
 have e3:Ext (fun x=>x=12) w2 κ2 (w2.setCell ⟨hb,3,none⟩ (.int .i64 (wrap64 (n3+1)))) κ2:=Ext.of (o3.mono (fun k _ hk=>by rw [hk];exact HM2.out.k12))
 have HE3:Hid (Ext (fun x=>x=12) w κ (w2.setCell ⟨hb,3,none⟩ (.int .i64 (wrap64 (n3+1)))) κ2):=hid ((⟨HP2.out.mono (fun _ _ f=>f.elim),HS2.out⟩:Ext (fun x=>x=12) w κ w2 κ2).trans e3)
 have HH3:=hid (HM2.out.hp.step HC.out.2.2 (wrap64 (n3+1)))
 have HM3:Hid (Mac (w2.setCell ⟨hb,3,none⟩ (.int .i64 (wrap64 (n3+1)))) c K κ2 m b s yb y hb lg):=hid ⟨HM2.out.cys.ext12 e3 (fun x hx=>.inr (by omega)),HH3.out,HM2.out.k12,HM2.out.k8⟩
 have HR3:=hid (e3.blk HR2.out (by rw [HX2.out];omega))
 have HT3:=hid (e3.blk HT2.out (by rw [HY2.out];omega))
 clear o3 e3 g0 g1 g2 g3 gf HR2 HT2 HM2 HH3
 generalize w2.setCell ⟨hb,3,none⟩ (.int .i64 (wrap64 (n3+1)))=w3 at *
 have g0:=HM3.out.hp.p0
 have g1:=HM3.out.hp.p1
 obtain ⟨cc3,g2⟩:=HM3.out.hp.p2
 have gr:=HM3.out.hp.row
 go_wp2_with fail
 go_still_tail 9,(by kernel_rfl)
 change wpList _ _ _ _ _ w3.drew
 have HM4:Hid (Mac w3.drew c K κ2 m b s yb y hb lg):=hid (HM3.out.pure ((Only.refl (fun _=>False) w3).drewN 1))
 have HE4:Hid (Ext (fun x=>x=12) w κ w3.drew κ2):=hid (HE3.out.trans (Ext.pure ((Only.refl (fun _=>False) w3).drewN 1)))
 have HR4:=hid (show w3.drew.heap[w.heap.size]?=_ from HR3.out)
 have HT4:=hid (show w3.drew.heap[Y]?=_ from HT3.out)
 clear HM3 HE3 HR3 HT3 g0 g1 g2 gr
 generalize w3.drew=w4 at *
 go_wp2_with fail
 refine (HC.out.1 w4 κ2 HE4.out HM4.out).mono ?_
 rintro r w5 ⟨rfl,κ5,e5,q5⟩
 have HE5:Hid (Ext CM w κ w5 κ5):=hid ((HE4.out.mono (fun x hx=>.inr (.inr (.inr hx)))).trans (e5.mono (fun x hx=>by unfold CY at hx;unfold CM;omega)))
 have HQ5:=hid q5
 have HR5:=hid (e5.blk HR4.out (by rw [HX2.out];unfold CY;omega))
 have HT5:=hid (e5.blk HT4.out (by rw [HY2.out];unfold CY;omega))
 have HX5:=hid ((e5.col (Array.getElem?_eq_some_iff.1 HR4.out).1).trans HX2.out)
 clear e5 q5 HR4 HT4 HE4 HM4
 obtain ⟨y0,y1,y2,y3,y4,y5,y6⟩:=tick_cells HT5.out
 obtain ⟨z0,z1,z2,z3,z4,z5,z6⟩:=tick_cells HR5.out
 have f1:=fun k=>frozen_of_row w5 w.heap.size k _ _ HR5.out
 go_wp2_with fail
 refine bodyPost_ret (v:=.agg #[.int .i64 0,.bool false,.int .i64 0,.int .i64 0,.int .i64 0,.bool false,.complex .f64 0 0]) (by simp [results,Tryz.results10,go_sem,z0,z1,z2,z3,z4,z5,z6]) rfl ⟨rfl,_,(((((((HE5.out.new (Nat.le_refl _) _ _).new (Nat.le_refl _) _ _).new (Nat.le_refl _) _ _).new (Nat.le_refl _) _ _).new (Nat.le_refl _) _ _).new (Nat.le_refl _) _ _).new (Nat.le_refl _) _ _),(HC.out.2.1 _ _ _ _ _ HX5.out (HC.out.2.1 _ _ _ _ _ HX5.out (HC.out.2.1 _ _ _ _ _ HX5.out (HC.out.2.1 _ _ _ _ _ HX5.out (HC.out.2.1 _ _ _ _ _ HX5.out (HC.out.2.1 _ _ _ _ _ HX5.out (HC.out.2.1 _ _ _ _ _ HX5.out HQ5.out)))))))⟩
theorem hstep_1 (a1 a2 a3:Int) (v:Vl) (d:Bool) (P:World→(Nat→Nat)→Prop) (w:World) (h:Mac w c K κ m b s yb y hb lg) (hP:∀ (w:World) (κ:Nat→Nat) (X i:Nat) (v:Value),κ X=9→P w κ→P (w.setCell ⟨X,i,none⟩ v) κ)
  (hc:∀ w1 κ1,Ext (fun x=>x=12) w κ w1 κ1→Mac w1 c K κ1 m b s yb y hb lg→Calls Tryz.prog 25 #[.pointer (some ⟨b.ab,0,none⟩),.pointer (some ⟨K.kb,0,none⟩)] w1 (Ans w1 κ1 a1 a2 a3 v d P)) :
  Calls Tryz.prog 10 #[.pointer (some ⟨hb,0,none⟩),.int .i64 1] w (MAns w κ 1 d a1 a2 a3 v P):=by
 obtain ⟨v1,v2,v3⟩:=v
 have hne:lg≠hb:=fun e=>by have h1:=h.k12;rw [← e,h.k8] at h1;omega
 obtain ⟨hp1,-,hr1⟩:=Ac.one_new w #[.int .i64 0,.bool false,.int .i64 0,.int .i64 0,.int .i64 0,.bool false,.complex .f64 0 0] 48
 have h1:=h.pure9 hp1
 have HM1:=hid h1
 have HR1:=hid hr1
 have HP1:=hid hp1
 have HC:=hid (And.intro hc (And.intro hP hne))
 have HX1:Hid (paint w.heap.size κ 9 w.heap.size=9):=hid (paint_new (Nat.le_refl _))
 clear hp1 hr1 h1 h hc hP hne
 go_enter Tryz.func10,Tryz.ntmps10
 go_upto_region 1 with fail
 generalize w.alloc (.cells #[.int .i64 0,.bool false,.int .i64 0,.int .i64 0,.int .i64 0,.bool false,.complex .f64 0 0] 48)=w1 at *
 go_upto_region 2 with fail
 obtain ⟨hp2,-,hr2⟩:=Ac.one_new w1 #[.int .i64 1,.bool false,.int .i64 0,.int .i64 0,.int .i64 0,.bool false,.complex .f64 0 0] 48
 have HM2:=hid (HM1.out.pure9 hp2)
 have HP2:=hid (HP1.out.then hp2)
 have HR2:=hid (hp2.blk HR1.out)
 have HT2:=hid hr2
 have HX2:Hid (paint w1.heap.size (paint w.heap.size κ 9) 9 w.heap.size=9):=hid ((paint_old (Array.getElem?_eq_some_iff.1 HR1.out).1).trans HX1.out)
 have HY2:Hid (paint w1.heap.size (paint w.heap.size κ 9) 9 w1.heap.size=9):=hid (paint_new (Nat.le_refl _))
 have HS2:Hid (∀ k,k<w.heap.size→paint w1.heap.size (paint w.heap.size κ 9) 9 k=κ k):=hid (fun k hk=>(paint_old (Nat.lt_of_lt_of_le hk HP1.out.size)).trans (paint_old hk))
 have HYL:Hid (w.heap.size≤w1.heap.size):=hid HP1.out.size
 have HXY:Hid (w.heap.size≠w1.heap.size):=hid (by have:=(Array.getElem?_eq_some_iff.1 HR1.out).1;omega)
 clear hp2 hr2 HM1 HR1 HP1 HX1
 generalize w1.alloc (.cells #[.int .i64 1,.bool false,.int .i64 0,.int .i64 0,.int .i64 0,.bool false,.complex .f64 0 0] 48)=w2 at *
 generalize paint w1.heap.size (paint w.heap.size κ 9) 9=κ2 at *
 generalize w1.heap.size=Y at *
 have g0:=HM2.out.hp.p0
 have g1:=HM2.out.hp.p1
 obtain ⟨cc,g2⟩:=HM2.out.hp.p2
 obtain ⟨n3,g3⟩:=HM2.out.hp.p3
 have gf:=HM2.out.hp.fz
 go_upto_region 5 with fail
 have o3:Only (fun k=>k=hb) w2 (w2.setCell ⟨hb,3,none⟩ (.int .i64 (wrap64 (n3+1)))):=(Only.refl (fun k=>k=hb) w2).setCell (p:=⟨hb,3,none⟩) (fun _=>rfl) _
 have e3:Ext (fun x=>x=12) w2 κ2 (w2.setCell ⟨hb,3,none⟩ (.int .i64 (wrap64 (n3+1)))) κ2:=Ext.of (o3.mono (fun k _ hk=>by rw [hk];exact HM2.out.k12))
 have HE3:Hid (Ext (fun x=>x=12) w κ (w2.setCell ⟨hb,3,none⟩ (.int .i64 (wrap64 (n3+1)))) κ2):=hid ((⟨HP2.out.mono (fun _ _ f=>f.elim),HS2.out⟩:Ext (fun x=>x=12) w κ w2 κ2).trans e3)
 have HH3:=hid (HM2.out.hp.step HC.out.2.2 (wrap64 (n3+1)))
 have HM3:Hid (Mac (w2.setCell ⟨hb,3,none⟩ (.int .i64 (wrap64 (n3+1)))) c K κ2 m b s yb y hb lg):=hid ⟨HM2.out.cys.ext12 e3 (fun x hx=>.inr (by omega)),HH3.out,HM2.out.k12,HM2.out.k8⟩
 have HR3:=hid (e3.blk HR2.out (by rw [HX2.out];omega))
 have HT3:=hid (e3.blk HT2.out (by rw [HY2.out];omega))
 clear o3 e3 g0 g1 g2 g3 gf HR2 HT2 HM2 HH3
 generalize w2.setCell ⟨hb,3,none⟩ (.int .i64 (wrap64 (n3+1)))=w3 at *
 have g0:=HM3.out.hp.p0
 have g1:=HM3.out.hp.p1
 obtain ⟨cc3,g2⟩:=HM3.out.hp.p2
 have gr:=HM3.out.hp.row
 go_upto_region 8 with fail
 go_cut [40] (fun _ wx=>∃ κ5,Ext CM w κ wx κ5∧P wx κ5∧wx.heap[w.heap.size]?=some (.cells #[.int .i64 0,.bool false,.int .i64 0,.int .i64 0,.int .i64 0,.bool false,.complex .f64 0 0] 48 (0,0))∧κ5 w.heap.size=9∧wx.heap[Y]?=some (.cells #[.int .i64 1,.bool d,.int .i64 a1,.int .i64 a2,.int .i64 a3,.bool v1,.complex .f64 v2 v3] 48 (0,0)))
 case first =>
  have HM4:Hid (Mac w3.drew c K κ2 m b s yb y hb lg):=hid (HM3.out.pure ((Only.refl (fun _=>False) w3).drewN 1))
  have HE4:Hid (Ext (fun x=>x=12) w κ w3.drew κ2):=hid (HE3.out.trans (Ext.pure ((Only.refl (fun _=>False) w3).drewN 1)))
  go_region_with (first | (go_at_call 25;refine (HC.out.1 w3.drew κ2 HE4.out HM4.out).mono ?_;rintro r w5 ⟨rfl,κ5,e5,q5⟩;have HR5:=hid (e5.blk HR3.out (by rw [HX2.out];exact Ac.nT));have HT5:=hid (e5.blk HT3.out (by rw [HY2.out];exact Ac.nT));obtain ⟨y0,y1,y2,y3,y4,y5,y6⟩:=tick_cells HT5.out;have f5:=fun k=>frozen_of_row w5 Y k _ _ HT5.out))
  all_goals
   go_wp2_with fail
   go_meet
   have hx5:=(e5.col (Array.getElem?_eq_some_iff.1 HR3.out).1).trans HX2.out
   have hy5:=(e5.col (Array.getElem?_eq_some_iff.1 HT3.out).1).trans HY2.out
   have hxy:w.heap.size≠Y:=HXY.out
   have hsm:=set_me (i:=1) (u:=.bool d) (set_me (i:=6) (u:=.complex .f64 v2 v3) (set_me (i:=5) (u:=.bool v1) (set_me (i:=4) (u:=.int .i64 a3) (set_me (i:=3) (u:=.int .i64 a2) (set_me (i:=2) (u:=.int .i64 a1) (HT5.out))))))
   exact ⟨κ5,(((((((HE4.out.mono (D:=CM) (fun x hx=>.inr (.inr (.inr hx)))).trans (e5.mono (D:=CM) (fun x hx=>.inl hx))).new HYL.out 2 (.int .i64 a1)).new HYL.out 3 (.int .i64 a2)).new HYL.out 4 (.int .i64 a3)).new HYL.out 5 (.bool v1)).new HYL.out 6 (.complex .f64 v2 v3)).new HYL.out 1 (.bool d),HC.out.2.1 _ _ Y 1 (.bool d) hy5 (HC.out.2.1 _ _ Y 6 (.complex .f64 v2 v3) hy5 (HC.out.2.1 _ _ Y 5 (.bool v1) hy5 (HC.out.2.1 _ _ Y 4 (.int .i64 a3) hy5 (HC.out.2.1 _ _ Y 3 (.int .i64 a2) hy5 (HC.out.2.1 _ _ Y 2 (.int .i64 a1) hy5 (q5)))))),set_other (i:=1) (u:=.bool d) (set_other (i:=6) (u:=.complex .f64 v2 v3) (set_other (i:=5) (u:=.bool v1) (set_other (i:=4) (u:=.int .i64 a3) (set_other (i:=3) (u:=.int .i64 a2) (set_other (i:=2) (u:=.int .i64 a1) (HR5.out) hxy) hxy) hxy) hxy) hxy) hxy,hx5,by simpa using hsm⟩
 case rest =>
  obtain ⟨κ5,e5,q5,hr5,hx5,ht5⟩:=hcut
  have HE5:=hid e5
  have HQ5:=hid q5
  have HX5:=hid hx5
  have HR5:=hid hr5
  have HT5:=hid ht5
  clear e5 q5 hx5 hr5 ht5 g0 g1 g2 gr
  obtain ⟨y0,y1,y2,y3,y4,y5,y6⟩:=tick_cells HT5.out
  obtain ⟨z0,z1,z2,z3,z4,z5,z6⟩:=tick_cells HR5.out
  have f1:=fun k=>frozen_of_row wc w.heap.size k _ _ HR5.out
  go_wp2_with fail
  refine bodyPost_ret (v:=.agg #[.int .i64 1,.bool d,.int .i64 a1,.int .i64 a2,.int .i64 a3,.bool v1,.complex .f64 v2 v3]) (by simp [results,Tryz.results10,go_sem,z0,z1,z2,z3,z4,z5,z6]) rfl ⟨rfl,_,(((((((HE5.out.new (Nat.le_refl _) _ _).new (Nat.le_refl _) _ _).new (Nat.le_refl _) _ _).new (Nat.le_refl _) _ _).new (Nat.le_refl _) _ _).new (Nat.le_refl _) _ _).new (Nat.le_refl _) _ _),(HC.out.2.1 _ _ _ _ _ HX5.out (HC.out.2.1 _ _ _ _ _ HX5.out (HC.out.2.1 _ _ _ _ _ HX5.out (HC.out.2.1 _ _ _ _ _ HX5.out (HC.out.2.1 _ _ _ _ _ HX5.out (HC.out.2.1 _ _ _ _ _ HX5.out (HC.out.2.1 _ _ _ _ _ HX5.out HQ5.out)))))))⟩
end
open Go.RowKit
open Ac (Vl CT)
structure Trx (w:World) (c:Cn) (κ:Nat→Nat) (xb:Nat) (v:Value) (sh:List Sh) (t:Tr.St):Prop where
 tr:Tr.At w xb c v sh t
 k11:κ xb=11
 k8:∀ k,Tr.Ro v sh t k→κ k=8
section
variable {w w':World} {c:Cn} {K:Cor.Q} {κ κ':Nat→Nat} {m m':Cor.St} {b:Ac.B} {s s':Ac.St} {yb hb lg xb:Nat} {y y':Cyc.St} {v:Value} {sh:List Sh} {t:Tr.St}
theorem Trx.ext {C:Nat→Prop} (h:Trx w c κ xb v sh t) (he:Ext C w κ w' κ') (hC:∀ x,C x→x≠8∧x≠11):Trx w' c κ' xb v sh t :=
 ⟨h.tr.only he.only (fun hx=>by rw [h.k11] at hx;exact (hC _ hx).2 rfl) (fun k hk hx=>by rw [h.k8 k hk] at hx;exact (hC _ hx).1 rfl),(he.same _ h.tr.lt).trans h.k11,fun k hk=>(he.same _ (h.tr.ro k hk).2).trans (h.k8 k hk)⟩
theorem Trx.cell9 (h:Trx w c κ xb v sh t) {X:Nat} (hX:κ X=9) (i:Nat) (u:Value):Trx (w.setCell ⟨X,i,none⟩ u) c κ xb v sh t :=
 h.ext (C:=fun x=>x=9) (Ext.of ((Only.refl (fun k=>k=X) w).setCell (p:=⟨X,i,none⟩) (fun _=>rfl) u |>.mono (fun k _ hk=>by rw [hk];exact hX))) (fun x hx=>by omega)
theorem Trx.of (h:Trc w c K κ m b s xb v sh t):Trx w c κ xb v sh t:=⟨h.tr,h.k11,h.k8⟩
theorem Trx.to (h:Trx w c κ xb v sh t) (hs:Sys w c K κ m b s):Trc w c K κ m b s xb v sh t:=⟨hs,h.tr,h.k11,h.k8⟩
def TrO (w:World) (c:Cn) (κ:Nat→Nat) (csh:List Sh) (tr:Value) (o:Option Tr.St):Prop:=∀ t,o=some t→∃ xb v sh,tr=.pointer (some ⟨xb,0,none⟩)∧Trx w c κ xb v sh t∧alike csh sh
theorem TrO.nil (w:World) (c:Cn) (κ:Nat→Nat) (csh:List Sh) (tr:Value):TrO w c κ csh tr none:=fun t e=>by cases e
theorem TrO.ext {C:Nat→Prop} {csh:List Sh} {tr:Value} {o:Option Tr.St} (h:TrO w c κ csh tr o) (he:Ext C w κ w' κ') (hC:∀ x,C x→x≠8∧x≠11):TrO w' c κ' csh tr o:=fun t e=>by
 obtain ⟨xb,v,sh,h1,h2,h3⟩:=h t e
 exact ⟨xb,v,sh,h1,h2.ext he hC,h3⟩
theorem TrO.cell9 {csh:List Sh} {tr:Value} {o:Option Tr.St} (h:TrO w c κ csh tr o) {X:Nat} (hX:κ X=9) (i:Nat) (u:Value):TrO (w.setCell ⟨X,i,none⟩ u) c κ csh tr o:=fun t e=>by
 obtain ⟨xb,v,sh,h1,h2,h3⟩:=h t e
 exact ⟨xb,v,sh,h1,h2.cell9 hX i u,h3⟩
structure Mt (w:World) (c:Cn) (K:Cor.Q) (κ:Nat→Nat) (m:Cor.St) (b:Ac.B) (s:Ac.St) (yb:Nat) (y:Cyc.St) (hb lg:Nat) (o:Option Tr.St):Prop where
 mac:Mac w c K κ m b s yb y hb lg
 tr:TrO w c κ K.csh y.tr o
theorem Mt.pure {o:Option Tr.St} (h:Mt w c K κ m b s yb y hb lg o) (hp:Pure w w'):Mt w' c K κ m b s yb y hb lg o :=
 ⟨h.mac.pure hp,h.tr.ext (C:=fun _=>False) (Ext.pure hp) (fun _ f=>f.elim)⟩
theorem mstep_1 {o:Option Tr.St} (a1 a2 a3:Int) (v:Vl) (d:Bool) (Q:Cor.St→Ac.St→Prop) (w:World) (h:Mt w c K κ m b s yb y hb lg o)
  (hc:∀ w1 κ1,Sys w1 c K κ1 m b s→Calls Tryz.prog 25 #[.pointer (some ⟨b.ab,0,none⟩),.pointer (some ⟨K.kb,0,none⟩)] w1 (Ans w1 κ1 a1 a2 a3 v d (fun w' κ'=>∃ m' s',Sys w' c K κ' m' b s'∧Q m' s'))) :
  Calls Tryz.prog 10 #[.pointer (some ⟨hb,0,none⟩),.int .i64 1] w fun e w'=>e=.returned (tickV 1 d a1 a2 a3 v)∧∃ κ' m' s',Ext CM w κ w' κ'∧Mt w' c K κ' m' b s' yb y hb lg o∧Q m' s':=by
 refine (hstep_1 a1 a2 a3 v d (fun w' κ'=>∃ m' s',Mt w' c K κ' m' b s' yb y hb lg o∧Q m' s') w h.mac (fun w κ X i u hX=>?_) (fun w1 κ1 he hm=>?_)).mono ?_
 ·rintro ⟨m',s',h1,h2⟩
  exact ⟨m',s',⟨h1.mac.cell9 hX i u,h1.tr.cell9 hX i u⟩,h2⟩
 ·refine (hc w1 κ1 hm.cys.sys).mono ?_
  rintro r w' ⟨hr,κ',he',m',s',hs,hq⟩
  refine ⟨hr,κ',he',m',s',⟨hm.acted he' hs,?_⟩,hq⟩
  exact (h.tr.ext he (fun x hx=>by omega)).ext he' (fun x hx=>by unfold CT at hx;omega)
 ·rintro e w' ⟨he,κ',hx,m',s',h1,h2⟩
  exact ⟨he,κ',m',s',hx,h1,h2⟩
theorem mstep_0 {o:Option Tr.St} (Q:Cor.St→Cyc.St→Option Tr.St→Prop) (w:World) (h:Mt w c K κ m b s yb y hb lg o)
  (hc:∀ w1 κ1,Cys w1 c K κ1 m b s yb y→TrO w1 c κ1 K.csh y.tr o→Calls Tryz.prog 24 #[.pointer (some ⟨yb,0,none⟩),.pointer (some ⟨K.kb,0,none⟩)] w1 (CAns w1 c K κ1 b s yb (.tuple #[]) (fun w' κ' m' y'=>∃ o',TrO w' c κ' K.csh y'.tr o'∧Q m' y' o'))) :
  Calls Tryz.prog 10 #[.pointer (some ⟨hb,0,none⟩),.int .i64 0] w fun e w'=>e=.returned (tickV 0 false 0 0 0 (false,0,0))∧∃ κ' m' y' o',Ext CM w κ w' κ'∧Mt w' c K κ' m' b s yb y' hb lg o'∧Q m' y' o':=by
 refine (hstep_0 (fun w' κ'=>∃ m' y' o',Mt w' c K κ' m' b s yb y' hb lg o'∧Q m' y' o') w h.mac (fun w κ X i u hX=>?_) (fun w1 κ1 he hm=>?_)).mono ?_
 ·rintro ⟨m',y',o',h1,h2⟩
  exact ⟨m',y',o',⟨h1.mac.cell9 hX i u,h1.tr.cell9 hX i u⟩,h2⟩
 ·refine (hc w1 κ1 hm.cys (h.tr.ext he (fun x hx=>by omega))).mono ?_
  rintro r w' ⟨hr,κ',m',y',he',hy,o',ht,hq⟩
  exact ⟨hr,κ',he',m',y',o',⟨hm.cycled he' hy,ht⟩,hq⟩
 ·rintro e w' ⟨he,κ',hx,m',y',o',h1,h2⟩
  exact ⟨he,κ',m',y',o',hx,h1,h2⟩
end
end Go.Proofs.YtpgdiceeimehiaaGreat
