/- Part 19 of the proof that spotop.TopOrder returns true for all arguments and leaves what was there as it was. -/
import Derived.Test.YtpgdiceeimehiaaGreatQ01
import Derived.Test.YtpgdiceeimehiaaGreatQ14
import Derived.Test.YtpgdiceeimehiaaGreatQ17
import Derived.Test.YtpgdiceeimehiaaGreatQ18
set_option maxRecDepth 100000
set_option maxHeartbeats 16000000
open Go.Lib (hid)
namespace Go.Proofs.YtpgdiceeimehiaaGreat
open Go.RowKit
def upI (n by_:Int):Int:=(n+by_-1) / by_
def dataI (k:Int):Int:=if k<1∨512<k then 0 else (k+7) / 8
def sizeI (a:Bool) (n:Nat) (k:Int):Int :=
 if mayB a n=false∨k<0∨512<k∨(a=false∧0<k) then -1 else if a then 1+dataI k else if n≤6 then 1 else 1+(n:Int) / 7
def spineI (a:Bool) (n:Nat) (k:Int):Int:=if mayB a n=false∨a=false∨dataI k≤4 then 0 else dataI k+2
def placeOk (a:Bool) (n:Nat) (k:Int):Bool:=mayB a n && !a && decide (0≤k) && decide (k<n)
def placeF (k:Int):Int:=if k<6 then 0 else 1+(k-6) / 7
def placeW (k:Int):Int:=if k<6 then 2+k else 1+(k-6) % 7
theorem up_any (n:Int) (d:Nat) (w:World) (h0:0≤n) (h1:n≤100000) (hd:d=7∨d=8) :
  Calls Tryz.prog 268 #[.int .i64 n,.int .i64 (d:Int)] w fun e w'=>e=.returned (.int .i64 (upI n d))∧w=w':=by
 rcases hd with rfl | rfl
 all_goals
  go_enter Tryz.func268,Tryz.ntmps268
  go_wp2
  go_ret
  exact ⟨ret_i (by simp [upI]),rfl⟩
theorem data_any (k:Int) (w:World):Calls Tryz.prog 264 #[.int .i64 k] w fun e w'=>e=.returned (.int .i64 (dataI k))∧w=w':=by
 by_cases h1:k<1
 ·go_enter Tryz.func264,Tryz.ntmps264
  go_wp2
  go_ret
  exact ⟨ret_i (by simp [dataI,h1]),rfl⟩
 ·by_cases h2:512<k
  ·go_enter Tryz.func264,Tryz.ntmps264
   go_wp2
   go_ret
   exact ⟨ret_i (by simp [dataI,h2]),rfl⟩
  ·go_enter Tryz.func264,Tryz.ntmps264
   go_wp2_with fail
   refine (up_any k 8 w (by omega) (by omega) (.inr rfl)).mono ?_
   rintro e w' ⟨rfl,rfl⟩
   go_wp2
   go_ret
   exact ⟨ret_i (by simp [dataI,upI];omega),rfl⟩
theorem size_any (a:Bool) (A:Option Addr) (n c:Nat) (k:Int) (w:World) (hn:n≤9223372036854775807) :
  Calls Tryz.prog 208 #[shV a A n c,.int .i64 k] w fun e w'=>e=.returned (.int .i64 (sizeI a n k))∧Pure w w':=by
 have hmb:mayB a n=true→n≤40:=mayB_le
 cases hm:mayB a n
 ·clear hmb
  go_enter Tryz.func208,Tryz.ntmps208
  go_wp2_with fail
  refine (may_any a A n c _ hn).mono ?_
  rintro e w1 ⟨rfl,hp1⟩
  have P1:=hid hp1
  clear hp1
  go_wp2
  go_ret
  exact ⟨ret_i (by simp [sizeI,hm]),Pure.then ((Only.refl _ _).alloc _) P1.out⟩
 ·have h40:=hmb hm
  clear hmb
  by_cases h1:k<0
  ·go_enter Tryz.func208,Tryz.ntmps208
   go_wp2_with fail
   refine (may_any a A n c _ hn).mono ?_
   rintro e w1 ⟨rfl,hp1⟩
   have P1:=hid hp1
   clear hp1
   go_wp2
   go_ret
   exact ⟨ret_i (by simp [sizeI,h1]),Pure.then ((Only.refl _ _).alloc _) P1.out⟩
  ·by_cases h2:512<k
   ·go_enter Tryz.func208,Tryz.ntmps208
    go_wp2_with fail
    refine (may_any a A n c _ hn).mono ?_
    rintro e w1 ⟨rfl,hp1⟩
    have P1:=hid hp1
    clear hp1
    go_wp2
    go_ret
    exact ⟨ret_i (by simp [sizeI,h2]),Pure.then ((Only.refl _ _).alloc _) P1.out⟩
   ·have HM:=hid hm
    cases a
    ·by_cases h3:0<k
     ·go_enter Tryz.func208,Tryz.ntmps208
      go_wp2_with fail
      refine (may_any false A n c _ hn).mono ?_
      rintro e w1 ⟨rfl,hp1⟩
      have c0:w1.cell? ⟨w.heap.size,0,none⟩=some (.bool false):=(hp1.cell (p:=⟨w.heap.size,0,none⟩) (by simp) (fun f=>f)).trans (by simp)
      have P1:=hid hp1
      clear hp1
      go_wp2
      go_ret
      exact ⟨ret_i (by simp [sizeI,h3]),Pure.then ((Only.refl _ _).alloc _) P1.out⟩
     ·by_cases h6:n≤6
      ·go_enter Tryz.func208,Tryz.ntmps208
       go_wp2_with fail
       refine (may_any false A n c _ hn).mono ?_
       rintro e w1 ⟨rfl,hp1⟩
       have c0:w1.cell? ⟨w.heap.size,0,none⟩=some (.bool false):=(hp1.cell (p:=⟨w.heap.size,0,none⟩) (by simp) (fun f=>f)).trans (by simp)
       have P1:=hid hp1
       clear hp1
       go_wp2
       go_ret
       exact ⟨ret_i (by rw [sizeI,if_neg (by simp [hm];omega)];simp [h6]),Pure.then ((Only.refl _ _).alloc _) P1.out⟩
      ·go_enter Tryz.func208,Tryz.ntmps208
       go_wp2_with fail
       refine (may_any false A n c _ hn).mono ?_
       rintro e w1 ⟨rfl,hp1⟩
       have c0:w1.cell? ⟨w.heap.size,0,none⟩=some (.bool false):=(hp1.cell (p:=⟨w.heap.size,0,none⟩) (by simp) (fun f=>f)).trans (by simp)
       have P1:=hid hp1
       clear hp1
       go_wp2_with fail
       refine (up_any _ 7 w1 (by omega) (by omega) (.inl rfl)).mono ?_
       rintro e w2 ⟨rfl,rfl⟩
       have eu:upI ((n:Int)-6) (7:Nat)=(n:Int) / 7:=by unfold upI;omega
       rw [eu]
       have q1:0≤(n:Int) / 7:=by omega
       have q2:(n:Int) / 7≤10:=by omega
       go_wp2
       go_ret
       exact ⟨ret_i (by rw [sizeI,if_neg (by simp [hm];omega)];simp [h6]),Pure.then ((Only.refl _ _).alloc _) P1.out⟩
    ·have hd0:0≤dataI k:=by unfold dataI;split <;> omega
     have hd1:dataI k≤64:=by unfold dataI;split <;> omega
     go_enter Tryz.func208,Tryz.ntmps208
     go_wp2_with fail
     refine (may_any true A n c _ hn).mono ?_
     rintro e w1 ⟨rfl,hp1⟩
     have c0:w1.cell? ⟨w.heap.size,0,none⟩=some (.bool true):=(hp1.cell (p:=⟨w.heap.size,0,none⟩) (by simp) (fun f=>f)).trans (by simp)
     have P1:=hid hp1
     clear hp1
     go_wp2_with fail
     refine (data_any k w1).mono ?_
     rintro e w2 ⟨rfl,rfl⟩
     go_wp2
     go_ret
     exact ⟨ret_i (by rw [sizeI,if_neg (by simp [hm];omega)];simp),Pure.then ((Only.refl _ _).alloc _) P1.out⟩
theorem spine_any (a:Bool) (A:Option Addr) (n c:Nat) (k:Int) (w:World) (hn:n≤9223372036854775807) :
  Calls Tryz.prog 240 #[shV a A n c,.int .i64 k] w fun e w'=>e=.returned (.int .i64 (spineI a n k))∧Pure w w':=by
 have hd0:0≤dataI k:=by unfold dataI;split <;> omega
 have hd1:dataI k≤64:=by unfold dataI;split <;> omega
 cases hm:mayB a n
 ·cases a
  all_goals
   go_enter Tryz.func240,Tryz.ntmps240
   go_wp2_with fail
   refine (may_any _ A n c _ hn).mono ?_
   rintro e w1 ⟨rfl,hp1⟩
   have P1:=hid hp1
   clear hp1
   go_wp2
   go_ret
   exact ⟨ret_i (by simp [spineI,hm]),Pure.then ((Only.refl _ _).alloc _) P1.out⟩
 ·cases a
  ·
   go_enter Tryz.func240,Tryz.ntmps240
   go_wp2_with fail
   refine (may_any false A n c _ hn).mono ?_
   rintro e w1 ⟨rfl,hp1⟩
   have c0:w1.cell? ⟨w.heap.size,0,none⟩=some (.bool false):=(hp1.cell (p:=⟨w.heap.size,0,none⟩) (by simp) (fun f=>f)).trans (by simp)
   have c1:w1.cell? ⟨w.heap.size,1,none⟩=some (.slice A n c):=(hp1.cell (p:=⟨w.heap.size,1,none⟩) (by simp) (fun f=>f)).trans (by simp)
   have P1:=hid hp1
   clear hp1
   go_wp2
   go_ret
   exact ⟨ret_i (by simp [spineI]),Pure.then ((Only.refl _ _).alloc _) P1.out⟩
  ·by_cases h4:dataI k≤4
   ·
    go_enter Tryz.func240,Tryz.ntmps240
    go_wp2_with fail
    refine (may_any true A n c _ hn).mono ?_
    rintro e w1 ⟨rfl,hp1⟩
    have c0:w1.cell? ⟨w.heap.size,0,none⟩=some (.bool true):=(hp1.cell (p:=⟨w.heap.size,0,none⟩) (by simp) (fun f=>f)).trans (by simp)
    have c1:w1.cell? ⟨w.heap.size,1,none⟩=some (.slice A n c):=(hp1.cell (p:=⟨w.heap.size,1,none⟩) (by simp) (fun f=>f)).trans (by simp)
    have P1:=hid hp1
    clear hp1
    go_wp2_with fail
    refine (data_any k w1).mono ?_
    rintro e w2 ⟨rfl,rfl⟩
    go_wp2
    go_ret
    exact ⟨ret_i (by simp [spineI,h4]),Pure.then ((Only.refl _ _).alloc _) P1.out⟩
   ·
    go_enter Tryz.func240,Tryz.ntmps240
    go_wp2_with fail
    refine (may_any true A n c _ hn).mono ?_
    rintro e w1 ⟨rfl,hp1⟩
    have c0:w1.cell? ⟨w.heap.size,0,none⟩=some (.bool true):=(hp1.cell (p:=⟨w.heap.size,0,none⟩) (by simp) (fun f=>f)).trans (by simp)
    have c1:w1.cell? ⟨w.heap.size,1,none⟩=some (.slice A n c):=(hp1.cell (p:=⟨w.heap.size,1,none⟩) (by simp) (fun f=>f)).trans (by simp)
    have P1:=hid hp1
    clear hp1
    go_wp2_with fail
    refine (data_any k w1).mono ?_
    rintro e w2 ⟨rfl,rfl⟩
    go_wp2_with fail
    refine (data_any k w1).mono ?_
    rintro e w2 ⟨rfl,rfl⟩
    go_wp2
    go_ret
    exact ⟨ret_i (by rw [spineI,if_neg (by simp [hm];omega)]),Pure.then ((Only.refl _ _).alloc _) P1.out⟩
theorem place_yes (a:Bool) (A:Option Addr) (n c:Nat) (k:Int) (w:World) (hn:n≤9223372036854775807) (h:placeOk a n k=true) :
  Calls Tryz.prog 209 #[shV a A n c,.int .i64 k] w fun e w'=>e=.returned (.tuple #[.int .i64 (placeF k),.int .i64 (placeW k),.bool true])∧Pure w w':=by
 simp only [placeOk,Bool.and_eq_true,decide_eq_true_eq,Bool.not_eq_true'] at h
 obtain ⟨⟨⟨hm,rfl⟩,h0⟩,hk⟩:=h
 have h40:=mayB_le hm
 have eF:placeF k=if k<6 then 0 else 1+(k-6) / 7:=rfl
 have eW:placeW k=if k<6 then 2+k else 1+(k-6) % 7:=rfl
 by_cases h6:k<6
 ·rw [if_pos h6] at eF eW
  have EF:=hid eF;have EW:=hid eW
  clear eF eW
  go_enter Tryz.func209,Tryz.ntmps209
  go_wp2_with fail
  refine (may_any false A n c _ hn).mono ?_
  rintro e w1 ⟨rfl,hp1⟩
  have c0:w1.cell? ⟨w.heap.size,0,none⟩=some (.bool false):=(hp1.cell (p:=⟨w.heap.size,0,none⟩) (by simp) (fun f=>f)).trans (by simp)
  have c1:w1.cell? ⟨w.heap.size,1,none⟩=some (.slice A n c):=(hp1.cell (p:=⟨w.heap.size,1,none⟩) (by simp) (fun f=>f)).trans (by simp)
  have P1:=hid hp1
  clear hp1
  go_wp2
  go_ret3
  exact ⟨by rw [EF.out,EW.out];rfl,Pure.then ((Only.refl _ _).alloc _) P1.out⟩
 ·rw [if_neg h6] at eF eW
  have EF:=hid eF;have EW:=hid eW
  clear eF eW
  have q0:0≤(k-6) / 7:=by omega
  have q1:(k-6) / 7≤10:=by omega
  have r0:=Int.emod_nonneg (k-6) (b:=7) (by decide)
  have r1:=Int.emod_lt_of_pos (k-6) (b:=7) (by decide)
  go_enter Tryz.func209,Tryz.ntmps209
  go_wp2_with fail
  refine (may_any false A n c _ hn).mono ?_
  rintro e w1 ⟨rfl,hp1⟩
  have c0:w1.cell? ⟨w.heap.size,0,none⟩=some (.bool false):=(hp1.cell (p:=⟨w.heap.size,0,none⟩) (by simp) (fun f=>f)).trans (by simp)
  have c1:w1.cell? ⟨w.heap.size,1,none⟩=some (.slice A n c):=(hp1.cell (p:=⟨w.heap.size,1,none⟩) (by simp) (fun f=>f)).trans (by simp)
  have P1:=hid hp1
  clear hp1
  go_wp2
  go_ret3
  exact ⟨by rw [EF.out,EW.out];rfl,Pure.then ((Only.refl _ _).alloc _) P1.out⟩
end Go.Proofs.YtpgdiceeimehiaaGreat
namespace Go.Proofs.YtpgdiceeimehiaaGreat.Pl
open Go.RowKit
open Go.ChangeMaps (setBlock)
theorem run_mkmap (t:TypeId) (w:World):(Instr.makeMap t none).run Tryz.prog w=.ok (.map (some w.heap.size)) (w.alloc (.map #[] 0)):=rfl
def natI (xs:List Nat):List Int:=xs.map Int.ofNat
theorem natI_len (xs:List Nat):(natI xs).length=xs.length:=by simp [natI]
theorem natI_get (xs:List Nat) (j x:Nat) (h:xs[j]?=some x):(natI xs).getD j 0=(x:Int):=by simp [natI,List.getD,h]
theorem frags_ok (c:Cn) (v:Value) (sh:List Sh) (gv:Value) (xs:List Nat) (w:World) (hl:ShsR w w.heap.size v sh) (hok:checkI c sh=0) (hg:SlI w w.heap.size gv (natI xs)) (hx:∀ x∈xs,(x:Int)<c.frags) (hnd:xs.Nodup) (hlen:xs.length≤2000) :
  Calls Tryz.prog 303 #[cnV c v,gv] w fun e w'=>e=.returned (.tuple #[.bool false,.bool false])∧Pure w w':=by
 obtain ⟨A,cc,rfl⟩:∃ A cc,v=.slice A sh.length cc:=by
  obtain ⟨⟨A,cc,rfl,_⟩,_⟩:=hl
  exact ⟨A,cc,rfl⟩
 have hb:=check_bd hok
 obtain ⟨Ag,cg,rfl,hlc,-,-,hgc⟩:=hg
 rw [natI_len] at hlc hgc
 have hr:=Row.new w c (.slice A sh.length cc)
 have HL:=hid (fun (w':World) (hp:Pure w w')=>hl.pure hp)
 have HR:=hid hr
 have HH:=hid (And.intro hok (And.intro hx hnd))
 have HB:=hid hb
 have HG:=hid hgc
 have HLC:=hid hlc
 have HLN:=hid (natI_len xs)
 rw [natI_len]
 clear hl hr hok hx hnd hb hgc hlc
 go_enter Tryz.func303,Tryz.ntmps303
 have hmk:=run_mkmap 82 (w.alloc (.cells #[.int .i64 c.frags,.int .i64 c.spine,.int .i64 c.globals,.int .i64 c.threads,.int .i64 c.locals,.int .i64 c.cache,.int .i64 c.stack,.int .i64 c.low,.slice A sh.length cc] 24))
 have hz:(w.alloc (.cells #[.int .i64 c.frags,.int .i64 c.spine,.int .i64 c.globals,.int .i64 c.threads,.int .i64 c.locals,.int .i64 c.cache,.int .i64 c.stack,.int .i64 c.low,.slice A sh.length cc] 24)).heap.size=w.heap.size+1:=by simp
 rw [hz] at hmk
 have hm0:=met_new (w.alloc (.cells #[.int .i64 c.frags,.int .i64 c.spine,.int .i64 c.globals,.int .i64 c.threads,.int .i64 c.locals,.int .i64 c.cache,.int .i64 c.stack,.int .i64 c.low,.slice A sh.length cc] 24))
 rw [hz] at hm0
 have HM0:=hid hm0
 have hp0:=(Only.refl (fun _=>False) (w.alloc (.cells #[.int .i64 c.frags,.int .i64 c.spine,.int .i64 c.globals,.int .i64 c.threads,.int .i64 c.locals,.int .i64 c.cache,.int .i64 c.stack,.int .i64 c.low,.slice A sh.length cc] 24))).alloc (.map #[] 0)
 have HR0:=hid (HR.out.keep hp0)
 clear hm0 hp0 hz HR
 go_upto_region 2 with fail
 generalize (w.alloc (.cells #[.int .i64 c.frags,.int .i64 c.spine,.int .i64 c.globals,.int .i64 c.threads,.int .i64 c.locals,.int .i64 c.cache,.int .i64 c.stack,.int .i64 c.low,.slice A sh.length cc] 24)).alloc (.map #[] 0)=W at *
 go_wp2_with fail
 go_loopw [14] (fun i wr=>∃ j:Nat,j≤xs.length∧i=.int .i64 (j:Int)∧Only (fun k=>k=w.heap.size+1) W wr∧MetR wr (w.heap.size+1) (xs.take j)) (fun i _=>xs.length-(intOf i).toNat)
 case atStart=>exact ⟨0,Nat.zero_le _,rfl,Only.refl _ _,HM0.out⟩
 case round =>
  obtain ⟨j,hj,rfl,ho,hm⟩:=hrel
  have hrow:Row w w.heap.size c (.slice A sh.length cc) wr:=⟨HR0.out.1,ho.blk HR0.out.2.1 (by omega),HR0.out.2.2.trans ho (fun i hi e=>by omega)⟩
  have RR:=hid hrow
  have HO:=hid ho
  have HM:=hid hm
  clear hrow ho hm
  by_cases hlt:j<xs.length
  ·obtain ⟨x,hxj⟩:∃ x,xs[j]?=some x:=⟨_,List.getElem?_eq_getElem hlt⟩
   have hxm:=List.mem_of_getElem? hxj
   obtain ⟨g,off,hA,hgl,hgx⟩:=HG.out (by omega)
   have g0:wr.cell? ⟨g,off+j,none⟩=some (.int .i64 (x:Int)):=by
    rw [RR.out.2.2.cell (p:=⟨g,off+j,none⟩) hgl (fun f=>f),hgx j hlt,natI_get xs j x hxj]
   subst hA
   have HX:=hid (And.intro hxj hxm)
   obtain ⟨k0,k1,k2,k3,k4,k5,k6,k7,k8,kf⟩:=RR.out.cells
   clear hxj hxm hgx hgl
   go_wp2_with fail
   refine (frag_in c _ sh x 0 wr (HL.out wr RR.out.2.2) HH.out.1 (by omega) (HH.out.2.1 x HX.out.2) (by omega) (by omega)).mono ?_
   rintro e w2 ⟨rfl,hp2⟩
   have hm2:=HM.out.only hp2 (fun f=>f)
   have hnot:x ∉ xs.take j:=fun hin=>by
    obtain ⟨i,hi⟩:=List.mem_iff_getElem?.1 hin
    rw [List.getElem?_take] at hi
    split at hi
    ·have:=(List.getElem?_inj (by omega) HH.out.2.2).1 (hi.trans HX.out.1.symm)
     omega
    ·cases hi
   have hxs:x≤1000000:=by have:=HH.out.2.1 x HX.out.2;have:=HB.out;omega
   obtain ⟨es,clock,hpt,hmt⟩:=met_put hm2 hxs hnot
   have hmt':MetR (setBlock w2 (w.heap.size+1) (.map es clock)) (w.heap.size+1) (xs.take (j+1)):=by rw [List.take_add_one,HX.out.1];exact hmt
   have HMT:=hid hmt'
   have HO2:=hid ((HO.out.trans (hp2.mono (fun _ _ f=>f.elim)) (fun _ _ h=>h)).trans (set_only w2 (w.heap.size+1) (.map es clock)) (fun _ _ h=>h))
   clear hp2 hm2 hmt hmt' hnot hxs k0 k1 k2 k3 k4 k5 k6 k7 k8 kf g0
   go_wp2_with fail
   exact ⟨⟨j+1,hlt,by go_num,HO2.out,HMT.out⟩,by simp [intOf];omega⟩
  ·obtain rfl:j=xs.length:=by omega
   clear hlt
   have hln:=met_len HM.out
   rw [List.take_length] at hln
   go_wp2_with fail
   go_ret2
   exact ⟨rfl,RR.out.2.2⟩
theorem sh_cells {w:World} {X:Nat} {a b:Value} (h:w.heap[X]?=some (.cells #[a,b] 35 (0,0))):w.cell? ⟨X,0,none⟩=some a∧w.cell? ⟨X,1,none⟩=some b:=by
 refine ⟨?_,?_⟩ <;> (rw [cell_of_row w _ _ _ _ _ h];rfl)
abbrev cfO (c:Cn) (A:Option Addr) (l cc:Nat):Obj:=.cells #[.int .i64 c.frags,.int .i64 c.spine,.int .i64 c.globals,.int .i64 c.threads,.int .i64 c.locals,.int .i64 c.cache,.int .i64 c.stack,.int .i64 c.low,.slice A l cc] 24
theorem wrong_ok (c:Cn) (v:Value) (sh:List Sh) (k:Nat) (s:Sh) (n:Nat) (gv:Value) (xs:List Nat) (w:World) (hl:ShsR w w.heap.size v sh) (hok:checkI c sh=0) (hk:sh[k]?=some s) (hx0:s.bs.length≤1000000) (hsz:sizeI s.a s.bs.length n=xs.length)
  (hg:SlI w w.heap.size gv (natI xs)) (hx:∀ x∈xs,(x:Int)<c.frags) (hnd:xs.Nodup) (hlen:xs.length≤2000) :
  Calls Tryz.prog 259 #[cnV c v,.int .i64 (k:Int),.int .i64 (n:Int),.bool s.a,gv] w fun e w'=>∃ A d,e=.returned (.tuple #[.agg #[.bool s.a,.slice A s.bs.length d],.int .i64 0])∧Pure w w'∧SlG w' w'.heap.size (.slice A s.bs.length d) (bools s.bs)∧∀ k,(Value.slice A s.bs.length d).ownBlock=some k→w.heap.size≤k∧k<w'.heap.size:=by
 obtain ⟨A,cc,rfl⟩:∃ A cc,v=.slice A sh.length cc:=by
  obtain ⟨⟨A,cc,rfl,_⟩,_⟩:=hl
  exact ⟨A,cc,rfl⟩
 obtain ⟨Ag,cg,hgv,hlc,hcm⟩:=hg.len
 rw [natI_len] at hgv hlc
 have hW:Row w w.heap.size c (.slice A sh.length cc) (w.alloc (cfO c A sh.length cc)):=Row.new w c _
 obtain ⟨hp2,hz2,-,hn2⟩:=Ac.two_new w #[.int .i64 c.frags,.int .i64 c.spine,.int .i64 c.globals,.int .i64 c.threads,.int .i64 c.locals,.int .i64 c.cache,.int .i64 c.stack,.int .i64 c.low,.slice A sh.length cc] #[.bool false,.slice none 0 0] 24 35
 have HL:=hid (fun (w':World) (hp:Pure w w')=>hl.pure hp)
 have HG:=hid (fun (w':World) (hp:Pure w w')=>(hg.only hp (fun _ _ f=>f):SlI w' w'.heap.size gv (natI xs)))
 have HR1:=hid (hW.keep ((Only.refl (fun _=>False) _).alloc (.cells #[.bool false,.slice none 0 0] 35)))
 have HN:=hid hn2
 have HZ:=hid hz2
 have HH:=hid (And.intro hok (And.intro hk (And.intro hx (And.intro hnd hsz))))
 have HGV:=hid hgv
 subst hgv
 clear hl hg hok hk hx hnd hsz hp2 hz2 hn2 hW HGV
 go_enter Tryz.func259,Tryz.ntmps259
 go_upto_region 1 with fail
 generalize (w.alloc (cfO c A sh.length cc)).alloc (.cells #[.bool false,.slice none 0 0] 35)=W at *
 obtain ⟨k0,k1,k2,k3,k4,k5,k6,k7,k8,kf⟩:=HR1.out.cells
 refine wp_scope_hop 1 (fun C HC0=>?_)
 have HC:=hid HC0
 clear HC0
 go_wp2_with fail
 refine (frags_ok c _ sh _ xs W (HL.out W HR1.out.2.2) HH.out.1 (HG.out W HR1.out.2.2) HH.out.2.2.1 HH.out.2.2.2.1 hlen).mono ?_
 rintro e w2 ⟨rfl,hp2⟩
 have HR2:=hid (HR1.out.keep hp2)
 have HN2:=hid (hp2.blk HN.out)
 clear hp2 k0 k1 k2 k3 k4 k5 k6 k7 k8 kf HR1 HN
 obtain ⟨k0,k1,k2,k3,k4,k5,k6,k7,k8,kf⟩:=HR2.out.cells
 go_wp2_with fail
 refine (shape_in c _ sh k s w2 (HL.out w2 HR2.out.2.2) HH.out.2.1 hx0).mono ?_
 rintro e w3 ⟨A3,d3,rfl,hp3,hs3,hf3⟩
 have HR3:=hid (HR2.out.keep hp3)
 have HN3:=hid (hp3.blk HN2.out)
 have HS3:=hid hs3
 have HF3:Hid (∀ k,(Value.slice A3 s.bs.length d3).ownBlock=some k→w.heap.size+2≤k∧k<w3.heap.size):=hid (fun k hk=>by have:=hf3 k hk;have:=(Array.getElem?_eq_some_iff.1 HN2.out).1;omega)
 clear hp3 hs3 hf3 k0 k1 k2 k3 k4 k5 k6 k7 k8 kf HR2 HN2
 go_upto_region 4 with fail
 have hh4:=heap_alloc_new w3 (.cells #[.bool s.a,.slice A3 s.bs.length d3] 35)
 have hp4:=(Only.refl (fun _=>False) w3).alloc (.cells #[.bool s.a,.slice A3 s.bs.length d3] 35)
 have HB4:=hid hh4
 have HR4:=hid (HR3.out.keep hp4)
 have HN4:=hid (Pure.blk hp4 HN3.out)
 have HS4:=hid (HS3.out.pure hp4)
 have HZ4:Hid (w.heap.size+2≤w3.heap.size):=hid (by have:=HR3.out.2.2.size;have:=HZ.out;have:=(Array.getElem?_eq_some_iff.1 HN3.out).1;omega)
 clear hh4 hp4 HR3 HN3 HS3
 generalize w3.alloc (.cells #[.bool s.a,.slice A3 s.bs.length d3] 35)=w4 at *
 generalize w3.heap.size=X4 at *
 obtain ⟨k0,k1,k2,k3,k4,k5,k6,k7,k8,kf⟩:=HR4.out.cells
 go_wp2_with fail
 refine (check_any c _ sh w4 (HL.out w4 HR4.out.2.2)).mono ?_
 rw [HH.out.1]
 rintro e w5 ⟨rfl,hp5⟩
 have HR5:=hid (HR4.out.keep hp5)
 have HN5:=hid (hp5.blk HN4.out)
 have HB5:=hid (hp5.blk HB4.out)
 have HS5:=hid (HS4.out.pure hp5)
 clear hp5 k0 k1 k2 k3 k4 k5 k6 k7 k8 kf HR4 HN4 HB4 HS4
 obtain ⟨y0,y1⟩:=sh_cells HB5.out
 have i1:decide ((xs.length:Int)<0)=false:=by simp
 have hbl:s.bs.length≤9223372036854775807:=by omega
 go_wp2_with fail
 refine (size_any s.a A3 s.bs.length d3 n w5 hbl).mono ?_
 rw [HH.out.2.2.2.2]
 rintro e w6 ⟨rfl,hp6⟩
 have HR6:=hid (HR5.out.keep hp6)
 have HN6:=hid (hp6.blk HN5.out)
 have HB6:=hid (hp6.blk HB5.out)
 have HS6:=hid (HS5.out.pure hp6)
 clear hp6 y0 y1 HR5 HN5 HB5 HS5
 obtain ⟨y0,y1⟩:=sh_cells HB6.out
 go_wp2_with fail
 refine (size_any s.a A3 s.bs.length d3 n w6 hbl).mono ?_
 rw [HH.out.2.2.2.2]
 rintro e w7 ⟨rfl,hp7⟩
 have HR7:=hid (HR6.out.keep hp7)
 have HN7:=hid (hp7.blk HN6.out)
 have HB7:=hid (hp7.blk HB6.out)
 have HS7:=hid (HS6.out.pure hp7)
 clear hp7 y0 y1 HR6 HN6 HB6 HS6
 obtain ⟨y0,y1⟩:=sh_cells HB7.out
 obtain ⟨z0,z1⟩:=sh_cells HN7.out
 have fz:=fun k=>frozen_of_row w7 (w.heap.size+1) k _ _ HN7.out
 have n1:X4≠w.heap.size+1:=by have:=HZ4.out;omega
 go_wp2_with fail
 go_step3
 clear HC
 go_wp2_with fail
 simp only [Hop_ret]
 have ho:Only (fun k=>k=w.heap.size+1) w7 ((w7.setCell ⟨w.heap.size+1,0,none⟩ (.bool s.a)).setCell ⟨w.heap.size+1,1,none⟩ (.slice A3 s.bs.length d3)):=((Only.refl (fun k=>k=w.heap.size+1) w7).setCell (p:=⟨w.heap.size+1,0,none⟩) (fun _=>rfl) _).setCell (p:=⟨w.heap.size+1,1,none⟩) (fun _=>rfl) _
 refine bodyPost_ret (v:=.tuple #[.agg #[.bool s.a,.slice A3 s.bs.length d3],.int .i64 0]) (by simp [results,Tryz.results259,go_sem,z0,z1]) rfl ⟨A3,d3,rfl,HR7.out.2.2.trans ho (fun i hi e=>by omega),HS7.out.only ho (fun k hk e=>by have:=HF3.out k hk;omega),fun k hk=>by have:=HF3.out k hk;have:=(Array.getElem?_eq_some_iff.1 HB7.out).1;simp [World.setCell];omega⟩
end Go.Proofs.YtpgdiceeimehiaaGreat.Pl
namespace Go.Proofs.YtpgdiceeimehiaaGreat.Pl
open Go.RowKit
theorem idx8 (ws:List (Nat × Nat)) (hl:ws.length=8) (j:Nat) (z:Nat × Nat) (h:ws[j]?=some z) (w:World):(Instr.index 299 (.agg (Mm.row ws).toArray) (.int .i64 (j:Int))).run Tryz.prog w=.ok (.complex .f64 z.1 z.2) w:=by
 obtain ⟨i0,hi0,hz0,hz1,hz2⟩:=info_parts Mm.cx_info
 have hj:j<8:=by have:=(List.getElem?_eq_some_iff.1 h).1;omega
 have hr:=Mm.row_get ws j z h
 simp [Instr.index,asIntOf,run_underlying Tryz.underlying299,sizeOf,typeInfo,hi0,hz1,part,isAgg,run_underlying Tryz.underlying30,hj,hr]
def blankW (r:Bool):Nat × Nat:=if r then noneW else (0,0)
theorem blank_any (r:Bool) (w:World):Calls Tryz.prog 267 #[.bool r] w fun e w'=>e=.returned (.complex .f64 (blankW r).1 (blankW r).2)∧w=w':=by
 cases r
 ·go_enter Tryz.func267,Tryz.ntmps267
  go_wp2_with fail
  refine (whole_in 0 w (by omega) (by omega)).mono ?_
  rw [show floatOfInt .f64 0=0 from by decide +kernel]
  rintro e w1 ⟨rfl,rfl⟩
  go_wp2_with fail
  go_ret
  exact ⟨rfl,rfl⟩
 ·go_enter Tryz.func267,Tryz.ntmps267
  go_wp2_with fail
  refine (none_any w).mono ?_
  rintro e w1 ⟨rfl,rfl⟩
  go_wp2_with fail
  go_ret
  exact ⟨rfl,rfl⟩
open Ac (Wr wrs wrL wr_len)
def wholeJ (i:Nat) (ws:List (Nat × Nat)) (j:Nat):List Wr:=(List.range j).map fun k=>(((8 * i+k:Nat):Int),ws.getD k (0,0))
def wholeL (i:Nat) (ws:List (Nat × Nat)):List Wr:=wholeJ i ws 8
theorem wholeJ_succ (i:Nat) (ws:List (Nat × Nat)) (j:Nat):wholeJ i ws (j+1)=wholeJ i ws j++[(((8 * i+j:Nat):Int),ws.getD j (0,0))]:=by simp [wholeJ,List.range_succ]
theorem wholeJ_len (i:Nat) (ws:List (Nat × Nat)) (j:Nat):(wholeJ i ws j).length=j:=by simp [wholeJ]
theorem wrs_snoc (l:List Wr) (x:Wr):wrs (l++[x])=wrs l++[.int .i64 x.1,.complex .f64 x.2.1 x.2.2]:=by simp [wrs,wrL]
theorem wr_info:(Tryz.prog.info? 249).map (fun i=>(i.zero,i.size,i.bytes))=some (some (.agg #[.int .i64 0,.complex .f64 0 0]),2,24):=by kernel_rfl
theorem whole_any (c:Cn) (v:Value) (sh:List Sh) (lv:Value) (l:List Wr) (B i:Nat) (z0 z1 z2 z3 z4 z5 z6 z7:Nat × Nat) (w:World) (hl:ShsR w w.heap.size v sh) (hcB:∀ k,CfS v sh k→k<B) (hB:B≤w.heap.size) (hok:checkI c sh=0) (hi:(i:Int)<c.frags)
  (hown:w.ownsRow B 249 2 lv l.length (wrs l)) (hlen:l.length≤100000) :
  Calls Tryz.prog 262 #[cnV c v,lv,.int .i64 (i:Int),.agg #[.complex .f64 z0.1 z0.2,.complex .f64 z1.1 z1.2,.complex .f64 z2.1 z2.2,.complex .f64 z3.1 z3.2,.complex .f64 z4.1 z4.2,.complex .f64 z5.1 z5.2,.complex .f64 z6.1 z6.2,.complex .f64 z7.1 z7.2]] w fun e w' =>
   ∃ v',e=.returned v'∧w'.ownsRow B 249 2 v' (l.length+8) (wrs (l++wholeL i [z0,z1,z2,z3,z4,z5,z6,z7]))∧Only (fun k=>lv.ownBlock=some k) w w'∧(v'.ownBlock=lv.ownBlock∨∃ k,v'.ownBlock=some k∧w.heap.size≤k):=by
 obtain ⟨i0,hi0,hz0,hz1,hz2⟩:=info_parts wr_info
 obtain ⟨A,cc,rfl⟩:∃ A cc,v=.slice A sh.length cc:=by
  obtain ⟨⟨A,cc,rfl,_⟩,_⟩:=hl
  exact ⟨A,cc,rfl⟩
 obtain ⟨Al,cl,rfl⟩:=own_form hown
 have hb:=check_bd hok
 have hi2:i≤1024:=by omega
 obtain ⟨hp2,hz2',hcf,hwd⟩:=Ac.two_new w #[.int .i64 c.frags,.int .i64 c.spine,.int .i64 c.globals,.int .i64 c.threads,.int .i64 c.locals,.int .i64 c.cache,.int .i64 c.stack,.int .i64 c.low,.slice A sh.length cc] #[.complex .f64 z0.1 z0.2,.complex .f64 z1.1 z1.2,.complex .f64 z2.1 z2.2,.complex .f64 z3.1 z3.2,.complex .f64 z4.1 z4.2,.complex .f64 z5.1 z5.2,.complex .f64 z6.1 z6.2,.complex .f64 z7.1 z7.2] 24 299
 have HL:=hid (fun (w':World) (hp:Only (fun k=>(Value.slice Al l.length cl).ownBlock=some k) w w')=>(hl.only hp (fun k hk e=>by have:=hcB k hk;have:=(hown.lt k e).1;omega):ShsR w' w'.heap.size (.slice A sh.length cc) sh))
 have HH:=hid (And.intro hok (And.intro hi (And.intro hB hb)))
 have HP:=hid hp2
 have HZ:=hid hz2'
 have HCF:=hid hcf
 have HOW:=hid hown
 have HOW2:=hid (hp2.own hown (fun _ _ f=>f))
 have HLT:Hid (∀ k,(Value.slice Al l.length cl).ownBlock=some k→k<w.heap.size):=hid (fun k hk=>(hown.lt k hk).2)
 obtain ⟨y0,y1,y2,y3,y4,y5,y6,y7⟩:_∧_∧_∧_∧_∧_∧_∧_:=⟨(cell_of_row _ _ 0 _ _ _ hwd).trans rfl,(cell_of_row _ _ 1 _ _ _ hwd).trans rfl,(cell_of_row _ _ 2 _ _ _ hwd).trans rfl,(cell_of_row _ _ 3 _ _ _ hwd).trans rfl,(cell_of_row _ _ 4 _ _ _ hwd).trans rfl,(cell_of_row _ _ 5 _ _ _ hwd).trans rfl,(cell_of_row _ _ 6 _ _ _ hwd).trans rfl,(cell_of_row _ _ 7 _ _ _ hwd).trans rfl⟩
 clear hl hcB hok hi hB hb hp2 hz2' hcf hown hwd
 go_enter Tryz.func262,Tryz.ntmps262
 go_wp2_with fail
 generalize (w.alloc (cfO c A sh.length cc)).alloc (.cells #[.complex .f64 z0.1 z0.2,.complex .f64 z1.1 z1.2,.complex .f64 z2.1 z2.2,.complex .f64 z3.1 z3.2,.complex .f64 z4.1 z4.2,.complex .f64 z5.1 z5.2,.complex .f64 z6.1 z6.2,.complex .f64 z7.1 z7.2] 299)=W at *
 clear y0 y1 y2 y3 y4 y5 y6 y7
 go_loopw [1,14] (fun v' i' wr=>∃ j:Nat,j≤8∧i'=.int .i64 (j:Int)∧wr.ownsRow B 249 2 v' (l.length+j) (wrs (l++wholeJ i [z0,z1,z2,z3,z4,z5,z6,z7] j))∧Only (fun k=>(Value.slice Al l.length cl).ownBlock=some k) W wr∧(v'.ownBlock=(Value.slice Al l.length cl).ownBlock∨∃ k,v'.ownBlock=some k∧w.heap.size+2≤k)) (fun _ i' _=>8-(intOf i').toNat)
 case atStart=>exact ⟨0,Nat.zero_le _,rfl,by rw [show l++wholeJ i [z0,z1,z2,z3,z4,z5,z6,z7] 0=l from by simp [wholeJ]];exact HOW2.out,Only.refl _ _,.inl rfl⟩
 case round =>
  obtain ⟨j,hj,rfl,ho',ho,hv'⟩:=hrel
  obtain ⟨A',c',rfl⟩:=own_form ho'
  have OWN:=hid ho'
  have HO:=hid ho
  have HV:=hid hv'
  have HO1:Hid (Only (fun k=>(Value.slice Al l.length cl).ownBlock=some k) w wr):=hid ((HP.out.mono (fun _ _ f=>f.elim)).trans ho (fun _ _ h=>h))
  have hrow:=ho.blk HCF.out (fun e=>by have:=HLT.out _ e;omega)
  have HROW:=hid hrow
  have HSZ:Hid (w.heap.size+2≤wr.heap.size):=hid (by have:=ho.size;have:=HZ.out;omega)
  clear ho' ho hv'
  by_cases hlt:j<8
  ·obtain ⟨k0,k1,k2,k3,k4,k5,k6,k7,k8⟩:_∧_∧_∧_∧_∧_∧_∧_∧_:=⟨(cell_of_row wr _ 0 _ _ _ hrow).trans rfl,(cell_of_row wr _ 1 _ _ _ hrow).trans rfl,(cell_of_row wr _ 2 _ _ _ hrow).trans rfl,(cell_of_row wr _ 3 _ _ _ hrow).trans rfl,(cell_of_row wr _ 4 _ _ _ hrow).trans rfl,(cell_of_row wr _ 5 _ _ _ hrow).trans rfl,(cell_of_row wr _ 6 _ _ _ hrow).trans rfl,(cell_of_row wr _ 7 _ _ _ hrow).trans rfl,(cell_of_row wr _ 8 _ _ _ hrow).trans rfl⟩
   obtain ⟨z,hz⟩:∃ z,[z0,z1,z2,z3,z4,z5,z6,z7][j]?=some z:=⟨_,List.getElem?_eq_getElem hlt⟩
   have hix:=idx8 [z0,z1,z2,z3,z4,z5,z6,z7] rfl j z hz wr
   simp only [Mm.row,List.map_cons,List.map_nil] at hix
   have hj8:(j:Int)<8:=by omega
   have HZJ:=hid hz
   clear hrow hz
   go_wp2_with fail
   refine (frag_in c _ sh i j wr (HL.out wr HO1.out) HH.out.1 (by omega) HH.out.2.1 (by omega) hj8).mono ?_
   rintro e w2 ⟨rfl,hp2⟩
   have hown1:=hp2.own OWN.out (fun _ _ f=>f)
   have OWN1:=hid hown1
   have HP2:=hid hp2
   have hsz1:B≤(w2.alloc (.cells #[.int .i64 (8 * (i:Int)+(j:Int)),.complex .f64 z.1 z.2] 249)).heap.size:=by have:=hp2.size;have:=HH.out.2.2.1;have:=HSZ.out;simp;omega
   clear hp2 hown1 k0 k1 k2 k3 k4 k5 k6 k7 k8 hix
   go_wp2_with (at_builtin;refine wpList_app _ rfl (.tmp 25) (.tmp 29) _ rfl B 249 i0 _ 2 24 Tryz.underlying130 hi0 hz0 hz1 hz2 rfl (by omega) (.slice A' (l.length+j) c') (l.length+j) (wrs (l++wholeJ i [z0,z1,z2,z3,z4,z5,z6,z7] j)) rfl (World.ownsRow.alloc (w:=w2) OWN1.out _) _ 1 1 [.int .i64 (8 * (i:Int)+(j:Int)),.complex .f64 z.1 z.2] rfl (Src.row w2 _ #[.int .i64 (8 * (i:Int)+(j:Int)),.complex .f64 z.1 z.2] 2 1 _ rfl rfl) (by simp [Value.oneCell']) (by simp only [maxLen];omega) (by omega) hsz1 ?_;intro v2 w3 hown2 hg2 hat2;have OWN2:=hid hown2;have G2:=hid hg2;have AT2:=hid hat2;clear hown2 hg2 hat2)
   go_roundw
   case rel =>
    have hzd:[z0,z1,z2,z3,z4,z5,z6,z7].getD j (0,0)=z:=by rw [List.getD_eq_getElem?_getD,HZJ.out];rfl
    refine ⟨j+1,hlt,by go_num,?_,((HO.out.trans (HP2.out.mono (fun _ _ f=>f.elim)) (fun _ _ h=>h)).alloc _).grown G2.out (fun k hk e=>?_),?_⟩
    ·have:=OWN2.out
     rw [wholeJ_succ,← List.append_assoc,wrs_snoc,hzd,show (((8 * i+j:Nat):Int))=8 * (i:Int)+(j:Int) from by omega]
     exact this
    ·rcases HV.out with hv | ⟨q,hq,hql⟩
     ·exact hv.symm.trans e
     ·rw [hq] at e
      injection e with e
      have:=HZ.out
      omega
    ·rcases AT2.out with ha | ha
     ·rw [ha]
      exact HV.out
     ·refine .inr ⟨_,ha,?_⟩
      have:=HP2.out.size
      have:=HSZ.out
      simp
      omega
   case measure=>simp [intOf];omega
  ·obtain rfl:j=8:=by omega
   clear hlt
   go_wp2_with fail
   go_ret
   refine ⟨_,rfl,OWN.out,HO1.out,?_⟩
   rcases HV.out with hv | ⟨q,hq,hql⟩
   ·exact .inl hv
   ·exact .inr ⟨q,hq,by omega⟩
end Go.Proofs.YtpgdiceeimehiaaGreat.Pl
