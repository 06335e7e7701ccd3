/- Part 33 of the proof that spotop.TopOrder returns true for all arguments and leaves what was there as it was. -/
import Derived.Shelf.Sort.Plain
import Derived.Ground.Names2Prog
import Derived.Shelf.Slices.In.SortNone
import Derived.Test.YtpgdiceeimehiaaGreatProg
import Derived.Sort.OwnSortedInts
import Derived.Test.YtpgdiceeimehiaaGreatQ03
import Derived.Test.YtpgdiceeimehiaaGreatQ17
import Derived.Test.YtpgdiceeimehiaaGreatQ32
set_option maxRecDepth 100000
set_option maxHeartbeats 16000000
open Go.Lib (hid)
namespace Go.Proofs.YtpgdiceeimehiaaGreat
open Go.RowKit
namespace Vw
theorem At.shaped {W0:World} {t:St} {w:World} {B vb hb X:Nat} {c:Cn} {v:Value} {sh:List Sh} {rv:Value} {bs:List Bool} {kd:Nat} (h:At w B vb hb c v sh t) (hp:Pure W0 w) (hB:W0.heap.size=B) (hr:SlG w w.heap.size rv (bools bs)) (hro:∀ k,rv.ownBlock=some k→k≠vb∧k<w.heap.size) (hf:∀ k,t.fv.ownBlock≠some k) (ht:∀ k,t.tv.ownBlock≠some k) (hX:vb<X) (hX2:X<w.heap.size) :
  Pure W0 (((w.setCell ⟨vb,10,none⟩ (.bool false)).setCell ⟨vb,11,none⟩ rv).setCell ⟨vb,13,none⟩ (.int .i64 (kd:Int)))∧At (((w.setCell ⟨vb,10,none⟩ (.bool false)).setCell ⟨vb,11,none⟩ rv).setCell ⟨vb,13,none⟩ (.int .i64 (kd:Int))) B vb hb c v sh { t with rv:=rv,bs:=bs,kind:=kd }∧∀ i,(((w.setCell ⟨vb,10,none⟩ (.bool false)).setCell ⟨vb,11,none⟩ rv).setCell ⟨vb,13,none⟩ (.int .i64 (kd:Int))).cell? ⟨X,i,none⟩=w.cell? ⟨X,i,none⟩:=by
 have hT:Only (fun q=>q=vb) w (((w.setCell ⟨vb,10,none⟩ (.bool false)).setCell ⟨vb,11,none⟩ rv).setCell ⟨vb,13,none⟩ (.int .i64 (kd:Int))):=(((Only.refl (fun q=>q=vb) w).setCell (p:=⟨vb,10,none⟩) (fun _=>rfl) _).setCell (p:=⟨vb,11,none⟩) (fun _=>rfl) _).setCell (p:=⟨vb,13,none⟩) (fun _=>rfl) _
 have hm:=set_me (i:=13) (u:=.int .i64 (kd:Int)) (set_me (i:=11) (u:=rv) (set_me (i:=10) (u:=.bool false) h.me))
 refine ⟨hp.trans hT (fun q hq hq2=>?_),⟨hm,h.conf.only hT (fun q hq e=>(h.ro q (.inl hq)).1 e),h.ok,hr.only hT (fun q hq e=>(hro q hq).1 e),hT.own h.frags (fun q hq _=>hf q hq),hT.own h.tos (fun q hq _=>ht q hq),h.new,fun q hq=>?_,fun q hq _=>hf q hq⟩,fun i=>hT.cell (p:=⟨X,i,none⟩) hX2 (fun e=>by simp at e;omega)⟩
 ·subst hq2;have:=h.new;omega
 ·rcases hq with hq | hq
  ·exact ⟨(h.ro q (.inl hq)).1,hf q,ht q,Nat.lt_of_lt_of_le (h.ro q (.inl hq)).2.2.2 hT.size⟩
  ·exact ⟨(hro q hq).1,hf q,ht q,Nat.lt_of_lt_of_le (hro q hq).2 hT.size⟩
theorem alike_get {l n:List Sh} (h:alike l n) {k:Nat} {s0:Sh} (hk:l[k]?=some s0):∃ t,n[k]?=some t∧t.a=s0.a∧t.bs=s0.bs:=by
 have h1:(n.map (fun s=>(s.a,s.bs)))[k]?=some (s0.a,s0.bs):=by
  rw [← show l.map (fun s=>(s.a,s.bs))=n.map (fun s=>(s.a,s.bs)) from h]
  simp [hk]
 rw [List.getElem?_map] at h1
 cases ht:n[k]? with
 | none=>rw [ht] at h1;cases h1
 | some t =>
  rw [ht] at h1
  simp only [Option.map_some,Option.some.injEq,Prod.mk.injEq] at h1
  exact ⟨t,rfl,h1.1,h1.2⟩
section
variable {B vb hb lg yb:Nat} {c:Cn} {K:Cor.Q} {κ:Nat→Nat} {m:Cor.St} {b:Ac.B} {s:Ac.St} {y:Cyc.St}
theorem looks_v (i kd md:Nat) (s0:Sh) (q:Tab.One) (xs:List Nat) (O:Nat→Prop) (w:World) (h:Mac w c K κ m b s yb y hb lg) (hx:∀ s∈K.csh,s.bs.length≤1000000) (hq:m.s.l[i]?=some q) (hqh:q.head=true) (hz:m.words[8 * i+1]?=some (headW kd md)) (hkd:K.csh[kd]?=some s0) (ha:s0.a=false) (hmd:md≤1) (hkn:kd≤1000) (ho:ObjW m.words c.frags s0.bs xs O) (hx0:xs[0]?=some i) :
  Calls Tryz.prog 73 #[.pointer (some ⟨hb,0,none⟩),.int .i64 (i:Int)] w fun e w'=>∃ vb v' n rv,e=.returned (.tuple #[.pointer (some ⟨vb,0,none⟩),.bool true])∧Lk w w.heap.size vb hb c v' n ⟨rv,s0.bs,i,kd,.slice none 0 0,[],.slice none 0 0,[]⟩ O xs.length 2000 xs w':=by
 have HM:=hid h
 have HQ:=hid (And.intro hq hqh)
 have HZ:=hid (And.intro hz (And.intro hkd ha))
 have HO:=hid (And.intro ho hx0)
 have HX:=hid hx
 clear h hq hqh hz hkd ha ho hx0 hx
 have hic:(i:Int)<c.frags:=HO.out.1.lt i (List.mem_of_getElem? HO.out.2)
 go_enter Tryz.func73,Tryz.ntmps73
 go_wp2_with fail
 refine (conf_h w HM.out HX.out).mono ?_
 rintro e w2 ⟨A2,d2,n2,rfl,hp2,hs2,hal2,hf2⟩
 have hm3:=heap_alloc_new w2 (.cells (cs hb c (.slice A2 K.csh.length d2) ⟨.slice none 0 0,[],i,0,.slice none 0 0,[],.slice none 0 0,[]⟩) 143)
 have hp3:Pure w2 (w2.alloc (.cells (cs hb c (.slice A2 K.csh.length d2) ⟨.slice none 0 0,[],i,0,.slice none 0 0,[],.slice none 0 0,[]⟩) 143)):=(Only.refl _ _).alloc _
 have HP3:=hid (hp2.then hp3)
 have HAL:=hid hal2
 have HAT:Hid (At (w2.alloc (.cells (cs hb c (.slice A2 K.csh.length d2) ⟨.slice none 0 0,[],i,0,.slice none 0 0,[],.slice none 0 0,[]⟩) 143)) w.heap.size w2.heap.size hb c (.slice A2 K.csh.length d2) n2 ⟨.slice none 0 0,[],i,0,.slice none 0 0,[],.slice none 0 0,[]⟩):=Lib.hid
  ⟨hm3,hs2.pure hp3,by rw [← hal2.check];exact HM.out.cys.sys.cor.ok,SlG.nil _ _,World.ownsRow_nil _ _ _ _,World.ownsRow_nil _ _ _ _,hp2.size,fun k hk=>by
   rcases hk with hk | hk
   ·have:=hf2 k hk;exact ⟨by omega,by simp [Value.ownBlock],by simp [Value.ownBlock],by simp;omega⟩
   ·simp [Value.ownBlock] at hk,fun k hk=>by simp [Value.ownBlock] at hk⟩
 clear hp2 hs2 hal2 hf2 hm3 hp3
 go_upto_region 2 with fail
 generalize w2.alloc (.cells (cs hb c (.slice A2 K.csh.length d2) ⟨.slice none 0 0,[],i,0,.slice none 0 0,[],.slice none 0 0,[]⟩) 143)=w3 at *
 generalize w2.heap.size=vb at *
 have hh:=head_h i q w3 (HM.out.pure HP3.out) HQ.out.1
 rw [HQ.out.2] at hh
 have HH:=hid hh
 clear hh
 go_wp2_with fail
 refine HH.out.mono ?_
 rintro e w4 ⟨rfl,hp4⟩
 have HP4:=hid (HP3.out.then hp4)
 have HA4:=hid (HAT.out.pure hp4)
 clear hp4 HH HAT HP3
 go_wp2_with fail
 refine (word_v i 1 (headW kd md) w4 HA4.out (HM.out.pure HP4.out) hic (by omega) HZ.out.1).mono ?_
 rintro e w5 ⟨rfl,hp5⟩
 have HP5:=hid (HP4.out.then hp5)
 have HA5:=hid (HA4.out.pure hp5)
 clear hp5 HA4 HP4
 go_wp2_with fail
 refine (tell_w kd md w5 (by omega) (by omega)).mono ?_
 rintro e w6 ⟨rfl,rfl⟩
 obtain ⟨t0,ht0,hta,htb⟩:=alike_get HAL.out HZ.out.2.1
 have HT0:=hid (And.intro ht0 (And.intro hta htb))
 have p1:=HA5.out.p1
 have p2:=HA5.out.p2
 have p3:=HA5.out.p3
 have p4:=HA5.out.p4
 have p5:=HA5.out.p5
 have p6:=HA5.out.p6
 have p7:=HA5.out.p7
 have p8:=HA5.out.p8
 have p9:=HA5.out.p9
 clear ht0 hta htb
 have hb40:s0.bs.length≤1000000:=by have:=HO.out.1.few;omega
 go_wp2_with fail
 refine (shape_in c _ n2 kd t0 w5 HA5.out.conf HT0.out.1 (by rw [HT0.out.2.2];exact hb40)).mono ?_
 rw [HT0.out.2.1,HT0.out.2.2,HZ.out.2.2]
 rintro e w7 ⟨A7,d7,rfl,hp7,hs7,hf7⟩
 have HP7:=hid (HP5.out.then hp7)
 have HA7:=hid (HA5.out.pure hp7)
 have HS7:=hid hs7
 have HF7:Hid (∀ k,(Value.slice A7 s0.bs.length d7).ownBlock=some k→w5.heap.size≤k∧k<w7.heap.size):=hid hf7
 have HV5:=hid HA5.out.lt
 clear hp7 hs7 hf7 p1 p2 p3 p4 p5 p6 p7 p8 p9 HA5 HP5
 go_upto_region 6 with fail
 obtain ⟨hp8,-,hg8⟩:=Ac.one_new w7 #[.bool false,.slice A7 s0.bs.length d7] 35
 have HP8:=hid (HP7.out.then hp8)
 have HA8:=hid (HA7.out.pure hp8)
 have HS8:=hid (HS7.out.pure hp8)
 have HG8:=hid hg8
 have HSZ8:Hid (w7.heap.size≤(w7.alloc (.cells #[.bool false,.slice A7 s0.bs.length d7] 35)).heap.size):=hid hp8.size
 have HX8:Hid (vb<w7.heap.size∧w7.heap.size<(w7.alloc (.cells #[.bool false,.slice A7 s0.bs.length d7] 35)).heap.size):=hid ⟨HA7.out.lt,(Array.getElem?_eq_some_iff.1 hg8).1⟩
 clear hp8 hg8 HA7 HP7 HS7
 generalize w7.alloc (.cells #[.bool false,.slice A7 s0.bs.length d7] 35)=w8 at *
 generalize w7.heap.size=X8 at *
 obtain ⟨y0,y1⟩:=Fd.shp_cells HG8.out
 have p10:=HA8.out.p10
 have p11:=HA8.out.p11
 have p13:=HA8.out.p13
 have ff:=HA8.out.fz
 rcases (by omega:md=0∨md=1) with rfl | rfl
 all_goals
  go_upto_region 9 with fail
  obtain ⟨hp9,ha9,hc9⟩:=At.shaped (X:=X8) (rv:=.slice A7 s0.bs.length d7) (bs:=s0.bs) (kd:=kd) HA8.out HP8.out rfl HS8.out (fun k hk=>⟨by have:=HF7.out k hk;have:=HV5.out;omega,by have:=HF7.out k hk;have:=HSZ8.out;omega⟩) (fun k=>by simp [Value.ownBlock]) (fun k=>by simp [Value.ownBlock]) HX8.out.1 HX8.out.2
  have HP9:=hid hp9
  have HA9:=hid ha9
  have y9:=(hc9 0).trans y0
  clear hp9 ha9 hc9 HA8 HP8 HS8 y0
  generalize ((w8.setCell ⟨vb,10,none⟩ (.bool false)).setCell ⟨vb,11,none⟩ (.slice A7 s0.bs.length d7)).setCell ⟨vb,13,none⟩ (.int .i64 (kd:Int))=w9 at *
  go_wp2_with fail
  refine (object_v xs O w w9 HA9.out HM.out HP9.out rfl ⟨rfl,rfl⟩ HO.out.1 HO.out.2).mono ?_
  rintro e w10 ⟨rfl,hl⟩
  have HL:=hid hl
  clear hl HA9 HP9 HM
  go_wp2_with fail
  go_ret2
  exact ⟨vb,_,n2,_,rfl,HL.out⟩
end
end Vw
open Go.RowKit
namespace Vw
open Pl (natI)
structure SetO (m:Cor.St) (c:Cn) (csh:List Sh) (O:Nat→Prop) (fr:Nat→List Nat):Prop where
 ob:∀ i,O i→∃ q kd md s0,m.s.l[i]?=some q∧q.head=true∧m.words[8 * i+1]?=some (headW kd md)∧csh[kd]?=some s0∧s0.a=false∧md≤1∧kd≤1000∧ObjW m.words c.frags s0.bs (fr i) O∧(fr i)[0]?=some i
 nd:∀ i,O i→(fr i).Nodup
 used:∀ i,O i→∀ x∈fr i,∃ q,m.s.l[x]?=some q∧q.st=2
 dj:∀ i j,O i→O j→i≠j→∀ x∈fr i,x ∉ fr j
section
variable {B vb hb lg yb:Nat} {c:Cn} {K:Cor.Q} {κ:Nat→Nat} {m:Cor.St} {b:Ac.B} {s:Ac.St} {y:Cyc.St} {O:Nat→Prop} {fr:Nat→List Nat}
theorem looks_s (i:Nat) (w:World) (h:Mac w c K κ m b s yb y hb lg) (hx:∀ s∈K.csh,s.bs.length≤1000000) (hS:SetO m c K.csh O fr) (hi:O i) :
  Calls Tryz.prog 73 #[.pointer (some ⟨hb,0,none⟩),.int .i64 (i:Int)] w fun e w'=>∃ vb kd v' n rv bs fv tv ts,e=.returned (.tuple #[.pointer (some ⟨vb,0,none⟩),.bool true])∧Pure w w'∧At w' w.heap.size vb hb c v' n ⟨rv,bs,i,kd,fv,natI (fr i),tv,ts⟩∧ts.length≤2000∧∀ x∈ts,∃ j:Nat,x=(j:Int)∧O j:=by
 obtain ⟨q,kd,md,s0,h1,h2,h3,h4,h5,h6,h7,h8,h9⟩:=hS.ob i hi
 refine (looks_v i kd md s0 q (fr i) O w h hx h1 h2 h3 h4 h5 h6 h7 h8 h9).mono ?_
 rintro e w' ⟨vb,v',n,rv,rfl,hp,fv,tv,ts,ha,hl,ht⟩
 have hfr:(fr i).take (fr i).length=fr i:=List.take_length
 rw [hfr] at ha
 exact ⟨vb,kd,v',n,rv,s0.bs,fv,tv,ts,rfl,hp,ha,hl,ht⟩
theorem look_s (i:Nat) (w:World) (h:Mac w c K κ m b s yb y hb lg) (hx:∀ s∈K.csh,s.bs.length≤1000000) (hS:SetO m c K.csh O fr) (hi:O i) :
  Calls Tryz.prog 30 #[.pointer (some ⟨hb,0,none⟩),.int .i64 (i:Int)] w fun e w'=>∃ (kd:Nat) (fv:Value),e=.returned (.tuple #[.agg #[.int .i64 (i:Int),.int .i64 (kd:Int),.int .i64 0,fv,.int .i64 (-1),.int .i64 0],.bool true])∧Pure w w'∧w'.ownsRow w.heap.size 3 1 fv (fr i).length (ints (natI (fr i))):=by
 have HM:=hid h
 have HX:=hid hx
 have HS:=hid hS
 have HI:=hid hi
 clear h hx hS hi
 go_enter Tryz.func30,Tryz.ntmps30
 obtain ⟨hp1,-,hg1⟩:=Ac.one_new w #[.int .i64 0,.int .i64 0,.int .i64 0,.slice none 0 0,.int .i64 0,.int .i64 0] 86
 have HM1:=hid (HM.out.pure hp1)
 have HP1:=hid hp1
 have HG1:=hid hg1
 have HSZ:Hid (w.heap.size≤(w.alloc (.cells #[.int .i64 0,.int .i64 0,.int .i64 0,.slice none 0 0,.int .i64 0,.int .i64 0] 86)).heap.size):=hid hp1.size
 clear hp1 hg1 HM
 go_wp2_with fail
 generalize w.alloc (.cells #[.int .i64 0,.int .i64 0,.int .i64 0,.slice none 0 0,.int .i64 0,.int .i64 0] 86)=w1 at *
 generalize hXe:w.heap.size=X at *
 have HXE:=hid hXe
 clear hXe
 refine (looks_s i w1 HM1.out HX.out HS.out HI.out).mono ?_
 rintro e w2 ⟨vb,kd,v',n,rv,bs,fv,tv,ts,rfl,hp2,ha2,-,-⟩
 have HP2:=hid hp2
 have HA2:=hid ha2
 have hg2:=hp2.blk HG1.out
 obtain ⟨A,cc,hfv⟩:=own_form ha2.frags
 have hfv2:fv=.slice A (fr i).length cc:=hfv.trans (by simp [natI])
 clear hfv
 subst hfv2
 have p12:=ha2.p12
 have p13:=ha2.p13
 have p14:=ha2.p14
 have p15:=ha2.p15
 have p16:=ha2.p16
 have p17:=ha2.p17
 dsimp only at p12 p13 p14 p15 p16 p17
 have z0:w2.cell? ⟨X,0,none⟩=some (.int .i64 0):=by rw [cell_of_row w2 _ _ _ _ _ hg2];rfl
 have z1:w2.cell? ⟨X,1,none⟩=some (.int .i64 0):=by rw [cell_of_row w2 _ _ _ _ _ hg2];rfl
 have z2:w2.cell? ⟨X,2,none⟩=some (.int .i64 0):=by rw [cell_of_row w2 _ _ _ _ _ hg2];rfl
 have z3:w2.cell? ⟨X,3,none⟩=some (.slice none 0 0):=by rw [cell_of_row w2 _ _ _ _ _ hg2];rfl
 have z4:w2.cell? ⟨X,4,none⟩=some (.int .i64 0):=by rw [cell_of_row w2 _ _ _ _ _ hg2];rfl
 have z5:w2.cell? ⟨X,5,none⟩=some (.int .i64 0):=by rw [cell_of_row w2 _ _ _ _ _ hg2];rfl
 have ff:=fun k=>frozen_of_row w2 X k _ _ hg2
 have HG2:=hid hg2
 have HF2:=hid ha2.frags
 clear hp2 ha2 hg2
 go_wp2_with fail
 have hme:=set_me (i:=5) (u:=.int .i64 0) (set_me (i:=4) (u:=.int .i64 (-1)) (set_me (i:=3) (u:=.slice A (fr i).length cc) (set_me (i:=2) (u:=.int .i64 0) (set_me (i:=1) (u:=.int .i64 (kd:Int)) (set_me (i:=0) (u:=.int .i64 (i:Int)) HG2.out)))))
 have hro:Only (fun q=>q=X) w2 ((((((w2.setCell ⟨X,0,none⟩ (.int .i64 (i:Int))).setCell ⟨X,1,none⟩ (.int .i64 (kd:Int))).setCell ⟨X,2,none⟩ (.int .i64 0)).setCell ⟨X,3,none⟩ (.slice A (fr i).length cc)).setCell ⟨X,4,none⟩ (.int .i64 (-1))).setCell ⟨X,5,none⟩ (.int .i64 0)):=((((((Only.refl (fun q=>q=X) w2).setCell (p:=⟨X,0,none⟩) (fun _=>rfl) _).setCell (p:=⟨X,1,none⟩) (fun _=>rfl) _).setCell (p:=⟨X,2,none⟩) (fun _=>rfl) _).setCell (p:=⟨X,3,none⟩) (fun _=>rfl) _).setCell (p:=⟨X,4,none⟩) (fun _=>rfl) _).setCell (p:=⟨X,5,none⟩) (fun _=>rfl) _
 clear ff z0 z1 z2 z3 z4 z5 p12 p13 p14 p15 p16 p17
 generalize (((((w2.setCell ⟨X,0,none⟩ (.int .i64 (i:Int))).setCell ⟨X,1,none⟩ (.int .i64 (kd:Int))).setCell ⟨X,2,none⟩ (.int .i64 0)).setCell ⟨X,3,none⟩ (.slice A (fr i).length cc)).setCell ⟨X,4,none⟩ (.int .i64 (-1))).setCell ⟨X,5,none⟩ (.int .i64 0)=w9 at *
 have z0:w9.cell? ⟨X,0,none⟩=some (.int .i64 (i:Int)):=by rw [cell_of_row w9 _ _ _ _ _ hme];rfl
 have z1:w9.cell? ⟨X,1,none⟩=some (.int .i64 (kd:Int)):=by rw [cell_of_row w9 _ _ _ _ _ hme];rfl
 have z2:w9.cell? ⟨X,2,none⟩=some (.int .i64 0):=by rw [cell_of_row w9 _ _ _ _ _ hme];rfl
 have z3:w9.cell? ⟨X,3,none⟩=some (.slice A (fr i).length cc):=by rw [cell_of_row w9 _ _ _ _ _ hme];rfl
 have z4:w9.cell? ⟨X,4,none⟩=some (.int .i64 (-1)):=by rw [cell_of_row w9 _ _ _ _ _ hme];rfl
 have z5:w9.cell? ⟨X,5,none⟩=some (.int .i64 0):=by rw [cell_of_row w9 _ _ _ _ _ hme];rfl
 refine bodyPost_ret (v:=.tuple #[.agg #[.int .i64 (i:Int),.int .i64 (kd:Int),.int .i64 0,.slice A (fr i).length cc,.int .i64 (-1),.int .i64 0],.bool true]) (by simp [results,Tryz.results30,go_sem,z0,z1,z2,z3,z4,z5]) rfl ⟨kd,_,rfl,?_,?_⟩
 ·exact (HP1.out.then HP2.out).trans hro (fun q hq hq2=>by have:=HXE.out;omega)
 ·have h1:=HF2.out
  have hl:(natI (fr i)).length=(fr i).length:=by simp [natI]
  rw [hl] at h1
  exact own_mono (hro.own h1 (fun q hq e=>own_ne h1 HG2.out (by decide) (e ▸ hq))) (by have:=HXE.out;have:=HSZ.out;omega)
theorem ulO:Tryz.prog.underlying 83=some (.map 3 4):=Tryz.underlying83
theorem takes_new (M k:Nat) (ks:List Nat) (w:World) (h:MetR w M ks) (hk:k≤1000000) (hn:k ∉ ks) :
  Calls Tryz.prog 33 #[.map (some M),.int .i64 (k:Int)] w fun e w'=>e=.returned (.bool true)∧Only (fun q=>q=M) w w'∧MetR w' M (ks++[k]):=by
 have hl:=met_lookT ulO h hk
 obtain ⟨es,clock,hp,hm⟩:=met_putT ulO h hk hn
 rw [decide_eq_false hn] at hl
 have HM:=hid hm
 clear h hm
 go_enter Tryz.func33,Tryz.ntmps33
 go_wp2_with fail
 go_ret
 exact ⟨rfl,set_only _ _ _,HM.out⟩
end
end Vw
end Go.Proofs.YtpgdiceeimehiaaGreat
namespace Go.Proofs
open Go.Shelf
def Tryz.lays189_ren:Go.Shelf.Ren:=⟨fun | 189=>74 | 125=>140 | 257=>139 | 128=>219 | 129=>220 | 294=>210 | 295=>211 | 296=>212 | 297=>213 | 298=>214 | 299=>215 | 216=>216 | 300=>217 | 301=>218 | 328=>269 | 329=>270 | 330=>271 | 331=>272 | 332=>273 | 215=>274 | 343=>304 | n=>n,fun | 28=>25 | 3=>3 | 46=>205 | 0=>0 | 51=>267 | 53=>269 | 4=>4 | 183=>261 | 182=>260 | 131=>180 | 5=>5 | 9=>9 | 218=>308 | 222=>283 | 228=>330 | 229=>38 | n=>n,fun | n=>n⟩
theorem Tryz.lays189:Go.Proofs.Lays.n189 Tryz.prog Tryz.lays189_ren:={
 mixed:=by kernel_rfl
 f125:=Tryz.func140.trans (congrArg some (by kernel_rfl))
 f128:=Tryz.func219.trans (congrArg some (by kernel_rfl))
 f129:=Tryz.func220.trans (congrArg some (by kernel_rfl))
 f189:=Tryz.func74.trans (congrArg some (by kernel_rfl))
 f215:=Tryz.func274.trans (congrArg some (by kernel_rfl))
 f216:=Tryz.func216.trans (congrArg some (by kernel_rfl))
 f257:=Tryz.func139.trans (congrArg some (by kernel_rfl))
 f294:=Tryz.func210.trans (congrArg some (by kernel_rfl))
 f295:=Tryz.func211.trans (congrArg some (by kernel_rfl))
 f296:=Tryz.func212.trans (congrArg some (by kernel_rfl))
 f297:=Tryz.func213.trans (congrArg some (by kernel_rfl))
 f298:=Tryz.func214.trans (congrArg some (by kernel_rfl))
 f299:=Tryz.func215.trans (congrArg some (by kernel_rfl))
 f300:=Tryz.func217.trans (congrArg some (by kernel_rfl))
 f301:=Tryz.func218.trans (congrArg some (by kernel_rfl))
 f328:=Tryz.func269.trans (congrArg some (by kernel_rfl))
 f329:=Tryz.func270.trans (congrArg some (by kernel_rfl))
 f330:=Tryz.func271.trans (congrArg some (by kernel_rfl))
 f331:=Tryz.func272.trans (congrArg some (by kernel_rfl))
 f332:=Tryz.func273.trans (congrArg some (by kernel_rfl))
 f343:=Tryz.func304.trans (congrArg some (by kernel_rfl))
 t0:=Tryz.underlying0
 a0:=Tryz.isAgg0
 z0:=Tryz.sizeOf0
 v0:=Tryz.zeroValue0
 t3:=Tryz.underlying3
 a3:=Tryz.isAgg3
 z3:=Tryz.sizeOf3
 v3:=Tryz.zeroValue3
 t4:=Tryz.underlying4
 a4:=Tryz.isAgg4
 z4:=Tryz.sizeOf4
 v4:=Tryz.zeroValue4
 t5:=Tryz.underlying5
 a5:=Tryz.isAgg5
 z5:=Tryz.sizeOf5
 v5:=Tryz.zeroValue5
 t9:=Tryz.underlying9
 a9:=Tryz.isAgg9
 z9:=Tryz.sizeOf9
 v9:=Tryz.zeroValue9
 t28:=Tryz.underlying25
 a28:=Tryz.isAgg25
 z28:=Tryz.sizeOf25
 v28:=Tryz.zeroValue25
 t46:=Tryz.underlying205
 a46:=Tryz.isAgg205
 z46:=Tryz.sizeOf205
 v46:=Tryz.zeroValue205
 t51:=Tryz.underlying267
 a51:=Tryz.isAgg267
 z51:=Tryz.sizeOf267
 v51:=Tryz.zeroValue267
 t53:=Tryz.underlying269
 a53:=Tryz.isAgg269
 z53:=Tryz.sizeOf269
 v53:=Tryz.zeroValue269
 t131:=Tryz.underlying180
 a131:=Tryz.isAgg180
 z131:=Tryz.sizeOf180
 v131:=Tryz.zeroValue180
 t182:=Tryz.underlying260
 a182:=Tryz.isAgg260
 z182:=Tryz.sizeOf260
 v182:=Tryz.zeroValue260
 t183:=Tryz.underlying261
 a183:=Tryz.isAgg261
 z183:=Tryz.sizeOf261
 v183:=Tryz.zeroValue261
 t218:=Tryz.underlying308
 a218:=Tryz.isAgg308
 z218:=Tryz.sizeOf308
 v218:=Tryz.zeroValue308
 t222:=Tryz.underlying283
 a222:=Tryz.isAgg283
 z222:=Tryz.sizeOf283
 v222:=Tryz.zeroValue283
 t228:=Tryz.underlying330
 a228:=Tryz.isAgg330
 z228:=Tryz.sizeOf330
 v228:=Tryz.zeroValue330
 t229:=Tryz.underlying38
 a229:=Tryz.isAgg38
 z229:=Tryz.sizeOf38
 v229:=Tryz.zeroValue38 }
open Go.Sort Go.RowKit in
theorem Tryz.slices_Sort_int (blk off cap:Nat) (zs:List Int) (w:World) (hH:Holds (Value.int .i64) w blk off zs.toArray) (hblk:blk<w.heap.size) (hsz:zs.length<4611686018427387904) :
  Calls Tryz.prog 74 #[.slice (some ⟨blk,off,none⟩) zs.length cap] w fun e w' =>
   e=.returned (.tuple #[])∧∃ n os,w'=grow (putRow (Value.int .i64) (Sort.ahead w n) blk off (zs.mergeSort fun x y=>decide (x≤y)).toArray) os:=Any.slices_Sort_int Tryz.lays189 blk off cap zs w hH hblk hsz
open Go.RowKit Go.Sort in
theorem Tryz.slices_Sort_int_none (p:Option Addr) (cap:Nat) (w:World) :
  Calls Tryz.prog 74 #[.slice p 0 cap] w fun e w'=>e=.returned (.tuple #[])∧w'=w:=Any.slices_Sort_int_none Tryz.lays189 p cap w
end Go.Proofs
namespace Go.Proofs.YtpgdiceeimehiaaGreat
open Go.RowKit
theorem sort_own (B:Nat) (zs:List Int) (v:Value) (w:World) (h:w.ownsRow B 3 1 v zs.length (ints zs)) (hl:zs.length≤1000000) :
  Calls Tryz.prog 74 #[v] w fun e w'=>e=.returned (.tuple #[])∧Only (fun k=>v.ownBlock=some k) w w'∧∃ ts:List Int,ts.length=zs.length∧(∀ x,x∈ts ↔ x∈zs)∧(zs.Nodup→ts.Nodup)∧w'.ownsRow B 3 1 v ts.length (ints ts):=by
 rcases h.2 with ⟨rfl,h0⟩ | ⟨g,cap,cur,rfl,hg,hb,h1,h2,h3,h4⟩
 ·have hz:zs=[]:=List.eq_nil_of_length_eq_zero h0
  subst hz
  refine (Tryz.slices_Sort_int_none none 0 w).mono ?_
  rintro e w' ⟨rfl,rfl⟩
  exact ⟨rfl,Only.refl _ _,[],rfl,by simp,fun _=>List.nodup_nil,h⟩
 ·rw [Nat.mul_one] at h4
  refine (Tryz.slices_Sort_int g 0 cap zs w (holds_of_blockI hb h4) (Array.getElem?_eq_some_iff.1 hb).1 (by omega)).mono ?_
  rintro e w' ⟨rfl,n,os,rfl⟩
  have hlen:(zs.mergeSort fun x y=>decide (x≤y)).length=zs.length:=List.length_mergeSort zs
  refine ⟨rfl,(Only.refl _ w).grown (grownBy_sortedI _) (fun k _ e=>e),zs.mergeSort (fun x y=>decide (x≤y)),hlen,fun x=>List.mem_mergeSort,fun hn=>(List.mergeSort_perm zs _).nodup_iff.2 hn,?_⟩
  have:=ownsRow_sortedI (w:=w) (n:=n) (os:=os) (cap:=cap) (e:=3) (ts:=zs.mergeSort fun x y=>decide (x≤y)) hlen hg hb h1 h2 h3
  rw [hlen]
  exact this
end Go.Proofs.YtpgdiceeimehiaaGreat
