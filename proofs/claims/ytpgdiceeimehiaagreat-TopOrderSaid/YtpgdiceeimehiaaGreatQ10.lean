/- Part 10 of the proof that spotop.TopOrder returns true for all arguments and leaves what was there as it was. -/
import Derived.Test.YtpgdiceeimehiaaGreatQ03
import Derived.Test.YtpgdiceeimehiaaGreatQ09
set_option maxRecDepth 100000
set_option maxHeartbeats 16000000
open Go.Lib (hid)
namespace Go.Proofs.YtpgdiceeimehiaaGreat.Sp
open Go.RowKit
def setAll (l:List Tab.One) (xs:List Nat) (st:Nat) (se:Bool):List Tab.One:=xs.foldl (fun l j=>l.set j ⟨st,false,se⟩) l
theorem setAll_len (l:List Tab.One) (xs:List Nat) (st:Nat) (se:Bool):(setAll l xs st se).length=l.length:=by
 induction xs generalizing l with
 | nil=>rfl
 | cons j xs ih=>show (setAll (l.set j _) xs st se).length=_;rw [ih,List.length_set]
theorem setAll_take (l:List Tab.One) (xs:List Nat) (st:Nat) (se:Bool) (m j:Nat) (h:xs[m]?=some j):setAll l (xs.take (m+1)) st se=(setAll l (xs.take m) st se).set j ⟨st,false,se⟩:=by
 rw [List.take_add_one,h]
 simp [setAll,List.foldl_append]
section
variable {w w':World} {c:Cn} {sh:List Sh} {q:Q} {s:St}
theorem At.stocked' {sv':Value} {sx':List Int} (h:At w c sh q s) (ho:Only (Sk.StkS q.s0 s.sv) w w') (ht:Sk.StkOf w' q.s0 c.cache sv' sx') (hf:∀ k,sv'.ownBlock=some k→s.sv.ownBlock=some k∨w.heap.size≤k):At w' c sh q { s with sv:=sv',sx:=sx' }:=by
 obtain ⟨n,hm⟩:=h.me
 obtain ⟨rest,hsr⟩:=h.srow
 obtain ⟨-,-,-,-,-,-,n1⟩:=h.ne_sp
 have m1:=h.stk.at_
 have m2:=h.stk.own
 have hF:∀ k,Sk.StkS q.s0 s.sv k→F q s k:=fun k hk=>.inr (.inr (.inr (.inr (.inr (.inr (.inr hk))))))
 have hF':∀ k,F q { s with sv:=sv',sx:=sx' } k→F q s k∨w.heap.size≤k:=fun k hk=>by
  rcases hk with hk | hk | hk | hk | hk | hk | hk | hk | hk
  ·exact .inl (.inl hk)
  ·exact .inl (.inr (.inl hk))
  ·exact .inl (.inr (.inr (.inl hk)))
  ·exact .inl (.inr (.inr (.inr (.inl hk))))
  ·exact .inl (.inr (.inr (.inr (.inr (.inl hk)))))
  ·exact .inl (.inr (.inr (.inr (.inr (.inr (.inl hk))))))
  ·exact .inl (.inr (.inr (.inr (.inr (.inr (.inr (.inl hk)))))))
  ·exact .inl (.inr (.inr (.inr (.inr (.inr (.inr (.inr (.inl hk))))))))
  ·rcases hf k hk with hf | hlt
   ·exact .inl (.inr (.inr (.inr (.inr (.inr (.inr (.inr (.inr hf))))))))
   ·exact .inr hlt
 refine ⟨⟨n,ho.blk hm n1⟩,h.tab.only ho ?_ ?_,h.pool.only ho ?_ ?_,h.coil.only ho ?_,h.line.only ho ?_ (fun e he k hk e'=>h.gv e he k hk (hF k e')),ht,⟨rest,ho.own hsr (fun k hk e=>(h.ro k (.inr hk)).1 (hF k e))⟩,h.conf.only ho (fun k hk e=>(h.ro k (.inl hk)).1 (hF k e)),h.ok,h.ns,fun k hk=>⟨fun hk'=>?_,Nat.lt_of_lt_of_le (h.ro k hk).2 ho.size⟩,fun e he k hk hk'=>?_⟩
 ·rintro (e | e);exact ne_types h.tab.mid.me m1 (by decide) e;exact own_ne m2 h.tab.mid.me (by decide) e
 ·rintro (e | e);exact ne_types h.tab.mid.row m1 (by decide) e;exact own_ne m2 h.tab.mid.row (by decide) e
 ·rintro (e | e);exact ne_types h.pool.mid.me m1 (by decide) e;exact own_ne m2 h.pool.mid.me (by decide) e
 ·rintro (e | e);exact ne_types h.pool.mid.row m1 (by decide) e;exact own_ne m2 h.pool.mid.row (by decide) e
 ·rintro (e | e);exact ne_types h.coil.me m1 (by decide) e;exact own_ne m2 h.coil.me (by decide) e
 ·rintro k (rfl | hk) (e | e)
  ·exact ne_types h.line.at_ m1 (by decide) e
  ·exact own_ne m2 h.line.at_ (by decide) e
  ·exact own_ne h.line.own m1 (by decide) (e ▸ hk)
  ·obtain ⟨cur,hc⟩:=own_block h.line.own hk
   exact own_ne m2 hc (by decide) e
 ·rcases hF' k hk' with h1 | h1
  ·exact (h.ro k hk).1 h1
  ·have:=(h.ro k hk).2;omega
 ·rcases hF' k hk' with h1 | h1
  ·exact h.gv e he k hk h1
  ·have:=((h.line.got e he).2 k hk).2;omega
theorem At.stocked {sv':Value} {sx':List Int} (h:At w c sh q s) (ho:Only (Sk.StkS q.s0 s.sv) w w') (ht:Sk.StkOf w' q.s0 c.cache sv' sx') (hf:sv'.ownBlock=s.sv.ownBlock∨∃ k,sv'.ownBlock=some k∧w.heap.size≤k):At w' c sh q { s with sv:=sv',sx:=sx' } :=
 h.stocked' ho ht (fun k hk=>by
  rcases hf with hf | ⟨k',hf,hlt⟩
  ·exact .inl (hf ▸ hk)
  ·rw [hf] at hk
   injection hk with hk
   exact .inr (hk ▸ hlt))
theorem At.lined {lv':Value} {en':List Ln.En} (h:At w c sh q s) (ho:Only (Ln.LineS q.li s.lv) w w') (ht:Ln.LineOf w' q.li lv' en') (hf:lv'.ownBlock=s.lv.ownBlock∨∃ k,lv'.ownBlock=some k∧w.heap.size≤k) (hg:∀ e∈en',∀ k,e.gv.ownBlock=some k→¬ F q s k∧lv'.ownBlock≠some k):At w' c sh q { s with lv:=lv',en:=en' }:=by
 obtain ⟨n,hm⟩:=h.me
 obtain ⟨rest,hsr⟩:=h.srow
 obtain ⟨-,-,-,-,-,n1,-⟩:=h.ne_sp
 have m1:=h.line.at_
 have m2:=h.line.own
 have hF:∀ k,Ln.LineS q.li s.lv k→F q s k:=fun k hk=>.inr (.inr (.inr (.inr (.inr (.inr (.inl hk))))))
 have hF':∀ k,F q { s with lv:=lv',en:=en' } k→F q s k∨lv'.ownBlock=some k:=fun k hk=>by
  rcases hk with hk | hk | hk | hk | hk | hk | (hk | hk) | hk
  ·exact .inl (.inl hk)
  ·exact .inl (.inr (.inl hk))
  ·exact .inl (.inr (.inr (.inl hk)))
  ·exact .inl (.inr (.inr (.inr (.inl hk))))
  ·exact .inl (.inr (.inr (.inr (.inr (.inl hk)))))
  ·exact .inl (.inr (.inr (.inr (.inr (.inr (.inl hk))))))
  ·exact .inl (.inr (.inr (.inr (.inr (.inr (.inr (.inl (.inl hk))))))))
  ·exact .inr hk
  ·exact .inl (.inr (.inr (.inr (.inr (.inr (.inr (.inr hk)))))))
 refine ⟨⟨n,ho.blk hm n1⟩,h.tab.only ho ?_ ?_,h.pool.only ho ?_ ?_,h.coil.only ho ?_,ht,h.stk.only ho ?_,⟨rest,ho.own hsr (fun k hk e=>(h.ro k (.inr hk)).1 (hF k e))⟩,h.conf.only ho (fun k hk e=>(h.ro k (.inl hk)).1 (hF k e)),h.ok,h.ns,fun k hk=>⟨fun hk'=>?_,Nat.lt_of_lt_of_le (h.ro k hk).2 ho.size⟩,fun e he k hk hk'=>?_⟩
 ·rintro (e | e);exact ne_types h.tab.mid.me m1 (by decide) e;exact own_ne m2 h.tab.mid.me (by decide) e
 ·rintro (e | e);exact ne_types h.tab.mid.row m1 (by decide) e;exact own_ne m2 h.tab.mid.row (by decide) e
 ·rintro (e | e);exact ne_types h.pool.mid.me m1 (by decide) e;exact own_ne m2 h.pool.mid.me (by decide) e
 ·rintro (e | e);exact ne_types h.pool.mid.row m1 (by decide) e;exact own_ne m2 h.pool.mid.row (by decide) e
 ·rintro (e | e);exact ne_types h.coil.me m1 (by decide) e;exact own_ne m2 h.coil.me (by decide) e
 ·rintro k (rfl | hk) (e | e)
  ·exact ne_types h.stk.at_ m1 (by decide) e
  ·exact own_ne m2 h.stk.at_ (by decide) e
  ·exact own_ne h.stk.own m1 (by decide) (e ▸ hk)
  ·obtain ⟨cur,hc⟩:=own_block h.stk.own hk
   exact own_ne m2 hc (by decide) e
 ·rcases hF' k hk' with h1 | h1
  ·exact (h.ro k hk).1 h1
  ·rcases hf with hf | ⟨k',hf,hlt⟩
   ·exact (h.ro k hk).1 (hF k (.inr (hf ▸ h1)))
   ·rw [hf] at h1;injection h1 with h1;have:=(h.ro k hk).2;omega
 ·rcases hF' k hk' with h1 | h1
  ·exact (hg e he k hk).1 h1
  ·exact (hg e he k hk).2 h1
end
section
variable (c:Cn) (sh:List Sh) (q:Q) (s:St)
theorem set_in (v:Value) (xs:List Nat) (st:Nat) (hst:st<3) (se:Bool) (w:World) (h:At w c sh q s) (hv:SlI w w.heap.size v (Po.natI xs)) (hn:∀ k,v.ownBlock=some k→¬ F q s k) (hx:∀ x∈xs,x<s.l.length):Calls Tryz.prog 169 #[.pointer (some ⟨q.sp,0,none⟩),v,.int .i64 (st:Int),.bool se] w fun e w'=>e=.returned (.tuple #[])∧Only (F q s) w w'∧At w' c sh q { s with l:=setAll s.l xs st se }:=by
 have hvl:∃ A cc,v=.slice A xs.length cc:=by
  obtain ⟨A,cc,e,-⟩:=hv
  exact ⟨A,cc,by rw [e];simp [Po.natI]⟩
 obtain ⟨A,cc,rfl⟩:=hvl
 have H:=hid h
 have HV:=hid hv
 have HN:=hid hn
 have HX:=hid hx
 have hlen:xs.length≤9223372036854775807:=by obtain ⟨A,cc,e,h1,h2,-⟩:=hv;injection e with _ e1 e2;simp only [maxLen] at h2;simp [Po.natI] at h1;omega
 clear h hv hn hx
 go_enter Tryz.func169,Tryz.ntmps169
 go_wp2_with fail
 go_loopw [12] (fun i wr=>∃ m:Nat,i=.int .i64 (m:Int)∧m≤xs.length∧Only (F q s) w wr∧At wr c sh q { s with l:=setAll s.l (xs.take m) st se }) (fun i _=>(xs.length-(intOf i).toNat))
 case atStart=>exact ⟨0,rfl,by omega,Only.refl _ _,H.out⟩
 case round =>
  obtain ⟨m,rfl,hm,ho,ha⟩:=hrel
  have HO:=hid ho
  have HA:=hid ha
  clear ho ha
  by_cases hlt:m<xs.length
  ·obtain ⟨j,hj⟩:∃ j,xs[m]?=some j:=⟨_,List.getElem?_eq_getElem hlt⟩
   have hjl:=HX.out j (List.mem_of_getElem? hj)
   obtain ⟨A',cc',e1,-,-,-,h4⟩:=HV.out.only HO.out HN.out
   injection e1 with e1 e2 e3
   subst e1
   obtain ⟨bv,off,rfl,-,hcell⟩:=h4 (by simp [Po.natI];omega)
   have cj:=hcell m (by simpa [Po.natI] using hlt)
   rw [show (Po.natI xs).getD m 0=(j:Int) from by simp [Po.natI,List.getD,hj]] at cj
   obtain ⟨o,hoo⟩:∃ o,(setAll s.l (xs.take m) st se)[j]?=some o:=⟨_,List.getElem?_eq_getElem (by rw [setAll_len];exact hjl)⟩
   have hst':=setAll_take s.l xs st se m j hj
   have HS:=hid hst'
   have HOO:=hid hoo
   obtain ⟨c0,-⟩:=HA.out.cs
   have i2:(m:Int)<(xs.length:Int):=by omega
   have hlt':decide (m<xs.length)=true:=by simpa using hlt
   clear hst' hoo e2 e3 hcell h4 hj
   go_wp2_with fail
   refine (Tab.set_in q.tb q.tg _ j o wr HA.out.tab HOO.out st hst false se).mono ?_
   rintro e w2 ⟨rfl,o2,h2⟩
   have H2:=hid (HA.out.tabbed o2 h2)
   have O2:Hid (Only (F q s) w w2):=hid (HO.out.trans (tab_F o2) (fun _ _ h=>h))
   clear o2 h2 c0 cj
   go_wp2_with fail
   go_roundw
   case rel=>exact ⟨m+1,by go_num,by omega,O2.out,by have:=H2.out;simp only [Bool.false_and] at this;rw [HS.out];exact this⟩
   case measure=>simp [intOf];omega
  ·obtain rfl:m=xs.length:=by omega
   go_wp2_with fail
   go_end0
   exact ⟨rfl,HO.out,by have:=HA.out;rwa [List.take_length] at this⟩
theorem grant_cells {w:World} {X:Nat} {a b d:Value} (h:w.heap[X]?=some (.cells #[a,b,d] 191 (0,0))):w.cell? ⟨X,0,none⟩=some a∧w.cell? ⟨X,1,none⟩=some b∧w.cell? ⟨X,2,none⟩=some d:=by
 refine ⟨?_,?_,?_⟩ <;> (rw [cell_of_row w X _ _ _ _ h];rfl)
theorem none_any (st:Int) (w:World):Calls Tryz.prog 198 #[.int .i64 st] w fun e w'=>e=.returned (.agg #[.int .i64 st,.slice none 0 0,.int .i64 (-1)])∧Pure w w':=by
 obtain ⟨e0,e1,e2⟩:=grant_cells (heap_alloc_new w (.cells #[.int .i64 st,.slice none 0 0,.int .i64 (-1)] 191))
 go_enter Tryz.func198,Tryz.ntmps198
 go_wp2_with fail
 exact bodyPost_ret (v:=.agg #[.int .i64 st,.slice none 0 0,.int .i64 (-1)]) (by simp [results,Tryz.results198,go_sem,e0,e1,e2]) rfl ⟨rfl,(Only.refl _ _).alloc _⟩
theorem stock_0 (w:World) (h:At w c sh q s) (hn:0<q.ns):Calls Tryz.prog 174 #[.pointer (some ⟨q.sp,0,none⟩),.int .i64 0] w fun e w'=>e=.returned (.pointer (some ⟨q.s0,0,none⟩))∧w=w':=by
 obtain ⟨rest,hsr⟩:=h.srow
 obtain ⟨-,c1,-⟩:=h.cs
 rcases hsr.2 with ⟨-,h0⟩ | ⟨g,cap,cur,hv,-,hg,hcap,hcm,hsz,htk⟩
 ·omega
 have hc:w.cell? ⟨g,0,none⟩=some (.pointer (some ⟨q.s0,0,none⟩)):=by
  rw [cell_of_row w g 0 _ _ _ hg,← Array.getElem?_toList]
  have h1:(cur.toList.take (q.ns * 1))[0]?=some (.pointer (some ⟨q.s0,0,none⟩)):=by rw [htk];rfl
  rwa [List.getElem?_take_of_lt (by omega)] at h1
 rw [hv] at c1
 have i1:(0:Int)<(q.ns:Int):=by omega
 have i2:decide (q.ns≤0)=false:=by simp;omega
 clear hsr hv hg htk hsz h
 go_enter Tryz.func174,Tryz.ntmps174
 go_wp2_with fail
 go_ret
 exact ⟨rfl,rfl⟩
theorem begin_any (w:World) (h:At w c sh q s):Calls Tryz.prog 93 #[.pointer (some ⟨q.sp,0,none⟩)] w fun e w'=>e=.returned (.tuple #[])∧Only (F q s) w w'∧At w' c sh q { s with forced:=false,en:=s.en.map Ln.note }:=by
 obtain ⟨-,-,-,⟨n,c3⟩,-⟩:=h.cs
 have fb:=h.fb
 have H1:=hid ((h.count (wrap64 (n+1))).force false)
 have O1:=hid (only_sp (only_sp (Only.refl (F q s) w) 3 (.int .i64 (wrap64 (n+1)))) 2 (.bool false))
 have f2:=(h.count (wrap64 (n+1))).fb
 obtain ⟨-,-,d2,-⟩:=(h.count (wrap64 (n+1))).cs
 clear h
 go_enter Tryz.func93,Tryz.ntmps93
 go_upto_region 2 with fail
 generalize (w.setCell ⟨q.sp,3,none⟩ (.int .i64 (wrap64 (n+1)))).setCell ⟨q.sp,2,none⟩ (.bool false)=w1 at *
 obtain ⟨-,-,-,-,-,-,-,c15⟩:=H1.out.cs
 go_wp2_with fail
 refine (Ln.begin_any q.li s.lv s.en w1 H1.out.line).mono ?_
 rintro e w2 ⟨rfl,h2,o2⟩
 have H2:=hid (H1.out.lined o2 h2 (.inl rfl) (fun e he k hk=>by
  obtain ⟨e',he',rfl⟩:=List.mem_map.1 he
  exact ⟨H1.out.gv e' he' k hk,fun hk'=>((H1.out.line.got e' he').2 k hk).1 (.inr hk')⟩))
 have O2:Hid (Only (F q s) w w2):=hid (O1.out.trans (line_F o2) (fun _ _ h=>h))
 clear o2 h2
 go_wp2_with fail
 go_end0
 exact ⟨rfl,O2.out,H2.out⟩
theorem end_any (w:World) (h:At w c sh q s) (hcy:∀ e∈s.en,0≤e.cycles∧e.cycles≤100000):Calls Tryz.prog 115 #[.pointer (some ⟨q.sp,0,none⟩)] w fun e w'=>e=.returned (.tuple #[])∧Only (F q s) w w'∧At w' c sh q { s with en:=s.en.map Ln.tick }:=by
 obtain ⟨-,-,-,⟨n,c3⟩,-⟩:=h.cs
 have fb:=h.fb
 have H1:=hid (h.count (wrap64 (n+1)))
 have O1:=hid (only_sp (Only.refl (F q s) w) 3 (.int .i64 (wrap64 (n+1))))
 have HC:=hid hcy
 clear h hcy
 go_enter Tryz.func115,Tryz.ntmps115
 go_upto_region 1 with fail
 generalize w.setCell ⟨q.sp,3,none⟩ (.int .i64 (wrap64 (n+1)))=w1 at *
 obtain ⟨-,-,-,-,-,-,-,c15⟩:=H1.out.cs
 go_wp2_with fail
 refine (Ln.end_any q.li s.lv s.en w1 H1.out.line HC.out).mono ?_
 rintro e w2 ⟨rfl,h2,o2⟩
 have H2:=hid (H1.out.lined o2 h2 (.inl rfl) (fun e he k hk=>by
  obtain ⟨e',he',rfl⟩:=List.mem_map.1 he
  have hg:(Ln.tick e').gv=e'.gv:=by unfold Ln.tick;split <;> rfl
  rw [hg] at hk
  exact ⟨H1.out.gv e' he' k hk,fun hk'=>((H1.out.line.got e' he').2 k hk).1 (.inr hk')⟩))
 have O2:Hid (Only (F q s) w w2):=hid (O1.out.trans (line_F o2) (fun _ _ h=>h))
 clear o2 h2
 go_wp2_with fail
 go_end0
 exact ⟨rfl,O2.out,H2.out⟩
theorem wants_any (w:World) (h:At w c sh q s):Calls Tryz.prog 55 #[.pointer (some ⟨q.sp,0,none⟩)] w fun e w'=>e=.returned (.bool (decide (0<s.en.countP Ln.isW) || decide ((Po.cnt s.fr:Int)<c.low) || s.forced))∧Only (F q s) w w'∧At w' c sh q s:=by
 obtain ⟨-,-,-,⟨n,c3⟩,-⟩:=h.cs
 have fb:=h.fb
 have H1:=hid (h.count (wrap64 (n+1)))
 have O1:=hid (only_sp (Only.refl (F q s) w) 3 (.int .i64 (wrap64 (n+1))))
 clear h
 obtain ⟨m,hm⟩:∃ m,s.en.countP Ln.isW=m:=⟨_,rfl⟩
 obtain ⟨k,hk⟩:∃ k,Po.cnt s.fr=k:=⟨_,rfl⟩
 obtain ⟨b,hb⟩:∃ b,s.forced=b:=⟨_,rfl⟩
 have HM0:=hid hm
 have HK0:=hid hk
 have HB0:=hid hb
 rw [hm,hk,hb]
 clear hm hk hb
 go_enter Tryz.func55,Tryz.ntmps55
 go_upto_region 2 with fail
 generalize w.setCell ⟨q.sp,3,none⟩ (.int .i64 (wrap64 (n+1)))=w1 at *
 go_wp2_with fail
 refine region_class (fun W=>At W c sh q s∧Only (F q s) w W) ⟨H1.out.pure ((Only.refl _ _).drewN 1),O1.out.drewN 1⟩ (by kernel_rfl) (by kernel_rfl) ?_
 intro S f hS hf hmk
 have c2:∀ s',(f s').cell? ⟨q.sp,2,none⟩=some (.bool b):=fun s'=>by rw [← HB0.out];exact (hf s').1.cs.2.2.1
 have c13:=fun s'=>(hf s').1.cs.2.2.2.2.2.1
 have c14:=fun s'=>(hf s').1.cs.2.2.2.2.2.2.1
 have c15:=fun s'=>(hf s').1.cs.2.2.2.2.2.2.2
 have d0:=fun s'=>(hf s').1.cc.1
 have d1:=fun s'=>(hf s').1.cc.2.1
 have d2:=fun s'=>(hf s').1.cc.2.2.1
 have d3:=fun s'=>(hf s').1.cc.2.2.2.1
 have d4:=fun s'=>(hf s').1.cc.2.2.2.2.1
 have d5:=fun s'=>(hf s').1.cc.2.2.2.2.2.1
 have d6:=fun s'=>(hf s').1.cc.2.2.2.2.2.2.1
 have d7:=fun s'=>(hf s').1.cc.2.2.2.2.2.2.2.1
 have d8:=fun s'=>(hf s').1.cc.2.2.2.2.2.2.2.2
 have HF:=hid hf
 have HM:=hid hmk
 clear hf hmk
 have hw:∀ s',Calls Tryz.prog 91 #[shV c q] (f s') fun e w'=>e=.returned (.int .i64 (m:Int))∧Pure (f s') w':=fun s'=>by have:=waits_any c sh q s _ (HF.out s').1;rwa [HM0.out] at this
 have hfr:∀ s',Calls Tryz.prog 92 #[shV c q] (f s') fun e w'=>e=.returned (.int .i64 (k:Int))∧Pure (f s') w':=fun s'=>by have:=free_any c sh q s _ (HF.out s').1;rwa [HK0.out] at this
 have HW:=hid hw
 have HFR:=hid hfr
 clear hw hfr
 by_cases hw:0<m
 ·have e2:decide ((0:Int)<(m:Int))=true:=by simp;omega
  have e3:decide (0<m)=true:=by simpa using hw
  have HR:Hid ((decide (0<m) || decide ((k:Int)<c.low) || b)=true):=hid (by rw [e3];rfl)
  clear hw
  repeat (go_big_quiet_step ((first | (go_at_call 91;exact class_call HM.out (HF.out _) (fun _ hd hp=>⟨hd.1.pure hp,hd.2.trans (pure_F hp) (fun _ _ h=>h)⟩) (HW.out _)) | (go_at_call 92;exact class_call HM.out (HF.out _) (fun _ hd hp=>⟨hd.1.pure hp,hd.2.trans (pure_F hp) (fun _ _ h=>h)⟩) (HFR.out _)))))
  clear c2 c13 c14 c15 d0 d1 d2 d3 d4 d5 d6 d7 d8
  refine wpQuiet_nil ?_
  rintro w9 ⟨s9,e9⟩
  have D9:=hid (HF.out s9)
  rw [← e9] at D9
  clear e9
  go_wp2_with fail
  go_ret
  exact ⟨ret_b HR.out,D9.out.2,D9.out.1⟩
 ·have e2:decide ((0:Int)<(m:Int))=false:=by simp;omega
  have e3:decide (0<m)=false:=by simpa using hw
  obtain rfl:m=0:=by omega
  clear hw
  by_cases hlow:(k:Int)<c.low
  ·have e4:decide ((k:Int)<c.low)=true:=by simpa using hlow
   have HR:Hid ((decide (0<0) || decide ((k:Int)<c.low) || b)=true):=hid (by rw [e4];simp)
   clear hlow
   repeat (go_big_quiet_step ((first | (go_at_call 91;exact class_call HM.out (HF.out _) (fun _ hd hp=>⟨hd.1.pure hp,hd.2.trans (pure_F hp) (fun _ _ h=>h)⟩) (HW.out _)) | (go_at_call 92;exact class_call HM.out (HF.out _) (fun _ hd hp=>⟨hd.1.pure hp,hd.2.trans (pure_F hp) (fun _ _ h=>h)⟩) (HFR.out _)))))
   clear c2 c13 c14 c15 d0 d1 d2 d3 d4 d5 d6 d7 d8
   refine wpQuiet_nil ?_
   rintro w9 ⟨s9,e9⟩
   have D9:=hid (HF.out s9)
   rw [← e9] at D9
   clear e9
   go_wp2_with fail
   go_ret
   exact ⟨ret_b HR.out,D9.out.2,D9.out.1⟩
  ·have e4:decide ((k:Int)<c.low)=false:=by simpa using hlow
   have HR:Hid ((decide (0<0) || decide ((k:Int)<c.low) || b)=b):=hid (by rw [e4];simp)
   clear hlow
   repeat (go_big_quiet_step ((first | (go_at_call 91;exact class_call HM.out (HF.out _) (fun _ hd hp=>⟨hd.1.pure hp,hd.2.trans (pure_F hp) (fun _ _ h=>h)⟩) (HW.out _)) | (go_at_call 92;exact class_call HM.out (HF.out _) (fun _ hd hp=>⟨hd.1.pure hp,hd.2.trans (pure_F hp) (fun _ _ h=>h)⟩) (HFR.out _)))))
   clear c2 c13 c14 c15 d0 d1 d2 d3 d4 d5 d6 d7 d8
   refine wpQuiet_nil ?_
   rintro w9 ⟨s9,e9⟩
   have D9:=hid (HF.out s9)
   rw [← e9] at D9
   clear e9
   go_wp2_with fail
   go_ret
   exact ⟨ret_b HR.out,D9.out.2,D9.out.1⟩
end
end Go.Proofs.YtpgdiceeimehiaaGreat.Sp
namespace Go.Proofs.YtpgdiceeimehiaaGreat.Law
def tb {α:Type} (n:Nat) (f:Nat→α):List α:=(List.range n).map f
def up {α:Type} (f:Nat→α) (j:Nat) (v:α):Nat→α:=fun k=>if k=j then v else f k
section
variable {α:Type} {n:Nat} {f g:Nat→α}
theorem tb_len:(tb n f).length=n:=by simp [tb]
theorem tb_get {j:Nat} (h:j<n):(tb n f)[j]?=some (f j):=by simp [tb,h]
theorem tb_getD {j:Nat} (d:α) (h:j<n):(tb n f).getD j d=f j:=by simp [List.getD,tb_get h]
theorem tb_some {j:Nat} {v:α} (h:(tb n f)[j]?=some v):j<n∧f j=v:=by
 obtain ⟨h1,h2⟩:=List.getElem?_eq_some_iff.1 h
 rw [tb_len] at h1
 rw [tb_get h1] at h
 exact ⟨h1,by injection h⟩
theorem tb_set (j:Nat) (v:α):(tb n f).set j v=tb n (up f j v):=by
 apply List.ext_getElem?
 intro k
 by_cases hk:k<n
 ·rw [List.getElem?_set,tb_len,tb_get hk,tb_get hk]
  unfold up
  by_cases e:j=k
  ·subst e;simp [hk]
  ·rw [if_neg e,if_neg (fun h=>e h.symm)]
 ·rw [List.getElem?_eq_none (by simp [tb];omega),List.getElem?_eq_none (by simp [tb];omega)]
theorem tb_ext (h:∀ j,j<n→f j=g j):tb n f=tb n g:=by
 apply List.ext_getElem?
 intro k
 by_cases hk:k<n
 ·rw [tb_get hk,tb_get hk,h k hk]
 ·rw [List.getElem?_eq_none (by simp [tb];omega),List.getElem?_eq_none (by simp [tb];omega)]
theorem tb_rep (v:α):tb n (fun _=>v)=List.replicate n v:=by
 apply List.ext_getElem?
 intro k
 by_cases hk:k<n
 ·rw [tb_get hk];simp [hk]
 ·rw [List.getElem?_eq_none (by simp [tb];omega),List.getElem?_eq_none (by simp;omega)]
theorem up_me (f:Nat→α) (j:Nat) (v:α):up f j v j=v:=if_pos rfl
theorem up_ne {j k:Nat} {v:α} (h:k≠j):up f j v k=f k:=if_neg h
theorem tb_set_foldl (xs:List Nat) (v:α):xs.foldl (fun l j=>l.set j v) (tb n f)=tb n (fun k=>if k∈xs then v else f k):=by
 induction xs generalizing f with
 | nil=>exact tb_ext (fun j _=>by simp)
 | cons x xs ih =>
  rw [List.foldl_cons,tb_set,ih]
  refine tb_ext (fun j _=>?_)
  unfold up
  by_cases hj:j∈xs
  ·simp [hj]
  ·by_cases e:j=x
   ·simp [e]
   ·simp [hj,e]
end
open Po (cnt low lowF off run runF take)
theorem off_tb {n:Nat} (f:Nat→Bool) (xs:List Nat):off (tb n f) xs=tb n (fun k=>if k∈xs then false else f k):=tb_set_foldl xs false
theorem setAll_tb {n:Nat} (f:Nat→Tab.One) (xs:List Nat) (st:Nat) (se:Bool):Sp.setAll (tb n f) xs st se=tb n (fun k=>if k∈xs then ⟨st,false,se⟩ else f k):=tb_set_foldl xs (⟨st,false,se⟩:Tab.One)
theorem lowF_spec (l:List Bool) (k:Nat):∀ (q p:Nat) (acc:List Nat),q+p=l.length→acc.length≤k→acc.Nodup→(∀ x∈acc,x<p∧l[x]?=some true) →
  (lowF l k q p acc).Nodup∧(∀ x∈lowF l k q p acc,l[x]?=some true)∧(lowF l k q p acc).length=min k (acc.length+cnt (l.drop p)):=by
 intro q
 induction q with
 | zero =>
  intro p acc hp hk hn ha
  rw [lowF]
  have:l.drop p=[]:=List.drop_eq_nil_of_le (by omega)
  rw [this]
  exact ⟨hn,fun x hx=>(ha x hx).2,by simp [cnt];omega⟩
 | succ q ih =>
  intro p acc hp hk hn ha
  rw [lowF]
  have hlt:p<l.length:=by omega
  have hd:l.drop p=l[p] :: l.drop (p+1):=List.drop_eq_getElem_cons hlt
  by_cases hfull:acc.length<k
  ·rw [if_pos hfull]
   have hg:l.getD p false=l[p]:=by simp [List.getD,hlt]
   cases hb:l[p] with
   | true =>
    rw [hg,hb,if_pos rfl]
    have hnew:p ∉ acc:=fun h=>by have:=(ha p h).1;omega
    obtain ⟨h1,h2,h3⟩:=ih (p+1) (acc++[p]) (by omega) (by simp;omega) (by
     rw [List.nodup_append]
     exact ⟨hn,by simp,fun a ha' b hb'=>by simp at hb';subst hb';intro e;subst e;exact hnew ha'⟩) (fun x hx=>by
     rcases List.mem_append.1 hx with hx | hx
     ·exact ⟨by have:=(ha x hx).1;omega,(ha x hx).2⟩
     ·simp at hx;subst hx;exact ⟨by omega,by rw [List.getElem?_eq_getElem hlt,hb]⟩)
    refine ⟨h1,h2,?_⟩
    rw [h3,hd,hb]
    simp [cnt]
    omega
   | false =>
    rw [hg,hb,if_neg (by simp)]
    obtain ⟨h1,h2,h3⟩:=ih (p+1) acc (by omega) hk hn (fun x hx=>⟨by have:=(ha x hx).1;omega,(ha x hx).2⟩)
    refine ⟨h1,h2,?_⟩
    rw [h3,hd,hb]
    simp [cnt]
  ·rw [if_neg hfull]
   exact ⟨hn,fun x hx=>(ha x hx).2,by omega⟩
theorem low_spec (l:List Bool) (k:Nat):(low l k).Nodup∧(∀ x∈low l k,l[x]?=some true)∧(low l k).length=min k (cnt l):=by
 have:=lowF_spec l k l.length 0 [] (by omega) (by simp) List.nodup_nil (by simp)
 simpa [low] using this
theorem low_zero (l:List Bool):low l 0=[]:=List.eq_nil_of_length_eq_zero (by have:=(low_spec l 0).2.2;omega)
theorem take_spec {l:List Bool} {k:Nat} (hk:1≤k) (hc:k≤cnt l):(take l k).Nodup∧(∀ x∈take l k,l[x]?=some true)∧(take l k).length=k:=by
 unfold take
 split
 ·rename_i i h
  have hr:=Po.run_spec hk h
  refine ⟨List.nodup_range',fun x hx=>?_,List.length_range'⟩
  rw [List.mem_range'_1] at hx
  have:=hr (x-i) (by omega)
  rwa [show i+(x-i)=x from by omega] at this
 ·have:=low_spec l k
  exact ⟨this.1,this.2.1,by rw [this.2.2];omega⟩
theorem cnt_lt {n q:Nat} (h:q≤n):cnt (tb n fun i=>decide (i<q))=q:=by
 have h1:tb n (fun i=>decide (i<q))=List.replicate q true++List.replicate (n-q) false:=by
  apply List.ext_getElem?
  intro k
  by_cases hk:k<n
  ·rw [tb_get hk]
   by_cases e:k<q
   ·rw [List.getElem?_append_left (by simpa using e)];simp [e]
   ·rw [List.getElem?_append_right (by simpa using e),List.getElem?_replicate,if_pos (by simp;omega)];simp [e]
  ·rw [List.getElem?_eq_none (by simp [tb];omega),List.getElem?_eq_none (by simp;omega)]
 rw [h1]
 simp [cnt,List.countP_replicate]
theorem runF_top {n q k:Nat} (hkq:k≤q):∀ (i m:Nat),i≤n→m<k→(i≤q→i+m=q)→(q<i→m=0)→runF (tb n fun i=>decide (i<q)) k i m=some (q-k):=by
 intro i
 induction i with
 | zero=>intro m _ hm h1 _;have:=h1 (by omega);omega
 | succ i ih =>
  intro m hi hm h1 h2
  rw [runF,tb_getD _ (by omega)]
  by_cases e:i<q
  ·rw [if_pos (by simp [e])]
   have:=h1 (by omega)
   by_cases hk2:m+1=k
   ·rw [if_pos hk2];congr 1;omega
   ·rw [if_neg hk2]
    exact ih (m+1) (by omega) (by omega) (fun _=>by omega) (fun h=>by omega)
  ·rw [if_neg (by simp [e])]
   exact ih 0 (by omega) (by omega) (fun _=>by omega) (fun _=>rfl)
theorem take_top {n q k:Nat} (hq:q≤n) (hk:1≤k) (hkq:k≤q):take (tb n fun i=>decide (i<q)) k=List.range' (q-k) k:=by
 have h:run (tb n fun i=>decide (i<q)) k=some (q-k):=by
  rw [run,tb_len]
  exact runF_top hkq n 0 (Nat.le_refl _) (by omega) (fun _=>by omega) (fun _=>rfl)
 rw [take,h]
theorem take_one {n q:Nat} (hq:q≤n) (hkq:1≤q):take (tb n fun i=>decide (i<q)) 1=[q-1]:=by rw [take_top hq (by omega) hkq];rfl
theorem cnt_tb {n:Nat} (f:Nat→Bool):cnt (tb n f)=(List.range n).countP f:=by
 simp [cnt,tb,List.countP_map,Function.comp_def]
theorem count_out {n:Nat} {L:List Nat} (hn:L.Nodup) (h:∀ x∈L,x<n):(List.range n).countP (fun i=>decide (i ∉ L))=n-L.length:=by
 have h1:(List.range n).countP (fun i=>decide (i∈L))=L.length:=by
  rw [List.countP_eq_length_filter]
  refine List.Perm.length_eq ((List.perm_ext_iff_of_nodup (List.nodup_range.filter _) hn).2 (fun a=>?_))
  simp [List.mem_filter]
  intro ha
  exact h a ha
 have h2:=List.length_eq_countP_add_countP (l:=List.range n) (fun i=>decide (i∈L))
 simp only [List.length_range] at h2
 have h3:(List.range n).countP (fun i=>decide (i ∉ L))=(List.range n).countP (fun a=>decide ¬decide (a∈L)=true):=by
  congr 1
  funext a
  simp
 rw [h3]
 omega
end Go.Proofs.YtpgdiceeimehiaaGreat.Law
