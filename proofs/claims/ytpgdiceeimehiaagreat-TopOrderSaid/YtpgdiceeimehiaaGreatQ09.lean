/- Part 9 of the proof that spotop.TopOrder returns true for all arguments and leaves what was there as it was. -/
import Derived.Test.YtpgdiceeimehiaaGreatQ04
import Derived.Test.YtpgdiceeimehiaaGreatQ05
import Derived.Test.YtpgdiceeimehiaaGreatQ06
import Derived.Test.YtpgdiceeimehiaaGreatQ08
set_option maxRecDepth 100000
set_option maxHeartbeats 16000000
open Go.Lib (hid)
namespace Go.Proofs.YtpgdiceeimehiaaGreat.Sk
open Go.RowKit
structure StkOf (w:World) (b:Nat) (most:Int) (v:Value) (xs:List Int):Prop where
 at_:Stk w b v most
 own:w.ownsRow 0 3 1 v xs.length (ints xs)
 h0:0≤most
 h8:most≤8
 le:(xs.length:Int)≤most
 rng:∀ x∈xs,-9223372036854775808≤x∧x≤9223372036854775807
def StkS (b:Nat) (v:Value) (k:Nat):Prop:=k=b∨v.ownBlock=some k
section
variable {w w':World} {b:Nat} {v:Value} {most:Int} {xs:List Int}
theorem StkOf.form (h:StkOf w b most v xs):∃ A c,v=.slice A xs.length c∧xs.length≤9223372036854775807:=by
 obtain ⟨A,c,e,h1,h2⟩:=(SlI.of_own h.own h.rng).len
 exact ⟨A,c,e,by omega⟩
theorem StkOf.only {S:Nat→Prop} (h:StkOf w b most v xs) (ho:Only S w w') (hn:∀ k,StkS b v k→¬ S k):StkOf w' b most v xs :=
 ⟨h.at_.only ho (hn b (.inl rfl)),ho.own h.own (fun k hk=>hn k (.inr hk)),h.h0,h.h8,h.le,h.rng⟩
theorem StkOf.drewN (h:StkOf w b most v xs) (n:Nat):StkOf (w.drewN n) b most v xs:=h.only ((Only.refl (fun _=>False) w).drewN n) (fun _ _ f=>f)
end
theorem put_ok (b:Nat) (most:Int) (v sv:Value) (xs ys:List Int) (w:World) (h:StkOf w b most v xs) (hs:SlI w w.heap.size sv ys) (hok:(xs.length:Int)+ys.length≤most) :
  Calls Tryz.prog 296 #[.pointer (some ⟨b,0,none⟩),sv] w fun e w'=>∃ v',e=.returned (.bool true)∧StkOf w' b most v' (xs++ys)∧Only (StkS b v) w w' ∧
   (v'.ownBlock=v.ownBlock∨∃ k,v'.ownBlock=some k∧w.heap.size≤k):=by
 obtain ⟨i0,hi0,hz0,hz1,hz2⟩:=info_parts int_info
 obtain ⟨A,c,rfl,hl⟩:=h.form
 have hs0:=hs
 obtain ⟨A2,c2,rfl,hl2,hm2⟩:=hs.len
 have hk:=h.at_
 have h0:=h.h0
 have h8:=h.h8
 have hok':¬ most-(xs.length:Int)<ys.length:=by omega
 have H:=hid h
 have HS:=hid hs0
 have hsrc:=hs.src.2
 clear h hs hs0
 have c0:=hk.c0
 have f0:=hk.free 0
 go_enter Tryz.func296,Tryz.ntmps296
 go_wp2_with (first
  | (go_at_call 295;refine (room_any b _ _ _ most _ hk hl h0 h8).mono ?_;rintro e w' ⟨rfl,d,rfl⟩)
  | (at_builtin;refine wpList_app _ rfl (.tmp 14) (.tmp 15) _ rfl 0 3 i0 _ 1 8 Tryz.underlying25 hi0 hz0 hz1 hz2 rfl (by omega) (.slice A xs.length c) xs.length (ints xs) rfl (H.out.drewN d).own A2 ys.length c2 (ints ys) rfl hsrc (ints_one ys) (by simp only [maxLen];omega) (by omega) (by omega) ?_;intro v1 w1 hown1 hg1 hat1;obtain ⟨A3,c3,rfl⟩:=own_form hown1;have hO:=(Only.refl (fun k=>(Value.slice A xs.length c).ownBlock=some k) (w.drewN d)).grown hg1 (fun _ _ e=>e);have hk1:=(hk.drewN d).only hO (fun e=>hk.ne H.out.own e rfl);have c1:=hk1.c0;have f1:=hk1.free 0))
 go_ret
 have hk2:=hk1.set (.slice A3 (xs.length+ys.length) c3)
 have hne:∀ k,(Value.slice A3 (xs.length+ys.length) c3).ownBlock=some k→k≠b:=fun k hk'=>hk1.ne hown1 hk'
 refine ⟨_,rfl,⟨hk2,?_,h0,h8,by simp only [List.length_append];omega,?_⟩,?_,?_⟩
 ·rw [List.length_append,ints_append]
  exact ((Only.refl (fun k=>k=b) w1).setCell (p:=⟨b,0,none⟩) (fun _=>rfl) _).own hown1 (fun k hk'=>hne k hk')
 ·intro x hx
  rcases List.mem_append.1 hx with hx | hx
  ·exact H.out.rng x hx
  ·obtain ⟨_,_,_,_,_,h3,_⟩:=HS.out
   exact h3 x hx
 ·exact (((Only.refl (StkS b (Value.slice A xs.length c)) w).drewN d).grown hg1 (fun k _ e=>.inr e)).setCell (fun _=>.inl rfl) _
 ·rcases hat1 with e | e
  ·exact .inl e
  ·exact .inr ⟨_,e,Nat.le_refl _⟩
end Go.Proofs.YtpgdiceeimehiaaGreat.Sk
namespace Go.Proofs.YtpgdiceeimehiaaGreat.Sk
open Go.RowKit
theorem take_no (b:Nat) (most k:Int) (v:Value) (xs:List Int) (w:World) (h:StkOf w b most v xs) (hk:k<1∨(xs.length:Int)<k) :
  Calls Tryz.prog 293 #[.pointer (some ⟨b,0,none⟩),.int .i64 k] w fun e w'=>e=.returned (.tuple #[.slice none 0 0,.bool false])∧w=w':=by
 obtain ⟨A,c,rfl,hl⟩:=h.form
 have c0:=h.at_.c0
 clear h
 by_cases h1:k<1
 ·clear hk
  go_enter Tryz.func293,Tryz.ntmps293
  go_wp2
  go_ret2
  exact ⟨rfl,rfl⟩
 ·have h2:(xs.length:Int)<k:=by omega
  clear hk
  go_enter Tryz.func293,Tryz.ntmps293
  go_wp2
  go_ret2
  exact ⟨rfl,rfl⟩
end Go.Proofs.YtpgdiceeimehiaaGreat.Sk
namespace Go.Proofs.YtpgdiceeimehiaaGreat
open Go.RowKit
def CfS (v:Value) (l:List Sh) (k:Nat):Prop:=v.ownBlock=some k∨∃ s∈l,s.v.ownBlock=some k
theorem ShsR.only {S:Nat→Prop} {w w':World} {v:Value} {l:List Sh} (h:ShsR w w.heap.size v l) (ho:Only S w w') (hn:∀ k,CfS v l k→¬ S k):ShsR w' w'.heap.size v l:=by
 obtain ⟨⟨A,c,rfl,h1,h2,h3⟩,h4⟩:=h
 refine ⟨⟨A,c,rfl,h1,h2,fun hl=>?_⟩,fun s hs=>(h4 s hs).only ho (fun k hk=>hn k (.inr ⟨s,hs,hk⟩))⟩
 obtain ⟨b,off,rfl,hb,hc⟩:=h3 hl
 refine ⟨b,off,rfl,Nat.lt_of_lt_of_le hb ho.size,fun j s hj=>?_⟩
 obtain ⟨c1,c2⟩:=hc j s hj
 exact ⟨(ho.cell (p:=⟨b,_,none⟩) hb (hn b (.inl rfl))).trans c1,(ho.cell (p:=⟨b,_,none⟩) hb (hn b (.inl rfl))).trans c2⟩
namespace Sp
structure Q where
 sp:Nat
 tb:Nat
 tg:Nat
 po:Nat
 pg:Nat
 co:Nat
 li:Nat
 s0:Nat
 srv:Value
 ns:Nat
 cv:Value
structure St where
 l:List Tab.One
 fr:List Bool
 size:Int
 cur:Nat
 u:Nat→Int
 kept:Int
 lv:Value
 en:List Ln.En
 sv:Value
 sx:List Int
 forced:Bool
def F (q:Q) (s:St) (k:Nat):Prop:=k=q.sp∨k=q.tb∨k=q.tg∨k=q.po∨k=q.pg∨k=q.co∨Ln.LineS q.li s.lv k∨Sk.StkS q.s0 s.sv k
def R (q:Q) (sh:List Sh) (k:Nat):Prop:=CfS q.cv sh k∨q.srv.ownBlock=some k
structure At (w:World) (c:Cn) (sh:List Sh) (q:Q) (s:St):Prop where
 me:∃ n:Int,w.heap[q.sp]?=some (.cells #[.pointer (some ⟨q.tb,0,none⟩),q.srv,.bool s.forced,.int .i64 n,.int .i64 c.frags,.int .i64 c.spine,.int .i64 c.globals,.int .i64 c.threads,.int .i64 c.locals,.int .i64 c.cache,.int .i64 c.stack,.int .i64 c.low,q.cv,.pointer (some ⟨q.po,0,none⟩),.pointer (some ⟨q.co,0,none⟩),.pointer (some ⟨q.li,0,none⟩)] 168 (0,0))
 tab:Tab.At w q.tb q.tg s.l
 pool:Po.At w q.po q.pg s.fr
 coil:Co.At w q.co s.size s.cur s.u s.kept
 line:Ln.LineOf w q.li s.lv s.en
 stk:Sk.StkOf w q.s0 c.cache s.sv s.sx
 srow:∃ rest:List Value,w.ownsRow 0 169 1 q.srv q.ns (.pointer (some ⟨q.s0,0,none⟩) :: rest)
 conf:ShsR w w.heap.size q.cv sh
 ok:checkI c sh=0
 ns:(q.ns:Int)=c.threads
 ro:∀ k,R q sh k→¬ F q s k∧k<w.heap.size
 gv:∀ e∈s.en,∀ k,e.gv.ownBlock=some k→¬ F q s k
section
variable {w w':World} {c:Cn} {sh:List Sh} {q:Q} {s:St}
theorem At.ne_sp (h:At w c sh q s):q.sp≠q.tb∧q.sp≠q.tg∧q.sp≠q.po∧q.sp≠q.pg∧q.sp≠q.co∧¬ Ln.LineS q.li s.lv q.sp∧¬ Sk.StkS q.s0 s.sv q.sp:=by
 obtain ⟨n,hn⟩:=h.me
 refine ⟨ne_types hn h.tab.mid.me (by decide),ne_types hn h.tab.mid.row (by decide),ne_types hn h.pool.mid.me (by decide),ne_types hn h.pool.mid.row (by decide),ne_types hn h.coil.me (by decide),fun hk=>?_,fun hk=>?_⟩
 ·rcases hk with hk | hk
  ·exact ne_types hn h.line.at_ (by decide) hk
  ·exact own_ne h.line.own hn (by decide) hk
 ·rcases hk with hk | hk
  ·exact ne_types hn h.stk.at_ (by decide) hk
  ·exact own_ne h.stk.own hn (by decide) hk
theorem At.lt (h:At w c sh q s) (k:Nat) (hk:F q s k):k<w.heap.size:=by
 obtain ⟨n,hn⟩:=h.me
 rcases hk with rfl | rfl | rfl | rfl | rfl | rfl | hk | hk
 ·exact (Array.getElem?_eq_some_iff.1 hn).1
 ·exact h.tab.mid.lb
 ·exact h.tab.mid.lg
 ·exact h.pool.mid.lb
 ·exact h.pool.mid.lg
 ·exact h.coil.lb
 ·exact h.line.lt k hk
 ·rcases hk with rfl | hk
  ·exact h.stk.at_.lt
  ·exact (h.stk.own.lt k hk).2
theorem At.only {T:Nat→Prop} (h:At w c sh q s) (ho:Only T w w') (hn:∀ k,F q s k→¬ T k) (hr:∀ k,R q sh k→¬ T k) (hg:∀ e∈s.en,∀ k,e.gv.ownBlock=some k→¬ T k):At w' c sh q s:=by
 obtain ⟨n,hm⟩:=h.me
 obtain ⟨rest,hsr⟩:=h.srow
 exact ⟨⟨n,ho.blk hm (hn _ (.inl rfl))⟩,h.tab.only ho (hn _ (.inr (.inl rfl))) (hn _ (.inr (.inr (.inl rfl)))),h.pool.only ho (hn _ (.inr (.inr (.inr (.inl rfl))))) (hn _ (.inr (.inr (.inr (.inr (.inl rfl)))))),h.coil.only ho (hn _ (.inr (.inr (.inr (.inr (.inr (.inl rfl))))))),
  h.line.only ho (fun k hk=>hn k (.inr (.inr (.inr (.inr (.inr (.inr (.inl hk)))))))) hg,h.stk.only ho (fun k hk=>hn k (.inr (.inr (.inr (.inr (.inr (.inr (.inr hk)))))))),⟨rest,ho.own hsr (fun k hk=>hr k (.inr hk))⟩,h.conf.only ho (fun k hk=>hr k (.inl hk)),h.ok,h.ns,fun k hk=>⟨(h.ro k hk).1,Nat.lt_of_lt_of_le (h.ro k hk).2 ho.size⟩,h.gv⟩
theorem At.pure (h:At w c sh q s) (ho:Pure w w'):At w' c sh q s:=h.only ho (fun _ _ f=>f) (fun _ _ f=>f) (fun _ _ _ _ f=>f)
theorem At.mine {i:Nat} {v:Value} (h:At w c sh q s) (f':Bool) (hv:∃ n:Int,(w.setCell ⟨q.sp,i,none⟩ v).heap[q.sp]?=some (.cells #[.pointer (some ⟨q.tb,0,none⟩),q.srv,.bool f',.int .i64 n,.int .i64 c.frags,.int .i64 c.spine,.int .i64 c.globals,.int .i64 c.threads,.int .i64 c.locals,.int .i64 c.cache,.int .i64 c.stack,.int .i64 c.low,q.cv,.pointer (some ⟨q.po,0,none⟩),.pointer (some ⟨q.co,0,none⟩),.pointer (some ⟨q.li,0,none⟩)] 168 (0,0))):At (w.setCell ⟨q.sp,i,none⟩ v) c sh q { s with forced:=f' }:=by
 obtain ⟨n1,n2,n3,n4,n5,n6,n7⟩:=h.ne_sp
 obtain ⟨rest,hsr⟩:=h.srow
 have ho:Only (fun k=>k=q.sp) w (w.setCell ⟨q.sp,i,none⟩ v):=(Only.refl (fun k=>k=q.sp) w).setCell (p:=⟨q.sp,i,none⟩) (fun _=>rfl) _
 have hF:F q s q.sp:=.inl rfl
 exact ⟨hv,h.tab.only ho (Ne.symm n1) (Ne.symm n2),h.pool.only ho (Ne.symm n3) (Ne.symm n4),h.coil.only ho (Ne.symm n5),h.line.only ho (fun k hk e=>n6 (e ▸ hk)) (fun e he k hk e'=>h.gv e he k hk (e' ▸ hF)),
  h.stk.only ho (fun k hk e=>n7 (e ▸ hk)),⟨rest,ho.own hsr (fun k hk e=>(h.ro k (.inr hk)).1 (e ▸ hF))⟩,h.conf.only ho (fun k hk e=>(h.ro k (.inl hk)).1 (e ▸ hF)),h.ok,h.ns,fun k hk=>⟨(h.ro k hk).1,Nat.lt_of_lt_of_le (h.ro k hk).2 ho.size⟩,h.gv⟩
theorem At.count (h:At w c sh q s) (v:Int):At (w.setCell ⟨q.sp,3,none⟩ (.int .i64 v)) c sh q s:=by
 obtain ⟨n,hn⟩:=h.me
 exact h.mine s.forced ⟨v,by simpa using set_me (i:=3) (u:=.int .i64 v) hn⟩
theorem At.force (h:At w c sh q s) (f:Bool):At (w.setCell ⟨q.sp,2,none⟩ (.bool f)) c sh q { s with forced:=f }:=by
 obtain ⟨n,hn⟩:=h.me
 exact h.mine f ⟨n,by simpa using set_me (i:=2) (u:=.bool f) hn⟩
theorem only_sp {a:World} (h:Only (F q s) a w) (i:Nat) (v:Value):Only (F q s) a (w.setCell ⟨q.sp,i,none⟩ v):=h.setCell (p:=⟨q.sp,i,none⟩) (fun _=>.inl rfl) v
theorem At.cs (h:At w c sh q s):w.cell? ⟨q.sp,0,none⟩=some (.pointer (some ⟨q.tb,0,none⟩))∧w.cell? ⟨q.sp,1,none⟩=some q.srv∧w.cell? ⟨q.sp,2,none⟩=some (.bool s.forced)∧(∃ n:Int,w.cell? ⟨q.sp,3,none⟩=some (.int .i64 n))∧w.cell? ⟨q.sp,11,none⟩=some (.int .i64 c.low)∧w.cell? ⟨q.sp,13,none⟩=some (.pointer (some ⟨q.po,0,none⟩))∧w.cell? ⟨q.sp,14,none⟩=some (.pointer (some ⟨q.co,0,none⟩))∧w.cell? ⟨q.sp,15,none⟩=some (.pointer (some ⟨q.li,0,none⟩)):=by
 obtain ⟨n,hn⟩:=h.me
 refine ⟨?_,?_,?_,⟨n,?_⟩,?_,?_,?_,?_⟩ <;> (rw [cell_of_row w _ _ _ _ _ hn];rfl)
theorem At.cc (h:At w c sh q s):w.cell? ⟨q.sp,4,none⟩=some (.int .i64 c.frags)∧w.cell? ⟨q.sp,5,none⟩=some (.int .i64 c.spine)∧w.cell? ⟨q.sp,6,none⟩=some (.int .i64 c.globals)∧w.cell? ⟨q.sp,7,none⟩=some (.int .i64 c.threads)∧w.cell? ⟨q.sp,8,none⟩=some (.int .i64 c.locals)∧w.cell? ⟨q.sp,9,none⟩=some (.int .i64 c.cache)∧w.cell? ⟨q.sp,10,none⟩=some (.int .i64 c.stack)∧w.cell? ⟨q.sp,11,none⟩=some (.int .i64 c.low)∧w.cell? ⟨q.sp,12,none⟩=some q.cv:=by
 obtain ⟨n,hn⟩:=h.me
 refine ⟨?_,?_,?_,?_,?_,?_,?_,?_,?_⟩ <;> (rw [cell_of_row w _ _ _ _ _ hn];rfl)
theorem At.fb (h:At w c sh q s) (k:Nat):w.frozen? ⟨q.sp,k,none⟩=false:=by
 obtain ⟨n,hn⟩:=h.me
 exact frozen_of_row w _ k _ _ hn
theorem At.tabbed {l':List Tab.One} (h:At w c sh q s) (ho:Only (fun k=>k=q.tb∨k=q.tg) w w') (ht:Tab.At w' q.tb q.tg l'):At w' c sh q { s with l:=l' }:=by
 obtain ⟨n,hm⟩:=h.me
 obtain ⟨rest,hsr⟩:=h.srow
 obtain ⟨n1,n2,-⟩:=h.ne_sp
 have m1:=h.tab.mid.me
 have m2:=h.tab.mid.row
 have hF:∀ k,(k=q.tb∨k=q.tg)→F q s k:=fun k hk=>by rcases hk with hk | hk;exact .inr (.inl hk);exact .inr (.inr (.inl hk))
 refine ⟨⟨n,ho.blk hm (fun e=>by rcases e with e | e;exact n1 e;exact n2 e)⟩,ht,h.pool.only ho ?_ ?_,h.coil.only ho ?_,h.line.only ho ?_ (fun e he k hk e'=>h.gv e he k hk (hF k e')),h.stk.only ho ?_,⟨rest,ho.own hsr (fun k hk e=>(h.ro k (.inr hk)).1 (hF k e))⟩,h.conf.only ho (fun k hk e=>(h.ro k (.inl hk)).1 (hF k e)),h.ok,h.ns,fun k hk=>⟨(h.ro k hk).1,Nat.lt_of_lt_of_le (h.ro k hk).2 ho.size⟩,h.gv⟩
 ·rintro (e | e);exact ne_types h.pool.mid.me m1 (by decide) e;exact ne_types h.pool.mid.me m2 (by decide) e
 ·rintro (e | e);exact ne_types h.pool.mid.row m1 (by decide) e;exact ne_types h.pool.mid.row m2 (by decide) e
 ·rintro (e | e);exact ne_types h.coil.me m1 (by decide) e;exact ne_types h.coil.me m2 (by decide) e
 ·rintro k (rfl | hk) (e | e)
  ·exact ne_types h.line.at_ m1 (by decide) e
  ·exact ne_types h.line.at_ m2 (by decide) e
  ·exact own_ne h.line.own m1 (by decide) (e ▸ hk)
  ·exact own_ne h.line.own m2 (by decide) (e ▸ hk)
 ·rintro k (rfl | hk) (e | e)
  ·exact ne_types h.stk.at_ m1 (by decide) e
  ·exact ne_types h.stk.at_ m2 (by decide) e
  ·exact own_ne h.stk.own m1 (by decide) (e ▸ hk)
  ·exact own_ne h.stk.own m2 (by decide) (e ▸ hk)
theorem At.pooled {fr':List Bool} (h:At w c sh q s) (ho:Only (fun k=>k=q.po∨k=q.pg) w w') (ht:Po.At w' q.po q.pg fr'):At w' c sh q { s with fr:=fr' }:=by
 obtain ⟨n,hm⟩:=h.me
 obtain ⟨rest,hsr⟩:=h.srow
 obtain ⟨-,-,n1,n2,-⟩:=h.ne_sp
 have m1:=h.pool.mid.me
 have m2:=h.pool.mid.row
 have hF:∀ k,(k=q.po∨k=q.pg)→F q s k:=fun k hk=>by rcases hk with hk | hk;exact .inr (.inr (.inr (.inl hk)));exact .inr (.inr (.inr (.inr (.inl hk))))
 refine ⟨⟨n,ho.blk hm (fun e=>by rcases e with e | e;exact n1 e;exact n2 e)⟩,h.tab.only ho ?_ ?_,ht,h.coil.only ho ?_,h.line.only ho ?_ (fun e he k hk e'=>h.gv e he k hk (hF k e')),h.stk.only ho ?_,⟨rest,ho.own hsr (fun k hk e=>(h.ro k (.inr hk)).1 (hF k e))⟩,h.conf.only ho (fun k hk e=>(h.ro k (.inl hk)).1 (hF k e)),h.ok,h.ns,fun k hk=>⟨(h.ro k hk).1,Nat.lt_of_lt_of_le (h.ro k hk).2 ho.size⟩,h.gv⟩
 ·rintro (e | e);exact ne_types h.tab.mid.me m1 (by decide) e;exact ne_types h.tab.mid.me m2 (by decide) e
 ·rintro (e | e);exact ne_types h.tab.mid.row m1 (by decide) e;exact ne_types h.tab.mid.row m2 (by decide) e
 ·rintro (e | e);exact ne_types h.coil.me m1 (by decide) e;exact ne_types h.coil.me m2 (by decide) e
 ·rintro k (rfl | hk) (e | e)
  ·exact ne_types h.line.at_ m1 (by decide) e
  ·exact ne_types h.line.at_ m2 (by decide) e
  ·exact own_ne h.line.own m1 (by decide) (e ▸ hk)
  ·exact own_ne h.line.own m2 (by decide) (e ▸ hk)
 ·rintro k (rfl | hk) (e | e)
  ·exact ne_types h.stk.at_ m1 (by decide) e
  ·exact ne_types h.stk.at_ m2 (by decide) e
  ·exact own_ne h.stk.own m1 (by decide) (e ▸ hk)
  ·exact own_ne h.stk.own m2 (by decide) (e ▸ hk)
theorem At.coiled {cur':Nat} {u':Nat→Int} {kept':Int} (h:At w c sh q s) (ho:Only (fun k=>k=q.co) w w') (ht:Co.At w' q.co s.size cur' u' kept'):At w' c sh q { s with cur:=cur',u:=u',kept:=kept' }:=by
 obtain ⟨n,hm⟩:=h.me
 obtain ⟨rest,hsr⟩:=h.srow
 obtain ⟨-,-,-,-,n1,-⟩:=h.ne_sp
 have m1:=h.coil.me
 have hF:∀ k,k=q.co→F q s k:=fun k hk=>.inr (.inr (.inr (.inr (.inr (.inl hk)))))
 refine ⟨⟨n,ho.blk hm n1⟩,h.tab.only ho (ne_types h.tab.mid.me m1 (by decide)) (ne_types h.tab.mid.row m1 (by decide)),h.pool.only ho (ne_types h.pool.mid.me m1 (by decide)) (ne_types h.pool.mid.row m1 (by decide)),ht,h.line.only ho ?_ (fun e he k hk e'=>h.gv e he k hk (hF k e')),h.stk.only ho ?_,⟨rest,ho.own hsr (fun k hk e=>(h.ro k (.inr hk)).1 (hF k e))⟩,h.conf.only ho (fun k hk e=>(h.ro k (.inl hk)).1 (hF k e)),h.ok,h.ns,fun k hk=>⟨(h.ro k hk).1,Nat.lt_of_lt_of_le (h.ro k hk).2 ho.size⟩,h.gv⟩
 ·rintro k (rfl | hk) e
  ·exact ne_types h.line.at_ m1 (by decide) e
  ·exact own_ne h.line.own m1 (by decide) (e ▸ hk)
 ·rintro k (rfl | hk) e
  ·exact ne_types h.stk.at_ m1 (by decide) e
  ·exact own_ne h.stk.own m1 (by decide) (e ▸ hk)
end
end Sp
end Go.Proofs.YtpgdiceeimehiaaGreat
namespace Go.Proofs.YtpgdiceeimehiaaGreat.Sp
open Go.RowKit
section
variable (c:Cn) (sh:List Sh) (q:Q) (s:St)
theorem tab_F {q:Q} {s:St} {a w:World} (h:Only (fun k=>k=q.tb∨k=q.tg) a w):Only (F q s) a w:=h.mono fun _ _ hk=>by rcases hk with hk | hk;exact .inr (.inl hk);exact .inr (.inr (.inl hk))
theorem pool_F {q:Q} {s:St} {a w:World} (h:Only (fun k=>k=q.po∨k=q.pg) a w):Only (F q s) a w:=h.mono fun _ _ hk=>by rcases hk with hk | hk;exact .inr (.inr (.inr (.inl hk)));exact .inr (.inr (.inr (.inr (.inl hk))))
theorem coil_F {q:Q} {s:St} {a w:World} (h:Only (fun k=>k=q.co) a w):Only (F q s) a w:=h.mono fun _ _ hk=>.inr (.inr (.inr (.inr (.inr (.inl hk)))))
theorem line_F {q:Q} {s:St} {a w:World} (h:Only (Ln.LineS q.li s.lv) a w):Only (F q s) a w:=h.mono fun _ _ hk=>.inr (.inr (.inr (.inr (.inr (.inr (.inl hk))))))
theorem pure_F {q:Q} {s:St} {a w:World} (h:Pure a w):Only (F q s) a w:=h.mono fun _ _ hk=>hk.elim
theorem born_in (j:Nat) (o:Tab.One) (w:World) (h:At w c sh q s) (hj:s.l[j]?=some o) (hst:o.st=2) (hhd:o.head=false):Calls Tryz.prog 193 #[.pointer (some ⟨q.sp,0,none⟩),.int .i64 j] w fun e w'=>e=.returned (.bool true)∧Only (F q s) w w'∧At w' c sh q { s with l:=s.l.set j { o with head:=true } }:=by
 obtain ⟨-,-,-,⟨n,c3⟩,-⟩:=h.cs
 have fb:=h.fb
 have H1:=hid (h.count (wrap64 (n+1)))
 have O1:=hid (only_sp (Only.refl (F q s) w) 3 (.int .i64 (wrap64 (n+1))))
 have HH:=hid hhd
 clear h hhd
 go_enter Tryz.func193,Tryz.ntmps193
 go_upto_region 2 with fail
 generalize w.setCell ⟨q.sp,3,none⟩ (.int .i64 (wrap64 (n+1)))=w1 at *
 obtain ⟨c0,-⟩:=H1.out.cs
 go_wp2_with fail
 refine (Tab.born_in q.tb q.tg s.l j o w1 H1.out.tab hj hst HH.out).mono ?_
 rintro e w2 ⟨rfl,o2,h2⟩
 have H2:=hid (H1.out.tabbed o2 h2)
 have O2:Hid (Only (F q s) w w2):=hid (O1.out.trans (tab_F o2) (fun _ _ h=>h))
 clear o2 h2
 go_wp2_with fail
 go_ret
 exact ⟨rfl,O2.out,H2.out⟩
theorem frees_in (j:Nat) (o:Tab.One) (w:World) (h:At w c sh q s) (hj:s.l[j]?=some o) (hf:s.fr[j]?=some false):Calls Tryz.prog 164 #[.pointer (some ⟨q.sp,0,none⟩),.int .i64 j] w fun e w'=>e=.returned (.tuple #[])∧Only (F q s) w w'∧At w' c sh q { s with l:=s.l.set j ⟨0,false,false⟩,fr:=s.fr.set j true }:=by
 obtain ⟨c0,-,-,-,-,c13,-⟩:=h.cs
 have H:=hid h
 clear h
 go_enter Tryz.func164,Tryz.ntmps164
 go_wp2_with fail
 refine (Tab.set_in q.tb q.tg s.l j o w H.out.tab hj 0 (by omega) false false).mono ?_
 rintro e w2 ⟨rfl,o2,h2⟩
 have H2:=hid (H.out.tabbed o2 h2)
 have O2:Hid (Only (F q s) w w2):=hid (tab_F o2)
 clear o2 h2 c0 c13
 obtain ⟨c0,-,-,-,-,c13,-⟩:=H2.out.cs
 go_wp2_with fail
 refine (Po.give_in q.po q.pg s.fr j w2 H2.out.pool hf).mono ?_
 rintro e w3 ⟨rfl,o3,h3⟩
 have H3:=hid (H2.out.pooled o3 h3)
 have O3:Hid (Only (F q s) w w3):=hid (O2.out.trans (pool_F o3) (fun _ _ h=>h))
 clear o3 h3
 go_wp2_with fail
 go_end0
 exact ⟨rfl,O3.out,H3.out⟩
theorem turn_in (w:World) (h:At w c sh q s) (hu:s.u (1-s.cur)=0):Calls Tryz.prog 105 #[.pointer (some ⟨q.sp,0,none⟩)] w fun e w'=>e=.returned (.bool true)∧Only (F q s) w w'∧At w' c sh q { s with cur:=1-s.cur,kept:=s.u s.cur }:=by
 obtain ⟨-,-,-,⟨n,c3⟩,-⟩:=h.cs
 have fb:=h.fb
 have H1:=hid (h.count (wrap64 (n+1)))
 have O1:=hid (only_sp (Only.refl (F q s) w) 3 (.int .i64 (wrap64 (n+1))))
 have HU:=hid hu
 clear h hu
 go_enter Tryz.func105,Tryz.ntmps105
 go_upto_region 2 with fail
 generalize w.setCell ⟨q.sp,3,none⟩ (.int .i64 (wrap64 (n+1)))=w1 at *
 obtain ⟨-,-,-,-,-,-,c14,-⟩:=H1.out.cs
 go_wp2_with fail
 refine (Co.turn_in q.co s.size s.cur s.u s.kept w1 H1.out.coil HU.out).mono ?_
 rintro e w2 ⟨rfl,o2,h2⟩
 have H2:=hid (H1.out.coiled o2 h2)
 have O2:Hid (Only (F q s) w w2):=hid (O1.out.trans (coil_F o2) (fun _ _ h=>h))
 clear o2 h2
 go_wp2_with fail
 go_ret
 exact ⟨rfl,O2.out,H2.out⟩
theorem done_in (w:World) (h:At w c sh q s) (hk:s.kept=0):Calls Tryz.prog 113 #[.pointer (some ⟨q.sp,0,none⟩)] w fun e w'=>e=.returned (.bool true)∧Only (F q s) w w'∧At w' c sh q { s with u:=fun k=>if k=1-s.cur then 0 else s.u k,kept:=0 }:=by
 obtain ⟨-,-,-,⟨n,c3⟩,-⟩:=h.cs
 have fb:=h.fb
 have H1:=hid (h.count (wrap64 (n+1)))
 have O1:=hid (only_sp (Only.refl (F q s) w) 3 (.int .i64 (wrap64 (n+1))))
 have HU:=hid hk
 clear h hk
 go_enter Tryz.func113,Tryz.ntmps113
 go_upto_region 2 with fail
 generalize w.setCell ⟨q.sp,3,none⟩ (.int .i64 (wrap64 (n+1)))=w1 at *
 obtain ⟨-,-,-,-,-,-,c14,-⟩:=H1.out.cs
 go_wp2_with fail
 refine (Co.done_in q.co s.size s.cur s.u w1 (HU.out ▸ H1.out.coil)).mono ?_
 rintro e w2 ⟨rfl,o2,h2⟩
 have H2:=hid (H1.out.coiled o2 h2)
 have O2:Hid (Only (F q s) w w2):=hid (O1.out.trans (coil_F o2) (fun _ _ h=>h))
 clear o2 h2
 go_wp2_with fail
 go_ret
 exact ⟨rfl,O2.out,H2.out⟩
theorem sweep_no (j:Nat) (o:Tab.One) (se:Bool) (w:World) (h:At w c sh q s) (hj:s.l[j]?=some o) (hn:o.st=2→o.sense=se):Calls Tryz.prog 114 #[.pointer (some ⟨q.sp,0,none⟩),.int .i64 j,.bool se] w fun e w'=>e=.returned (.bool false)∧Only (F q s) w w'∧At w' c sh q s:=by
 obtain ⟨-,-,-,⟨n,c3⟩,-⟩:=h.cs
 have fb:=h.fb
 have H1:=hid (h.count (wrap64 (n+1)))
 have O1:=hid (only_sp (Only.refl (F q s) w) 3 (.int .i64 (wrap64 (n+1))))
 have HN:=hid hn
 have HJ:=hid hj
 clear h hn hj
 go_enter Tryz.func114,Tryz.ntmps114
 go_upto_region 2 with fail
 generalize w.setCell ⟨q.sp,3,none⟩ (.int .i64 (wrap64 (n+1)))=w1 at *
 obtain ⟨c0,-⟩:=H1.out.cs
 by_cases h2:o.st=2
 ·have hs:=HN.out h2
  have hb:((o.st:Int) != 2)=false:=by simp;omega
  have HB:Hid ((decide (o.st=2) && o.sense == se)=true):=hid (by simp [h2,hs])
  clear h2 hs
  go_wp2_with fail
  refine (Tab.state_in q.tb q.tg s.l j o w1 H1.out.tab HJ.out).mono ?_
  rintro e w2 ⟨rfl,rfl⟩
  go_wp2_with fail
  refine (Tab.black_in q.tb q.tg s.l j o se w1 H1.out.tab HJ.out).mono ?_
  rw [HB.out]
  rintro e w2 ⟨rfl,rfl⟩
  go_wp2_with fail
  go_ret
  exact ⟨rfl,O1.out,H1.out⟩
 ·have hb:((o.st:Int) != 2)=true:=by simp;omega
  clear h2
  go_wp2_with fail
  refine (Tab.state_in q.tb q.tg s.l j o w1 H1.out.tab HJ.out).mono ?_
  rintro e w2 ⟨rfl,rfl⟩
  go_wp2_with fail
  go_ret
  exact ⟨rfl,O1.out,H1.out⟩
theorem sweep_yes (j:Nat) (o:Tab.One) (se:Bool) (w:World) (h:At w c sh q s) (hj:s.l[j]?=some o) (h2:o.st=2) (hs:o.sense≠se) (hf:s.fr[j]?=some false):Calls Tryz.prog 114 #[.pointer (some ⟨q.sp,0,none⟩),.int .i64 j,.bool se] w fun e w'=>e=.returned (.bool true)∧Only (F q s) w w'∧At w' c sh q { s with l:=s.l.set j ⟨0,false,false⟩,fr:=s.fr.set j true }:=by
 obtain ⟨-,-,-,⟨n,c3⟩,-⟩:=h.cs
 have fb:=h.fb
 have H1:=hid (h.count (wrap64 (n+1)))
 have O1:=hid (only_sp (Only.refl (F q s) w) 3 (.int .i64 (wrap64 (n+1))))
 have hb:((o.st:Int) != 2)=false:=by simp;omega
 have HB:Hid ((decide (o.st=2) && o.sense == se)=false):=hid (by simp [hs])
 have HJ:=hid hj
 have HF:=hid hf
 clear h hj h2 hs hf
 go_enter Tryz.func114,Tryz.ntmps114
 go_upto_region 2 with fail
 generalize w.setCell ⟨q.sp,3,none⟩ (.int .i64 (wrap64 (n+1)))=w1 at *
 obtain ⟨c0,-⟩:=H1.out.cs
 go_wp2_with fail
 refine (Tab.state_in q.tb q.tg s.l j o w1 H1.out.tab HJ.out).mono ?_
 rintro e w2 ⟨rfl,rfl⟩
 go_wp2_with fail
 refine (Tab.black_in q.tb q.tg s.l j o se w1 H1.out.tab HJ.out).mono ?_
 rw [HB.out]
 rintro e w2 ⟨rfl,rfl⟩
 go_wp2_with fail
 refine (frees_in c sh q s j o w1 H1.out HJ.out HF.out).mono ?_
 rintro e w2 ⟨rfl,o2,h2⟩
 have H2:=hid h2
 have O2:Hid (Only (F q s) w w2):=hid (O1.out.trans o2 (fun _ _ h=>h))
 clear o2 h2
 go_wp2_with fail
 go_ret
 exact ⟨rfl,O2.out,H2.out⟩
abbrev shV (c:Cn) (q:Q):Value:=.agg #[.int .i64 c.frags,.int .i64 c.spine,.int .i64 c.globals,.int .i64 c.threads,.int .i64 c.locals,.int .i64 c.cache,.int .i64 c.stack,.int .i64 c.low,q.cv,.pointer (some ⟨q.po,0,none⟩),.pointer (some ⟨q.co,0,none⟩),.pointer (some ⟨q.li,0,none⟩)]
def shO (c:Cn) (q:Q):Obj:=.cells #[.int .i64 c.frags,.int .i64 c.spine,.int .i64 c.globals,.int .i64 c.threads,.int .i64 c.locals,.int .i64 c.cache,.int .i64 c.stack,.int .i64 c.low,q.cv,.pointer (some ⟨q.po,0,none⟩),.pointer (some ⟨q.co,0,none⟩),.pointer (some ⟨q.li,0,none⟩)] 165
theorem sh_cells (c:Cn) (q:Q) (w:World):(w.alloc (shO c q)).cell? ⟨w.heap.size,9,none⟩=some (.pointer (some ⟨q.po,0,none⟩))∧(w.alloc (shO c q)).cell? ⟨w.heap.size,10,none⟩=some (.pointer (some ⟨q.co,0,none⟩))∧(w.alloc (shO c q)).cell? ⟨w.heap.size,11,none⟩=some (.pointer (some ⟨q.li,0,none⟩)):=by
 have hb:=heap_alloc_new w (shO c q)
 refine ⟨?_,?_,?_⟩ <;> (rw [cell_of_row _ _ _ _ _ _ hb];rfl)
theorem waits_any (w:World) (h:At w c sh q s):Calls Tryz.prog 91 #[shV c q] w fun e w'=>e=.returned (.int .i64 (s.en.countP Ln.isW:Int))∧Pure w w':=by
 obtain ⟨c9,c10,c11⟩:=sh_cells c q w
 have hp:=(Only.refl (fun _=>False) w).alloc (shO c q)
 have H:=hid (h.pure hp)
 have HP:=hid hp
 clear h hp
 have e:shO c q=.cells #[.int .i64 c.frags,.int .i64 c.spine,.int .i64 c.globals,.int .i64 c.threads,.int .i64 c.locals,.int .i64 c.cache,.int .i64 c.stack,.int .i64 c.low,q.cv,.pointer (some ⟨q.po,0,none⟩),.pointer (some ⟨q.co,0,none⟩),.pointer (some ⟨q.li,0,none⟩)] 165:=rfl
 rw [e] at c9 c10 c11 H HP
 clear e
 go_enter Tryz.func91,Tryz.ntmps91
 go_wp2_with fail
 refine (Ln.waits_any q.li s.lv s.en _ H.out.line).mono ?_
 rintro e w2 ⟨rfl,hp⟩
 have HP2:=hid (Pure.then HP.out hp)
 clear hp c9 c10 c11
 go_wp2_with fail
 go_ret
 exact ⟨rfl,HP2.out⟩
theorem free_any (w:World) (h:At w c sh q s):Calls Tryz.prog 92 #[shV c q] w fun e w'=>e=.returned (.int .i64 (Po.cnt s.fr:Int))∧Pure w w':=by
 obtain ⟨c9,c10,c11⟩:=sh_cells c q w
 have hp:=(Only.refl (fun _=>False) w).alloc (shO c q)
 have H:=hid (h.pure hp)
 have HP:=hid hp
 clear h hp
 have e:shO c q=.cells #[.int .i64 c.frags,.int .i64 c.spine,.int .i64 c.globals,.int .i64 c.threads,.int .i64 c.locals,.int .i64 c.cache,.int .i64 c.stack,.int .i64 c.low,q.cv,.pointer (some ⟨q.po,0,none⟩),.pointer (some ⟨q.co,0,none⟩),.pointer (some ⟨q.li,0,none⟩)] 165:=rfl
 rw [e] at c9 c10 c11 H HP
 clear e
 go_enter Tryz.func92,Tryz.ntmps92
 go_wp2_with fail
 refine (Po.free_any q.po q.pg s.fr _ H.out.pool).mono ?_
 rintro e w2 ⟨rfl,rfl⟩
 clear c9 c10 c11
 go_wp2_with fail
 go_ret
 exact ⟨rfl,HP.out⟩
theorem fits_0 (k:Nat) (w:World) (h:At w c sh q s) (hk:1≤k) (hk2:k≤2000):Calls Tryz.prog 167 #[shV c q,.int .i64 (k:Int),.int .i64 0] w fun e w'=>e=.returned (.bool (decide (k≤Po.cnt s.fr)))∧Pure w w':=by
 obtain ⟨c9,c10,c11⟩:=sh_cells c q w
 have hp:=(Only.refl (fun _=>False) w).alloc (shO c q)
 have H:=hid (h.pure hp)
 have HP:=hid hp
 clear h hp
 have e:shO c q=.cells #[.int .i64 c.frags,.int .i64 c.spine,.int .i64 c.globals,.int .i64 c.threads,.int .i64 c.locals,.int .i64 c.cache,.int .i64 c.stack,.int .i64 c.low,q.cv,.pointer (some ⟨q.po,0,none⟩),.pointer (some ⟨q.co,0,none⟩),.pointer (some ⟨q.li,0,none⟩)] 165:=rfl
 rw [e] at c9 c10 c11 H HP
 clear e
 by_cases hf:k≤Po.cnt s.fr
 ·have d1:decide ((Po.cnt s.fr:Int)<(k:Int))=false:=by simp;omega
  have d2:decide (Po.cnt s.fr<k)=false:=by simp;omega
  have HF:=hid hf
  clear hf
  go_enter Tryz.func167,Tryz.ntmps167
  go_wp2_with fail
  refine (Po.free_any q.po q.pg s.fr _ H.out.pool).mono ?_
  rintro e w2 ⟨rfl,rfl⟩
  go_wp2_with fail
  refine (Po.runs_in q.po q.pg s.fr k _ H.out.pool hk hk2).mono ?_
  rintro e w2 ⟨rfl,rfl⟩
  cases Po.run s.fr k
  all_goals
   simp only [Po.runV]
   go_wp2_with fail
   go_ret
   exact ⟨ret_b (by simp [HF.out]),HP.out⟩
 ·have d1:decide ((Po.cnt s.fr:Int)<(k:Int))=true:=by simp;omega
  have d2:decide (Po.cnt s.fr<k)=true:=by simp;omega
  have HF:=hid hf
  clear hf
  go_enter Tryz.func167,Tryz.ntmps167
  go_wp2_with fail
  refine (Po.free_any q.po q.pg s.fr _ H.out.pool).mono ?_
  rintro e w2 ⟨rfl,rfl⟩
  go_wp2_with fail
  go_ret
  exact ⟨ret_b (by simp [HF.out]),HP.out⟩
theorem takes_0 (k:Nat) (w:World) (h:At w c sh q s) (hk:1≤k) (hkn:k≤Po.cnt s.fr):Calls Tryz.prog 168 #[shV c q,.int .i64 (k:Int),.int .i64 0] w fun e w'=>∃ v,e=.returned (.tuple #[v,.int .i64 (-1)])∧Only (F q s) w w'∧w'.ownsRow w.heap.size 3 1 v (Po.take s.fr k).length (ints (Po.natI (Po.take s.fr k)))∧At w' c sh q { s with fr:=Po.off s.fr (Po.take s.fr k) }:=by
 obtain ⟨c9,c10,c11⟩:=sh_cells c q w
 have hp:=(Only.refl (fun _=>False) w).alloc (shO c q)
 have H:=hid (h.pure hp)
 have HP:=hid hp
 clear h hp
 have e:shO c q=.cells #[.int .i64 c.frags,.int .i64 c.spine,.int .i64 c.globals,.int .i64 c.threads,.int .i64 c.locals,.int .i64 c.cache,.int .i64 c.stack,.int .i64 c.low,q.cv,.pointer (some ⟨q.po,0,none⟩),.pointer (some ⟨q.co,0,none⟩),.pointer (some ⟨q.li,0,none⟩)] 165:=rfl
 rw [e] at c9 c10 c11 H HP
 clear e
 go_enter Tryz.func168,Tryz.ntmps168
 go_wp2_with fail
 refine (Po.take_in q.po q.pg s.fr k _ H.out.pool hk hkn).mono ?_
 rintro e w2 ⟨v,rfl,ht⟩
 have HT:=hid ht
 clear ht c9 c10 c11
 go_wp2_with fail
 go_ret2
 exact ⟨v,rfl,(pure_F HP.out).trans (pool_F HT.out.only) (fun _ _ h=>h),own_mono HT.out.own (by simp),H.out.pooled HT.out.only HT.out.at_⟩
end
end Go.Proofs.YtpgdiceeimehiaaGreat.Sp
