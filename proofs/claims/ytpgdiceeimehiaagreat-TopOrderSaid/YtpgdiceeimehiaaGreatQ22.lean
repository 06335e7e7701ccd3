/- Part 22 of the proof that spotop.TopOrder returns true for all arguments and leaves what was there as it was. -/
import Derived.Deep.RegionHeld3
import Derived.Test.YtpgdiceeimehiaaGreatQ02
import Derived.Test.YtpgdiceeimehiaaGreatQ05
import Derived.Test.YtpgdiceeimehiaaGreatQ10
import Derived.Test.YtpgdiceeimehiaaGreatQ15
import Derived.Test.YtpgdiceeimehiaaGreatQ16
import Derived.Test.YtpgdiceeimehiaaGreatQ18
import Derived.Test.YtpgdiceeimehiaaGreatQ19
import Derived.Test.YtpgdiceeimehiaaGreatQ21
set_option maxRecDepth 100000
set_option maxHeartbeats 16000000
open Go.Lib (hid)
namespace Go.Proofs.YtpgdiceeimehiaaGreat.Law
open Ac (Vl Wr)
def optW:Option Nat→Nat × Nat
 | none=>noneW
 | some i=>refW i
def locV:Option (Option Nat)→Vl
 | none=>(false,0,0)
 | some v=>(true,optW v)
structure Two (ws:List (Nat × Nat)) (i:Nat) (v:Option Nat):Prop where
 w0:ws[8 * i]?=some noneW
 w1:ws[8 * i+1]?=some (headW 0 1)
 w2:ws[8 * i+2]?=some (optW v)
 w3:ws[8 * i+3]?=some noneW
theorem Two.set {ws:List (Nat × Nat)} {i j:Nat} {v:Option Nat} {z:Nat × Nat} (h:Two ws i v) (hj:j / 8≠i):Two (ws.set j z) i v:=by
 have e:∀ d,d<8→(ws.set j z)[8 * i+d]?=ws[8 * i+d]?:=fun d hd=>by rw [List.getElem?_set_ne];omega
 exact ⟨(e 0 (by omega)).trans h.w0,(e 1 (by omega)).trans h.w1,(e 2 (by omega)).trans h.w2,(e 3 (by omega)).trans h.w3⟩
theorem Two.put {ws:List (Nat × Nat)} {i:Nat} {v:Option Nat} (h:Two ws i v) (v':Option Nat):Two (ws.set (8 * i+2) (optW v')) i v':=by
 have hl:8 * i+2<ws.length:=(List.getElem?_eq_some_iff.1 h.w2).1
 refine ⟨?_,?_,?_,?_⟩
 ·rw [List.getElem?_set_ne (by omega)];exact h.w0
 ·rw [List.getElem?_set_ne (by omega)];exact h.w1
 ·rw [List.getElem?_set_self hl]
 ·rw [List.getElem?_set_ne (by omega)];exact h.w3
structure Me (a:A) (ws:List (Nat × Nat)):Prop where
 len:ws.length=353
 obj:∀ i,44-a.cnt≤i→i<44→Two ws i (a.nx i)
 glob:ws[352]?=some (optW a.g)
theorem Me.store {a:A} {ws:List (Nat × Nat)} {i:Nat} {v:Option Nat} (h:Me a ws) (h1:44-a.cnt≤i) (h2:i<44):Me { a with nx:=upd a.nx i v } (ws.set (8 * i+2) (optW v)):=by
 refine ⟨by rw [List.length_set];exact h.len,fun k hk hk2=>?_,by rw [List.getElem?_set_ne (by omega)];exact h.glob⟩
 show Two _ k (upd a.nx i v k)
 by_cases e:k=i
 ·subst e;rw [upd_me];exact (h.obj k hk hk2).put v
 ·rw [upd_ne e];exact (h.obj k hk hk2).set (by omega)
theorem Me.setg {a:A} {ws:List (Nat × Nat)} {v:Option Nat} (h:Me a ws):Me { a with g:=v } (ws.set 352 (optW v)) :=
 ⟨by rw [List.length_set];exact h.len,fun k hk hk2=>(h.obj k hk hk2).set (by omega),List.getElem?_set_self (by rw [h.len];omega)⟩
theorem Me.other {a:A} {ws:List (Nat × Nat)} {j:Nat} {z:Nat × Nat} (h:Me a ws) (hj:j / 8<44-a.cnt):Me a (ws.set j z) :=
 ⟨by rw [List.length_set];exact h.len,fun k hk hk2=>(h.obj k hk hk2).set (by omega),by rw [List.getElem?_set_ne (by omega)];exact h.glob⟩
theorem Me.new {a:A} {ws:List (Nat × Nat)} (h:Me a ws) (hc:a.cnt<44) (ht:Two ws (43-a.cnt) none) (x:Option (Option Nat)):Me { a with cnt:=a.cnt+1,nx:=upd a.nx (43-a.cnt) none,l0:=x } ws:=by
 refine ⟨h.len,fun k (hk:44-(a.cnt+1)≤k) hk2=>?_,h.glob⟩
 show Two _ k (upd a.nx (43-a.cnt) none k)
 by_cases e:k=43-a.cnt
 ·rw [e,upd_me];exact ht
 ·rw [upd_ne e];exact h.obj k (by omega) hk2
theorem Me.same {a b:A} {ws:List (Nat × Nat)} (h:Me a ws) (h1:b.cnt=a.cnt) (h2:b.nx=a.nx) (h3:b.g=a.g):Me b ws:=⟨h.len,fun k hk hk2=>by rw [h2];exact h.obj k (by omega) hk2,by rw [h3];exact h.glob⟩
def Done (l:List Wr) (j:Nat) (ws:List (Nat × Nat)):Prop:=∀ k (x:Wr),k<j→l[k]?=some x→ws[x.1.toNat]?=some x.2
theorem Done.zero (l:List Wr) (ws:List (Nat × Nat)):Done l 0 ws:=fun k x h=>absurd h (by omega)
theorem Done.step {l:List Wr} {j:Nat} {ws:List (Nat × Nat)} {x:Wr} (h:Done l j ws) (hx:l[j]?=some x) (hl:x.1.toNat<ws.length) (hu:∀ k (y:Wr),k<j→l[k]?=some y→y.1.toNat≠x.1.toNat):Done l (j+1) (ws.set x.1.toNat x.2):=by
 intro k y hk hy
 by_cases e:k=j
 ·subst e
  rw [hx] at hy
  injection hy with hy
  subst hy
  exact List.getElem?_set_self hl
 ·have hk':k<j:=by omega
  rw [List.getElem?_set_ne (fun e=>hu k y hk' hy e.symm)]
  exact h k y hk' hy
open Pl (objJ objW wholeL wholeJ objJ_len objJ_succ wholeJ_len)
theorem obj_get (kd:Nat) (sd:Bool) (xs:List Nat) (bs:List Bool):∀ n,∀ j k,j<n→k<8→(objJ kd sd xs bs n)[8 * j+k]?=some (((8 * xs.getD j 0+k:Nat):Int),(objW kd sd xs bs j).getD k (0,0)):=by
 intro n
 induction n with
 | zero=>intro j k h;omega
 | succ n ih =>
  intro j k hj hk
  rw [objJ_succ]
  by_cases e:j<n
  ·rw [List.getElem?_append_left (by rw [objJ_len];omega)]
   exact ih j k e hk
  ·obtain rfl:j=n:=by omega
   rw [List.getElem?_append_right (by rw [objJ_len];omega),objJ_len,show 8 * j+k-8 * j=k from by omega]
   simp [wholeL,wholeJ,hk]
theorem obj_uniq {kd:Nat} {sd:Bool} {xs:List Nat} {bs:List Bool} (hn:xs.Nodup) {p q:Nat} {x y:Wr} (hp:(objJ kd sd xs bs xs.length)[p]?=some x) (hq:(objJ kd sd xs bs xs.length)[q]?=some y) (hpq:p≠q):x.1.toNat≠y.1.toNat:=by
 have hp1:=(List.getElem?_eq_some_iff.1 hp).1
 have hq1:=(List.getElem?_eq_some_iff.1 hq).1
 rw [objJ_len] at hp1 hq1
 have hp2:=obj_get kd sd xs bs xs.length (p / 8) (p % 8) (by omega) (by omega)
 have hq2:=obj_get kd sd xs bs xs.length (q / 8) (q % 8) (by omega) (by omega)
 rw [show 8 * (p / 8)+p % 8=p from by omega,hp] at hp2
 rw [show 8 * (q / 8)+q % 8=q from by omega,hq] at hq2
 injection hp2 with hp2
 injection hq2 with hq2
 rw [hp2,hq2]
 simp only [Int.toNat_natCast]
 intro e
 have e1:xs.getD (p / 8) 0=xs.getD (q / 8) 0:=by omega
 have e2:p % 8=q % 8:=by omega
 have a1:p / 8<xs.length:=by omega
 have a2:q / 8<xs.length:=by omega
 simp only [List.getD,List.getElem?_eq_getElem a1,List.getElem?_eq_getElem a2,Option.getD_some] at e1
 have:=(List.getElem_inj hn).1 e1
 omega
theorem Done.word {kd:Nat} {sd:Bool} {xs:List Nat} {bs:List Bool} {ws:List (Nat × Nat)} (h:Done (objJ kd sd xs bs xs.length) (8 * xs.length) ws) {j k:Nat} (hj:j<xs.length) (hk:k<8):ws[8 * xs.getD j 0+k]?=some ((objW kd sd xs bs j).getD k (0,0)):=by
 have:=h (8 * j+k) _ (by omega) (obj_get kd sd xs bs xs.length j k hj hk)
 rwa [Int.toNat_natCast] at this
end Go.Proofs.YtpgdiceeimehiaaGreat.Law
namespace Go.Proofs.YtpgdiceeimehiaaGreat.Fd
open Go.RowKit
theorem shp_cells {w:World} {X:Nat} {a b:Value} (h:w.heap[X]?=some (.cells #[a,b] 35 (0,0))):w.cell? ⟨X,0,none⟩=some a∧w.cell? ⟨X,1,none⟩=some b:=by
 refine ⟨?_,?_⟩ <;> (rw [cell_of_row w _ _ _ _ _ h];rfl)
structure St where
 head:Nat
 k:Nat
 pc:Int
 at_:Int
 ref:Bool
 e:Int
def cs (c:Cn) (v:Value) (s:St) (n:Int):Array Value:=#[.int .i64 c.frags,.int .i64 c.spine,.int .i64 c.globals,.int .i64 c.threads,.int .i64 c.locals,.int .i64 c.cache,.int .i64 c.stack,.int .i64 c.low,v,.int .i64 (s.head:Int),.int .i64 (s.k:Int),.bool false,.int .i64 s.pc,.int .i64 (s.head:Int),.int .i64 0,.int .i64 0,.int .i64 0,.int .i64 0,.int .i64 0,.int .i64 s.at_,.bool s.ref,.int .i64 s.e,.int .i64 n]
structure At (w:World) (fb:Nat) (c:Cn) (v:Value) (sh:List Sh) (s:St):Prop where
 me:∃ n:Int,w.heap[fb]?=some (.cells (cs c v s n) 295 (0,0))
 conf:ShsR w w.heap.size v sh
 ok:checkI c sh=0
 ro:∀ k,CfS v sh k→k≠fb
section
variable {w w':World} {fb:Nat} {c:Cn} {v:Value} {sh:List Sh} {s:St}
theorem At.p0 (h:At w fb c v sh s):w.cell? ⟨fb,0,none⟩=some (.int .i64 c.frags):=by
 obtain ⟨n,hn⟩:=h.me
 rw [cell_of_row w _ _ _ _ _ hn];rfl
theorem At.p1 (h:At w fb c v sh s):w.cell? ⟨fb,1,none⟩=some (.int .i64 c.spine):=by
 obtain ⟨n,hn⟩:=h.me
 rw [cell_of_row w _ _ _ _ _ hn];rfl
theorem At.p2 (h:At w fb c v sh s):w.cell? ⟨fb,2,none⟩=some (.int .i64 c.globals):=by
 obtain ⟨n,hn⟩:=h.me
 rw [cell_of_row w _ _ _ _ _ hn];rfl
theorem At.p3 (h:At w fb c v sh s):w.cell? ⟨fb,3,none⟩=some (.int .i64 c.threads):=by
 obtain ⟨n,hn⟩:=h.me
 rw [cell_of_row w _ _ _ _ _ hn];rfl
theorem At.p4 (h:At w fb c v sh s):w.cell? ⟨fb,4,none⟩=some (.int .i64 c.locals):=by
 obtain ⟨n,hn⟩:=h.me
 rw [cell_of_row w _ _ _ _ _ hn];rfl
theorem At.p5 (h:At w fb c v sh s):w.cell? ⟨fb,5,none⟩=some (.int .i64 c.cache):=by
 obtain ⟨n,hn⟩:=h.me
 rw [cell_of_row w _ _ _ _ _ hn];rfl
theorem At.p6 (h:At w fb c v sh s):w.cell? ⟨fb,6,none⟩=some (.int .i64 c.stack):=by
 obtain ⟨n,hn⟩:=h.me
 rw [cell_of_row w _ _ _ _ _ hn];rfl
theorem At.p7 (h:At w fb c v sh s):w.cell? ⟨fb,7,none⟩=some (.int .i64 c.low):=by
 obtain ⟨n,hn⟩:=h.me
 rw [cell_of_row w _ _ _ _ _ hn];rfl
theorem At.p8 (h:At w fb c v sh s):w.cell? ⟨fb,8,none⟩=some (v):=by
 obtain ⟨n,hn⟩:=h.me
 rw [cell_of_row w _ _ _ _ _ hn];rfl
theorem At.p9 (h:At w fb c v sh s):w.cell? ⟨fb,9,none⟩=some (.int .i64 (s.head:Int)):=by
 obtain ⟨n,hn⟩:=h.me
 rw [cell_of_row w _ _ _ _ _ hn];rfl
theorem At.p10 (h:At w fb c v sh s):w.cell? ⟨fb,10,none⟩=some (.int .i64 (s.k:Int)):=by
 obtain ⟨n,hn⟩:=h.me
 rw [cell_of_row w _ _ _ _ _ hn];rfl
theorem At.p11 (h:At w fb c v sh s):w.cell? ⟨fb,11,none⟩=some (.bool false):=by
 obtain ⟨n,hn⟩:=h.me
 rw [cell_of_row w _ _ _ _ _ hn];rfl
theorem At.p12 (h:At w fb c v sh s):w.cell? ⟨fb,12,none⟩=some (.int .i64 s.pc):=by
 obtain ⟨n,hn⟩:=h.me
 rw [cell_of_row w _ _ _ _ _ hn];rfl
theorem At.p19 (h:At w fb c v sh s):w.cell? ⟨fb,19,none⟩=some (.int .i64 s.at_):=by
 obtain ⟨n,hn⟩:=h.me
 rw [cell_of_row w _ _ _ _ _ hn];rfl
theorem At.p20 (h:At w fb c v sh s):w.cell? ⟨fb,20,none⟩=some (.bool s.ref):=by
 obtain ⟨n,hn⟩:=h.me
 rw [cell_of_row w _ _ _ _ _ hn];rfl
theorem At.p21 (h:At w fb c v sh s):w.cell? ⟨fb,21,none⟩=some (.int .i64 s.e):=by
 obtain ⟨n,hn⟩:=h.me
 rw [cell_of_row w _ _ _ _ _ hn];rfl
theorem At.p22 (h:At w fb c v sh s):∃ n:Int,w.cell? ⟨fb,22,none⟩=some (.int .i64 n):=by
 obtain ⟨n,hn⟩:=h.me
 exact ⟨n,by rw [cell_of_row w _ _ _ _ _ hn];rfl⟩
theorem At.fz (h:At w fb c v sh s) (k:Nat):w.frozen? ⟨fb,k,none⟩=false:=by
 obtain ⟨n,hn⟩:=h.me
 exact frozen_of_row w _ k _ _ hn
theorem At.lt (h:At w fb c v sh s):fb<w.heap.size:=by
 obtain ⟨n,hn⟩:=h.me
 exact (Array.getElem?_eq_some_iff.1 hn).1
theorem At.only {T:Nat→Prop} (h:At w fb c v sh s) (ho:Only T w w') (hf:¬ T fb) (hn:∀ k,CfS v sh k→¬ T k):At w' fb c v sh s:=by
 obtain ⟨n,hm⟩:=h.me
 exact ⟨⟨n,ho.blk hm hf⟩,h.conf.only ho hn,h.ok,h.ro⟩
theorem At.pure (h:At w fb c v sh s) (ho:Pure w w'):At w' fb c v sh s:=h.only ho (fun f=>f) (fun _ _ f=>f)
theorem At.put (h:At w fb c v sh s) (i:Nat) (u:Value) (s':St) (e:∀ n,∃ n',(cs c v s n).setIfInBounds i u=cs c v s' n'):At (w.setCell ⟨fb,i,none⟩ u) fb c v sh s':=by
 obtain ⟨n,hm⟩:=h.me
 obtain ⟨n',hn'⟩:=e n
 have h2:=set_me (i:=i) (u:=u) hm
 rw [hn'] at h2
 have ho:Only (fun k=>k=fb) w (w.setCell ⟨fb,i,none⟩ u):=(Only.refl (fun k=>k=fb) w).setCell (p:=⟨fb,i,none⟩) (fun _=>rfl) _
 exact ⟨⟨n',h2⟩,h.conf.only ho (fun k hk e=>h.ro k hk e),h.ok,h.ro⟩
theorem only_f {a:World} (h:Only (fun k=>k=fb) a w) (i:Nat) (u:Value):Only (fun k=>k=fb) a (w.setCell ⟨fb,i,none⟩ u):=h.setCell (p:=⟨fb,i,none⟩) (fun _=>rfl) _
end
section
variable {w w':World} {fb:Nat} {c:Cn} {v:Value} {sh:List Sh} {s:St}
theorem stands_in (i j:Nat) (w:World) (h:At w fb c v sh s) (hi:(i:Int)<c.frags) (hj:j<8):Calls Tryz.prog 299 #[.pointer (some ⟨fb,0,none⟩),.int .i64 (i:Int),.int .i64 (j:Int)] w fun e w'=>e=.returned (.bool true)∧Only (fun k=>k=fb) w w'∧At w' fb c v sh { s with pc:=6,at_:=((8 * i+j:Nat):Int) }:=by
 obtain ⟨A,cc,hv⟩:∃ A cc,v=.slice A sh.length cc:=by
  obtain ⟨⟨A,cc,e,_⟩,_⟩:=h.conf
  exact ⟨A,cc,e⟩
 subst hv
 have H:=hid h
 have p0:=H.out.p0
 have p1:=H.out.p1
 have p2:=H.out.p2
 have p3:=H.out.p3
 have p4:=H.out.p4
 have p5:=H.out.p5
 have p6:=H.out.p6
 have p7:=H.out.p7
 have p8:=H.out.p8
 clear h
 go_enter Tryz.func299,Tryz.ntmps299
 go_wp2_with fail
 refine (frag_in c _ sh i j w H.out.conf H.out.ok (by omega) hi (by omega) (by omega)).mono ?_
 rintro e w2 ⟨rfl,hp2⟩
 have H2:=hid (H.out.pure hp2)
 have O2:Hid (Only (fun k=>k=fb) w w2):=hid (hp2.mono (fun _ _ f=>f.elim))
 have p12:=H2.out.p12
 have p19:=H2.out.p19
 have ff:=H2.out.fz
 have e8:(8 * (i:Int)+(j:Int))=((8 * i+j:Nat):Int):=by omega
 rw [e8]
 have h3:=(H2.out.put 12 (.int .i64 6) { s with pc:=6 } (fun n=>⟨n,rfl⟩)).put 19 (.int .i64 ((8 * i+j:Nat):Int)) { s with pc:=6,at_:=((8 * i+j:Nat):Int) } (fun n=>⟨n,rfl⟩)
 have H3:=hid h3
 have O3:=hid (only_f (only_f O2.out 12 (.int .i64 6)) 19 (.int .i64 ((8 * i+j:Nat):Int)))
 clear p0 p1 p2 p3 p4 p5 p6 p7 p8 e8 h3 hp2
 obtain ⟨ad,had⟩:∃ ad:Int,((8 * i+j:Nat):Int)=ad:=⟨_,rfl⟩
 rw [had] at H3 O3 ⊢
 have HAD:=hid had
 clear had
 go_wp2_with fail
 go_ret
 exact ⟨rfl,O3.out,by rw [HAD.out];exact H3.out⟩
theorem read_in (i j mb mg:Nat) (words:List (Nat × Nat)) (z:Nat × Nat) (w:World) (h:At w fb c v sh s) (hm:Mm.At w mb mg words) (hi:(i:Int)<c.frags) (hj:j<8) (hz:words[8 * i+j]?=some z):Calls Tryz.prog 297 #[.pointer (some ⟨fb,0,none⟩),.pointer (some ⟨mb,0,none⟩),.int .i64 (i:Int),.int .i64 (j:Int)] w fun e w'=>e=.returned (.tuple #[.complex .f64 z.1 z.2,.bool true])∧Only (fun k=>k=mb) w w'∧Mm.At w' mb mg words:=by
 obtain ⟨A,cc,hv⟩:∃ A cc,v=.slice A sh.length cc:=by
  obtain ⟨⟨A,cc,e,_⟩,_⟩:=h.conf
  exact ⟨A,cc,e⟩
 subst hv
 have H:=hid h
 have HM:=hid hm
 have HZ:=hid hz
 have p0:=H.out.p0
 have p1:=H.out.p1
 have p2:=H.out.p2
 have p3:=H.out.p3
 have p4:=H.out.p4
 have p5:=H.out.p5
 have p6:=H.out.p6
 have p7:=H.out.p7
 have p8:=H.out.p8
 clear h hm hz
 go_enter Tryz.func297,Tryz.ntmps297
 go_wp2_with fail
 refine (frag_in c _ sh i j w H.out.conf H.out.ok (by omega) hi (by omega) (by omega)).mono ?_
 rintro e w2 ⟨rfl,hp2⟩
 have HM2:=hid (HM.out.only hp2 (fun f=>f) (fun f=>f))
 have O2:Hid (Only (fun k=>k=mb) w w2):=hid (hp2.mono (fun _ _ f=>f.elim))
 have e8:(8 * (i:Int)+(j:Int))=((8 * i+j:Nat):Int):=by omega
 rw [e8]
 obtain ⟨ad,had⟩:∃ ad:Nat,8 * i+j=ad:=⟨_,rfl⟩
 rw [had] at HZ ⊢
 clear p0 p1 p2 p3 p4 p5 p6 p7 p8 e8 hp2 had
 go_wp2_with fail
 refine (Mm.read_in mb mg words ad z w2 HM2.out HZ.out).mono ?_
 rintro e w3 ⟨rfl,ho3,hm3⟩
 have HM3:=hid hm3
 have O3:=hid (O2.out.trans ho3 (fun _ _ h=>h))
 clear ho3 hm3
 go_wp2_with fail
 go_ret2
 exact ⟨rfl,O3.out,HM3.out⟩
theorem first_near (kd md:Nat) (s0:Sh) (w:World) (h:At w fb c v sh s) (hkd:sh[kd]?=some s0) (ha:s0.a=false) (hmd:md≤1) (hk:s.k<s0.bs.length) (hb:s0.bs.length≤40) (hk6:s.k<6) (hh:(s.head:Int)<c.frags) (hkn:kd≤1000) (r:Bool) (hr:s0.bs[s.k]?=some r) :
  Calls Tryz.prog 298 #[.pointer (some ⟨fb,0,none⟩),.complex .f64 (headW kd md).1 (headW kd md).2] w fun e w'=>e=.returned (.bool false)∧Only (fun k=>k=fb) w w'∧At w' fb c v sh { s with pc:=6,at_:=((8 * s.head+(2+s.k):Nat):Int),ref:=r }:=by
 obtain ⟨A,cc,hv⟩:∃ A cc,v=.slice A sh.length cc:=by
  obtain ⟨⟨A,cc,e,_⟩,_⟩:=h.conf
  exact ⟨A,cc,e⟩
 subst hv
 have H:=hid h
 have HH:=hid (And.intro hkd (And.intro ha (And.intro hr hh)))
 have p0:=H.out.p0
 have p1:=H.out.p1
 have p2:=H.out.p2
 have p3:=H.out.p3
 have p4:=H.out.p4
 have p5:=H.out.p5
 have p6:=H.out.p6
 have p7:=H.out.p7
 have p8:=H.out.p8
 clear h hkd ha hr hh
 go_enter Tryz.func298,Tryz.ntmps298
 go_wp2_with fail
 refine (tell_w kd md w (by omega) (by omega)).mono ?_
 rintro e w1 ⟨rfl,rfl⟩
 go_wp2_with fail
 refine (shape_in c _ sh kd s0 w H.out.conf HH.out.1 (by omega)).mono ?_
 rw [HH.out.2.1]
 rintro e w2 ⟨A2,d2,rfl,hp2,hs2,hf2⟩
 have H2:=hid (H.out.pure hp2)
 have O2:Hid (Only (fun k=>k=fb) w w2):=hid (hp2.mono (fun _ _ f=>f.elim))
 have HS2:=hid hs2
 have HF2:=hid hf2
 have HLT:=hid H.out.lt
 clear p0 p1 p2 p3 p4 p5 p6 p7 p8 hp2 hs2 hf2
 go_upto_region 3 with fail
 obtain ⟨hp3,-,hx3⟩:=Ac.one_new w2 #[.bool false,.slice A2 s0.bs.length d2] 35
 have H3:=hid (H2.out.pure hp3)
 have O3:=hid (O2.out.trans (hp3.mono (T:=fun k=>k=fb) (fun _ _ f=>f.elim)) (fun _ _ h=>h))
 have HS3:=hid (HS2.out.pure hp3)
 have HX3:=hid hx3
 clear hp3 hx3 H2 O2 HS2
 generalize w2.alloc (.cells #[.bool false,.slice A2 s0.bs.length d2] 35)=w3 at *
 generalize w2.heap.size=X3 at *
 have y0:w3.cell? ⟨X3,0,none⟩=some (.bool false):=by rw [cell_of_row w3 _ _ _ _ _ HX3.out];rfl
 have y1:w3.cell? ⟨X3,1,none⟩=some (.slice A2 s0.bs.length d2):=by rw [cell_of_row w3 _ _ _ _ _ HX3.out];rfl
 have p10:=H3.out.p10
 have p11:=H3.out.p11
 have hok:placeOk false s0.bs.length (s.k:Int)=true:=by simp [placeOk,mayB];omega
 have hF:placeF (s.k:Int)=0:=if_pos (by omega)
 have hW:placeW (s.k:Int)=((2+s.k:Nat):Int):=by rw [placeW,if_pos (by omega)];omega
 have HPL:=hid (And.intro hok (And.intro hF hW))
 obtain ⟨As,ccs,hsl,hl1,hl2,hsc⟩:=HS3.out
 rw [bools_length] at hsl hl1 hsc
 injection hsl with e1 e2 e3
 subst e1 e3
 clear e2
 obtain ⟨g,off,hA2,hg,hx⟩:=hsc (by omega)
 have hbk:(bools s0.bs)[s.k]?=some (.bool r):=by simp [bools,HH.out.2.2.1]
 have d0:w3.cell? ⟨g,off+s.k,none⟩=some (.bool r):=hx s.k _ hbk
 subst hA2
 have HD0:=hid d0
 have HG:=hid hg
 have hki:(s.k:Int)<(s0.bs.length:Int):=by omega
 have hbl:s0.bs.length≤9223372036854775807:=by omega
 clear hok hF hW hsc hx hbk d0 hg
 rcases (by omega:md=0∨md=1) with rfl | rfl
 all_goals
  go_wp2_with fail
  go_quiet (fail)
  have hpd:Pure w3 (w3.drewN nq):=(Only.refl (fun _=>False) w3).drewN nq
  have H4:=hid (H3.out.pure hpd)
  have O4:=hid (O3.out.trans (hpd.mono (T:=fun k=>k=fb) (fun _ _ f=>f.elim)) (fun _ _ h=>h))
  have HX4:=hid (hpd.blk HX3.out)
  have HD4:=hid (hpd.keep HD0.out)
  clear hpd y0 y1 p10 p11 H3 O3 HX3 HD0
  generalize w3.drewN nq=w4 at *
  have y0:w4.cell? ⟨X3,0,none⟩=some (.bool false):=by rw [cell_of_row w4 _ _ _ _ _ HX4.out];rfl
  have y1:w4.cell? ⟨X3,1,none⟩=some (.slice (some ⟨g,off,none⟩) s0.bs.length d2):=by rw [cell_of_row w4 _ _ _ _ _ HX4.out];rfl
  have p10:=H4.out.p10
  have p11:=H4.out.p11
  go_wp2_with fail
  have HPD:Hid (Pure w4 w4.drew):=hid ((Only.refl (fun _=>False) w4).drewN 1)
  go_region_held3 (fun w'=>w'.cell? ⟨X3,0,none⟩=some (.bool false)∧w'.cell? ⟨X3,1,none⟩=some (.slice (some ⟨g,off,none⟩) s0.bs.length d2)∧w'.cell? ⟨fb,10,none⟩=some (.int .i64 (s.k:Int))) (go_keep) (first | (go_at_call 209;refine (place_yes false _ s0.bs.length d2 (s.k:Int) w4.drew hbl HPL.out.1).mono ?_;rw [HPL.out.2.1,HPL.out.2.2];rintro e w5 ⟨rfl,hp5⟩;have hp45:=HPD.out.then hp5;have H5:=hid (H4.out.pure hp45);have O5:=hid (O4.out.trans (hp45.mono (T:=fun k=>k=fb) (fun _ _ f=>f.elim)) (fun _ _ h=>h));have HX5:=hid (hp45.blk HX4.out);have HD5:=hid (hp45.keep HD4.out);obtain ⟨t0,t1⟩:=shp_cells HX5.out;have t2:=H5.out.p10;clear hp5 hp45))
  have d5:=HD5.out
  have ff:=H5.out.fz
  have hk0:(0:Int)≤(s.k:Int):=by omega
  have p20:=H5.out.p20
  go_wp2_with fail
  go_region
  have h6:At (w5.setCell ⟨fb,20,none⟩ (.bool r)).drew fb c _ sh { s with ref:=r }:=(H5.out.put 20 (.bool r) { s with ref:=r } (fun n=>⟨n,rfl⟩)).pure ((Only.refl (fun _=>False) _).drewN 1)
  have o6:Only (fun k=>k=fb) w (w5.setCell ⟨fb,20,none⟩ (.bool r)).drew:=(only_f O5.out 20 (.bool r)).drewN 1
  have H6:=hid h6
  have O6:=hid o6
  clear h6 o6 d5 ff hk0 t0 t1 t2 H5 O5 HX5 HD5 p20
  generalize (w5.setCell ⟨fb,20,none⟩ (.bool r)).drew=w6 at *
  have p9:=H6.out.p9
  have hb6:=check_bd H6.out.ok
  have hh6:=HH.out.2.2.2
  have hh7:(s.head:Int)≤2000:=by omega
  have hh8:(0:Int)≤(s.head:Int):=by omega
  clear hb6 hh6
  go_wp2_with fail
  obtain ⟨j,hj⟩:∃ j:Nat,2+s.k=j:=⟨_,rfl⟩
  have e2:(2+(s.k:Int))=(j:Int):=by omega
  rw [e2]
  have HJ:=hid hj
  have hj8:j<8:=by omega
  clear e2 hj
  refine (stands_in s.head j w6 H6.out HH.out.2.2.2 hj8).mono ?_
  rintro e w7 ⟨rfl,ho7,h7⟩
  have H7:=hid h7
  have O7:=hid (O6.out.trans ho7 (fun _ _ h=>h))
  clear p9 ho7 h7
  go_wp2_with fail
  go_ret
  rw [HJ.out]
  exact ⟨rfl,O7.out,H7.out⟩
end
end Go.Proofs.YtpgdiceeimehiaaGreat.Fd
namespace Go.Proofs.YtpgdiceeimehiaaGreat.Tr
open Go.RowKit
open Go.Proofs.YtpgdiceeimehiaaGreat.Fd (shp_cells)
structure St where
 head:Nat
 sense:Bool
 pc:Int
 rv:Value
 bs:List Bool
 wv:Value
 words:List Int
 next:Nat
def cs (c:Cn) (v:Value) (s:St) (n:Int):Array Value:=#[.int .i64 c.frags,.int .i64 c.spine,.int .i64 c.globals,.int .i64 c.threads,.int .i64 c.locals,.int .i64 c.cache,.int .i64 c.stack,.int .i64 c.low,v,.int .i64 (s.head:Int),.bool s.sense,.int .i64 s.pc,.bool false,s.rv,.int .i64 (s.head:Int),.int .i64 0,s.wv,.int .i64 (s.next:Int),.int .i64 0,.int .i64 0,.int .i64 0,.int .i64 0,.int .i64 n]
def Ro (v:Value) (sh:List Sh) (s:St) (k:Nat):Prop:=CfS v sh k∨s.rv.ownBlock=some k∨s.wv.ownBlock=some k
structure At (w:World) (xb:Nat) (c:Cn) (v:Value) (sh:List Sh) (s:St):Prop where
 me:∃ n:Int,w.heap[xb]?=some (.cells (cs c v s n) 224 (0,0))
 conf:ShsR w w.heap.size v sh
 ok:checkI c sh=0
 refs:SlG w w.heap.size s.rv (bools s.bs)
 wr:TailI w 0 s.wv s.words
 ro:∀ k,Ro v sh s k→k≠xb∧k<w.heap.size
section
variable {w w':World} {xb:Nat} {c:Cn} {v:Value} {sh:List Sh} {s:St}
theorem At.p0 (h:At w xb c v sh s):w.cell? ⟨xb,0,none⟩=some (.int .i64 c.frags):=by
 obtain ⟨n,hn⟩:=h.me
 rw [cell_of_row w _ _ _ _ _ hn];rfl
theorem At.p1 (h:At w xb c v sh s):w.cell? ⟨xb,1,none⟩=some (.int .i64 c.spine):=by
 obtain ⟨n,hn⟩:=h.me
 rw [cell_of_row w _ _ _ _ _ hn];rfl
theorem At.p2 (h:At w xb c v sh s):w.cell? ⟨xb,2,none⟩=some (.int .i64 c.globals):=by
 obtain ⟨n,hn⟩:=h.me
 rw [cell_of_row w _ _ _ _ _ hn];rfl
theorem At.p3 (h:At w xb c v sh s):w.cell? ⟨xb,3,none⟩=some (.int .i64 c.threads):=by
 obtain ⟨n,hn⟩:=h.me
 rw [cell_of_row w _ _ _ _ _ hn];rfl
theorem At.p4 (h:At w xb c v sh s):w.cell? ⟨xb,4,none⟩=some (.int .i64 c.locals):=by
 obtain ⟨n,hn⟩:=h.me
 rw [cell_of_row w _ _ _ _ _ hn];rfl
theorem At.p5 (h:At w xb c v sh s):w.cell? ⟨xb,5,none⟩=some (.int .i64 c.cache):=by
 obtain ⟨n,hn⟩:=h.me
 rw [cell_of_row w _ _ _ _ _ hn];rfl
theorem At.p6 (h:At w xb c v sh s):w.cell? ⟨xb,6,none⟩=some (.int .i64 c.stack):=by
 obtain ⟨n,hn⟩:=h.me
 rw [cell_of_row w _ _ _ _ _ hn];rfl
theorem At.p7 (h:At w xb c v sh s):w.cell? ⟨xb,7,none⟩=some (.int .i64 c.low):=by
 obtain ⟨n,hn⟩:=h.me
 rw [cell_of_row w _ _ _ _ _ hn];rfl
theorem At.p8 (h:At w xb c v sh s):w.cell? ⟨xb,8,none⟩=some (v):=by
 obtain ⟨n,hn⟩:=h.me
 rw [cell_of_row w _ _ _ _ _ hn];rfl
theorem At.p9 (h:At w xb c v sh s):w.cell? ⟨xb,9,none⟩=some (.int .i64 (s.head:Int)):=by
 obtain ⟨n,hn⟩:=h.me
 rw [cell_of_row w _ _ _ _ _ hn];rfl
theorem At.p10 (h:At w xb c v sh s):w.cell? ⟨xb,10,none⟩=some (.bool s.sense):=by
 obtain ⟨n,hn⟩:=h.me
 rw [cell_of_row w _ _ _ _ _ hn];rfl
theorem At.p11 (h:At w xb c v sh s):w.cell? ⟨xb,11,none⟩=some (.int .i64 s.pc):=by
 obtain ⟨n,hn⟩:=h.me
 rw [cell_of_row w _ _ _ _ _ hn];rfl
theorem At.p12 (h:At w xb c v sh s):w.cell? ⟨xb,12,none⟩=some (.bool false):=by
 obtain ⟨n,hn⟩:=h.me
 rw [cell_of_row w _ _ _ _ _ hn];rfl
theorem At.p13 (h:At w xb c v sh s):w.cell? ⟨xb,13,none⟩=some (s.rv):=by
 obtain ⟨n,hn⟩:=h.me
 rw [cell_of_row w _ _ _ _ _ hn];rfl
theorem At.p14 (h:At w xb c v sh s):w.cell? ⟨xb,14,none⟩=some (.int .i64 (s.head:Int)):=by
 obtain ⟨n,hn⟩:=h.me
 rw [cell_of_row w _ _ _ _ _ hn];rfl
theorem At.p15 (h:At w xb c v sh s):w.cell? ⟨xb,15,none⟩=some (.int .i64 0):=by
 obtain ⟨n,hn⟩:=h.me
 rw [cell_of_row w _ _ _ _ _ hn];rfl
theorem At.p16 (h:At w xb c v sh s):w.cell? ⟨xb,16,none⟩=some (s.wv):=by
 obtain ⟨n,hn⟩:=h.me
 rw [cell_of_row w _ _ _ _ _ hn];rfl
theorem At.p17 (h:At w xb c v sh s):w.cell? ⟨xb,17,none⟩=some (.int .i64 (s.next:Int)):=by
 obtain ⟨n,hn⟩:=h.me
 rw [cell_of_row w _ _ _ _ _ hn];rfl
theorem At.p21 (h:At w xb c v sh s):w.cell? ⟨xb,21,none⟩=some (.int .i64 0):=by
 obtain ⟨n,hn⟩:=h.me
 rw [cell_of_row w _ _ _ _ _ hn];rfl
theorem At.p22 (h:At w xb c v sh s):∃ n:Int,w.cell? ⟨xb,22,none⟩=some (.int .i64 n):=by
 obtain ⟨n,hn⟩:=h.me
 exact ⟨n,by rw [cell_of_row w _ _ _ _ _ hn];rfl⟩
theorem At.fz (h:At w xb c v sh s) (k:Nat):w.frozen? ⟨xb,k,none⟩=false:=by
 obtain ⟨n,hn⟩:=h.me
 exact frozen_of_row w _ k _ _ hn
theorem At.lt (h:At w xb c v sh s):xb<w.heap.size:=by
 obtain ⟨n,hn⟩:=h.me
 exact (Array.getElem?_eq_some_iff.1 hn).1
theorem At.only {T:Nat→Prop} (h:At w xb c v sh s) (ho:Only T w w') (hf:¬ T xb) (hn:∀ k,Ro v sh s k→¬ T k):At w' xb c v sh s:=by
 obtain ⟨n,hm⟩:=h.me
 exact ⟨⟨n,ho.blk hm hf⟩,h.conf.only ho (fun k hk=>hn k (.inl hk)),h.ok,h.refs.only ho (fun k hk=>hn k (.inr (.inl hk))),h.wr.only ho (fun k hk=>hn k (.inr (.inr hk))),fun k hk=>⟨(h.ro k hk).1,Nat.lt_of_lt_of_le (h.ro k hk).2 ho.size⟩⟩
theorem At.pure (h:At w xb c v sh s) (ho:Pure w w'):At w' xb c v sh s:=h.only ho (fun f=>f) (fun _ _ f=>f)
theorem At.putx (h:At w xb c v sh s) (i:Nat) (u:Value) (s':St) (e:∀ n,∃ n',(cs c v s n).setIfInBounds i u=cs c v s' n') (hr:SlG w w.heap.size s'.rv (bools s'.bs)) (hw:TailI w 0 s'.wv s'.words) (hro:∀ k,Ro v sh s' k→k≠xb∧k<w.heap.size):At (w.setCell ⟨xb,i,none⟩ u) xb c v sh s':=by
 obtain ⟨n,hm⟩:=h.me
 obtain ⟨n',hn'⟩:=e n
 have h2:=set_me (i:=i) (u:=u) hm
 rw [hn'] at h2
 have ho:Only (fun k=>k=xb) w (w.setCell ⟨xb,i,none⟩ u):=(Only.refl (fun k=>k=xb) w).setCell (p:=⟨xb,i,none⟩) (fun _=>rfl) _
 exact ⟨⟨n',h2⟩,h.conf.only ho (fun k hk e=>(h.ro k (.inl hk)).1 e),h.ok,hr.only ho (fun k hk e=>(hro k (.inr (.inl hk))).1 e),hw.only ho (fun k hk e=>(hro k (.inr (.inr hk))).1 e),fun k hk=>⟨(hro k hk).1,Nat.lt_of_lt_of_le (hro k hk).2 ho.size⟩⟩
theorem At.put (h:At w xb c v sh s) (i:Nat) (u:Value) (s':St) (e:∀ n,∃ n',(cs c v s n).setIfInBounds i u=cs c v s' n') (hs:s'.rv=s.rv∧s'.bs=s.bs∧s'.wv=s.wv∧s'.words=s.words):At (w.setCell ⟨xb,i,none⟩ u) xb c v sh s':=by
 obtain ⟨e1,e2,e3,e4⟩:=hs
 refine h.putx i u s' e (by rw [e1,e2];exact h.refs) (by rw [e3,e4];exact h.wr) (fun k hk=>h.ro k ?_)
 unfold Ro at hk ⊢
 rw [e1,e3] at hk
 exact hk
theorem only_x {a:World} (h:Only (fun k=>k=xb) a w) (i:Nat) (u:Value):Only (fun k=>k=xb) a (w.setCell ⟨xb,i,none⟩ u):=h.setCell (p:=⟨xb,i,none⟩) (fun _=>rfl) _
end
section
variable {w w':World} {xb:Nat} {c:Cn} {v:Value} {sh:List Sh} {s:St}
theorem read_in (i j mb mg:Nat) (words:List (Nat × Nat)) (z:Nat × Nat) (w:World) (h:At w xb c v sh s) (hm:Mm.At w mb mg words) (hi:(i:Int)<c.frags) (hj:j<8) (hz:words[8 * i+j]?=some z):Calls Tryz.prog 276 #[.pointer (some ⟨xb,0,none⟩),.pointer (some ⟨mb,0,none⟩),.int .i64 (i:Int),.int .i64 (j:Int)] w fun e w'=>e=.returned (.tuple #[.complex .f64 z.1 z.2,.bool true])∧Only (fun k=>k=mb) w w'∧Mm.At w' mb mg words:=by
 obtain ⟨A,cc,hv⟩:∃ A cc,v=.slice A sh.length cc:=by
  obtain ⟨⟨A,cc,e,_⟩,_⟩:=h.conf
  exact ⟨A,cc,e⟩
 subst hv
 have H:=hid h
 have HM:=hid hm
 have HZ:=hid hz
 have p0:=H.out.p0
 have p1:=H.out.p1
 have p2:=H.out.p2
 have p3:=H.out.p3
 have p4:=H.out.p4
 have p5:=H.out.p5
 have p6:=H.out.p6
 have p7:=H.out.p7
 have p8:=H.out.p8
 clear h hm hz
 go_enter Tryz.func276,Tryz.ntmps276
 go_wp2_with fail
 refine (frag_in c _ sh i j w H.out.conf H.out.ok (by omega) hi (by omega) (by omega)).mono ?_
 rintro e w2 ⟨rfl,hp2⟩
 have HM2:=hid (HM.out.only hp2 (fun f=>f) (fun f=>f))
 have O2:Hid (Only (fun k=>k=mb) w w2):=hid (hp2.mono (fun _ _ f=>f.elim))
 have e8:(8 * (i:Int)+(j:Int))=((8 * i+j:Nat):Int):=by omega
 rw [e8]
 obtain ⟨ad,had⟩:∃ ad:Nat,8 * i+j=ad:=⟨_,rfl⟩
 rw [had] at HZ ⊢
 clear p0 p1 p2 p3 p4 p5 p6 p7 p8 e8 hp2 had
 go_wp2_with fail
 refine (Mm.read_in mb mg words ad z w2 HM2.out HZ.out).mono ?_
 rintro e w3 ⟨rfl,ho3,hm3⟩
 have HM3:=hid hm3
 have O3:=hid (O2.out.trans ho3 (fun _ _ h=>h))
 clear ho3 hm3
 go_wp2_with fail
 go_ret2
 exact ⟨rfl,O3.out,HM3.out⟩
theorem fragments_1 (w:World) (h:At w xb c v sh s) (hb:s.bs.length≤6):Calls Tryz.prog 310 #[.pointer (some ⟨xb,0,none⟩)] w fun e w'=>e=.returned (.int .i64 1)∧Pure w w':=by
 obtain ⟨A,d,hrv,-⟩:=h.refs
 rw [bools_length] at hrv
 have p12:=h.p12
 have p13:=h.p13
 rw [hrv] at p13
 have hz:sizeI false s.bs.length 0=1:=by
  unfold sizeI mayB
  rw [if_neg (by simp;omega),if_neg (by decide),if_pos hb]
 have HZ:=hid hz
 clear h hrv hz
 go_enter Tryz.func310,Tryz.ntmps310
 go_wp2_with fail
 refine (size_any false A s.bs.length d 0 w (by omega)).mono ?_
 rw [HZ.out]
 rintro e w2 ⟨rfl,hp2⟩
 have HP:=hid hp2
 clear hp2
 go_wp2_with fail
 go_ret
 exact ⟨rfl,HP.out⟩
def wl (n:Nat):List Int:=(List.range n).map fun k=>((2+k:Nat):Int)
theorem wl_succ (n:Nat):wl (n+1)=wl n++[((2+n:Nat):Int)]:=by simp [wl,List.range_succ]
theorem wl_len (n:Nat):(wl n).length=n:=by simp [wl]
theorem refs_1 (w:World) (h:At w xb c v sh s) (hb:s.bs.length≤6) (ha:∀ (j:Nat) (b:Bool),s.bs[j]?=some b→b=true):Calls Tryz.prog 306 #[.pointer (some ⟨xb,0,none⟩)] w fun e w'=>∃ u,e=.returned u∧Pure w w'∧w'.ownsRow w.heap.size 3 1 u s.bs.length (ints (wl s.bs.length)):=by
 obtain ⟨i0,hi0,hz0,hz1,hz2⟩:=info_parts Po.int_info
 obtain ⟨A,d,hrv,hd1,hd2,hsc⟩:=h.refs
 rw [bools_length] at hrv hd1 hsc
 have HSC:=hid hsc
 have H:=hid h
 have HA:=hid ha
 have HRV:=hid hrv
 have p12:=h.p12
 have p13:=h.p13
 rw [hrv] at p13
 clear h hrv hsc ha
 go_enter Tryz.func306,Tryz.ntmps306
 go_wp2_with fail
 clear p12 p13
 go_loopw [3,56] (fun u i wr=>∃ k:Nat,k≤s.bs.length∧i=.int .i64 (k:Int)∧Pure w wr∧wr.ownsRow w.heap.size 3 1 u k (ints (wl k))) (fun _ i _=>s.bs.length-(intOf i).toNat)
 case atStart=>exact ⟨0,Nat.zero_le _,rfl,Only.refl _ _,World.ownsRow_nil _ _ _ _⟩
 case round =>
  obtain ⟨k,hk,rfl,hp,ho⟩:=hrel
  obtain ⟨A8,c8,rfl⟩:=own_form ho
  have HP:=hid hp
  have HO:=hid ho
  clear hp ho
  by_cases hlt:k<s.bs.length
  ·obtain ⟨g,off,hA,hg,hx⟩:=HSC.out (by omega)
   obtain ⟨b,hb⟩:∃ b,s.bs[k]?=some b:=⟨_,List.getElem?_eq_getElem hlt⟩
   obtain rfl:=HA.out k b hb
   have d0:wr.cell? ⟨g,off+k,none⟩=some (.bool true):=HP.out.keep (hx k _ (by simp [bools,hb]))
   subst hA
   have p12:=(H.out.pure HP.out).p12
   have p13:=(H.out.pure HP.out).p13
   rw [HRV.out] at p13
   have hbl:s.bs.length≤9223372036854775807:=by omega
   have hok:placeOk false s.bs.length (k:Int)=true:=by simp [placeOk,mayB];omega
   have hF:placeF (k:Int)=0:=if_pos (by omega)
   have hW:placeW (k:Int)=((2+k:Nat):Int):=by rw [placeW,if_pos (by omega)];omega
   have HPL:=hid (And.intro hok (And.intro hF hW))
   have i1:(k:Int)<(s.bs.length:Int):=by omega
   clear hok hF hW hx hb hg
   go_wp2_with fail
   refine (place_yes false _ s.bs.length d (k:Int) wr hbl HPL.out.1).mono ?_
   rw [HPL.out.2.1,HPL.out.2.2]
   rintro e w5 ⟨rfl,hp5⟩
   have HP5:=hid (HP.out.then hp5)
   have HO5:=hid ((hp5.own HO.out (fun _ _ f=>f)))
   have p15:=(H.out.pure HP5.out).p15
   clear hp5 p12 p13 d0
   obtain ⟨pw,hpw⟩:∃ pw:Nat,2+k=pw:=⟨_,rfl⟩
   rw [hpw]
   have HPW:=hid hpw
   have hsz5:Hid (w.heap.size≤w5.heap.size):=hid HP5.out.size
   have hkm:k≤6:=by omega
   clear hpw
   go_wp2_with (at_builtin;refine wpList_app _ rfl (.tmp 80) (.tmp 82) _ rfl w.heap.size 3 i0 _ 1 8 Tryz.underlying25 hi0 hz0 hz1 hz2 rfl (by omega) (.slice A8 k c8) k _ rfl (World.ownsRow.alloc HO5.out _) _ 1 1 [.int .i64 (pw:Int)] rfl (Src.row _ _ #[.int .i64 (pw:Int)] 1 1 _ rfl rfl) (by simp [Value.oneCell']) (by simp only [maxLen];omega) (by omega) (by have:=hsz5.out;simp;omega) ?_;intro v9 w9 hown9 hg9 hat9;obtain ⟨A9,n9,rfl⟩:=own_form hown9;have HO9:=hid hown9;have HG9:=hid hg9;clear hown9 hg9 hat9;go_frame)
   go_roundw
   case rel =>
    refine ⟨k+1,by omega,by first | rfl | simp,?_,?_⟩
    ·have ho9:Only (fun q=>(Value.slice A8 k c8).ownBlock=some q) w5 w9:=((Only.refl _ w5).alloc _).grown HG9.out (fun q _ hq=>hq)
     exact HP5.out.trans ho9 (fun q hq hq2=>by have:=(HO5.out.lt q hq2).1;omega)
    ·rw [wl_succ,HPW.out]
     simpa [ints] using HO9.out
   case measure=>simp [intOf];omega
  ·obtain rfl:k=s.bs.length:=by omega
   go_wp2_with fail
   go_ret
   exact ⟨_,rfl,HP.out,HO.out⟩
end
end Go.Proofs.YtpgdiceeimehiaaGreat.Tr
