/- Part 50 of the proof that spotop.TopOrder returns true for all arguments and leaves what was there as it was. -/
import Derived.Deep.DeepCutAuto
import Derived.Deep.CutBlock
import Derived.Deep.RegionLaw
import Derived.Test.YtpgdiceeimehiaaGreatQ02
import Derived.Test.YtpgdiceeimehiaaGreatQ07
import Derived.Test.YtpgdiceeimehiaaGreatQ31
import Derived.Test.YtpgdiceeimehiaaGreatQ48
import Derived.Test.YtpgdiceeimehiaaGreatQ49
set_option maxRecDepth 100000
set_option maxHeartbeats 16000000
open Go.Lib (hid)
namespace Go.Proofs.YtpgdiceeimehiaaGreat.Law
open Go.RowKit
open Ac (Vl OpD CT zeroVl opV)
open Opn (SgOk Made kn)
def c1:Cn:=⟨4,0,0,1,1,0,1,0⟩
def opsK:List OpD:=[⟨1,0,0,0,0,0,0⟩,⟨11,0,0,0,0,0,0⟩]
structure Kok1 (K:Cor.Q):Prop where
 s0:∃ v,K.csh[0]?=some ⟨false,v,[]⟩
 few:∀ s∈K.csh,s.bs.length≤1000000
 ns:0<K.q.ns
def wK:List Ac.Wr:=Pl.objJ 0 true [3] [] 1
structure Kb (m:Cor.St) (s:Ac.St) (tf:Nat→Tab.One):Prop where
 l:m.s.l=tb 4 tf
 fr:m.s.fr=tb 4 (fun i=>decide ((tf i).st=0))
 len:m.words.length=32
 sx:m.s.sx=[]
 en:m.s.en=[]
 st:m.st=0
 se:m.se=false
 s0:s.status=0
 sn:s.sense=false
def t0 (_:Nat):Tab.One:=⟨0,false,false⟩
def t1 (i:Nat):Tab.One:=if i=3 then ⟨2,false,false⟩ else ⟨0,false,false⟩
def t2 (i:Nat):Tab.One:=if i=3 then ⟨2,true,false⟩ else ⟨0,false,false⟩
inductive Kn (m:Cor.St) (s:Ac.St):Nat→Prop where
 | out (h:Kb m s t0) (h1:s.phase=0) (h2:m.stats=[-1]) (hn:s.next=0) (hl:s.locals=[zeroVl]):Kn m s 0
 | border0 (h:Kb m s t0) (h1:s.phase=1) (h0:s.pc=0) (h2:m.stats=[0]) (hn:s.next=0) (hl:s.locals=[zeroVl]):Kn m s 1
 | start0 (h:Kb m s t0) (h1:s.phase=2) (h0:s.at_=0) (h2:m.stats=[0]) (hn:s.next=0) (hl:s.locals=[zeroVl]):Kn m s 2
 | wr (j:Nat) (hj:j<8) (h:Kb m s t1) (h1:s.phase=2) (h0:s.at_=7) (h2:m.stats=[0]) (hn:s.next=0) (hl:s.locals=[zeroVl]) (hw:s.writes=wK.drop j) (hd:Done wK j m.words) (hg:s.got=Pl.natI [3]):Kn m s (3+j)
 | born (h:Kb m s t1) (h1:s.phase=2) (h0:s.at_=8) (h2:m.stats=[0]) (hn:s.next=0) (hl:s.locals=[zeroVl]) (hd:Done wK 8 m.words) (hg:s.got=Pl.natI [3]):Kn m s 11
 | border1 (h:Kb m s t2) (h1:s.phase=1) (h0:s.pc=0) (h2:m.stats=[0]) (hn:s.next=1) (hl:s.locals=[(true,refW 3)]) (hd:m.words[25]?=some (headW 0 1)):Kn m s 12
 | start1 (h:Kb m s t2) (h1:s.phase=2) (h0:s.at_=0) (h2:m.stats=[0]) (hn:s.next=1) (hl:s.locals=[(true,refW 3)]) (hd:m.words[25]?=some (headW 0 1)):Kn m s 13
 | border2 (v:Vl) (h:Kb m s t2) (h1:s.phase=1) (h0:s.pc=0) (h2:m.stats=[0]) (hn:s.next=2) (hl:s.locals=[v]):Kn m s 14
 | drain (v:Vl) (h:Kb m s t2) (h1:s.phase=1) (h0:s.pc=3) (h2:m.stats=[0]) (hl:s.locals=[v]):Kn m s 15
 | leave (v:Vl) (h:Kb m s t2) (h1:s.phase=1) (h0:s.pc=4) (h2:m.stats=[0]) (hl:s.locals=[v]):Kn m s 16
 | gone (i:Nat) (hi:17≤i) (h:Kb m s t2) (h1:s.phase=4):Kn m s i
section
variable {w:World} {K:Cor.Q} {κ:Nat→Nat} {m m':Cor.St} {b:Ac.B} {s s':Ac.St} {yb hb lg:Nat} {y:Cyc.St} {n T i:Nat}
def KOk (i T:Nat) (K:Cor.Q) (b:Ac.B) (hb lg yb:Nat) (y:Cyc.St) (w:World) (κ:Nat→Nat) (e:Ending) (w':World):Prop :=
 ∃ a1 a2 a3 v,e=.returned (tickV 1 (decide (i=11∨i=13)) a1 a2 a3 v)∧∃ κ' m' s',Ext CM w κ w' κ'∧Mt w' c1 K κ' m' b s' yb y hb lg none∧Kn m' s' (i+1)∧OwnOk s' T
def Kq (i T:Nat) (K:Cor.Q) (b:Ac.B) (w':World) (κ':Nat→Nat):Prop:=∃ m' s',Sys w' c1 K κ' m' b s'∧(Kn m' s' (i+1)∧OwnOk s' T)
theorem keep_k:Keep9 (Kq i T K b):=keep9_ex fun _=>keep9_ex fun _=>fun _ _ _ i u hX ⟨h1,h2⟩=>⟨h1.cell9 hX i u,h2⟩
theorem k_1 (h:Mt w c1 K κ m b s yb y hb lg none) (v:Vl) (a1 a2 a3:Int) (d:Bool) (hd:d=decide (i=11∨i=13))
  (hc:∀ w1 κ1,Sys w1 c1 K κ1 m b s→Calls Tryz.prog 25 #[.pointer (some ⟨b.ab,0,none⟩),.pointer (some ⟨K.kb,0,none⟩)] w1 (Ans w1 κ1 a1 a2 a3 v d (Kq i T K b))) :
  Calls Tryz.prog 10 #[.pointer (some ⟨hb,0,none⟩),.int .i64 1] w (KOk i T K b hb lg yb y w κ):=by
 subst hd
 refine (mstep_1 a1 a2 a3 v _ _ w h hc).mono ?_
 rintro e w' ⟨he,κ',m',s',hext,hm,hx,ho⟩
 exact ⟨a1,a2,a3,v,he,κ',m',s',hext,hm,hx,ho⟩
theorem Kb.to {tf tg:Nat→Tab.One} (h:Kb m s tf) (hl:m'.s.l=tb 4 tg) (hf:m'.s.fr=tb 4 (fun i=>decide ((tg i).st=0))) (hw:m'.words.length=m.words.length) (h1:m'.s.sx=m.s.sx) (h2:m'.s.en=m.s.en) (h3:m'.st=m.st) (h4:m'.se=m.se) (h5:s'.status=s.status) (h6:s'.sense=s.sense):Kb m' s' tg :=
 ⟨hl,hf,hw.trans h.len,h1.trans h.sx,h2.trans h.en,h3.trans h.st,h4.trans h.se,h5.trans h.s0,h6.trans h.sn⟩
theorem Kb.same {tf:Nat→Tab.One} (h:Kb m s tf) (hs:m'.s=m.s) (hw:m'.words.length=m.words.length) (h3:m'.st=m.st) (h4:m'.se=m.se) (h5:s'.status=s.status) (h6:s'.sense=s.sense):Kb m' s' tf :=
 h.to (by rw [hs];exact h.l) (by rw [hs];exact h.fr) hw (by rw [hs]) (by rw [hs]) h3 h4 h5 h6
theorem wK_get (j:Nat) (hj:j<8):∃ z,wK[j]?=some (((24+j:Nat):Int),z):=by
 have h:=obj_get 0 true [3] [] 1 0 j (by omega) hj
 rw [Nat.mul_zero,Nat.zero_add] at h
 exact ⟨_,h⟩
theorem wK_len:wK.length=8:=Pl.objJ_len _ _ _ _ _
theorem wK_head {ws:List (Nat × Nat)} (h:Done wK 8 ws):ws[25]?=some (headW 0 1):=by
 have hd:Done (Pl.objJ 0 true [3] [] [3].length) (8 * [3].length) ws:=h
 exact hd.word (j:=0) (k:=1) (by simp) (by omega)
theorem sgK (o:OpD) (h:o.a=0∧o.b=0∧o.c=0) (hk:o.kind=1∨o.kind=11):∀ x∈kn o.kind,SgOk c1 o x:=by
 intro x hx
 have hx3:x=97∨x=107∨x=110∨x=98:=by
  rcases hk with e | e
  ·rw [e] at hx
   have:x∈([97,107]:List UInt8):=hx
   simp at this
   rcases this with h | h <;> simp [h]
  ·rw [e] at hx
   have:x∈([97,98]:List UInt8):=hx
   simp at this
   rcases this with h | h <;> simp [h]
 unfold SgOk
 rw [h.1,h.2.1,h.2.2]
 refine ⟨fun _=>by decide,fun _=>by decide,fun _=>by decide,fun e=>?_⟩
 subst e
 exact absurd hx3 (by decide)
theorem stepK (hK:Kok1 K) (hbo:b.ops=opsK) (hb0:b.t=0) (h:Mt w c1 K κ m b s yb y hb lg none) (hk:Kn m s i) (ho:OwnOk s T) (hT:T≤1000000) :
  Calls Tryz.prog 10 #[.pointer (some ⟨hb,0,none⟩),.int .i64 1] w (KOk i (T+1) K b hb lg yb y w κ):=by
 obtain ⟨n,hn,hnT⟩:=ho
 obtain ⟨sv,hsv⟩:=hK.s0
 cases hk with
 | out hb h1 h2 hnx hl =>
  refine k_1 h zeroVl 0 0 0 false rfl (fun w1 κ1 hs=>(step_out w1 hs h1 (by rw [hb0,h2];rfl)).mono ?_)
  rintro r2 w' ⟨hr,κ',he,hs'⟩
  exact ⟨hr,κ',he,_,_,hs',.border0 (hb.to hb.l hb.fr rfl rfl rfl rfl rfl (by show m.st=s.status;rw [hb.st,hb.s0]) (by show m.se=s.sense;rw [hb.se,hb.sn])) rfl rfl (by show m.stats.set b.t m.st=[0];rw [hb0,h2,hb.st];rfl) hnx hl,⟨n,hn,by omega⟩⟩
 | border0 hb h1 h0 h2 hnx hl =>
  refine k_1 h zeroVl 0 0 0 false rfl (fun w1 κ1 hs=>step_border _ w1 hs h1 keep_k (fun w2 κ2 hs2=>(border_in w2 hs2 h0 (by rw [hb.st,hb.s0]) (by rw [hbo,hnx];decide)).mono ?_))
  rintro r2 w' ⟨hr,κ',he,hs'⟩
  exact ⟨hr,κ',he,_,_,hs',.start0 (hb.same rfl rfl rfl rfl rfl rfl) rfl rfl h2 hnx hl,⟨0,rfl,by omega⟩⟩
 | start0 hb h1 h0 h2 hnx hl =>
  have hlow:=grant_low m.s.l m.s.fr [3] (col s) (c1.cache.toNat-m.s.sx.length) (by rw [hb.sx];rfl)
  have hcol:=col_0 hb.sn hb.s0
  have hfr:m.s.fr=tb 4 (fun i=>decide (i<4)):=by rw [hb.fr];decide
  have hcn:Po.cnt m.s.fr=4:=by rw [hfr];decide
  refine k_1 h zeroVl 0 0 0 false rfl (fun w1 κ1 hs=>step_within _ _ _ _ _ n _ w1 hs h1 hn (by omega) keep_k (fun w2 κ2 hs2=>within_starts ⟨1,0,0,0,0,0,0⟩ _ _ _ _ _ _ w2 hs2 h0 (by rw [hbo,hnx];rfl) keep_k (fun w3 κ3 hs3=>(starts_new ⟨1,0,0,0,0,0,0⟩ 0 ⟨false,sv,[]⟩ 1 [3] true w3 hs3 rfl (sgK _ ⟨rfl,rfl,rfl⟩ (.inl rfl)) ⟨rfl,hsv,rfl,by show (0:Nat)≤1000000;omega,by show (0:Int)≤sizeI false 0 0;decide,by show sizeI false 0 0≤(4:Int);decide,by show spineI false 0 0≤(0:Int);decide⟩ (by show sizeI false 0 0=1;decide) hb0 hK.ns (by omega) (by rw [hb.sx];decide) hb.en (by rw [hb.l,hb.fr,tb_len,tb_len]) (by rw [hcn];omega) (by rw [hfr,take_one (by omega) (by omega)]) ⟨⟨_,hsv,rfl,rfl⟩,by show sizeI false 0 0=1;decide,fun x hx=>by simp at hx;subst hx;decide,by simp,sd_one _,by show (0:Nat)≤40;omega,by omega,by simp⟩).mono ?_)))
  rintro r2 w' ⟨hr,κ',he,sv',wv',tv',hs'⟩
  refine ⟨hr,κ',he,_,_,hs',.wr 0 (by omega) (hb.to (tg:=t1) ?_ ?_ rfl ((congrArg (m.s.sx++·) hlow.2.2).trans (List.append_nil _)) rfl rfl rfl rfl rfl) rfl rfl h2 hnx hl rfl (Done.zero _ _) rfl,⟨n+1,rfl,by omega⟩⟩
  ·refine hlow.1.trans ?_
   rw [hb.l,setAll_tb,hcol]
   exact tb_ext (fun j hj=>by unfold t1;simp;rfl)
  ·refine hlow.2.1.trans ?_
   rw [hb.fr,off_tb]
   exact tb_ext (fun j hj=>by unfold t1 t0;by_cases e:j=3 <;> simp [e])
 | wr j hj hb h1 h0 h2 hnx hl hw hd hg =>
  obtain ⟨z,hz⟩:=wK_get j hj
  have hdr:=drop_get hz
  have hdone:Done wK (j+1) (m.words.set (24+j) z):=by
   have:=hd.step hz (by show (((24+j:Nat):Int)).toNat<_;rw [hb.len];omega) (fun k x hk hx=>obj_uniq (xs:=[3]) (by simp) hx hz (by omega))
   exact this
  refine k_1 h zeroVl 0 0 0 false (by rw [eq_comm,decide_eq_false_iff_not];omega) (fun w1 κ1 hs=>step_within _ _ _ _ _ n _ w1 hs h1 hn (by omega) keep_k (fun w2 κ2 hs2=>within_makes ⟨1,0,0,0,0,0,0⟩ _ _ _ _ _ _ w2 hs2 h0 (by rw [hbo,hnx];rfl) keep_k (fun w3 κ3 hs3=>(makes_any (24+j) z (wK.drop (j+1)) w3 hs3 (hw.trans hdr) (by rw [hb.len];omega) h0 _ rfl).mono ?_)))
  rintro r2 w' ⟨hr,κ',he,wv',hs'⟩
  refine ⟨hr,κ',he,_,_,hs',?_,⟨n+1,rfl,by omega⟩⟩
  by_cases e:j+1<8
  ·rw [show 3+j+1=3+(j+1) from by omega]
   refine .wr (j+1) e (hb.same rfl (by simp) rfl rfl rfl rfl) h1 (if_neg (fun h=>?_)) h2 hnx hl rfl hdone hg
   have:=congrArg List.length h
   rw [List.length_drop,wK_len] at this
   simp at this
   omega
  ·obtain rfl:j=7:=by omega
   have hnil:wK.drop (7+1)=[]:=List.drop_eq_nil_of_le (by rw [wK_len];omega)
   exact .born (hb.same rfl (by simp) rfl rfl rfl rfl) h1 (by show (if wK.drop (7+1)=[] then (8:Int) else 7)=8;rw [if_pos hnil]) h2 hnx hl hdone hg
 | born hb h1 h0 h2 hnx hl hd hg =>
  refine k_1 h (true,refW 3) (s.next:Int) ((n+1:Nat):Int) 0 true rfl (fun w1 κ1 hs=>step_within _ _ _ _ _ n _ w1 hs h1 hn (by omega) keep_k (fun w2 κ2 hs2=>within_bears ⟨1,0,0,0,0,0,0⟩ _ _ _ _ _ _ w2 hs2 h0 (by rw [hbo,hnx];rfl) keep_k (fun w3 κ3 hs3=>(bears_any 3 0 [] ⟨2,false,false⟩ ⟨1,0,0,0,0,0,0⟩ w3 hs3 hg (by rw [hb.l];rfl) rfl rfl (by omega) rfl (by show 0<s.locals.length;rw [hl];decide) (by show s.phase≠4;omega) (by show s.next≤100000;omega)).mono ?_)))
  rintro r2 w' ⟨hr,κ',he,hs'⟩
  refine ⟨hr,κ',he,_,_,hs',.border1 (hb.to (tg:=t2) ?_ ?_ rfl rfl rfl rfl rfl rfl rfl) rfl rfl h2 (by show s.next+1=1;rw [hnx]) (by show s.locals.set 0 _=_;rw [hl];rfl) (wK_head hd),⟨n+1,rfl,by omega⟩⟩
  ·show m.s.l.set 3 _=_
   rw [hb.l];rfl
  ·show m.s.fr=_
   rw [hb.fr];rfl
 | border1 hb h1 h0 h2 hnx hl hd =>
  refine k_1 h zeroVl 0 0 0 false rfl (fun w1 κ1 hs=>step_border _ w1 hs h1 keep_k (fun w2 κ2 hs2=>(border_in w2 hs2 h0 (by rw [hb.st,hb.s0]) (by rw [hbo,hnx];decide)).mono ?_))
  rintro r2 w' ⟨hr,κ',he,hs'⟩
  exact ⟨hr,κ',he,_,_,hs',.start1 (hb.same rfl rfl rfl rfl rfl rfl) rfl rfl h2 hnx hl hd,⟨0,rfl,by omega⟩⟩
 | start1 hb h1 h0 h2 hnx hl hd =>
  refine k_1 h (false,wholeW 0) (s.next:Int) ((n+1:Nat):Int) 0 true rfl (fun w1 κ1 hs=>step_within _ _ _ _ _ n _ w1 hs h1 hn (by omega) keep_k (fun w2 κ2 hs2=>within_starts ⟨11,0,0,0,0,0,0⟩ _ _ _ _ _ _ w2 hs2 h0 (by rw [hbo,hnx];rfl) keep_k (fun w3 κ3 hs3=>(starts_kind ⟨11,0,0,0,0,0,0⟩ 3 0 0 0 1 _ w3 hs3 rfl (sgK _ ⟨rfl,rfl,rfl⟩ (.inr rfl)) rfl rfl (by show s.locals[0]?=_;rw [hl];rfl) (by show 0<s.locals.length;rw [hl];decide) (by omega) (by show s.phase≠4;omega) (by show s.next≤100000;omega) hd hsv rfl (by omega) (by show (0:Nat)≤1000000;omega) (by decide) (by omega)).mono ?_)))
  rintro r2 w' ⟨hr,κ',he,hs'⟩
  exact ⟨hr,κ',he,_,_,hs',.border2 (false,wholeW 0) (hb.same rfl rfl rfl rfl rfl rfl) rfl rfl h2 (by show s.next+1=2;rw [hnx]) (by show s.locals.set 0 _=_;rw [hl];rfl),⟨n+1,rfl,by omega⟩⟩
 | border2 v hb h1 h0 h2 hnx hl =>
  refine k_1 h zeroVl 0 0 0 false rfl (fun w1 κ1 hs=>step_border _ w1 hs h1 keep_k (fun w2 κ2 hs2=>(border_end w2 hs2 h0 (by rw [hb.st,hb.s0]) (by rw [hbo,hnx];decide)).mono ?_))
  rintro r2 w' ⟨hr,κ',he,hs'⟩
  exact ⟨hr,κ',he,_,_,hs',.drain v (hb.same rfl rfl rfl rfl rfl rfl) h1 rfl h2 hl,⟨n,hn,by omega⟩⟩
 | drain v hb h1 h0 h2 hl =>
  refine k_1 h zeroVl 0 0 0 false rfl (fun w1 κ1 hs=>step_border _ w1 hs h1 keep_k (fun w2 κ2 hs2=>(border_drain w2 hs2 h0 hb0 hK.ns hb.sx).mono ?_))
  rintro r2 w' ⟨hr,κ',he,hs'⟩
  exact ⟨hr,κ',he,_,_,hs',.leave v (hb.to hb.l hb.fr rfl hb.sx.symm rfl rfl rfl rfl rfl) h1 rfl h2 hl,⟨n,hn,by omega⟩⟩
 | leave v hb h1 h0 h2 hl =>
  refine k_1 h zeroVl 0 0 0 false rfl (fun w1 κ1 hs=>step_border _ w1 hs h1 keep_k (fun w2 κ2 hs2=>(border_leave v 0 w2 hs2 h0 hl (by rw [hb0,h2];rfl) (by omega)).mono ?_))
  rintro r2 w' ⟨hr,κ',he,hs'⟩
  exact ⟨hr,κ',he,_,_,hs',.gone 17 (by omega) (hb.same rfl rfl rfl rfl rfl rfl) rfl,⟨n,hn,by omega⟩⟩
 | gone i hi hb h1 =>
  refine k_1 h zeroVl 0 0 0 false (by rw [eq_comm,decide_eq_false_iff_not];omega) (fun w1 κ1 hs=>(step_gone w1 hs h1).mono ?_)
  rintro r2 w' ⟨hr,κ',he,hs'⟩
  exact ⟨hr,κ',he,_,_,hs',.gone (i+1) (by omega) hb h1,⟨n,hn,by omega⟩⟩
end
end Go.Proofs.YtpgdiceeimehiaaGreat.Law
namespace Go.Proofs.YtpgdiceeimehiaaGreat
open Go.RowKit
open Ac (Vl vals vlL OpD opCells opL zeroVl)
theorem make_vl (m:Nat) (hm:m≤1000) (w:World):(Instr.makeSlice 61 (.int .i64 m) (.int .i64 m)).run Tryz.prog w=.ok (.slice (some ⟨w.heap.size,0,none⟩) m m) (w.alloc (.cells (vals (List.replicate m zeroVl)).toArray 44)):=by
 obtain ⟨i0,hi0,hz0,hz1,hz2⟩:=info_parts val_info
 rw [run_make w 61 44 i0 _ Tryz.underlying61 hi0 hz0 .i64 .i64 m m (by omega) (by omega) (by rw [hz2];omega) (by omega)]
 have e:∀ m:Nat,madeCells (Value.agg #[.bool false,.complex .f64 0 0]).cells (m * 2)=(vals (List.replicate m zeroVl)).toArray:=by
  intro m
  have hc:(Value.agg #[.bool false,.complex .f64 0 0]).cells=#[.bool false,.complex .f64 0 0]:=by kernel_rfl
  rw [hc]
  apply Array.ext
  ·rw [size_madeCells]
   simp only [List.size_toArray,Ac.vl_len,List.length_replicate]
  ·intro i h1 h2
   rw [size_madeCells] at h1
   have hj:(List.replicate m zeroVl)[i / 2]?=some zeroVl:=by rw [List.getElem?_replicate,if_pos (by omega)]
   have g:=Ac.vl_get hj (i % 2) (by omega)
   rw [show i / 2 * 2+i % 2=i from by omega] at g
   have hr:(vals (List.replicate m zeroVl))[i]?=some ((vals (List.replicate m zeroVl)).toArray[i]):=by simp
   rw [hr] at g
   rcases (by omega:i % 2=0∨i % 2=1) with h | h
   ·rw [h] at g
    have g:=Option.some.inj g
    refine Eq.trans ?_ g.symm
    simp [madeCells,h]
   ·rw [h] at g
    have g:=Option.some.inj g
    refine Eq.trans ?_ g.symm
    simp [madeCells,h]
 rw [hz1,Int.toNat_natCast,e]
def act0 (n:Nat):Ac.St:=⟨List.replicate n zeroVl,0,0,false,0,0,0,.slice none 0 0,0,0,.pointer none,0,false,(0,0),(0,0),.slice none 0 0,.slice none 0 0,[],[],[]⟩
structure ActNew (w:World) (t n:Nat) (ops:List OpD) (ab lg:Nat) (v:Value) (w':World):Prop where
 pu:Pure w w'
 hab:w.heap.size≤ab
 hlg:w.heap.size≤lg
 me:w'.heap[ab]?=some (.cells (Ac.cs ⟨t,ab,lg,v,ops⟩ (act0 n)) 134 (0,0))
 loc:w'.heap[lg]?=some (.cells (vals (List.replicate n zeroVl)).toArray 44 (0,0))
 own:w'.ownsRow w.heap.size 32 6 v ops.length (opCells ops)
abbrev actC (t n:Nat) (v:Value) (lg:Nat):Array Value:=#[.int .i64 (t:Int),v,.slice (some ⟨lg,0,none⟩) n n,.int .i64 0,.int .i64 0,.bool false,.int .i64 0,.int .i64 0,.int .i64 0,.slice none 0 0,.int .i64 0,.int .i64 0,.pointer none,.int .i64 0,.bool false,.complex .f64 0 0,.complex .f64 0 0,.slice none 0 0,.slice none 0 0]
theorem actC_eq (t n ab lg:Nat) (v:Value) (ops:List OpD):Ac.cs ⟨t,ab,lg,v,ops⟩ (act0 n)=actC t n v lg:=by simp [Ac.cs,act0]
theorem actNew_a {w w2:World} {t n:Nat} {ops:List OpD} {v:Value} (hp:Pure w w2) (ho:w2.ownsRow w.heap.size 32 6 v ops.length (opCells ops)) :
  ActNew w t n ops (w2.heap.size+1) w2.heap.size v ((w2.alloc (.cells (vals (List.replicate n zeroVl)).toArray 44)).alloc (.cells (actC t n v w2.heap.size) 134)):=by
 have h1:=heap_alloc_new w2 (.cells (vals (List.replicate n zeroVl)).toArray 44)
 have h2:=heap_alloc_new (w2.alloc (.cells (vals (List.replicate n zeroVl)).toArray 44)) (.cells (actC t n v w2.heap.size) 134)
 have hs:(w2.alloc (.cells (vals (List.replicate n zeroVl)).toArray 44)).heap.size=w2.heap.size+1:=by simp
 have hz:=hp.size
 have p1:Pure w2 (w2.alloc (.cells (vals (List.replicate n zeroVl)).toArray 44)):=(Only.refl _ _).alloc _
 have p2:Pure (w2.alloc (.cells (vals (List.replicate n zeroVl)).toArray 44)) ((w2.alloc (.cells (vals (List.replicate n zeroVl)).toArray 44)).alloc (.cells (actC t n v w2.heap.size) 134)):=(Only.refl _ _).alloc _
 rw [hs] at h2
 exact ⟨(hp.then p1).then p2,by omega,hz,by rw [actC_eq];exact h2,p2.blk h1,(p1.then p2).own ho (fun _ _ f=>f)⟩
theorem actNew_b {w w1 w2:World} {t n:Nat} {ops:List OpD} {v:Value} (hd:Pure w w1) (hp:Pure (w1.alloc (.cells (vals (List.replicate n zeroVl)).toArray 44)) w2) (ho:w2.ownsRow w.heap.size 32 6 v ops.length (opCells ops)) :
  ActNew w t n ops w2.heap.size w1.heap.size v (w2.alloc (.cells (actC t n v w1.heap.size) 134)):=by
 have h1:=heap_alloc_new w1 (.cells (vals (List.replicate n zeroVl)).toArray 44)
 have h2:=heap_alloc_new w2 (.cells (actC t n v w1.heap.size) 134)
 have p1:Pure w1 (w1.alloc (.cells (vals (List.replicate n zeroVl)).toArray 44)):=(Only.refl _ _).alloc _
 have p2:Pure w2 (w2.alloc (.cells (actC t n v w1.heap.size) 134)):=(Only.refl _ _).alloc _
 have hz:=((hd.then p1).then hp).size
 exact ⟨((hd.then p1).then hp).then p2,hz,hd.size,by rw [actC_eq];exact h2,(hp.then p2).blk h1,p2.own ho (fun _ _ f=>f)⟩
theorem act_new (t n g cc:Nat) (ops:List OpD) (w:World) (hn:n≤8) (hg:g<w.heap.size) (hs:Src w 6 (some ⟨g,0,none⟩) ops.length (opCells ops)) (hx:ops.length≤1000000) :
  Calls Tryz.prog 23 #[.int .i64 (t:Int),.int .i64 (n:Int),.slice (some ⟨g,0,none⟩) ops.length cc] w fun e w'=>∃ ab lg v',e=.returned (.pointer (some ⟨ab,0,none⟩))∧ActNew w t n ops ab lg v' w':=by
 have HS:=hid hs
 have HG:=hid hg
 have hmk:=make_vl n (by omega)
 have hmx:max (n:Int) 0=(n:Int):=by omega
 have hmx2:(if (n:Int)<0 then (0:Int) else (n:Int))=(n:Int):=if_neg (by omega)
 obtain ⟨oc,hoc⟩:∃ oc,opCells ops=oc:=⟨_,rfl⟩
 clear hs hg
 go_enter Tryz.func23,Tryz.ntmps23
 go_upto_region 1 with fail
 go_cut [6] (fun s6 wx=>∃ ab lg v',s6=.pointer (some ⟨ab,0,none⟩)∧ActNew w t n ops ab lg v' wx)
 case first =>
  have CL:=fun (W:World) (hW:Pure w W)=>cloneO ops g ops.length cc W (Nat.lt_of_lt_of_le HG.out hW.size) (HS.out.keep (fun ad e _ o=>by injection e with e;subst e;exact hW.cell (p:=⟨g,o,none⟩) HG.out (fun f=>f))) hx
  have hd:Pure w w.drew:=(Only.refl (fun _=>False) w).drewN 1
  have hda:Pure w (w.drew.alloc (.cells (vals (List.replicate n zeroVl)).toArray 44)):=hd.alloc _
  go_region_with (first | (go_at_call 54;first | (refine (CL w.drew hd).mono ?_;rintro e w2 ⟨v2,rfl,hp2,ho2⟩;obtain ⟨A2,c2,rfl⟩:=own_form ho2) | (refine (CL (w.drew.alloc (.cells (vals (List.replicate n zeroVl)).toArray 44)) hda).mono ?_;rintro e w2 ⟨v2,rfl,hp2,ho2⟩;obtain ⟨A2,c2,rfl⟩:=own_form ho2)))
  all_goals
   go_wp2_with fail
   go_meet
   first
    | exact ⟨_,_,_,rfl,actNew_a (hd.then hp2) (own_mono ho2 hd.size)⟩
    | exact ⟨_,_,_,rfl,actNew_b (w1:=w.drew) (w2:=w2) hd hp2 (own_mono ho2 hda.size)⟩
 case rest =>
  obtain ⟨ab,lg,v',rfl,h⟩:=hcut
  have HA:=hid h
  clear h
  go_wp2_with fail
  go_ret
  exact ⟨ab,lg,v',rfl,HA.out⟩
open Go.RowKit
open Ac (Vl vals vlL OpD opCells opL zeroVl)
theorem pact_info:(Tryz.prog.info? 73).map (fun i=>(i.zero,i.size,i.bytes))=some (some (.pointer none),1,8):=by kernel_rfl
theorem cyc_new (w:World):Calls Tryz.prog 22 #[] w fun e w'=>e=.returned (.pointer (some ⟨w.heap.size,0,none⟩))∧w'=w.alloc (.cells (Cyc.cs ⟨0,0,0,0,.pointer none,.pointer none,false,0,0⟩ 0 0 0) 127):=by
 go_enter Tryz.func22,Tryz.ntmps22
 go_wp2_with fail
 go_ret
 exact ⟨rfl,rfl⟩
def cor0 (c:Cn):Cor.St:=⟨Cor.words0 (8 * c.frags+2 * c.spine).toNat c.globals.toNat c.globals.toNat,.slice none 0 0,false,[],⟨List.replicate c.frags.toNat ⟨0,false,false⟩,List.replicate c.frags.toNat true,c.spine,0,fun _=>0,0,.slice none 0 0,[],.slice none 0 0,[],false⟩,0,false,[-1]⟩
def cyc0:Cyc.St:=⟨0,0,0,0,.pointer none,.pointer none,false,0,0⟩
theorem Cor.At.recol5 {w:World} {c:Cn} {K:Cor.Q} {κ κ':Nat→Nat} {m:Cor.St} (h:Cor.At w c K κ m) (hs:∀ k,κ k≤5→κ' k=κ k):Cor.At w c K κ' m:=by
 have e:∀ k x,κ k=x→x≤5→κ' k=x:=fun k x h1 h2=>(hs k (by omega)).trans h1
 exact ⟨h.me,h.mem,h.shade,h.space,h.hand,h.conf,h.ok,h.like,fun k hk=>⟨e k 0 (h.k0 k hk).1 (by omega),(h.k0 k hk).2⟩,⟨e _ 1 h.k1.1 (by omega),e _ 1 h.k1.2 (by omega)⟩,⟨e _ 2 h.k2.1 (by omega),e _ 2 h.k2.2 (by omega)⟩,fun k hk=>e k 3 (h.k3 k hk) (by omega),fun k hk=>e k 4 (h.k4 k hk) (by omega),⟨e _ 5 h.k5.1 (by omega),e _ 5 h.k5.2 (by omega)⟩⟩
structure Pre (w:World) (c:Cn) (K:Cor.Q) (κ:Nat→Nat) (hb yb:Nat) (w':World):Prop where
 pu:Pure w w'
 cor:∃ w1,Cor.At w1 c K κ (cor0 c)∧w1.heap.size=yb∧Pure w1 w'
 cyc:Cyc.At w' yb cyc0
 me:w'.heap[hb]?=some (.cells #[.pointer (some ⟨K.kb,0,none⟩),.pointer (some ⟨yb,0,none⟩),.slice none 0 0,.int .i64 0] 59 (0,0))
 hhb:w.heap.size≤hb
 hyb:w.heap.size≤yb
 hyh:yb<hb
structure Fin1 (w3:World) (K:Cor.Q) (n:Nat) (ops:List OpD) (hb yb ab alg lgr cl:Nat) (ov:Value) (wr:World):Prop where
 only:Only (fun k=>k=hb) w3 wr
 me:wr.heap[ab]?=some (.cells (Ac.cs ⟨0,ab,alg,ov,ops⟩ (act0 n)) 134 (0,0))
 loc:wr.heap[alg]?=some (.cells (vals (List.replicate n zeroVl)).toArray 44 (0,0))
 own:wr.ownsRow w3.heap.size 32 6 ov ops.length (opCells ops)
 hme:wr.heap[hb]?=some (.cells #[.pointer (some ⟨K.kb,0,none⟩),.pointer (some ⟨yb,0,none⟩),.slice (some ⟨lgr,0,none⟩) 1 cl,.int .i64 0] 59 (0,0))
 row:wr.cell? ⟨lgr,0,none⟩=some (.pointer (some ⟨ab,0,none⟩))
 fab:w3.heap.size≤ab
 fal:w3.heap.size≤alg
 flg:w3.heap.size≤lgr∧lgr<wr.heap.size
def colM (κ:Nat→Nat) (yb hb ab alg:Nat) (k:Nat):Nat:=if k<yb then κ k else if k=yb then 10 else if k=hb then 12 else if k=ab then 6 else if k=alg then 7 else 8
theorem mac_new {w w3 wr:World} {c:Cn} {K:Cor.Q} {κ:Nat→Nat} {n hb yb ab alg lgr cl:Nat} {ops:List OpD} {ov:Value} (hp:Pre w c K κ hb yb w3) (hf:Fin1 w3 K n ops hb yb ab alg lgr cl ov wr) (hn:1≤n) (hn8:n≤8) :
  Pure w wr∧Mac wr c K (colM κ yb hb ab alg) (cor0 c) ⟨0,ab,alg,ov,ops⟩ (act0 n) yb cyc0 hb lgr:=by
 obtain ⟨w1,hc,hy,hp1⟩:=hp.cor
 have h3:hb<w3.heap.size:=(Array.getElem?_eq_some_iff.1 hp.me).1
 have hyh:=hp.hyh
 have fab:=hf.fab
 have fal:=hf.fal
 have flg:=hf.flg
 have kab:colM κ yb hb ab alg ab=6:=by unfold colM;rw [if_neg (by omega),if_neg (by omega),if_neg (by omega),if_pos rfl]
 have hne:alg≠ab:=ne_types hf.loc hf.me (by decide)
 have kal:colM κ yb hb ab alg alg=7:=by unfold colM;rw [if_neg (by omega),if_neg (by omega),if_neg (by omega),if_neg hne,if_pos rfl]
 have khb:colM κ yb hb ab alg hb=12:=by unfold colM;rw [if_neg (by omega),if_neg (by omega),if_pos rfl]
 have kyb:colM κ yb hb ab alg yb=10:=by unfold colM;rw [if_neg (by omega),if_pos rfl]
 have h8:∀ k,w3.heap.size≤k→k≠ab→k≠alg→colM κ yb hb ab alg k=8:=fun k hk h1 h2=>by unfold colM;rw [if_neg (by omega),if_neg (by omega),if_neg (by omega),if_neg h1,if_neg h2]
 have r0:=hf.row
 have nab:lgr≠ab:=fun e=>by
  have h1:wr.cell? ⟨ab,0,none⟩=some (.int .i64 ((0:Nat):Int)):=by rw [cell_of_row wr _ _ _ _ _ hf.me];rfl
  rw [e,h1] at r0
  cases r0
 have nal:lgr≠alg:=fun e=>by
  have h1:wr.cell? ⟨alg,0,none⟩=some (.bool false):=by
   rw [cell_of_row wr _ _ _ _ _ hf.loc]
   obtain ⟨q,rfl⟩:∃ q,n=q+1:=⟨n-1,by omega⟩
   simp [List.replicate_succ,vals,vlL,zeroVl]
  rw [e,h1] at r0
  cases r0
 have kov:∀ k,ov.ownBlock=some k→colM κ yb hb ab alg k=8:=fun k hk=>h8 k (hf.own.lt k hk).1 (fun e=>own_ne hf.own hf.me (by decide) (e ▸ hk)) (fun e=>own_ne hf.own hf.loc (by decide) (e ▸ hk))
 have hcor:Cor.At wr c K (colM κ yb hb ab alg) (cor0 c):=((hc.recolour (fun k hk=>by unfold colM;rw [if_pos (by omega)])).pure hp1).only hf.only (fun k (hk:k=hb)=>by rw [hk,khb];omega)
 have hact:Ac.At wr (colM κ yb hb ab alg) ⟨0,ab,alg,ov,ops⟩ (act0 n):=⟨hf.me,hf.loc,by simp [act0];exact hn8,⟨own_mono hf.own (Nat.zero_le _),TailI.nil _ _,Ac.GotR.nil _,Ac.TailW.nil _,fun k hk=>by
  rcases hk with hk | hk | hk | hk
  ·exact kov k hk
  ·simp [act0,Value.ownBlock] at hk
  ·simp [act0,Value.ownBlock] at hk
  ·simp [act0,Value.ownBlock] at hk⟩,kab,kal⟩
 refine ⟨?_,⟨⟨⟨hcor,hact⟩,hp.cyc.only hf.only (fun (e:yb=hb)=>by omega),kyb⟩,⟨⟨0,cl,hf.hme⟩,hf.row,flg.2⟩,khb,h8 _ flg.1 nab nal⟩⟩
 exact hp.pu.trans hf.only (fun k hk (e:k=hb)=>by have:=hp.hhb;omega)
theorem own_one {w:World} {base:Nat} {e:TypeId} {v x:Value} (h:w.ownsRow base e 1 v 1 [x]):∃ g c,v=.slice (some ⟨g,0,none⟩) 1 c∧(base≤g∧g<w.heap.size)∧w.cell? ⟨g,0,none⟩=some x:=by
 have h':=h
 rcases h.2 with ⟨_,h0⟩ | ⟨g,cap,cur,rfl,hb,hg,hn,hm,hs,ht⟩
 ·cases h0
 ·refine ⟨g,cap,rfl,h'.lt g rfl,?_⟩
  have:=h'.cellAt 0 (by omega)
  rw [this]
  rfl
theorem heap_new (c:Cn) (v:Value) (sh:List Sh) (ops:List OpD) (n G gc g cc0:Nat) (w:World) (hc:ShsR w w.heap.size v sh) (hok:checkI c sh=0) (ht:c.threads=1) (hn:c.locals=(n:Int)) (hx:∀ s∈sh,s.bs.length≤1000000)
  (hG:G<w.heap.size) (hGc:w.cell? ⟨G,0,none⟩=some (.slice (some ⟨g,0,none⟩) ops.length cc0)) (hg:g<w.heap.size) (hs:Src w 6 (some ⟨g,0,none⟩) ops.length (opCells ops)) (hop:ops.length≤1000) :
  Calls Tryz.prog 9 #[cnV c v,.slice (some ⟨G,0,none⟩) 1 gc] w fun e w'=>∃ K κ' hb lg yb b,e=.returned (.tuple #[.pointer (some ⟨hb,0,none⟩),.int .i64 0])∧Pure w w'∧Mac w' c K κ' (cor0 c) b (act0 n) yb cyc0 hb lg∧b.t=0∧b.ops=ops∧K.most=c.stack.toNat∧K.q.ns=1∧alike sh K.csh∧∀ k,CM (κ' k)→w.heap.size≤k:=by
 obtain ⟨A,cc,rfl⟩:∃ A cc,v=.slice A sh.length cc:=by
  obtain ⟨⟨A,cc,rfl,_⟩,_⟩:=hc
  exact ⟨A,cc,rfl⟩
 have hr:=Row.new w c (.slice A sh.length cc)
 have HL:=hid (fun (w':World) (hp:Pure w w')=>hc.pure hp)
 have HX:=hid hx
 have HOK:=hid hok
 have HT:=hid ht
 have HN:=hid hn
 have HR:=hid hr
 have HGC:=hid (And.intro hG (And.intro hGc (And.intro hg hs)))
 have hn8:n≤8:=by have:=check_more hok;omega
 have hn1:1≤n:=by have:=check_more hok;omega
 clear hc hx hr hok ht hn hG hGc hg hs
 go_enter Tryz.func9,Tryz.ntmps9
 go_upto_region 1 with fail
 have HZ0:Hid ((w.alloc (.cells #[.int .i64 c.frags,.int .i64 c.spine,.int .i64 c.globals,.int .i64 c.threads,.int .i64 c.locals,.int .i64 c.cache,.int .i64 c.stack,.int .i64 c.low,.slice A sh.length cc] 24)).heap.size=w.heap.size+1):=hid (by simp)
 generalize w.alloc (.cells #[.int .i64 c.frags,.int .i64 c.spine,.int .i64 c.globals,.int .i64 c.threads,.int .i64 c.locals,.int .i64 c.cache,.int .i64 c.stack,.int .i64 c.low,.slice A sh.length cc] 24)=W at *
 obtain ⟨k0,k1,k2,k3,k4,k5,k6,k7,k8,kf⟩:=HR.out.cells
 go_wp2_with fail
 refine (Cor.new_one c _ sh W (HL.out W HR.out.2.2) HOK.out HT.out HX.out).mono ?_
 rintro e w1 ⟨K,κo,rfl,hp1,hco,hm1,hns1,hal1,hκo⟩
 obtain ⟨κ,hc1,hκ1⟩:∃ κ,Cor.At w1 c K κ (cor0 c)∧∀ k,k<w.heap.size→κ k=13:=⟨fun k=>if k<w.heap.size then 13 else κo k,Cor.At.recol5 hco (fun k hk=>if_neg (by have:=hκo k hk;have:=HZ0.out;omega)),fun k hk=>if_pos hk⟩
 clear hco hκo
 have hR1:=HR.out.keep hp1
 have R1:=hid hR1
 have HC1:=hid (And.intro hc1 (And.intro hm1 (And.intro hns1 (And.intro hal1 hκ1))))
 clear k0 k1 k2 k3 k4 k5 k6 k7 k8 kf hR1 hp1 hc1 hm1 hns1 hal1 hκ1
 obtain ⟨k0,k1,k2,k3,k4,k5,k6,k7,k8,kf⟩:=R1.out.cells
 rw [HT.out] at k3
 go_wp2_with fail
 refine (cyc_new w1).mono ?_
 rintro e w2 ⟨rfl,rfl⟩
 have hpy:Pure w1 (w1.alloc (.cells (Cyc.cs ⟨0,0,0,0,.pointer none,.pointer none,false,0,0⟩ 0 0 0) 127)):=(Only.refl _ _).alloc _
 have hcy:Cyc.At (w1.alloc (.cells (Cyc.cs ⟨0,0,0,0,.pointer none,.pointer none,false,0,0⟩ 0 0 0) 127)) w1.heap.size cyc0:=⟨0,0,0,heap_alloc_new w1 _⟩
 have HY2:=hid (And.intro hcy (And.intro (rfl:w1.heap.size=w1.heap.size) (And.intro hpy (show w1.heap.size<(w1.alloc (.cells (Cyc.cs ⟨0,0,0,0,.pointer none,.pointer none,false,0,0⟩ 0 0 0) 127)).heap.size by simp))))
 have HR2:=R1.out.keep hpy
 have R2:=hid HR2
 have HSY:Hid (w.heap.size≤w1.heap.size):=hid (R1.out.2.2).size
 clear hpy hcy HR2 k0 k1 k2 k3 k4 k5 k6 k7 k8 kf
 generalize w1.alloc (.cells (Cyc.cs ⟨0,0,0,0,.pointer none,.pointer none,false,0,0⟩ 0 0 0) 127)=w2 at *
 obtain ⟨yb,hyb⟩:∃ yb,w1.heap.size=yb:=⟨_,rfl⟩
 have HYB:=hid hyb
 rw [hyb] at HY2 HSY ⊢
 clear hyb
 obtain ⟨hp3,-,hh3⟩:=Ac.one_new w2 #[.pointer (some ⟨K.kb,0,none⟩),.pointer (some ⟨yb,0,none⟩),.slice none 0 0,.int .i64 0] 59
 have HR3:=R2.out.keep hp3
 have R3:=hid HR3
 have HPRE:Hid (Pre w c K κ w2.heap.size yb (w2.alloc (.cells #[.pointer (some ⟨K.kb,0,none⟩),.pointer (some ⟨yb,0,none⟩),.slice none 0 0,.int .i64 0] 59))):=hid ⟨HR3.2.2,⟨_,HC1.out.1,HYB.out,HY2.out.2.2.1.then hp3⟩,HY2.out.1.only hp3 (fun f=>f),hh3,R2.out.2.2.size,HSY.out,HY2.out.2.2.2⟩
 clear hp3 hh3 HR3
 go_wp2_with fail
 generalize w2.alloc (.cells #[.pointer (some ⟨K.kb,0,none⟩),.pointer (some ⟨yb,0,none⟩),.slice none 0 0,.int .i64 0] 59)=w3 at *
 generalize w2.heap.size=hb at *
 go_loopw [31] (fun i wr=>(i=.int .i64 0∧wr=w3)∨(i=.int .i64 1∧∃ ab alg lgr cl ov,Fin1 w3 K n ops hb yb ab alg lgr cl ov wr)) (fun i _=>2-(intOf i).toNat)
 case atStart=>exact .inl ⟨rfl,rfl⟩
 case round =>
  rcases hrel with ⟨rfl,rfl⟩ | ⟨rfl,ab,alg,lgr,cl,ov,hf⟩
  ·obtain ⟨i0,hi0,hz0,hz1,hz2⟩:=info_parts pact_info
   have gG:wr.cell? ⟨G,0,none⟩=some (.slice (some ⟨g,0,none⟩) ops.length cc0):=HPRE.out.pu.keep HGC.out.2.1
   obtain ⟨k0,k1,k2,k3,k4,k5,k6,k7,k8,kf⟩:=R3.out.cells
   rw [HN.out] at k4
   have g2:wr.cell? ⟨hb,2,none⟩=some (.slice none 0 0):=by rw [cell_of_row wr _ _ _ _ _ HPRE.out.me];rfl
   have hol:decide ((1000:Int)<(ops.length:Int))=false:=by simp;omega
   have gf:∀ k,wr.frozen? ⟨hb,k,none⟩=false:=fun k=>frozen_of_row wr hb k _ _ HPRE.out.me
   have HD:Hid (Pure wr wr.drew):=hid ((Only.refl (fun _=>False) wr).drewN 1)
   have HSRC:Hid (Src wr.drew 6 (some ⟨g,0,none⟩) ops.length (opCells ops)):=hid (HGC.out.2.2.2.keep (fun ad e _ o=>by injection e with e;subst e;exact (HPRE.out.pu.then HD.out).cell (p:=⟨g,o,none⟩) HGC.out.2.2.1 (fun f=>f)))
   have HGL:Hid (g<wr.drew.heap.size):=hid (Nat.lt_of_lt_of_le HGC.out.2.2.1 (HPRE.out.pu.then HD.out).size)
   have hl0:w.heap.size≤wr.heap.size:=HPRE.out.pu.size
   have hhbl:hb<wr.heap.size:=(Array.getElem?_eq_some_iff.1 HPRE.out.me).1
   have HHB:=hid (And.intro hl0 hhbl)
   clear hl0 hhbl k0 k1 k2 k3 k5 k6 k7 k8 kf
   have hact:=act_new 0 n g cc0 ops wr.drew hn8 HGL.out HSRC.out (by omega)
   rw [show (((0:Nat):Int))=0 from rfl] at hact
   have HACT:=hid hact
   clear hact
   go_upto_region 12 with fail
   go_region_law ((first | (go_simp;go_at_call 23;refine HACT.out.mono ?_;rintro e w8 ⟨ab,alg,v8,rfl,h8⟩;have HA8:=hid h8;have P8:Pure wr w8:=Pure.then HD.out h8.pu;have HP8:=hid P8;have t2:=P8.keep g2;have t4:=P8.keep k4;have t2a:=Pure.keep (P8.alloc (.cells #[.pointer (some ⟨ab,0,none⟩)] 73)) g2;clear P8 h8) | (refine Ln.step_app rfl (.tmp 43) (.tmp 49) _ rfl wr.heap.size 73 i0 _ 1 8 Tryz.underlying57 hi0 hz0 hz1 hz2 rfl (by omega) (.slice none 0 0) 0 [] rfl (World.ownsRow_nil _ _ _ _) _ 1 1 [.pointer (some ⟨ab,0,none⟩)] rfl (Src.row w8 _ #[.pointer (some ⟨ab,0,none⟩)] 1 1 _ rfl rfl) (by simp [Value.oneCell']) (by simp only [maxLen];omega) (by omega) (by have:=HP8.out.size;simp;omega) ?_;intro v9 w9 hown9 hg9 hat9;simp only [Nat.zero_add,List.nil_append] at hown9;obtain ⟨lgr,c9,rfl,hlg9,hrow9⟩:=own_one hown9;have HO9:=hid (And.intro hlg9 hrow9);clear hlg9 hrow9;have HO9x:=hid hown9;have HG9:=hid hg9;have hw9:Pure wr w9:=((HP8.out).alloc _).grown hg9 (fun k _ hk=>by simp [Value.ownBlock] at hk);have HW9:=hid hw9;have g9:=hw9.keep g2;have gf9:∀ k,w9.frozen? ⟨hb,k,none⟩=false:=fun k=>frozen_of_row w9 hb k _ _ (hw9.blk HPRE.out.me);clear hown9 hg9 hat9 hw9)))
   all_goals
    go_wp2_with fail
    go_roundw
    case rel =>
     refine .inr ⟨by first | rfl | simp,ab,alg,lgr,c9,v8,?_⟩
     have hp89:Pure w8 w9:=((Only.refl _ w8).alloc _).grown HG9.out (fun k _ hk=>by simp [Value.ownBlock] at hk)
     have hst:Only (fun k=>k=hb) w9 (w9.setCell ⟨hb,2,none⟩ (.slice (some ⟨lgr,0,none⟩) 1 c9)):=(Only.refl (fun k=>k=hb) w9).setCell (p:=⟨hb,2,none⟩) (fun _=>rfl) _
     have hab:=HA8.out.hab
     have hlg:=HA8.out.hlg
     have hhb:hb<wr.drew.heap.size:=HHB.out.2
     have hme:=set_me (i:=2) (u:=.slice (some ⟨lgr,0,none⟩) 1 c9) (HW9.out.blk HPRE.out.me)
     refine ⟨((HW9.out.mono (T:=fun k=>k=hb) (fun _ _ f=>f.elim)).trans hst (fun _ _ h=>h)),hst.blk (hp89.blk HA8.out.me) (fun (e:ab=hb)=>by omega),hst.blk (hp89.blk HA8.out.loc) (fun (e:alg=hb)=>by omega),?_,by simpa using hme,?_,hab,hlg,HO9.out.1.1,by simpa [World.setCell] using HO9.out.1.2⟩
     ·exact hst.own (hp89.own HA8.out.own (fun _ _ f=>f)) (fun k hk (e:k=hb)=>by have:=(HA8.out.own.lt k hk).1;omega)
     ·exact (hst.cell (p:=⟨lgr,0,none⟩) HO9.out.1.2 (fun (e:lgr=hb)=>by have:=HO9.out.1.1;have:wr.drew.heap.size=wr.heap.size:=rfl;omega)).trans HO9.out.2
    case measure=>simp [intOf]
  ·have HFI:=hid hf
   clear hf
   go_wp2_with fail
   have hmn:=mac_new HPRE.out HFI.out hn1 hn8
   go_ret2
   refine ⟨K,colM κ yb hb ab alg,hb,lgr,yb,⟨0,ab,alg,ov,ops⟩,rfl,hmn.1,hmn.2,rfl,rfl,HC1.out.2.1,HC1.out.2.2.1,HC1.out.2.2.2.1,fun k hk=>Decidable.byContradiction fun hlt=>?_⟩
   have h1:colM κ yb hb ab alg k=13:=by unfold colM;rw [if_pos (by have:=HSY.out;omega)];exact HC1.out.2.2.2.2 k (by omega)
   rw [h1] at hk
   unfold CM at hk
   omega
end Go.Proofs.YtpgdiceeimehiaaGreat
