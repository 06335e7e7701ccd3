/- Part 35 of the proof that spotop.TopOrder returns true for all arguments and leaves what was there as it was. -/
import Derived.StillTailTactics
import Derived.Test.YtpgdiceeimehiaaGreatQ22
import Derived.Test.YtpgdiceeimehiaaGreatQ30
import Derived.Test.YtpgdiceeimehiaaGreatQ34
set_option maxRecDepth 100000
set_option maxHeartbeats 16000000
open Go.Lib (hid)
namespace Go.Proofs.YtpgdiceeimehiaaGreat.Law
open Go.RowKit
open Ac (Vl)
def c0:Cn:=⟨44,0,1,1,4,0,2,0⟩
def bs2:List Bool:=[true,true]
def bs0:List Bool:=List.replicate 40 false
structure Kok (K:Cor.Q):Prop where
 s2:∃ v,K.csh[0]?=some ⟨false,v,bs2⟩
 s0:∃ v,K.csh[1]?=some ⟨false,v,bs0⟩
 few:∀ s∈K.csh,s.bs.length≤1000000
 most:K.most=2
 ns:0<K.q.ns
structure Al (m:Cor.St) (O:Nat→Prop) (nx:Nat→Option Nat) (g:Option Nat):Prop where
 len:m.words.length=353
 lt:∀ i,O i→i<44
 obj:∀ i,O i→Two m.words i (nx i)
 tab:∀ i,O i→∃ sg,m.s.l[i]?=some ⟨2,true,sg⟩
 cl:∀ i,O i→∀ j,nx i=some j→O j
 gw:m.words[352]?=some (optW g)
 gO:∀ j,g=some j→O j
section
variable {m m':Cor.St} {O:Nat→Prop} {nx:Nat→Option Nat} {g:Option Nat} {K:Cor.Q}
theorem objW_one {ws:List (Nat × Nat)} {i:Nat} {v:Option Nat} {P:Nat→Prop} (h:Two ws i v) (hi:i<44) (hv:∀ j,v=some j→P j∧j<44):Vw.ObjW ws c0.frags bs2 [i] P:=by
 refine ⟨by simp,by show sizeI false 2 0=1;decide,by show (2:Nat)≤40;omega,fun x hx=>?_,fun j x z h1 h2=>?_,fun k hk=>?_,fun k x hk hx=>?_⟩
 ·simp at hx;subst hx;show (x:Int)<44;omega
 ·simp at h2
 ·rcases k with _ | _ | k
  ·omega
  ·omega
  ·simp [bs2] at hk
 ·simp at hx
  subst hx
  rcases k with _ | _ | k
  ·cases v with
   | none=>exact .inl h.w2
   | some j=>exact .inr ⟨j,(hv j rfl).1,by have:=(hv j rfl).2;omega,h.w2⟩
  ·exact .inl h.w3
  ·simp [bs2] at hk
theorem Al.setO (h:Al m O nx g) (hK:Kok K):Vw.SetO m c0 K.csh O (fun i=>[i]):=by
 obtain ⟨v,hv⟩:=hK.s2
 refine ⟨fun i hi=>?_,fun i _=>by simp,fun i hi x hx=>?_,fun i j _ _ hij x hx hx2=>?_⟩
 ·obtain ⟨sg,ht⟩:=h.tab i hi
  exact ⟨_,0,1,_,ht,rfl,(h.obj i hi).w1,hv,rfl,by omega,by omega,objW_one (h.obj i hi) (h.lt i hi) (fun j hj=>⟨h.cl i hi j hj,h.lt j (h.cl i hi j hj)⟩),rfl⟩
 ·simp at hx;subst hx
  obtain ⟨sg,ht⟩:=h.tab x hi
  exact ⟨_,ht,rfl⟩
 ·simp at hx hx2
  omega
structure Bg (m:Cor.St) (O:Nat→Prop) (xs:List Nat):Prop where
 nd:xs.Nodup
 six:xs.length=6
 out:∀ x∈xs,¬ O x∧x<44
 hd:∃ x md,xs[0]?=some x∧m.words[8 * x+1]?=some (headW 1 md)∧md≤1
 link:∀ j x z,xs[j]?=some x→xs[j+1]?=some z→m.words[8 * x]?=some (refW z)
theorem bs0_no {k:Nat} (h:bs0[k]?=some true):False:=by
 unfold bs0 at h
 rw [List.getElem?_replicate] at h
 split at h <;> simp at h
theorem bs0_len:bs0.length=40:=by simp [bs0]
theorem Al.setB (h:Al m O nx g) (hK:Kok K) {xs:List Nat} (hb:Bg m O xs) (hu:∀ x∈xs,∃ q,m.s.l[x]?=some q∧q.st=2) (hh:∀ x,xs[0]?=some x→∃ q,m.s.l[x]?=some q∧q.head=true) :
  Vw.SetO m c0 K.csh (fun i=>O i∨xs[0]?=some i) (fun i=>if xs[0]?=some i then xs else [i]):=by
 obtain ⟨v,hv⟩:=hK.s2
 obtain ⟨v0,hv0⟩:=hK.s0
 obtain ⟨x0,md,hx0,hw0,hmd⟩:=hb.hd
 have hO0:∀ i,O i→xs[0]?≠some i:=fun i hi e=>(hb.out i (List.mem_of_getElem? e)).1 hi
 refine ⟨fun i hi=>?_,fun i hi=>?_,fun i hi x hx=>?_,fun i j hi hj hij x hx hx2=>?_⟩
 ·rcases hi with hi | hi
  ·obtain ⟨sg,ht⟩:=h.tab i hi
   rw [if_neg (hO0 i hi)]
   exact ⟨_,0,1,_,ht,rfl,(h.obj i hi).w1,hv,rfl,by omega,by omega,objW_one (h.obj i hi) (h.lt i hi) (fun j hj=>⟨.inl (h.cl i hi j hj),h.lt j (h.cl i hi j hj)⟩),rfl⟩
  ·obtain ⟨q,hq1,hq2⟩:=hh i hi
   rw [if_pos hi]
   rw [hx0] at hi
   injection hi with hi
   subst hi
   exact ⟨q,1,md,_,hq1,hq2,hw0,hv0,rfl,hmd,by omega,⟨by have:=hb.six;omega,by show sizeI false bs0.length 0=(xs.length:Int);rw [hb.six,bs0_len];decide,by show bs0.length≤40;rw [bs0_len];omega,fun x hx=>by have:=(hb.out x hx).2;show (x:Int)<44;omega,hb.link,fun k hk=>absurd hk (fun e=>bs0_no e),fun k x hk=>absurd hk (fun e=>bs0_no e)⟩,hx0⟩
 ·show (if xs[0]?=some i then xs else [i]).Nodup
  by_cases e:xs[0]?=some i
  ·rw [if_pos e];exact hb.nd
  ·rw [if_neg e];simp
 ·by_cases e:xs[0]?=some i
  ·rw [if_pos e] at hx;exact hu x hx
  ·rw [if_neg e] at hx
   simp at hx;subst hx
   rcases hi with hi | hi
   ·obtain ⟨sg,ht⟩:=h.tab x hi;exact ⟨_,ht,rfl⟩
   ·exact absurd hi e
 ·by_cases e:xs[0]?=some i
  ·by_cases e2:xs[0]?=some j
   ·rw [e] at e2;injection e2 with e2;exact hij e2
   ·rw [if_pos e] at hx
    rw [if_neg e2] at hx2
    simp at hx2;subst hx2
    rcases hj with hj | hj
    ·exact (hb.out x hx).1 hj
    ·exact e2 hj
  ·rw [if_neg e] at hx
   simp at hx;subst hx
   have hOx:O x:=by
    rcases hi with hi | hi
    ·exact hi
    ·exact absurd hi e
   by_cases e2:xs[0]?=some j
   ·rw [if_pos e2] at hx2
    exact (hb.out x hx2).1 hOx
   ·rw [if_neg e2] at hx2
    simp at hx2
    exact hij hx2
end
theorem ixn_none:Vw.Ixn noneW:=⟨0,index_none⟩
theorem ixn_zero:Vw.Ixn (0,0):=⟨0,index_zero⟩
theorem ixn_whole {n:Nat} (h:n≤1000000):Vw.Ixn (wholeW n):=⟨0,fun w=>index_whole n w h⟩
theorem loc_opt {O:Nat→Prop} {v:Option Nat} {r:Bool} (h:∀ j,v=some j→O j∧j<44):Vw.LocOk O (r,optW v):=by
 cases v with
 | none=>exact .inr ixn_none
 | some j=>exact .inl ⟨j,by have:=(h j rfl).2;omega,rfl,fun _=>(h j rfl).1⟩
theorem loc_locV {O:Nat→Prop} {v:Option (Option Nat)} (h:∀ x,v=some x→∀ j,x=some j→O j∧j<44):Vw.LocOk O (locV v):=by
 cases v with
 | none=>exact .inr ixn_zero
 | some x=>exact loc_opt (h x rfl)
structure Fin (m:Cor.St) (s:Ac.St) (y:Cyc.St) (csh:List Sh):Prop where
 set:∃ O fr,Vw.SetO m c0 csh O fr∧(∀ i,O i→i<44)∧(s.phase≠0→s.phase≠4→∀ v∈s.locals,Vw.LocOk O v)∧∃ z,m.words[352]?=some z∧Vw.LocOk O (true,z)
 len:m.s.l.length=44
 sts:∀ q∈m.s.l,q.st≤2
 cyc:y.finished≤y.started∧y.started≤10
structure Cm (m:Cor.St) (tf:Nat→Tab.One):Prop where
 l:m.s.l=tb 44 tf
 fr:m.s.fr=tb 44 (fun i=>decide ((tf i).st=0))
 lost:m.lost=false
 u:∀ k,m.s.u k=0
 kept:m.s.kept=0
 sx:m.s.sx=[]
 forced:m.s.forced=false
 st2:∀ i,(tf i).st≤2
theorem Cm.len {m:Cor.St} {tf:Nat→Tab.One} (h:Cm m tf):m.s.l.length=44:=by rw [h.l,tb_len]
theorem Cm.sts {m:Cor.St} {tf:Nat→Tab.One} (h:Cm m tf):∀ q∈m.s.l,q.st≤2:=by
 intro q hq
 rw [h.l] at hq
 obtain ⟨i,-,rfl⟩:=List.mem_map.1 hq
 exact h.st2 i
theorem Cm.get {m:Cor.St} {tf:Nat→Tab.One} (h:Cm m tf) {i:Nat} (hi:i<44):m.s.l[i]?=some (tf i):=by rw [h.l];exact tb_get hi
theorem sd_one (i:Nat):Sk.sideB (Pl.natI [i])=true:=by simp [Sk.sideB,Pl.natI]
theorem objW_two (i:Nat):Pl.objW 0 true [i] bs2 0=[noneW,headW 0 1,noneW,noneW,(0,0),(0,0),(0,0),(0,0)]:=rfl
theorem two_done {ws:List (Nat × Nat)} {i:Nat} (h:Done (Pl.objJ 0 true [i] bs2 1) 8 ws):Two ws i none:=by
 have hd:Done (Pl.objJ 0 true [i] bs2 [i].length) (8 * [i].length) ws:=h
 have e:[i].getD 0 0=i:=rfl
 have h0:=hd.word (j:=0) (k:=0) (by simp) (by omega)
 have h1:=hd.word (j:=0) (k:=1) (by simp) (by omega)
 have h2:=hd.word (j:=0) (k:=2) (by simp) (by omega)
 have h3:=hd.word (j:=0) (k:=3) (by simp) (by omega)
 rw [e,objW_two] at h0 h1 h2 h3
 exact ⟨h0,h1,h2,h3⟩
theorem fields_0 (f n:Nat) (bs:List Bool) (ws:List (Nat × Nat)):(Pl.fieldsJ f bs n ws).getD 0 (0,0)=ws.getD 0 (0,0):=by
 induction n with
 | zero=>rfl
 | succ n ih =>
  rw [Pl.fieldsJ_succ,← ih]
  unfold Pl.fieldStep
  split
  ·have h:(placeW (n:Int)).toNat≠0:=by unfold placeW;split <;> omega
   simp only [List.getD,List.getElem?_set_ne h]
  ·rfl
theorem fields_1 (n:Nat) (bs:List Bool) (ws:List (Nat × Nat)):(Pl.fieldsJ 0 bs n ws).getD 1 (0,0)=ws.getD 1 (0,0):=by
 induction n with
 | zero=>rfl
 | succ n ih =>
  rw [Pl.fieldsJ_succ,← ih]
  unfold Pl.fieldStep
  split
  ·rename_i h0
   have h:(placeW (n:Int)).toNat≠1:=by
    unfold placeF at h0
    unfold placeW
    split at h0
    ·split <;> omega
    ·exfalso
     have:(0:Int)≤((n:Int)-6) / 7:=by omega
     omega
   simp only [List.getD,List.getElem?_set_ne h]
  ·rfl
theorem big_done {ws:List (Nat × Nat)} {xs:List Nat} {sd:Bool} (h:Done (Pl.objJ 1 sd xs bs0 xs.length) (8 * xs.length) ws) (h6:xs.length=6) :
  (∃ x md,xs[0]?=some x∧ws[8 * x+1]?=some (headW 1 md)∧md≤1)∧∀ j x z,xs[j]?=some x→xs[j+1]?=some z→ws[8 * x]?=some (refW z):=by
 constructor
 ·have h1:=h.word (j:=0) (k:=1) (by omega) (by omega)
  have hx:=List.getElem?_eq_getElem (l:=xs) (i:=0) (by omega)
  refine ⟨xs[0],if sd then 1 else 0,hx,?_,by cases sd <;> decide⟩
  have e:xs.getD 0 0=xs[0]:=by simp [List.getD,hx]
  rw [e] at h1
  rw [h1]
  unfold Pl.objW
  rw [fields_1]
  rfl
 ·intro j x z hx hz
  have hj:=(List.getElem?_eq_some_iff.1 hx).1
  have hj1:=(List.getElem?_eq_some_iff.1 hz).1
  have h1:=h.word (j:=j) (k:=0) hj (by omega)
  have e:xs.getD j 0=x:=by simp [List.getD,hx]
  have e2:xs.getD (j+1) 0=z:=by simp [List.getD,hz]
  rw [e,Nat.add_zero] at h1
  rw [h1]
  unfold Pl.objW
  rw [fields_0]
  show some (Pl.linkW xs j)=_
  unfold Pl.linkW
  rw [if_pos hj1,e2]
end Go.Proofs.YtpgdiceeimehiaaGreat.Law
namespace Go.Proofs.YtpgdiceeimehiaaGreat.Law
open Go.RowKit
open Ac (Vl OpD)
open Opn (SgOk Made kn)
def opD:TOp→OpD
 | .new0=>⟨1,0,0,0,0,0,0⟩
 | .look1=>⟨7,1,0,0,0,0,0⟩
 | .store01=>⟨4,0,1,0,0,0,0⟩
 | .set0=>⟨8,0,0,0,0,0,0⟩
 | .load11=>⟨3,1,1,0,0,0,0⟩
 | .load21=>⟨3,2,1,0,0,0,0⟩
 | .load22=>⟨3,2,2,0,0,0,0⟩
 | .store12=>⟨4,1,2,0,0,0,0⟩
 | .clear j=>⟨13,(j:Int),0,0,0,0,0⟩
 | .big=>⟨1,3,1,0,0,0,0⟩
 | .kind=>⟨11,0,3,0,0,0,0⟩
theorem sg_ok {o:TOp} (h:∀ j,o=.clear j→j<4) (x:UInt8):SgOk c0 (opD o) x:=by
 unfold SgOk
 cases o with
 | clear j =>
  have hj:=h j rfl
  refine ⟨fun _=>⟨?_,?_⟩,fun _=>?_,fun _=>?_,fun _=>?_⟩
  ·show (0:Int)≤(j:Int);omega
  ·show (j:Int)<4;omega
  all_goals exact ⟨by show (0:Int)≤0;omega,by show (0:Int)<_;decide⟩
 | _=>exact ⟨fun _=>by decide,fun _=>by decide,fun _=>by decide,fun _=>by decide⟩
def tA (cnt:Nat) (i:Nat):Tab.One:=if i<44-cnt then ⟨0,false,false⟩ else ⟨2,true,false⟩
def locs (a:A):List Vl:=[locV a.l0,locV a.l1,locV a.l2,(false,0,0)]
structure Qt (m:Cor.St) (s:Ac.St):Prop where
 st:m.st=0
 s0:s.status=0
 stats:m.stats=[0]
structure Ta (L:List OpD) (q:Nat) (a:A) (r:List TOp) (m:Cor.St) (s:Ac.St) (y:Cyc.St):Prop where
 drop:L.drop s.next=(r++[TOp.big,TOp.kind]).map opD
 run:∃ e l n,Run a r e∧Li e n l∧l.length=q∧e.l0=some none∧e.l1=some none
 ok:Ok a
 me:Me a m.words
 loc:s.locals=locs a
 sn:s.sense=false
 se:m.se=false
 xs:m.xs=[]
 en:m.s.en=[]
 y0:y.stage=0∧y.started=0∧y.finished=0∧y.sense=false∧y.at_=0∧y.i=0
def newW (i:Nat):List Ac.Wr:=Pl.objJ 0 true [i] bs2 1
inductive Mi (a:A) (r:List TOp) (m:Cor.St) (s:Ac.St):Prop where
 | border (h1:s.phase=1) (h2:s.pc=0) (h3:Cm m (tA a.cnt))
 | start (h1:s.phase=2) (h2:s.at_=0) (h3:Cm m (tA a.cnt))
 | wr (r':List TOp) (j:Nat) (hr:r=.new0 :: r') (hc:a.cnt<44) (h1:s.phase=2) (h2:s.at_=7) (hj:j<8) (hw:s.writes=(newW (43-a.cnt)).drop j) (hd:Done (newW (43-a.cnt)) j m.words) (hg:s.got=Pl.natI [43-a.cnt]) (h3:Cm m (up (tA a.cnt) (43-a.cnt) ⟨2,false,false⟩))
 | bo (r':List TOp) (hr:r=.new0 :: r') (hc:a.cnt<44) (h1:s.phase=2) (h2:s.at_=8) (hd:Done (newW (43-a.cnt)) 8 m.words) (hg:s.got=Pl.natI [43-a.cnt]) (h3:Cm m (up (tA a.cnt) (43-a.cnt) ⟨2,false,false⟩))
 | rd (o:TOp) (a':A) (r':List TOp) (i ja:Nat) (hr:r=o :: r') (h1:s.phase=2) (h2:s.at_=2) (hf:s.ref=true) (ha:s.addr=((8 * i+2:Nat):Int)) (hi:44-a.cnt≤i) (hi2:i<44) (hx:Ex a o a') (hn:a'.cnt=a.cnt∧a'.nx=a.nx∧a'.g=a.g) (hl:locs a'=(locs a).set ja (true,optW (a.nx i))) (hja:(opD o).a=(ja:Int)) (hja4:ja<4) (hk:(opD o).kind=3) (h3:Cm m (tA a.cnt))
 | wt (o:TOp) (a':A) (r':List TOp) (i:Nat) (v:Option Nat) (hr:r=o :: r') (h1:s.phase=2) (h2:s.at_=6) (ha:s.addr=((8 * i+2:Nat):Int)) (hi:44-a.cnt≤i) (hi2:i<44) (hw:s.w=optW v) (hx:Ex a o a') (hn:a'={ a with nx:=upd a.nx i v }) (h3:Cm m (tA a.cnt))
structure Qc (m:Cor.St) (y:Cyc.St):Prop where
 y0:(y.stage=0∧y.finished=y.started)∨(y.stage=10∧y.at_=7∧y.finished+1=y.started)
 en:∀ e∈m.s.en,e.state≠0
 few:y.started≤2
def tM (u:Nat→Bool) (b:Bool) (P:List Nat) (i:Nat):Tab.One:=if u i then ⟨2,true,if i∈P then b else !b⟩ else ⟨0,false,false⟩
structure Hs (m:Cor.St) (s:Ac.St) (pol:Bool):Prop where
 stats:m.stats=[s.status]
 s0:0≤s.status∧s.status≤4
 m0:0≤m.st∧m.st≤4
 pc:s.pc=5∨s.pc=0∨(s.pc=2∧s.seen=m.st∧s.status≠m.st)
 pol:pol=true→s.status=m.st
structure Tb (L:List OpD) (q:Nat) (l:List Nat) (nx:Nat→Option Nat) (g:Option Nat) (m:Cor.St) (s:Ac.St):Prop where
 al:Al m (·∈ l) nx g
 nd:l.Nodup
 len:l.length=q
 ch:Ch nx g l
 big:L[s.next]?=some (opD .big)
 kd:L[s.next+1]?=some (opD .kind)
 all:s.next+2=L.length
 loc:∃ v2,(v2=none∨v2=some none)∧s.locals=[(true,noneW),(true,noneW),locV v2,(false,0,0)]
structure Wc (L:List OpD) (q:Nat) (l:List Nat) (nx:Nat→Option Nat) (g:Option Nat) (u:Nat→Bool) (b:Bool) (p:Nat) (pol:Bool) (e:Ln.En) (m:Cor.St) (s:Ac.St):Prop where
 tb:Tb L q l nx g m s
 pos:1≤q
 cm:Cm m (tM u b (l.take p))
 up:∀ i∈l,u i=true
 en:m.s.en=[e]
 e0:e.thread=0∧e.frags=6∧e.spine=0∧e.state=0
 ph:s.phase=3
 hs:Hs m s pol
def K01 (q:Nat) (l:List Nat) (u:Nat→Bool) (k:Nat):Prop:=k=0∨(k=1∧(∀ i,i<44→u i=true→i∈l)∧38<q)
structure C0 (q:Nat) (l:List Nat) (y:Cyc.St) (u:Nat→Bool) (b:Bool) (k:Nat) (e:Ln.En):Prop where
 k01:K01 q l u k
 n:y.started=k∧y.finished=k
 ec:e.cycles=(k:Int)
 b:b=!y.sense
structure C1 (q:Nat) (l:List Nat) (y:Cyc.St) (u:Nat→Bool) (b:Bool) (k:Nat) (e:Ln.En):Prop where
 k01:K01 q l u k
 n:y.started=k+1∧y.finished=k
 ec:e.cycles=(k:Int)
 en:e.noted=true
 b:b=y.sense
inductive Pt (q:Nat) (l:List Nat) (mx:List Int) (ms:Int) (y:Cyc.St) (o:Option Tr.St) (u:Nat→Bool) (b:Bool) (p k:Nat) (pol:Bool) (e:Ln.En):Prop where
 | idle (h:y.stage=0) (hc:C0 q l y u b k e) (hp:p=0) (hx:mx=[]) (hs:ms=0) (hl:pol=true)
 | start0 (h:y.stage=1) (h2:y.at_=0) (hc:C0 q l y u b k e) (hp:p=0) (hx:mx=[]) (hs:ms=0) (hl:pol=true)
 | start2 (h:y.stage=1) (h2:y.at_=2) (hc:C0 q l y u b k e) (hn:e.noted=true) (hp:p=0) (hx:mx=[]) (hs:ms=0) (hl:pol=true)
 | first0 (h:y.stage=2) (h2:y.at_=0) (hi:y.i=0) (hc:C1 q l y u b k e) (hp:p=0) (hx:mx=[]) (hs:ms=1)
 | first2 (h:y.stage=2) (h2:y.at_=2) (hc:C1 q l y u b k e) (hp:p=0) (hx:mx=[]) (hs:ms=1) (hl:pol=true)
 | both0 (h:y.stage=3) (h2:y.at_=0) (hi:y.i=0) (hc:C1 q l y u b k e) (hp:p=0) (hx:mx=[]) (hs:ms=2)
 | both2 (h:y.stage=3) (h2:y.at_=2) (hc:C1 q l y u b k e) (hp:p=0) (hx:mx=[]) (hs:ms=2) (hl:pol=true)
 | roots0 (h:y.stage=4) (h2:y.at_=0) (hi:y.i=0) (hc:C1 q l y u b k e) (hp:p=0) (hx:mx=[]) (hs:ms=3)
 | rootsG (z:Nat) (h:y.stage=4) (h2:y.at_=3) (hi:y.i=0) (hz:l[0]?=some z) (hh:y.head=(z:Int)) (hc:C1 q l y u b k e) (hp:p=0) (hx:mx=[]) (hs:ms=3)
 | rootsP (z:Nat) (h:y.stage=4) (h2:(y.at_=0∧y.i=1)∨(y.at_=1∧y.i=0)) (hz:l[0]?=some z) (hc:C1 q l y u b k e) (hp:p=1) (hx:mx=[(z:Int)]) (hs:ms=3)
 | mark1 (z:Nat) (h:y.stage=5) (h2:y.at_=0) (hc:C1 q l y u b k e) (hp:1≤p) (hz:l[p-1]?=some z) (hx:mx=[(z:Int)]) (hs:ms=3) (hl:pol=true)
 | mark0 (h:y.stage=5) (h2:y.at_=0) (hc:C1 q l y u b k e) (hp:p=q) (hx:mx=[]) (hs:ms=3) (hl:pol=true)
 | lost (h:y.stage=5) (h2:y.at_=5) (hc:C1 q l y u b k e) (hp:p=q) (hx:mx=[]) (hs:ms=3) (hl:pol=true)
 | tr0 (t:Tr.St) (h:y.stage=5) (h2:y.at_=4) (hc:C1 q l y u b k e) (hp:1≤p) (hx:mx=[]) (hs:ms=3) (hl:pol=true) (ho:o=some t) (ht:l[p-1]?=some t.head) (hs2:t.sense=y.sense) (hpc:t.pc=0)
 | tr1 (t:Tr.St) (h:y.stage=5) (h2:y.at_=4) (hc:C1 q l y u b k e) (hp:1≤p) (hx:mx=[]) (hs:ms=3) (hl:pol=true) (ho:o=some t) (ht:l[p-1]?=some t.head) (hs2:t.sense=y.sense) (hpc:t.pc=1) (hw:t.words=[2,3]) (hb:t.bs=bs2)
 | tr2 (t:Tr.St) (h:y.stage=5) (h2:y.at_=4) (hc:C1 q l y u b k e) (hp:1≤p) (hx:mx=[]) (hs:ms=3) (hl:pol=true) (ho:o=some t) (ht:l[p-1]?=some t.head) (hs2:t.sense=y.sense) (hpc:t.pc=2) (hw:t.words=[3]) (hb:t.bs=bs2) (hz:l[p]?=some t.next)
 | tr3 (t:Tr.St) (h:y.stage=5) (h2:y.at_=4) (hc:C1 q l y u b k e) (hx:(p=q∧mx=[])∨∃ z:Nat,1≤p∧l[p-1]?=some z∧mx=[(z:Int)]) (hs:ms=3) (hl:pol=true) (ho:o=some t) (ht:t.head∈l) (hpc:t.pc=1) (hw:t.words=[3]) (hb:t.bs=bs2)
 | turn0 (h:y.stage=6) (h2:y.at_=0) (hi:y.i=0) (hc:C1 q l y u b k e) (hp:p=q) (hx:mx=[]) (hs:ms=3) (hl:pol=true)
 | turn2 (h:y.stage=6) (h2:y.at_=2) (hi:y.i=0) (hc:C1 q l y u b k e) (hp:p=q) (hx:mx=[]) (hs:ms=3) (hl:pol=true)
 | turn1 (h:y.stage=6) (h2:y.at_=1) (hi:y.i=0) (hc:C1 q l y u b k e) (hp:p=q) (hx:mx=[]) (hs:ms=4)
 | haul0 (h:y.stage=7) (h2:y.at_=0) (hh:y.h=.pointer none) (hc:C1 q l y u b k e) (hp:p=q) (hx:mx=[]) (hs:ms=4) (hl:pol=true)
 | haul2 (h:y.stage=7) (h2:y.at_=2) (hc:C1 q l y u b k e) (hp:p=q) (hx:mx=[]) (hs:ms=4) (hl:pol=true)
 | settle0 (h:y.stage=8) (h2:y.at_=0) (hi:y.i=0) (hc:C1 q l y u b k e) (hp:p=q) (hx:mx=[]) (hs:ms=0)
 | settle7 (h:y.stage=8) (h2:y.at_=7) (hc:C1 q l y u b k e) (hp:p=q) (hx:mx=[]) (hs:ms=0) (hl:pol=true)
 | sweep (h:y.stage=9) (hi:y.i<44) (hu:∀ i,i<y.i→u i=true→i∈l) (hc:C1 q l y u b k e) (hp:p=q) (hx:mx=[]) (hs:ms=0) (hl:pol=true)
 | serve0 (h:y.stage=10) (h2:y.at_=0) (hu:∀ i,i<44→u i=true→i∈l) (hc:C1 q l y u b k e) (hp:p=q) (hx:mx=[]) (hs:ms=0) (hl:pol=true)
 | serve7 (h:y.stage=10) (h2:y.at_=7) (hu:∀ i,i<44→u i=true→i∈l) (hk:K01 q l u k) (hn:y.started=k+1∧y.finished=k) (hc:e.cycles=(k+1:Int)) (hb:b=y.sense) (hp:p=q) (hx:mx=[]) (hs:ms=0) (hl:pol=true)
structure Tk (l:List Nat) (xs:List Nat) (m:Cor.St) (tf:Nat→Tab.One):Prop where
 cm:Cm m tf
 nd:xs.Nodup
 six:xs.length=6
 out:∀ x∈xs,x ∉ l∧x<44
 tk:∀ x∈xs,(tf x).st=2∧(tf x).head=false
inductive Sx (L:List OpD) (q:Nat) (m:Cor.St) (s:Ac.St) (y:Cyc.St) (o:Option Tr.St):Prop where
 | out (a:A) (r:List TOp) (h:Ta L q a r m s y) (h0:s.phase=0) (hc:a.cnt=0) (h3:Cm m (tA 0)) (hst:m.st=0) (hs:m.stats=[-1])
 | ab (a:A) (r:List TOp) (h:Ta L q a r m s y) (hm:Mi a r m s) (hq:Qt m s)
 | wait (l:List Nat) (nx:Nat→Option Nat) (g:Option Nat) (u:Nat→Bool) (b:Bool) (p k:Nat) (pol:Bool) (e:Ln.En) (h:Wc L q l nx g u b p pol e m s) (hp:Pt q l m.xs m.st y o u b p k pol e)
 | got (l:List Nat) (nx:Nat→Option Nat) (g:Option Nat) (xs:List Nat) (e:Ln.En) (tf:Nat→Tab.One) (h:Tb L q l nx g m s) (ht:Tk l xs m tf) (h1:s.phase=3) (h2:s.pc=5∨s.pc=0) (he:m.s.en=[e]) (he1:e.state=1∧e.thread=0∧e.got=Pl.natI xs) (hq:Qt m s) (hc:Qc m y) (h38:q≤38)
 | failed (l:List Nat) (nx:Nat→Option Nat) (g:Option Nat) (e:Ln.En) (tf:Nat→Tab.One) (h:Tb L q l nx g m s) (ht:Cm m tf) (h1:s.phase=3) (h2:s.pc=5∨s.pc=0) (he:m.s.en=[e]) (he1:e.state=2∧e.thread=0) (hq:Qt m s) (hc:Qc m y) (h38:38<q)
 | bw (l:List Nat) (nx:Nat→Option Nat) (g:Option Nat) (xs:List Nat) (sd:Bool) (j:Nat) (tf:Nat→Tab.One) (h:Tb L q l nx g m s) (ht:Tk l xs m tf) (h1:s.phase=2) (h2:s.at_=7) (hj:j<48) (hw:s.writes=(Pl.objJ 1 sd xs bs0 6).drop j) (hd:Done (Pl.objJ 1 sd xs bs0 6) j m.words) (hg:s.got=Pl.natI xs) (he:m.s.en=[]) (hq:Qt m s) (hc:Qc m y) (h38:q≤38)
 | bb (l:List Nat) (nx:Nat→Option Nat) (g:Option Nat) (xs:List Nat) (sd:Bool) (tf:Nat→Tab.One) (h:Tb L q l nx g m s) (ht:Tk l xs m tf) (h1:s.phase=2) (h2:s.at_=8) (hd:Done (Pl.objJ 1 sd xs bs0 6) 48 m.words) (hg:s.got=Pl.natI xs) (he:m.s.en=[]) (hq:Qt m s) (hc:Qc m y) (h38:q≤38)
 | kb (l:List Nat) (nx:Nat→Option Nat) (g:Option Nat) (xs:List Nat) (tf:Nat→Tab.One) (al:Al m (·∈ l) nx g) (hk:L[s.next]?=some (opD .kind)) (hl:s.next+1=L.length) (v2:Option (Option Nat)) (v3:Vl) (hv2:v2=none∨v2=some none) (loc:s.locals=[(true,noneW),(true,noneW),locV v2,v3]) (cm:Cm m tf)
   (hv3:v3=(false,0,0)∨∃ x,xs[0]?=some x∧v3=(true,refW x)∧Bg m (·∈ l) xs∧(∀ x∈xs,(tf x).st=2)∧(tf x).head=true) (h1:(s.phase=1∧s.pc=0)∨(s.phase=2∧s.at_=0)) (he:m.s.en=[]) (hq:Qt m s) (hc:Qc m y)
section
variable {L:List OpD} {q:Nat} {m:Cor.St} {s:Ac.St} {y:Cyc.St} {o:Option Tr.St} {K:Cor.Q}
theorem loc_nil {O:Nat→Prop}:Vw.LocOk O (true,noneW):=.inr ixn_none
theorem loc_zero {O:Nat→Prop}:Vw.LocOk O (false,0,0):=.inr ixn_zero
theorem loc_v2 {O:Nat→Prop} {v2:Option (Option Nat)} (h:v2=none∨v2=some none):Vw.LocOk O (locV v2):=by
 rcases h with rfl | rfl
 ·exact loc_zero
 ·exact loc_nil
theorem Al.fin {O:Nat→Prop} {nx:Nat→Option Nat} {g:Option Nat} (h:Al m O nx g) (hK:Kok K) (hl:∀ v∈s.locals,Vw.LocOk O v) (hn:m.s.l.length=44) (hs:∀ q∈m.s.l,q.st≤2) (hy:y.finished≤y.started∧y.started≤10):Fin m s y K.csh :=
 ⟨⟨O,_,h.setO hK,h.lt,fun _ _=>hl,_,h.gw,loc_opt (fun j hj=>⟨h.gO j hj,h.lt j (h.gO j hj)⟩)⟩,hn,hs,hy⟩
theorem Tb.locs_ {l:List Nat} {nx:Nat→Option Nat} {g:Option Nat} (h:Tb L q l nx g m s) {O:Nat→Prop}:∀ v∈s.locals,Vw.LocOk O v:=by
 obtain ⟨v2,h2,h3⟩:=h.loc
 rw [h3]
 intro v hv
 simp only [List.mem_cons,List.not_mem_nil,or_false] at hv
 rcases hv with rfl | rfl | rfl | rfl
 ·exact loc_nil
 ·exact loc_nil
 ·exact loc_v2 h2
 ·exact loc_zero
theorem nd_le (n:Nat):∀ (l:List Nat),l.Nodup→(∀ i∈l,i<n)→l.length≤n:=by
 induction n with
 | zero =>
  intro l _ h
  cases l with
  | nil=>simp
  | cons a l=>exact absurd (h a (by simp)) (by omega)
 | succ n ih =>
  intro l hd h
  by_cases hm:n∈l
  ·have h1:=ih (l.erase n) (hd.erase n) (fun i hi=>by
    have h2:=(List.Nodup.mem_erase_iff hd).1 hi
    have h3:=h i h2.2
    have h4:=h2.1
    omega)
   rw [List.length_erase,if_pos hm] at h1
   omega
  ·have h1:=ih l hd (fun i hi=>by
    have h3:=h i hi
    have:i≠n:=fun e=>hm (e ▸ hi)
    omega)
   omega
theorem sz2:sizeI false bs2.length 0=((1:Nat):Int):=by show sizeI false 2 0=1;decide
theorem sz0:sizeI false bs0.length 0=((6:Nat):Int):=by rw [bs0_len];decide
def Om (n:Nat) (i:Nat):Prop:=44-n≤i∧i<44
theorem Ta.al {a:A} {r:List TOp} (h:Ta L q a r m s y) (ht:∀ i,Om a.cnt i→m.s.l[i]?=some ⟨2,true,false⟩):Al m (Om a.cnt) a.nx a.g :=
 ⟨h.me.len,fun i hi=>hi.2,fun i hi=>h.me.obj i hi.1 hi.2,fun i hi=>⟨_,ht i hi⟩,fun i _ j hj=>h.ok.nx i j hj,h.me.glob,fun j hj=>h.ok.g j hj⟩
theorem Ta.locs_ {a:A} {r:List TOp} (h:Ta L q a r m s y):∀ v∈s.locals,Vw.LocOk (Om a.cnt) v:=by
 rw [h.loc]
 intro v hv
 simp only [locs,List.mem_cons,List.not_mem_nil,or_false] at hv
 rcases hv with rfl | rfl | rfl | rfl
 ·exact loc_locV (fun x hx j hj=>⟨h.ok.l0 x hx j hj,(h.ok.l0 x hx j hj).2⟩)
 ·exact loc_locV (fun x hx j hj=>⟨h.ok.l1 x hx j hj,(h.ok.l1 x hx j hj).2⟩)
 ·exact loc_locV (fun x hx j hj=>⟨h.ok.l2 x hx j hj,(h.ok.l2 x hx j hj).2⟩)
 ·exact loc_zero
theorem tA_get {n i:Nat} (h:Om n i):tA n i=⟨2,true,false⟩:=if_neg (by have:=h.1;omega)
theorem tA_up {n i:Nat} (h:Om n i) (hn:n<44) (v:Tab.One):up (tA n) (43-n) v i=⟨2,true,false⟩:=by rw [up_ne (by have:=h.1;omega)];exact tA_get h
theorem Mi.tab {a:A} {r:List TOp} (h:Mi a r m s):∃ tf,Cm m tf∧∀ i,Om a.cnt i→tf i=⟨2,true,false⟩:=by
 cases h with
 | border _ _ h3=>exact ⟨_,h3,fun i hi=>tA_get hi⟩
 | start _ _ h3=>exact ⟨_,h3,fun i hi=>tA_get hi⟩
 | wr _ _ _ hc _ _ _ _ _ _ h3=>exact ⟨_,h3,fun i hi=>tA_up hi hc _⟩
 | bo _ _ hc _ _ _ _ h3=>exact ⟨_,h3,fun i hi=>tA_up hi hc _⟩
 | rd _ _ _ _ _ _ _ _ _ _ _ _ _ _ _ _ _ _ h3=>exact ⟨_,h3,fun i hi=>tA_get hi⟩
 | wt _ _ _ _ _ _ _ _ _ _ _ _ _ _ h3=>exact ⟨_,h3,fun i hi=>tA_get hi⟩
theorem C0.cyc {l:List Nat} {u:Nat→Bool} {b:Bool} {k:Nat} {e:Ln.En} (h:C0 q l y u b k e):y.finished≤y.started∧y.started≤10:=by
 have h1:=h.n
 rcases h.k01 with h2 | ⟨h2,-⟩ <;> omega
theorem C1.cyc {l:List Nat} {u:Nat→Bool} {b:Bool} {k:Nat} {e:Ln.En} (h:C1 q l y u b k e):y.finished≤y.started∧y.started≤10:=by
 have h1:=h.n
 rcases h.k01 with h2 | ⟨h2,-⟩ <;> omega
theorem Qc.cyc (h:Qc m y):y.finished≤y.started∧y.started≤10:=by
 have h1:=h.few
 rcases h.y0 with h2 | h2 <;> omega
theorem Pt.cyc {l:List Nat} {u:Nat→Bool} {b:Bool} {p k:Nat} {pol:Bool} {e:Ln.En} {mx:List Int} {ms:Int} (h:Pt q l mx ms y o u b p k pol e):y.finished≤y.started∧y.started≤10:=by
 cases h with
 | serve7 h h2 hu hk hn hc hb hp hx hs hl=>rcases hk with h3 | ⟨h3,-⟩ <;> omega
 | idle h hc=>exact hc.cyc
 | start0 h h2 hc=>exact hc.cyc
 | start2 h h2 hc=>exact hc.cyc
 | _=>exact C1.cyc (by assumption)
theorem Sx.fin (h:Sx L q m s y o) (hK:Kok K):Fin m s y K.csh:=by
 cases h with
 | out a r h h0 hc h3 =>
  have hal:=h.al (fun i hi=>by rw [h3.get hi.2];exact congrArg some (by rw [← hc];exact tA_get hi))
  exact hal.fin hK h.locs_ h3.len h3.sts (by have:=h.y0;omega)
 | ab a r h hm =>
  obtain ⟨tf,h3,ht⟩:=hm.tab
  have hal:=h.al (fun i hi=>by rw [h3.get hi.2,ht i hi])
  exact hal.fin hK h.locs_ h3.len h3.sts (by have:=h.y0;omega)
 | wait l nx g u b p k pol e h hp=>exact h.tb.al.fin hK h.tb.locs_ h.cm.len h.cm.sts hp.cyc
 | got l nx g xs e tf h ht _ _ _ _ _ hc=>exact h.al.fin hK h.locs_ ht.cm.len ht.cm.sts hc.cyc
 | failed l nx g e tf h ht _ _ _ _ _ hc=>exact h.al.fin hK h.locs_ ht.len ht.sts hc.cyc
 | bw l nx g xs sd j tf h ht _ _ _ _ _ _ _ _ hc=>exact h.al.fin hK h.locs_ ht.cm.len ht.cm.sts hc.cyc
 | bb l nx g xs sd tf h ht _ _ _ _ _ _ hc=>exact h.al.fin hK h.locs_ ht.cm.len ht.cm.sts hc.cyc
 | kb l nx g xs tf al hk hl v2 v3 hv2 loc cm hv3 h1 he hq hc =>
  rcases hv3 with rfl | ⟨x,hx,rfl,hb,hu,hh⟩
  ·refine al.fin hK ?_ cm.len cm.sts hc.cyc
   rw [loc]
   intro v hv
   simp only [List.mem_cons,List.not_mem_nil,or_false] at hv
   rcases hv with rfl | rfl | rfl | rfl
   ·exact loc_nil
   ·exact loc_nil
   ·exact loc_v2 hv2
   ·exact loc_zero
  ·have h44:∀ x∈xs,x<44:=fun x hx=>(hb.out x hx).2
   refine ⟨⟨_,_,al.setB hK hb (fun x hx=>⟨_,cm.get (h44 x hx),hu x hx⟩) (fun z hz=>?_),fun i hi=>?_,fun _ _=>?_,_,al.gw,loc_opt (fun j hj=>⟨.inl (al.gO j hj),al.lt j (al.gO j hj)⟩)⟩,cm.len,cm.sts,hc.cyc⟩
   ·rw [hx] at hz
    injection hz with hz
    subst hz
    exact ⟨_,cm.get (h44 _ (List.mem_of_getElem? hx)),hh⟩
   ·rcases hi with hi | hi
    ·exact al.lt i hi
    ·exact h44 i (List.mem_of_getElem? hi)
   ·rw [loc]
    intro v hv
    simp only [List.mem_cons,List.not_mem_nil,or_false] at hv
    rcases hv with rfl | rfl | rfl | rfl
    ·exact loc_nil
    ·exact loc_nil
    ·exact loc_v2 hv2
    ·exact .inl ⟨x,by have:=h44 x (List.mem_of_getElem? hx);omega,rfl,fun _=>.inr hx⟩
end
end Go.Proofs.YtpgdiceeimehiaaGreat.Law
namespace Go.Proofs.YtpgdiceeimehiaaGreat
open Go.RowKit
open Ac (wrs OpD opV opO op_cells Vl Wr resV resZ zeroVl res_cells res_kept nT one_new two_new lays_any done_any fails_any CT)
section
variable {w w':World} {c:Cn} {K:Cor.Q} {κ:Nat→Nat} {m:Cor.St} {b:Ac.B} {s:Ac.St}
theorem val_info27:(Tryz.prog.info? 44).map (fun i=>(i.zero,i.size,i.bytes))=some (some (.agg #[.bool false,.complex .f64 0 0]),2,24):=by kernel_rfl
theorem run_clear1 (w:World) (g:Nat) (a x:Value) (h0:w.cell? ⟨g,0,none⟩=some a) (h1:w.cell? ⟨g,1,none⟩=some x) (hf:∀ k,w.frozen? ⟨g,k,none⟩=false) :
  (Builtin.clear_ #[61] 0 #[.slice (some ⟨g,0,none⟩) 1 1]).run Tryz.prog w=.ok (.tuple #[]) ((w.setCell ⟨g,0,none⟩ (.bool false)).setCell ⟨g,1,none⟩ (.complex .f64 0 0)):=by
 obtain ⟨i0,hi0,hz0,hz1,hz2⟩:=info_parts val_info27
 simp [Builtin.clear_,run_underlying Tryz.underlying61,Result.andThen]
 rw [show (Builtin.zeroCells (Value.agg #[Value.bool false,Value.complex FloatKind.f64 0 0]).cells 1).toList=[Value.bool false,Value.complex .f64 0 0] from by kernel_rfl]
 have hf1:(w.setCell ⟨g,0,none⟩ (.bool false)).frozen? ⟨g,1,none⟩=false:=by simp [go_sem,hf]
 have h11:(w.setCell ⟨g,0,none⟩ (.bool false)).cell? ⟨g,1,none⟩=some x:=by simp [go_sem,h1]
 simp [storeCells,go_sem,h0,hf,hf1,h11,Result.andThen]
theorem goes_one (v:Vl) (z:Int) (w:World) (h:Sys w c K κ m b s) (hl:s.locals=[v]) (hz:m.stats[b.t]?=some z) (hzn:z≠-1):Calls Tryz.prog 120 #[.pointer (some ⟨b.ab,0,none⟩),.pointer (some ⟨K.kb,0,none⟩)] w fun r w'=>r=.returned (.tuple #[])∧∃ κ',Ext CT w κ w' κ'∧Sys w' c K κ' { m with stats:=m.stats.set b.t (-1) } b { s with phase:=4,locals:=[zeroVl] }:=by
 have HS1:=hid h
 have HZ:=hid (And.intro hz (And.intro hzn hl))
 have q12:=h.cor.q12
 have c0:=h.act.p0
 clear h hz hzn hl
 go_enter Tryz.func120,Tryz.ntmps120
 go_wp2_with fail
 go_still_tail 8,(by kernel_rfl)
 change wpList _ _ _ _ _ w.drew
 have HS2:=hid HS1.out.drew
 have HE2:Hid (Ext CT w κ w.drew κ):=hid (Ext.pure ((Only.refl (fun _=>False) w).drewN 1))
 clear q12 c0 HS1
 generalize w.drew=w2 at *
 go_wp2_with fail
 refine (Cor.leave b.t z w2 HS2.out.cor HZ.out.1 HZ.out.2.1).mono ?_
 rintro r w3 ⟨rfl,he3,hc3⟩
 obtain ⟨e3,S3⟩:=HS2.out.cored he3 hc3
 have HS3:=hid S3
 have HE3:=hid (HE2.out.trans e3)
 clear he3 hc3 e3 S3
 have c3:=HS3.out.act.p3
 have fz:=HS3.out.act.fb
 go_upto_region 2 with fail
 have h4:=HS3.out.act.put 3 (.int .i64 4) { s with phase:=4 } rfl rfl ⟨rfl,rfl,rfl,rfl,rfl,rfl⟩
 have o4:Only (fun k=>k=b.ab) w3 (w3.setCell ⟨b.ab,3,none⟩ (.int .i64 4)):=Ac.Only.me (Only.refl _ _) _ _
 obtain ⟨e4,S4⟩:=HS3.out.acted (Ac.ext_me HS3.out.act.k6 o4) h4
 have HS4:=hid S4
 have HE4:=hid (HE3.out.trans e4)
 clear h4 o4 e4 S4 c3 fz
 generalize w3.setCell ⟨b.ab,3,none⟩ (.int .i64 4)=w4 at *
 have c2:w4.cell? ⟨b.ab,2,none⟩=some (.slice (some ⟨b.lg,0,none⟩) 1 1):=by
  have:=HS4.out.act.p2
  rw [show s.locals.length=1 from by rw [HZ.out.2.2];rfl] at this
  exact this
 obtain ⟨l0,l1⟩:=HS4.out.act.local_ (j:=0) (v:=v) (by show s.locals[0]?=some v;rw [HZ.out.2.2];rfl)
 have fl:=HS4.out.act.fl
 have hcl:=run_clear1 w4 b.lg _ _ l0 l1 fl
 have h5:=HS4.out.act.lay 0 (false,0,0) (by show 0<s.locals.length;rw [HZ.out.2.2];simp)
 have e5:({ s with phase:=4 }:Ac.St).locals.set 0 (false,0,0)=[zeroVl]:=by show s.locals.set 0 (false,0,0)=[zeroVl];rw [HZ.out.2.2];rfl
 rw [e5] at h5
 have o5:Only (fun k=>k=b.lg) w4 ((w4.setCell ⟨b.lg,0,none⟩ (.bool false)).setCell ⟨b.lg,1,none⟩ (.complex .f64 0 0)):=((Only.refl (fun k=>k=b.lg) w4).setCell (p:=⟨b.lg,0,none⟩) (fun _=>rfl) _).setCell (p:=⟨b.lg,1,none⟩) (fun _=>rfl) _
 obtain ⟨e6,S6⟩:=HS4.out.acted (Ac.ext_lg HS4.out.act.k7 o5) h5
 have HS6:=hid S6
 have HE6:=hid (HE4.out.trans e6)
 clear h5 e5 o5 e6 S6
 go_wp2_with fail
 go_end0
 exact ⟨rfl,_,HE6.out,HS6.out⟩
theorem border_drain (w:World) (h:Sys w c K κ m b s) (hpc:s.pc=3) (hb0:b.t=0) (hn:0<K.q.ns) (hsx:m.s.sx=[]):Calls Tryz.prog 67 #[.pointer (some ⟨b.ab,0,none⟩),.pointer (some ⟨K.kb,0,none⟩)] w fun r w'=>r=.returned (.tuple #[])∧∃ κ',Ext CT w κ w' κ'∧Sys w' c K κ' { m with s:={ m.s with sv:=.slice none 0 0,sx:=[] } } b { s with pc:=4 }:=by
 have HS1:=hid h
 have HZ:=hid (And.intro hn hsx)
 have q11:=h.cor.q11
 have c0:=h.act.p0
 rw [hb0] at c0
 have c7:=h.act.p7
 rw [hpc] at c7
 clear h hn hsx hpc hb0
 go_enter Tryz.func67,Tryz.ntmps67
 go_wp2_with fail
 go_still_tail 8,(by kernel_rfl)
 change wpList _ _ _ _ _ w.drew
 have HS2:=hid HS1.out.drew
 have HE2:Hid (Ext CT w κ w.drew κ):=hid (Ext.pure ((Only.refl (fun _=>False) w).drewN 1))
 clear q11 c0 c7 HS1
 generalize w.drew=w2 at *
 go_wp2_with fail
 refine (Cor.drain w2 HS2.out.cor HZ.out.1 HZ.out.2).mono ?_
 rintro r w3 ⟨rfl,κ3,he3,hc3⟩
 obtain ⟨e3,S3⟩:=HS2.out.cored he3 hc3
 have HS3:=hid S3
 have HE3:=hid (HE2.out.trans e3)
 clear he3 hc3 e3 S3
 have c7:=HS3.out.act.p7
 have fz:=HS3.out.act.fb
 have h4:=HS3.out.act.put 7 (.int .i64 4) { s with pc:=4 } rfl rfl ⟨rfl,rfl,rfl,rfl,rfl,rfl⟩
 have o4:Only (fun k=>k=b.ab) w3 (w3.setCell ⟨b.ab,7,none⟩ (.int .i64 4)):=Ac.Only.me (Only.refl _ _) _ _
 obtain ⟨e4,S4⟩:=HS3.out.acted (Ac.ext_me HS3.out.act.k6 o4) h4
 have HS4:=hid S4
 have HE4:=hid (HE3.out.trans e4)
 clear h4 o4 e4 S4
 go_wp2_with fail
 go_end0
 exact ⟨rfl,_,HE4.out,HS4.out⟩
theorem border_leave (v:Vl) (z:Int) (w:World) (h:Sys w c K κ m b s) (hpc:s.pc=4) (hl:s.locals=[v]) (hz:m.stats[b.t]?=some z) (hzn:z≠-1):Calls Tryz.prog 67 #[.pointer (some ⟨b.ab,0,none⟩),.pointer (some ⟨K.kb,0,none⟩)] w fun r w'=>r=.returned (.tuple #[])∧∃ κ',Ext CT w κ w' κ'∧Sys w' c K κ' { m with stats:=m.stats.set b.t (-1) } b { s with phase:=4,locals:=[zeroVl] }:=by
 have HS1:=hid h
 have HZ:=hid (And.intro hl (And.intro hz hzn))
 have c7:=h.act.p7
 rw [hpc] at c7
 clear h hl hz hzn hpc
 go_enter Tryz.func67,Tryz.ntmps67
 go_wp2_with fail
 refine (goes_one v z w HS1.out HZ.out.1 HZ.out.2.1 HZ.out.2.2).mono ?_
 rintro r w2 ⟨rfl,κ2,e2,S2⟩
 have HS2:=hid (And.intro e2 S2)
 clear e2 S2
 go_wp2_with fail
 go_end0
 exact ⟨rfl,_,HS2.out⟩
end
end Go.Proofs.YtpgdiceeimehiaaGreat
