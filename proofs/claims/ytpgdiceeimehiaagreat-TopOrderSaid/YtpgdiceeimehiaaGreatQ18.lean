/- Part 18 of the proof that spotop.TopOrder returns true for all arguments and leaves what was there as it was. -/
import Derived.ScopeJumps
import Derived.WalkMore
import Derived.Test.YtpgdiceeimehiaaGreatQ01
import Derived.Test.YtpgdiceeimehiaaGreatQ16
import Derived.Test.YtpgdiceeimehiaaGreatQ17
set_option maxRecDepth 100000
set_option maxHeartbeats 16000000
open Go.Lib (hid)
namespace Go.Proofs.YtpgdiceeimehiaaGreat
open Go.RowKit
theorem flat_len {α:Type} (f:α→List Value) (k:Nat) (hk:∀ x,(f x).length=k) (l:List α):(l.flatMap f).length=l.length * k:=by
 induction l with
 | nil=>simp
 | cons x l ih=>rw [List.flatMap_cons,List.length_append,hk,ih,List.length_cons,Nat.add_mul,Nat.one_mul,Nat.add_comm]
theorem flat_get {α:Type} (f:α→List Value) (k:Nat) (hk:∀ x,(f x).length=k) (l:List α) (j i:Nat) (x:α) (h:l[j]?=some x) (hi:i<k):(l.flatMap f)[j * k+i]?=(f x)[i]?:=by
 induction l generalizing j with
 | nil=>simp at h
 | cons y l ih =>
  rw [List.flatMap_cons]
  cases j with
  | zero =>
   simp only [List.getElem?_cons_zero,Option.some.injEq] at h
   subst h
   rw [Nat.zero_mul,Nat.zero_add,List.getElem?_append_left (by rw [hk];exact hi)]
  | succ j =>
   rw [List.getElem?_append_right (by rw [hk,Nat.succ_mul];omega),hk,show (j+1) * k+i-k=j * k+i from by rw [Nat.succ_mul];omega]
   exact ih j (by simpa using h)
theorem flat_set {α:Type} (f:α→List Value) (k:Nat) (hk:∀ x,(f x).length=k) (l:List α) (j i:Nat) (x y:α) (v:Value) (h:l[j]?=some x) (hi:i<k) (hy:f y=(f x).set i v):(l.flatMap f).set (j * k+i) v=(l.set j y).flatMap f:=by
 induction l generalizing j with
 | nil=>simp at h
 | cons z l ih =>
  cases j with
  | zero =>
   simp only [List.getElem?_cons_zero,Option.some.injEq] at h
   subst h
   rw [List.set_cons_zero,List.flatMap_cons,List.flatMap_cons,hy,Nat.zero_mul,Nat.zero_add,List.set_append_left _ _ (by rw [hk];exact hi)]
  | succ j =>
   rw [List.set_cons_succ,List.flatMap_cons,List.flatMap_cons,List.set_append_right _ _ (by rw [hk,Nat.succ_mul];omega),hk,show (j+1) * k+i-k=j * k+i from by rw [Nat.succ_mul];omega,ih j (by simpa using h)]
namespace Ac
structure OpD where
 kind:Nat
 a:Int
 b:Int
 c:Int
 n:Int
 x:Nat
 y:Nat
abbrev opV (o:OpD):Value:=.agg #[.int .i64 (o.kind:Int),.int .i64 o.a,.int .i64 o.b,.int .i64 o.c,.int .i64 o.n,.complex .f64 o.x o.y]
def opL (o:OpD):List Value:=[.int .i64 (o.kind:Int),.int .i64 o.a,.int .i64 o.b,.int .i64 o.c,.int .i64 o.n,.complex .f64 o.x o.y]
def opCells (l:List OpD):List Value:=l.flatMap opL
abbrev Vl:=Bool × Nat × Nat
abbrev vlV (v:Vl):Value:=.agg #[.bool v.1,.complex .f64 v.2.1 v.2.2]
def vlL (v:Vl):List Value:=[.bool v.1,.complex .f64 v.2.1 v.2.2]
def vals (l:List Vl):List Value:=l.flatMap vlL
abbrev Wr:=Int × Nat × Nat
def wrL (v:Wr):List Value:=[.int .i64 v.1,.complex .f64 v.2.1 v.2.2]
def wrs (l:List Wr):List Value:=l.flatMap wrL
theorem op_get {l:List OpD} {j:Nat} {o:OpD} (h:l[j]?=some o) (i:Nat) (hi:i<6):(opCells l)[j * 6+i]?=(opL o)[i]?:=flat_get opL 6 (fun _=>rfl) l j i o h hi
theorem op_len (l:List OpD):(opCells l).length=l.length * 6:=flat_len opL 6 (fun _=>rfl) l
theorem vl_get {l:List Vl} {j:Nat} {o:Vl} (h:l[j]?=some o) (i:Nat) (hi:i<2):(vals l)[j * 2+i]?=(vlL o)[i]?:=flat_get vlL 2 (fun _=>rfl) l j i o h hi
theorem vl_len (l:List Vl):(vals l).length=l.length * 2:=flat_len vlL 2 (fun _=>rfl) l
theorem wr_len (l:List Wr):(wrs l).length=l.length * 2:=flat_len wrL 2 (fun _=>rfl) l
def TailW (w:World) (v:Value) (l:List Wr):Prop :=
 ∃ (A:Option Addr) (c:Nat),v=.slice A l.length c∧l.length≤c∧(∀ k,v.ownBlock=some k→k<w.heap.size) ∧
  (0<l.length→∃ g off,A=some ⟨g,off,none⟩∧∀ j u,(wrs l)[j]?=some u→w.cell? ⟨g,off+j,none⟩=some u)
section
variable {w w':World} {v:Value} {l:List Wr}
theorem TailW.nil (w:World):TailW w (.slice none 0 0) []:=⟨none,0,rfl,Nat.le_refl _,fun k hk=>by simp [Value.ownBlock] at hk,fun h=>by simp at h⟩
theorem TailW.only {S:Nat→Prop} (h:TailW w v l) (ho:Only S w w') (hn:∀ k,v.ownBlock=some k→¬ S k):TailW w' v l:=by
 obtain ⟨A,c,rfl,h1,h2,h3⟩:=h
 refine ⟨A,c,rfl,h1,fun k hk=>Nat.lt_of_lt_of_le (h2 k hk) ho.size,fun hp=>?_⟩
 obtain ⟨g,off,rfl,hx⟩:=h3 hp
 exact ⟨g,off,rfl,fun j u hu=>(ho.cell (p:=⟨g,off+j,none⟩) (h2 g rfl) (hn g rfl)).trans (hx j u hu)⟩
theorem TailW.of_own {base:Nat} {e:TypeId} (h:w.ownsRow base e 2 v l.length (wrs l)):TailW w v l:=by
 rcases h.2 with ⟨rfl,h0⟩ | ⟨g,cap,cur,rfl,hb,hg,hn,hm,hs,ht⟩
 ·obtain rfl:l=[]:=List.eq_nil_of_length_eq_zero h0
  exact TailW.nil w
 ·refine ⟨_,cap,rfl,hn,fun k hk=>(h.lt k hk).2,fun _=>⟨g,0,rfl,fun j u hu=>?_⟩⟩
  have hj:j<l.length * 2:=by rw [← wr_len];exact (List.getElem?_eq_some_iff.1 hu).1
  rw [Nat.zero_add,h.cellAt j (by omega)]
  exact hu
end
theorem TailW.tail {w:World} {g off cw:Nat} {x:Wr} {l:List Wr} (h:TailW w (.slice (some ⟨g,off,none⟩) (l.length+1) cw) (x :: l)) (A2:Option Addr) (hA2:(if cw=1 then some (⟨g,off,none⟩:Addr) else some ⟨g,off+2,none⟩)=A2) :
  TailW w (.slice A2 l.length (cw-1)) l∧∀ k,(Value.slice A2 l.length (cw-1)).ownBlock=some k→k=g:=by
 obtain ⟨A,c,hv,h1,h2,h3⟩:=h
 injection hv with e1 e2 e3
 subst e3
 subst e1
 have hk:∀ k,(Value.slice A2 l.length (cw-1)).ownBlock=some k→k=g:=fun k hk=>by
  rw [← hA2] at hk
  split at hk <;> (injection hk with hk;exact hk.symm)
 simp only [List.length_cons] at h1 h3
 refine ⟨⟨A2,cw-1,rfl,by omega,fun k hk'=>(hk k hk') ▸ h2 g rfl,fun hp=>?_⟩,hk⟩
 rw [if_neg (by omega)] at hA2
 obtain ⟨g',off',e,hx⟩:=h3 (by omega)
 injection e with e
 injection e with e1 e2
 subst e1 e2
 refine ⟨g,off+2,hA2.symm,fun j u hu=>?_⟩
 rw [show off+2+j=off+(j+2) from by omega]
 exact hx (j+2) u (by simpa [wrs,wrL] using hu)
def GotR (w:World) (v:Value) (xs:List Int):Prop:=SlI w w.heap.size v xs∧∀ k,v.ownBlock=some k→k<w.heap.size
theorem GotR.only {S:Nat→Prop} {w w':World} {v:Value} {xs:List Int} (h:GotR w v xs) (ho:Only S w w') (hn:∀ k,v.ownBlock=some k→¬ S k):GotR w' v xs:=⟨h.1.only ho hn,fun k hk=>Nat.lt_of_lt_of_le (h.2 k hk) ho.size⟩
theorem GotR.nil (w:World):GotR w (.slice none 0 0) []:=⟨SlI.nil _ _,fun k hk=>by simp [Value.ownBlock] at hk⟩
structure B where
 t:Nat
 ab:Nat
 lg:Nat
 ov:Value
 ops:List OpD
structure St where
 locals:List Vl
 phase:Int
 status:Int
 sense:Bool
 next:Nat
 pc:Int
 seen:Int
 gv:Value
 own:Int
 at_:Int
 f:Value
 addr:Int
 ref:Bool
 old:Nat × Nat
 w:Nat × Nat
 tv:Value
 wv:Value
 grey:List Int
 got:List Int
 writes:List Wr
def cs (b:B) (s:St):Array Value:=#[.int .i64 (b.t:Int),b.ov,.slice (some ⟨b.lg,0,none⟩) s.locals.length s.locals.length,.int .i64 s.phase,.int .i64 s.status,.bool s.sense,.int .i64 (s.next:Int),.int .i64 s.pc,.int .i64 s.seen,s.gv,.int .i64 s.own,.int .i64 s.at_,s.f,.int .i64 s.addr,.bool s.ref,.complex .f64 s.old.1 s.old.2,.complex .f64 s.w.1 s.w.2,s.tv,s.wv]
structure Rd (w:World) (κ:Nat→Nat) (b:B) (s:St):Prop where
 ops:w.ownsRow 0 32 6 b.ov b.ops.length (opCells b.ops)
 grey:TailI w 0 s.gv s.grey
 got:GotR w s.tv s.got
 wr:TailW w s.wv s.writes
 k8:∀ k,b.ov.ownBlock=some k∨s.gv.ownBlock=some k∨s.tv.ownBlock=some k∨s.wv.ownBlock=some k→κ k=8
structure At (w:World) (κ:Nat→Nat) (b:B) (s:St):Prop where
 me:w.heap[b.ab]?=some (.cells (cs b s) 134 (0,0))
 loc:w.heap[b.lg]?=some (.cells (vals s.locals).toArray 44 (0,0))
 few:s.locals.length≤8
 rd:Rd w κ b s
 k6:κ b.ab=6
 k7:κ b.lg=7
section
variable {w w':World} {κ κ':Nat→Nat} {b:B} {s s':St}
theorem At.lb (h:At w κ b s):b.ab<w.heap.size:=(Array.getElem?_eq_some_iff.1 h.me).1
theorem At.ll (h:At w κ b s):b.lg<w.heap.size:=(Array.getElem?_eq_some_iff.1 h.loc).1
theorem At.ne (h:At w κ b s):b.lg≠b.ab:=ne_types h.loc h.me (by decide)
theorem Rd.lt (h:Rd w κ b s) (k:Nat) (hk:b.ov.ownBlock=some k∨s.gv.ownBlock=some k∨s.tv.ownBlock=some k∨s.wv.ownBlock=some k):k<w.heap.size:=by
 rcases hk with hk | hk | hk | hk
 ·exact (h.ops.lt k hk).2
 ·exact (h.grey.lt k hk).2
 ·exact h.got.2 k hk
 ·obtain ⟨_,_,_,_,h2,_⟩:=h.wr
  exact h2 k hk
theorem At.c (h:At w κ b s) (i:Nat) (v:Value) (e:(cs b s)[i]?=some v):w.cell? ⟨b.ab,i,none⟩=some v:=by rw [cell_of_row w _ _ _ _ _ h.me];exact e
theorem At.p0 (h:At w κ b s):w.cell? ⟨b.ab,0,none⟩=some (.int .i64 (b.t:Int)):=h.c 0 _ rfl
theorem At.p1 (h:At w κ b s):w.cell? ⟨b.ab,1,none⟩=some (b.ov):=h.c 1 _ rfl
theorem At.p2 (h:At w κ b s):w.cell? ⟨b.ab,2,none⟩=some (.slice (some ⟨b.lg,0,none⟩) s.locals.length s.locals.length):=h.c 2 _ rfl
theorem At.p3 (h:At w κ b s):w.cell? ⟨b.ab,3,none⟩=some (.int .i64 s.phase):=h.c 3 _ rfl
theorem At.p4 (h:At w κ b s):w.cell? ⟨b.ab,4,none⟩=some (.int .i64 s.status):=h.c 4 _ rfl
theorem At.p5 (h:At w κ b s):w.cell? ⟨b.ab,5,none⟩=some (.bool s.sense):=h.c 5 _ rfl
theorem At.p6 (h:At w κ b s):w.cell? ⟨b.ab,6,none⟩=some (.int .i64 (s.next:Int)):=h.c 6 _ rfl
theorem At.p7 (h:At w κ b s):w.cell? ⟨b.ab,7,none⟩=some (.int .i64 s.pc):=h.c 7 _ rfl
theorem At.p8 (h:At w κ b s):w.cell? ⟨b.ab,8,none⟩=some (.int .i64 s.seen):=h.c 8 _ rfl
theorem At.p9 (h:At w κ b s):w.cell? ⟨b.ab,9,none⟩=some (s.gv):=h.c 9 _ rfl
theorem At.p10 (h:At w κ b s):w.cell? ⟨b.ab,10,none⟩=some (.int .i64 s.own):=h.c 10 _ rfl
theorem At.p11 (h:At w κ b s):w.cell? ⟨b.ab,11,none⟩=some (.int .i64 s.at_):=h.c 11 _ rfl
theorem At.p12 (h:At w κ b s):w.cell? ⟨b.ab,12,none⟩=some (s.f):=h.c 12 _ rfl
theorem At.p13 (h:At w κ b s):w.cell? ⟨b.ab,13,none⟩=some (.int .i64 s.addr):=h.c 13 _ rfl
theorem At.p14 (h:At w κ b s):w.cell? ⟨b.ab,14,none⟩=some (.bool s.ref):=h.c 14 _ rfl
theorem At.p15 (h:At w κ b s):w.cell? ⟨b.ab,15,none⟩=some (.complex .f64 s.old.1 s.old.2):=h.c 15 _ rfl
theorem At.p16 (h:At w κ b s):w.cell? ⟨b.ab,16,none⟩=some (.complex .f64 s.w.1 s.w.2):=h.c 16 _ rfl
theorem At.p17 (h:At w κ b s):w.cell? ⟨b.ab,17,none⟩=some (s.tv):=h.c 17 _ rfl
theorem At.p18 (h:At w κ b s):w.cell? ⟨b.ab,18,none⟩=some (s.wv):=h.c 18 _ rfl
theorem At.fb (h:At w κ b s) (k:Nat):w.frozen? ⟨b.ab,k,none⟩=false:=frozen_of_row w _ k _ _ h.me
theorem At.fl (h:At w κ b s) (k:Nat):w.frozen? ⟨b.lg,k,none⟩=false:=frozen_of_row w _ k _ _ h.loc
theorem At.local_ (h:At w κ b s) {j:Nat} {v:Vl} (hj:s.locals[j]?=some v):w.cell? ⟨b.lg,j * 2,none⟩=some (.bool v.1)∧w.cell? ⟨b.lg,j * 2+1,none⟩=some (.complex .f64 v.2.1 v.2.2):=by
 constructor
 ·rw [cell_of_row w _ _ _ _ _ h.loc]
  have:=vl_get hj 0 (by omega)
  simpa [vlL] using this
 ·rw [cell_of_row w _ _ _ _ _ h.loc]
  have:=vl_get hj 1 (by omega)
  simpa [vlL] using this
theorem Rd.op (h:Rd w κ b s) {j:Nat} {o:OpD} (hj:b.ops[j]?=some o):∃ g c,b.ov=.slice (some ⟨g,0,none⟩) b.ops.length c∧κ g=8∧w.cell? ⟨g,j * 6,none⟩=some (.int .i64 (o.kind:Int))∧w.cell? ⟨g,j * 6+1,none⟩=some (.int .i64 o.a)∧w.cell? ⟨g,j * 6+2,none⟩=some (.int .i64 o.b)∧w.cell? ⟨g,j * 6+3,none⟩=some (.int .i64 o.c)∧w.cell? ⟨g,j * 6+4,none⟩=some (.int .i64 o.n)∧w.cell? ⟨g,j * 6+5,none⟩=some (.complex .f64 o.x o.y):=by
 have hjl:j<b.ops.length:=(List.getElem?_eq_some_iff.1 hj).1
 rcases h.ops.2 with ⟨hv,h0⟩ | ⟨g,cap,cur,hv,-⟩
 ·omega
 ·refine ⟨g,cap,hv,h.k8 g (.inl (by rw [hv];rfl)),?_⟩
  have hc:∀ i,i<6→w.cell? ⟨g,j * 6+i,none⟩=(opL o)[i]?:=fun i hi=>by
   have ho:=h.ops
   rw [hv] at ho
   rw [ho.cellAt (j * 6+i) (by omega)]
   exact op_get hj i hi
  exact ⟨hc 0 (by omega),hc 1 (by omega),hc 2 (by omega),hc 3 (by omega),hc 4 (by omega),hc 5 (by omega)⟩
theorem Rd.keep {T:Nat→Prop} (h:Rd w κ b s) (ho:Only T w w') (hn:∀ k,κ k=8→¬ T k) (hs:∀ k,k<w.heap.size→κ' k=κ k):Rd w' κ' b s :=
 ⟨ho.own h.ops (fun k hk=>hn k (h.k8 k (.inl hk))),h.grey.only ho (fun k hk=>hn k (h.k8 k (.inr (.inl hk)))),h.got.only ho (fun k hk=>hn k (h.k8 k (.inr (.inr (.inl hk))))),h.wr.only ho (fun k hk=>hn k (h.k8 k (.inr (.inr (.inr hk))))),fun k hk=>(hs k (h.lt k hk)).trans (h.k8 k hk)⟩
theorem At.keep {T:Nat→Prop} (h:At w κ b s) (ho:Only T w w') (hn:∀ k,κ k=6∨κ k=7∨κ k=8→¬ T k) (hs:∀ k,k<w.heap.size→κ' k=κ k):At w' κ' b s :=
 ⟨ho.blk h.me (hn _ (.inl h.k6)),ho.blk h.loc (hn _ (.inr (.inl h.k7))),h.few,h.rd.keep ho (fun k hk=>hn k (.inr (.inr hk))) hs,(hs _ h.lb).trans h.k6,(hs _ h.ll).trans h.k7⟩
theorem At.pure (h:At w κ b s) (ho:Pure w w'):At w' κ b s:=h.keep ho (fun _ _ f=>f) (fun _ _=>rfl)
theorem At.ext {C:Nat→Prop} (h:At w κ b s) (he:Ext C w κ w' κ') (hc:∀ x,C x→x≠6∧x≠7∧x≠8):At w' κ' b s:=h.keep he.only (fun k hk ht=>by have:=hc _ ht;omega) he.same
theorem Rd.like (h:Rd w κ b s) (s':St) (e:s'.gv=s.gv∧s'.grey=s.grey∧s'.tv=s.tv∧s'.got=s.got∧s'.wv=s.wv∧s'.writes=s.writes):Rd w κ b s':=by
 obtain ⟨e1,e2,e3,e4,e5,e6⟩:=e
 refine ⟨h.ops,?_,?_,?_,?_⟩
 ·rw [e1,e2];exact h.grey
 ·rw [e3,e4];exact h.got
 ·rw [e5,e6];exact h.wr
 ·rw [e1,e3,e5];exact h.k8
theorem At.mine (h:At w κ b s) (s':St) (ho:Only (fun k=>k=b.ab) w w') (hm:w'.heap[b.ab]?=some (.cells (cs b s') 134 (0,0))) (hl:s'.locals=s.locals) (hr:Rd w κ b s'):At w' κ b s':=by
 refine ⟨hm,?_,by rw [hl];exact h.few,hr.keep ho (fun k hk e=>by rw [e,h.k6] at hk;omega) (fun _ _=>rfl),h.k6,h.k7⟩
 rw [hl]
 exact ho.blk h.loc h.ne
theorem At.put (h:At w κ b s) (i:Nat) (v:Value) (s':St) (e:(cs b s).setIfInBounds i v=cs b s') (hl:s'.locals=s.locals) (hr:s'.gv=s.gv∧s'.grey=s.grey∧s'.tv=s.tv∧s'.got=s.got∧s'.wv=s.wv∧s'.writes=s.writes):At (w.setCell ⟨b.ab,i,none⟩ v) κ b s':=by
 have hm:=set_me (i:=i) (u:=v) h.me
 rw [e] at hm
 exact h.mine s' ((Only.refl (fun k=>k=b.ab) w).setCell (p:=⟨b.ab,i,none⟩) (fun _=>rfl) _) hm hl (h.rd.like s' hr)
theorem Only.me {a:World} (h:Only (fun k=>k=b.ab) a w) (i:Nat) (v:Value):Only (fun k=>k=b.ab) a (w.setCell ⟨b.ab,i,none⟩ v):=h.setCell (p:=⟨b.ab,i,none⟩) (fun _=>rfl) v
theorem Only.new {S:Nat→Prop} {a:World} (h:Only S a w) (X i:Nat) (v:Value) (hX:a.heap.size≤X):Only S a (w.setCell ⟨X,i,none⟩ v):=h.setCell (p:=⟨X,i,none⟩) (fun h=>absurd (show X<a.heap.size from h) (by omega)) v
theorem At.putw (h:At w κ b s) (v':Value) (l':List Wr) (hT:TailW w v' l') (hk:∀ k,v'.ownBlock=some k→κ k=8):At (w.setCell ⟨b.ab,18,none⟩ v') κ b { s with wv:=v',writes:=l' }:=by
 have hm:=set_me (i:=18) (u:=v') h.me
 refine h.mine _ ((Only.refl (fun k=>k=b.ab) w).setCell (p:=⟨b.ab,18,none⟩) (fun _=>rfl) _) hm rfl ⟨h.rd.ops,h.rd.grey,h.rd.got,hT,fun k hk'=>?_⟩
 rcases hk' with hk' | hk' | hk' | hk'
 ·exact h.rd.k8 k (.inl hk')
 ·exact h.rd.k8 k (.inr (.inl hk'))
 ·exact h.rd.k8 k (.inr (.inr (.inl hk')))
 ·exact hk k hk'
theorem At.putg (h:At w κ b s) (v':Value) (l':List Int) (hT:TailI w 0 v' l') (hk:∀ k,v'.ownBlock=some k→κ k=8):At (w.setCell ⟨b.ab,9,none⟩ v') κ b { s with gv:=v',grey:=l' }:=by
 have hm:=set_me (i:=9) (u:=v') h.me
 refine h.mine _ ((Only.refl (fun k=>k=b.ab) w).setCell (p:=⟨b.ab,9,none⟩) (fun _=>rfl) _) hm rfl ⟨h.rd.ops,hT,h.rd.got,h.rd.wr,fun k hk'=>?_⟩
 rcases hk' with hk' | hk' | hk' | hk'
 ·exact h.rd.k8 k (.inl hk')
 ·exact hk k hk'
 ·exact h.rd.k8 k (.inr (.inr (.inl hk')))
 ·exact h.rd.k8 k (.inr (.inr (.inr hk')))
theorem At.lay (h:At w κ b s) (j:Nat) (v:Vl) (hj:j<s.locals.length):At ((w.setCell ⟨b.lg,j * 2,none⟩ (.bool v.1)).setCell ⟨b.lg,j * 2+1,none⟩ (.complex .f64 v.2.1 v.2.2)) κ b { s with locals:=s.locals.set j v }:=by
 obtain ⟨x,hx⟩:∃ x,s.locals[j]?=some x:=⟨_,List.getElem?_eq_getElem hj⟩
 have hm:=set_me (i:=j * 2+1) (u:=.complex .f64 v.2.1 v.2.2) (set_me (i:=j * 2) (u:=.bool v.1) h.loc)
 have e:(((vals s.locals).toArray.setIfInBounds (j * 2) (.bool v.1)).setIfInBounds (j * 2+1) (.complex .f64 v.2.1 v.2.2))=(vals (s.locals.set j v)).toArray:=by
  have e1:=flat_set vlL 2 (fun _=>rfl) s.locals j 0 x (v.1,x.2) (.bool v.1) hx (by omega) rfl
  have e2:=flat_set vlL 2 (fun _=>rfl) (s.locals.set j (v.1,x.2)) j 1 (v.1,x.2) v (.complex .f64 v.2.1 v.2.2) (by rw [List.getElem?_set_self hj]) (by omega) rfl
  rw [List.set_set] at e2
  rw [Nat.add_zero] at e1
  rw [List.setIfInBounds_toArray,List.setIfInBounds_toArray,vals,e1,e2]
  rfl
 rw [e] at hm
 have ho:Only (fun k=>k=b.lg) w ((w.setCell ⟨b.lg,j * 2,none⟩ (.bool v.1)).setCell ⟨b.lg,j * 2+1,none⟩ (.complex .f64 v.2.1 v.2.2)):=((Only.refl (fun k=>k=b.lg) w).setCell (p:=⟨b.lg,j * 2,none⟩) (fun _=>rfl) _).setCell (p:=⟨b.lg,j * 2+1,none⟩) (fun _=>rfl) _
 refine ⟨?_,hm,by simpa using h.few,?_,h.k6,h.k7⟩
 ·have:=ho.blk h.me (fun e=>h.ne e.symm)
  simpa [cs] using this
 ·have:=h.rd.keep (κ':=κ) ho (fun k hk e=>by rw [e,h.k7] at hk;omega) (fun _ _=>rfl)
  exact ⟨this.ops,this.grey,this.got,this.wr,this.k8⟩
def C67 (x:Nat):Prop:=x=6∨x=7
def CT (x:Nat):Prop:=1≤x∧x≤7
theorem At.pure9 (h:At w κ b s) (hp:Pure w w'):At w' (paint w.heap.size κ 9) b s:=h.keep hp (fun _ _ f=>f) (fun _ hk=>paint_old hk)
theorem ext9 {C:Nat→Prop} (hp:Pure w w'):Ext C w κ w' (paint w.heap.size κ 9):=Ext.paint 9 (hp.mono (fun _ _ f=>f.elim))
theorem ext_me (h6:κ b.ab=6) (ho:Only (fun k=>k=b.ab) w w'):Ext C67 w κ w' κ:=Ext.of (ho.mono (fun k _ hk=>by rw [hk];exact .inl h6))
theorem ext_lg (h7:κ b.lg=7) (ho:Only (fun k=>k=b.lg) w w'):Ext C67 w κ w' κ:=Ext.of (ho.mono (fun k _ hk=>by rw [hk];exact .inr h7))
theorem At.drew (h:At w κ b s):At w.drew κ b s:=h.pure ((Only.refl _ w).drewN 1)
theorem At.cell9 (h:At w κ b s) {X:Nat} (hX:κ X=9) (i:Nat) (v:Value):At (w.setCell ⟨X,i,none⟩ v) κ b s :=
 h.keep ((Only.refl (fun k=>k=X) w).setCell (p:=⟨X,i,none⟩) (fun _=>rfl) v) (fun k hk e=>by rw [e,hX] at hk;omega) (fun _ _=>rfl)
end
end Ac
section
variable {C:Nat→Prop} {w w1 w2:World} {κ κ1 κ2:Nat→Nat}
theorem Ext.new (h:Ext C w κ w2 κ2) {X:Nat} (hX:w.heap.size≤X) (i:Nat) (v:Value):Ext C w κ (w2.setCell ⟨X,i,none⟩ v) κ2 :=
 ⟨h.only.setCell (p:=⟨X,i,none⟩) (fun hk=>absurd (show X<w.heap.size from hk) (by omega)) v,h.same⟩
theorem Ext.blk (h:Ext C w κ w2 κ2) {X:Nat} {o:Obj} (hX:w.heap[X]?=some o) (hn:¬ C (κ X)):w2.heap[X]?=some o:=h.only.blk hX hn
theorem Ext.col (h:Ext C w κ w2 κ2) {X:Nat} (hX:X<w.heap.size):κ2 X=κ X:=h.same X hX
end
namespace Cor
theorem At.ext {C:Nat→Prop} {w w':World} {c:Cn} {K:Q} {κ κ':Nat→Nat} {m:St} (h:At w c K κ m) (he:Ext C w κ w' κ') (hc:∀ x,C x→6≤x):At w' c K κ' m :=
 (h.recolour he.same).only (he.only.mono (T:=fun k=>C (κ k)∧k<w.heap.size) (fun k hk h=>⟨h,hk⟩)) (fun k hk=>by rw [he.same k hk.2];have:=hc _ hk.1;omega)
theorem At.cell9 {w:World} {c:Cn} {K:Q} {κ:Nat→Nat} {m:St} (h:At w c K κ m) {X:Nat} (hX:κ X=9) (i:Nat) (v:Value):At (w.setCell ⟨X,i,Option.none⟩ v) c K κ m :=
 h.only ((Only.refl (fun k=>k=X) w).setCell (p:=⟨X,i,Option.none⟩) (fun _=>rfl) v) (fun k hk=>by rw [hk,hX];omega)
theorem At.pure9 {w w':World} {c:Cn} {K:Q} {κ:Nat→Nat} {m:St} (h:At w c K κ m) (hp:Pure w w'):At w' c K (paint w.heap.size κ 9) m:=h.ext (C:=fun _=>False) (Ac.ext9 hp) (fun _ f=>f.elim)
end Cor
namespace Cor
section
variable {w:World} {c:Cn} {K:Q} {κ:Nat→Nat} {m:St}
theorem At.q9 (h:At w c K κ m):w.cell? ⟨K.kb,9,Option.none⟩=some (.pointer (some ⟨K.mb,0,Option.none⟩)):=by rw [cell_of_row w _ _ _ _ _ h.me];rfl
theorem At.q10 (h:At w c K κ m):w.cell? ⟨K.kb,10,Option.none⟩=some (.pointer (some ⟨K.sb,0,Option.none⟩)):=by rw [cell_of_row w _ _ _ _ _ h.me];rfl
theorem At.q11 (h:At w c K κ m):w.cell? ⟨K.kb,11,Option.none⟩=some (.pointer (some ⟨K.q.sp,0,Option.none⟩)):=by rw [cell_of_row w _ _ _ _ _ h.me];rfl
theorem At.q12 (h:At w c K κ m):w.cell? ⟨K.kb,12,Option.none⟩=some (.pointer (some ⟨K.hb,0,Option.none⟩)):=by rw [cell_of_row w _ _ _ _ _ h.me];rfl
theorem At.qc (h:At w c K κ m):w.cell? ⟨K.kb,0,Option.none⟩=some (.int .i64 c.frags)∧w.cell? ⟨K.kb,1,Option.none⟩=some (.int .i64 c.spine)∧w.cell? ⟨K.kb,2,Option.none⟩=some (.int .i64 c.globals)∧w.cell? ⟨K.kb,3,Option.none⟩=some (.int .i64 c.threads)∧w.cell? ⟨K.kb,4,Option.none⟩=some (.int .i64 c.locals)∧w.cell? ⟨K.kb,5,Option.none⟩=some (.int .i64 c.cache)∧w.cell? ⟨K.kb,6,Option.none⟩=some (.int .i64 c.stack)∧w.cell? ⟨K.kb,7,Option.none⟩=some (.int .i64 c.low)∧w.cell? ⟨K.kb,8,Option.none⟩=some K.cv:=by
 refine ⟨?_,?_,?_,?_,?_,?_,?_,?_,?_⟩ <;> (rw [cell_of_row w _ _ _ _ _ h.me];rfl)
theorem At.drew (h:At w c K κ m):At w.drew c K κ m:=h.pure ((Only.refl _ w).drewN 1)
theorem At.lkb (h:At w c K κ m):K.kb<w.heap.size:=(h.k0 _ (.inl rfl)).2
end
end Cor
section
variable {C:Nat→Prop} {w w1 w2:World} {κ κ1 κ2:Nat→Nat}
theorem Ext.drewl (h:Ext C w.drew κ1 w2 κ2):Ext C w κ1 w2 κ2:=(Ext.pure ((Only.refl (fun _=>False) w).drewN 1)).trans h
end
structure Sys (w:World) (c:Cn) (K:Cor.Q) (κ:Nat→Nat) (m:Cor.St) (b:Ac.B) (s:Ac.St):Prop where
 cor:Cor.At w c K κ m
 act:Ac.At w κ b s
section
variable {w w':World} {c:Cn} {K:Cor.Q} {κ κ':Nat→Nat} {m m':Cor.St} {b:Ac.B} {s s':Ac.St}
theorem Sys.cored (h:Sys w c K κ m b s) (he:Ext Cor.C5 w κ w' κ') (hc:Cor.At w' c K κ' m'):Ext Ac.CT w κ w' κ'∧Sys w' c K κ' m' b s :=
 ⟨he.mono (fun x hx=>by unfold Cor.C5 at hx;unfold Ac.CT;omega),hc,h.act.ext he (fun x hx=>by unfold Cor.C5 at hx;omega)⟩
theorem Sys.acted (h:Sys w c K κ m b s) (he:Ext Ac.C67 w κ w' κ') (ha:Ac.At w' κ' b s'):Ext Ac.CT w κ w' κ'∧Sys w' c K κ' m b s' :=
 ⟨he.mono (fun x hx=>by unfold Ac.C67 at hx;unfold Ac.CT;omega),h.cor.ext he (fun x hx=>by unfold Ac.C67 at hx;omega),ha⟩
theorem Sys.drew (h:Sys w c K κ m b s):Sys w.drew c K κ m b s:=⟨h.cor.drew,h.act.drew⟩
theorem Sys.pure9 (h:Sys w c K κ m b s) (hp:Pure w w'):Ext Ac.CT w κ w' (paint w.heap.size κ 9)∧Sys w' c K (paint w.heap.size κ 9) m b s:=⟨Ac.ext9 hp,h.cor.pure9 hp,h.act.pure9 hp⟩
theorem Sys.cell9 (h:Sys w c K κ m b s) {X:Nat} (hX:κ X=9) (i:Nat) (v:Value):Sys (w.setCell ⟨X,i,none⟩ v) c K κ m b s:=⟨h.cor.cell9 hX i v,h.act.cell9 hX i v⟩
end
end Go.Proofs.YtpgdiceeimehiaaGreat
namespace Go.Proofs.YtpgdiceeimehiaaGreat.Ac
open Go.RowKit
abbrev resV (op own e:Int) (v:Vl):Value:=.agg #[.int .i64 op,.int .i64 own,.int .i64 e,.bool v.1,.complex .f64 v.2.1 v.2.2]
abbrev zeroVl:Vl:=(false,0,0)
abbrev vlO (v1:Bool) (v2 v3:Nat):Obj:=.cells #[.bool v1,.complex .f64 v2 v3] 44
abbrev resZ:Obj:=.cells #[.int .i64 0,.int .i64 0,.int .i64 0,.bool false,.complex .f64 0 0] 46
theorem two_new (w:World) (c1 c2:Array Value) (T1 T2:TypeId):Pure w ((w.alloc (.cells c1 T1)).alloc (.cells c2 T2))∧((w.alloc (.cells c1 T1)).alloc (.cells c2 T2)).heap.size=w.heap.size+2∧((w.alloc (.cells c1 T1)).alloc (.cells c2 T2)).heap[w.heap.size]?=some (.cells c1 T1 (0,0))∧((w.alloc (.cells c1 T1)).alloc (.cells c2 T2)).heap[w.heap.size+1]?=some (.cells c2 T2 (0,0)):=by
 have h1:=heap_alloc_new w (.cells c1 T1)
 have h2:=heap_alloc_new (w.alloc (.cells c1 T1)) (.cells c2 T2)
 have hz:(w.alloc (.cells c1 T1)).heap.size=w.heap.size+1:=by simp
 rw [hz] at h2
 exact ⟨((Only.refl _ w).alloc _).alloc _,by simp,Pure.blk ((Only.refl _ _).alloc _) h1,h2⟩
theorem one_new (w:World) (c1:Array Value) (T1:TypeId):Pure w (w.alloc (.cells c1 T1))∧(w.alloc (.cells c1 T1)).heap.size=w.heap.size+1∧(w.alloc (.cells c1 T1)).heap[w.heap.size]?=some (.cells c1 T1 (0,0)):=⟨(Only.refl _ w).alloc _,by simp,heap_alloc_new w _⟩
theorem res_cells {w:World} {X:Nat} {a b c d e:Value} {T:TypeId} (h:w.heap[X]?=some (.cells #[a,b,c,d,e] T (0,0))):w.cell? ⟨X,0,none⟩=some a∧w.cell? ⟨X,1,none⟩=some b∧w.cell? ⟨X,2,none⟩=some c∧w.cell? ⟨X,3,none⟩=some d∧w.cell? ⟨X,4,none⟩=some e:=by
 refine ⟨?_,?_,?_,?_,?_⟩ <;> (rw [cell_of_row w _ _ _ _ _ h];rfl)
section
variable {w w':World} {κ:Nat→Nat} {b:B} {s:St}
theorem done_any (v:Vl) (e:Int) (w:World) (h:At w κ b s) (hph:s.phase≠4) (he:e=0∨(e == 0)=false) (q:Vl) (hq:q=if e=0 then v else zeroVl) (hnx:s.next≤100000):Calls Tryz.prog 127 #[.pointer (some ⟨b.ab,0,none⟩),vlV v,.int .i64 e] w fun r w' =>
  r=.returned (.tuple #[resV s.next s.own e q,.bool true])∧Only (fun k=>k=b.ab) w w'∧At w' κ b { s with next:=s.next+1,phase:=1,pc:=0 }:=by
 obtain ⟨v1,v2,v3⟩:=v
 have hne:(s.phase != 4)=true:=by simpa using hph
 have H:=hid h
 have HL:=hid h.lb
 have HE:=hid he
 have HQ:=hid hq
 clear h hph he hq
 go_enter Tryz.func127,Tryz.ntmps127
 go_wp2_with fail
 obtain ⟨hp,hz,hv,hr⟩:=two_new w #[.bool v1,.complex .f64 v2 v3] #[.int .i64 0,.int .i64 0,.int .i64 0,.bool false,.complex .f64 0 0] 44 46
 have HP:=hid hp
 have HZ:=hid hz
 have HV:=hid hv
 have HR:=hid hr
 have H1:=hid (H.out.pure hp)
 clear hp hz hv hr
 generalize (w.alloc (vlO v1 v2 v3)).alloc resZ=W at *
 have hlb:=H1.out.lb
 have c6:=H1.out.p6
 have c10:=H1.out.p10
 go_region
 obtain ⟨hp,hz,hr⟩:=one_new W #[.int .i64 (s.next:Int),.int .i64 s.own,.int .i64 e,.bool false,.complex .f64 0 0] 46
 have hp1:Pure W (W.alloc (.cells #[.int .i64 (s.next:Int),.int .i64 s.own,.int .i64 e,.bool false,.complex .f64 0 0] 46)).drew:=hp.drewN 1
 have H2:=hid (H1.out.pure hp1)
 have HP2:=hid (HP.out.then hp1)
 have HR1:=hid (Pure.blk hp1 HR.out)
 have HV1:=hid (Pure.blk hp1 HV.out)
 have HR2:Hid ((W.alloc (.cells #[.int .i64 (s.next:Int),.int .i64 s.own,.int .i64 e,.bool false,.complex .f64 0 0] 46)).drew.heap[W.heap.size]?=_):=hid hr
 clear hp hp1 hz hr c6 c10 hlb H1
 have NX:Hid (w.heap.size+2=W.heap.size):=hid (by have:=HZ.out;omega)
 generalize (W.alloc (.cells #[.int .i64 (s.next:Int),.int .i64 s.own,.int .i64 e,.bool false,.complex .f64 0 0] 46)).drew=W2 at *
 generalize W.heap.size=X2 at *
 have c6:=H2.out.p6
 have c3:=H2.out.p3
 have fb:=H2.out.fb
 obtain ⟨r0,r1,r2,r3,r4⟩:=res_cells HR2.out
 obtain ⟨z0,z1,z2,z3,z4⟩:=res_cells HR1.out
 have v0:W2.cell? ⟨w.heap.size,0,none⟩=some (.bool v1):=by rw [cell_of_row W2 _ _ _ _ _ HV1.out];rfl
 have v1':W2.cell? ⟨w.heap.size,1,none⟩=some (.complex .f64 v2 v3):=by rw [cell_of_row W2 _ _ _ _ _ HV1.out];rfl
 have f2:=fun k=>frozen_of_row W2 X2 k _ _ HR2.out
 have f1:=fun k=>frozen_of_row W2 (w.heap.size+1) k _ _ HR1.out
 have n2:b.ab≠X2:=by have:=NX.out;have:=HL.out;omega
 have n3:b.ab≠w.heap.size+1:=by have:=HL.out;omega
 have n4:w.heap.size+1≠X2:=by have:=NX.out;omega
 have n5:w.heap.size≠X2:=by have:=NX.out;omega
 have c7:=H2.out.p7
 rcases HE.out with rfl | he
 ·obtain ⟨w3,hw3⟩:∃ w3,((((W2.setCell ⟨X2,3,none⟩ (.bool v1)).setCell ⟨X2,4,none⟩ (.complex .f64 v2 v3)).setCell ⟨b.ab,6,none⟩ (.int .i64 ((s.next:Int)+1))).setCell ⟨b.ab,3,none⟩ (.int .i64 1)).setCell ⟨b.ab,7,none⟩ (.int .i64 0)=w3:=⟨_,rfl⟩
  have HM3:Hid (w3.heap[b.ab]?=some (.cells (cs b { s with next:=s.next+1,phase:=1,pc:=0 }) 134 (0,0))):=hid (by rw [← hw3];exact set_me (set_me (set_me (set_other (set_other H2.out.me n2) n2))))
  have HO3:Hid (Only (fun k=>k=b.ab) w w3):=hid (by rw [← hw3];exact Only.me (Only.me (Only.me (Only.new (Only.new (HP2.out.mono (fun _ _ f=>f.elim)) X2 _ _ (by have:=NX.out;omega)) X2 _ _ (by have:=NX.out;omega)) _ _) _ _) _ _)
  have HR3:Hid (w3.heap[X2]?=some (.cells #[.int .i64 (s.next:Int),.int .i64 s.own,.int .i64 0,.bool v1,.complex .f64 v2 v3] 46 (0,0))):=hid (by rw [← hw3];exact set_other (set_other (set_other (set_me (set_me HR2.out)) (Ne.symm n2)) (Ne.symm n2)) (Ne.symm n2))
  have HZ3:Hid (w3.heap[w.heap.size+1]?=some (.cells #[.int .i64 0,.int .i64 0,.int .i64 0,.bool false,.complex .f64 0 0] 46 (0,0))):=hid (by rw [← hw3];exact set_other (set_other (set_other (set_other (set_other HR1.out n4) n4) (Ne.symm n3)) (Ne.symm n3)) (Ne.symm n3))
  go_upto_region 7 with fail
  clear hw3 r0 r1 r2 r3 r4 z0 z1 z2 z3 z4 f1 f2 fb c3 c6 c7 v0 v1'
  obtain ⟨r0,r1,r2,r3,r4⟩:=res_cells HR3.out
  obtain ⟨z0,z1,z2,z3,z4⟩:=res_cells HZ3.out
  have f1:=fun k=>frozen_of_row w3 (w.heap.size+1) k _ _ HZ3.out
  go_wp2_with fail
  refine bodyPost_ret (v:=.tuple #[resV s.next s.own 0 (v1,v2,v3),.bool true]) (by simp [results,Tryz.results127,go_sem,z0,z1,z2,z3,z4]) rfl ?_
  refine ⟨by rw [HQ.out];rfl,Only.new (Only.new (Only.new (Only.new (Only.new HO3.out _ _ _ (by omega)) _ _ _ (by omega)) _ _ _ (by omega)) _ _ _ (by omega)) _ _ _ (by omega),?_⟩
  exact H.out.mine _ (Only.new (Only.new (Only.new (Only.new (Only.new HO3.out _ _ _ (by omega)) _ _ _ (by omega)) _ _ _ (by omega)) _ _ _ (by omega)) _ _ _ (by omega)) (set_other (set_other (set_other (set_other (set_other HM3.out n3) n3) n3) n3) n3) rfl (H.out.rd.like _ ⟨rfl,rfl,rfl,rfl,rfl,rfl⟩)
 ·obtain ⟨w3,hw3⟩:∃ w3,((W2.setCell ⟨b.ab,6,none⟩ (.int .i64 ((s.next:Int)+1))).setCell ⟨b.ab,3,none⟩ (.int .i64 1)).setCell ⟨b.ab,7,none⟩ (.int .i64 0)=w3:=⟨_,rfl⟩
  have HM3:Hid (w3.heap[b.ab]?=some (.cells (cs b { s with next:=s.next+1,phase:=1,pc:=0 }) 134 (0,0))):=hid (by rw [← hw3];exact set_me (set_me (set_me H2.out.me)))
  have HO3:Hid (Only (fun k=>k=b.ab) w w3):=hid (by rw [← hw3];exact Only.me (Only.me (Only.me (HP2.out.mono (fun _ _ f=>f.elim)) _ _) _ _) _ _)
  have HR3:Hid (w3.heap[X2]?=some (.cells #[.int .i64 (s.next:Int),.int .i64 s.own,.int .i64 e,.bool false,.complex .f64 0 0] 46 (0,0))):=hid (by rw [← hw3];exact set_other (set_other (set_other HR2.out (Ne.symm n2)) (Ne.symm n2)) (Ne.symm n2))
  have HZ3:Hid (w3.heap[w.heap.size+1]?=some (.cells #[.int .i64 0,.int .i64 0,.int .i64 0,.bool false,.complex .f64 0 0] 46 (0,0))):=hid (by rw [← hw3];exact set_other (set_other (set_other HR1.out (Ne.symm n3)) (Ne.symm n3)) (Ne.symm n3))
  go_upto_region 7 with fail
  clear hw3 r0 r1 r2 r3 r4 z0 z1 z2 z3 z4 f1 f2 fb c3 c6 c7 v0 v1'
  obtain ⟨r0,r1,r2,r3,r4⟩:=res_cells HR3.out
  obtain ⟨z0,z1,z2,z3,z4⟩:=res_cells HZ3.out
  have f1:=fun k=>frozen_of_row w3 (w.heap.size+1) k _ _ HZ3.out
  go_wp2_with fail
  refine bodyPost_ret (v:=.tuple #[.agg #[.int .i64 (s.next:Int),.int .i64 s.own,.int .i64 e,.bool false,.complex .f64 0 0],.bool true]) (by simp [results,Tryz.results127,go_sem,z0,z1,z2,z3,z4]) rfl ?_
  refine ⟨by rw [HQ.out,if_neg (by simpa using he)],Only.new (Only.new (Only.new (Only.new (Only.new HO3.out _ _ _ (by omega)) _ _ _ (by omega)) _ _ _ (by omega)) _ _ _ (by omega)) _ _ _ (by omega),?_⟩
  exact H.out.mine _ (Only.new (Only.new (Only.new (Only.new (Only.new HO3.out _ _ _ (by omega)) _ _ _ (by omega)) _ _ _ (by omega)) _ _ _ (by omega)) _ _ _ (by omega)) (set_other (set_other (set_other (set_other (set_other HM3.out n3) n3) n3) n3) n3) rfl (H.out.rd.like _ ⟨rfl,rfl,rfl,rfl,rfl,rfl⟩)
end
end Go.Proofs.YtpgdiceeimehiaaGreat.Ac
namespace Go.Proofs.YtpgdiceeimehiaaGreat
open Go.RowKit
def Hop (P:Program) (c:Code) (Q:Exit→Act→World→Prop):Nat→Exit→Act→World→Prop
 | 0,.goto _,_,_=>False
 | n+1,.goto l,a,w=>∃ rest,findLabel c l=some rest∧rest.wp P (Hop P c Q n) a w
 | _,e,a,w=>Q e a w
section
variable {P:Program} {a:Act} {w:World} {Q:Exit→Act→World→Prop} {c:Code} {n:Nat}
@[go_sem] theorem Hop_normal:Hop P c Q n .normal a w=Q .normal a w:=by cases n <;> rfl
@[go_sem] theorem Hop_exit (id:Nat):Hop P c Q n (.exit id) a w=Q (.exit id) a w:=by cases n <;> rfl
@[go_sem] theorem Hop_ret:Hop P c Q n .ret a w=Q .ret a w:=by cases n <;> rfl
@[go_sem] theorem Hop_panic (ch:List PanicEntry):Hop P c Q n (.panic ch) a w=Q (.panic ch) a w:=by cases n <;> rfl
theorem Hop_goto {l:Nat} {rest:Code} (hf:findLabel c l=some rest) (h:rest.wp P (Hop P c Q n) a w):Hop P c Q (n+1) (.goto l) a w:=⟨rest,hf,h⟩
theorem wp_scope_hop (n:Nat) (h:∀ C,C=c→c.wp P (Hop P C Q n) a w):(Code.scope c).wp P Q a w:=by
 have h0:=h c rfl
 clear h
 intro b k cs
 have key:∀ (n:Nat) (d:Code) (a:Act) (w:World),d.wp P (Hop P c Q n) a w→∃ e a' w',Q e a' w'∧Arrives P (lone (b.at a (.code d :: .inScope c :: k)) cs w) b k cs e a' w':=by
  intro n
  induction n with
  | zero =>
   intro d a w hd
   obtain ⟨e,a₁,w₁,hq,harr⟩:=hd b (.inScope c :: k) cs
   cases e with
   | normal=>exact ⟨.normal,a₁,w₁,hq,Steps.trans harr (.one step_inScope)⟩
   | exit id=>exact ⟨.exit id,a₁,w₁,hq,fun k' hk=>harr k' (by simp [exitTo,hk])⟩
   | goto l'=>exact (hq:False).elim
   | ret=>exact ⟨_,a₁,w₁,hq,harr⟩
   | panic ch=>exact ⟨_,a₁,w₁,hq,harr⟩
   | outgrown=>exact ⟨_,a₁,w₁,hq,harr⟩
  | succ n ih =>
   intro d a w hd
   obtain ⟨e,a₁,w₁,hq,harr⟩:=hd b (.inScope c :: k) cs
   cases e with
   | normal=>exact ⟨.normal,a₁,w₁,hq,Steps.trans harr (.one step_inScope)⟩
   | exit id=>exact ⟨.exit id,a₁,w₁,hq,fun k' hk=>harr k' (by simp [exitTo,hk])⟩
   | goto l' =>
    obtain ⟨rest,hf,hw⟩:=hq
    have hg:gotoIn l' (.inScope c :: k)=some (.code rest :: .inScope c :: k):=by simp [gotoIn,hf]
    obtain ⟨e₂,a₂,w₂,hq₂,harr₂⟩:=ih rest a₁ w₁ hw
    exact ⟨e₂,a₂,w₂,hq₂,.of_steps (harr _ hg) harr₂⟩
   | ret=>exact ⟨_,a₁,w₁,hq,harr⟩
   | panic ch=>exact ⟨_,a₁,w₁,hq,harr⟩
   | outgrown=>exact ⟨_,a₁,w₁,hq,harr⟩
 obtain ⟨e,a₁,w₁,hq,harr⟩:=key n c a w h0
 cases e with
 | normal=>exact ⟨.normal,a₁,w₁,hq,.head step_scope harr⟩
 | exit id=>exact ⟨.exit id,a₁,w₁,hq,fun k' hk=>.head step_scope (harr k' hk)⟩
 | goto l'=>exact ⟨.goto l',a₁,w₁,hq,fun k' hk=>.head step_scope (harr k' hk)⟩
 | ret=>exact ⟨_,a₁,w₁,hq,.of_steps (.one step_scope) harr⟩
 | panic ch=>exact ⟨_,a₁,w₁,hq,.of_steps (.one step_scope) harr⟩
 | outgrown=>exact ⟨_,a₁,w₁,hq,.of_steps (.one step_scope) harr⟩
theorem hop_rounds {l:Nat} {rest:Code} (hf:findLabel c l=some rest) (J:Nat→Act→World→Prop)
  (step:∀ n a w,J n a w→rest.wp P (Exit.jump l (fun a' w'=>∃ m,n=m+1∧J m a' w') Q) a w):∀ n a w,J n a w→rest.wp P (Hop P c Q n) a w:=by
 intro n
 induction n with
 | zero =>
  intro a w hJ
  refine Code.wp_mono (fun e a' w' h=>?_) (step 0 a w hJ)
  cases e with
  | goto l' =>
   obtain ⟨_,m,hm,_⟩:=h
   omega
  | normal=>exact h
  | exit id=>exact h
  | ret=>exact h
  | panic ch=>exact h
  | outgrown=>exact h
 | succ n ih =>
  intro a w hJ
  refine Code.wp_mono (fun e a' w' h=>?_) (step (n+1) a w hJ)
  cases e with
  | goto l' =>
   obtain ⟨hl,m,hm,hJ'⟩:=h
   obtain rfl:n=m:=by omega
   subst hl
   exact ⟨rest,hf,ih a' w' hJ'⟩
  | normal=>exact h
  | exit id=>exact h
  | ret=>exact h
  | panic ch=>exact h
  | outgrown=>exact h
end
end Go.Proofs.YtpgdiceeimehiaaGreat
