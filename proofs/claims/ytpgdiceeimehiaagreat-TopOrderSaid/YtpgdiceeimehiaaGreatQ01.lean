/- Part 1 of the proof that spotop.TopOrder returns true for all arguments and leaves what was there as it was. -/
import Derived.Test.YtpgdiceeimehiaaGreatRows
import Derived.WalkKit
import Derived.ProofKit
import Derived.OpenShut
import Derived.Deep.Draws
import Derived.Deep.QuietTactic
import Derived.BigQuiet
import Derived.Lib.Hide
import Derived.Outline
import Derived.Maps.AppendAt
import Derived.Deep.AppendLies
import Derived.Deep.RegionHeld3
import Derived.Deep.Slices
import Derived.Lib.SmallJoins
import Derived.WalkSpells
import Derived.WalkLawsBesides
import Derived.Handy
set_option maxRecDepth 100000
set_option maxHeartbeats 16000000
open Go.Lib (hid)
namespace Go.Proofs.YtpgdiceeimehiaaGreat
open Go.ChangeShapes Go.WideShapes Go.ChangeAt Go.RowKit
theorem own:ownKnob Tryz.prog.godebug=none:=by kernel_rfl
theorem laidOut:laidOutB Tryz.prog=true:=by kernel_rfl
section
variable {H:Type} {enc:TypeId × Value→H} {P:Program}
theorem trodAll_below (hl:laidOutB P=true) {W W':World} (hb:Below W.heap.size W W'):∀ {ts:List TypeId} {vs:List Value} {ds:List (DataW H)} {ps:List MemPlace},
  (ts.all fun t=>P.readableRec t && decide (t<P.types.size))=true→(∀ x∈ps,x.block<W.heap.size) →
  DataW.TrodAll enc P W 0 (fun _=>true) true ts vs ds ps→DataW.TrodAll enc P W' 0 (fun b=>decide (b<W.heap.size)) true ts vs ds ps
 | [],[],[],_,_,_,h=>h
 | [],[],_ :: _,_,_,_,h=>h.elim
 | [],_ :: _,_,_,_,_,h=>h.elim
 | _ :: _,[],_,_,_,_,h=>h.elim
 | _ :: _,_ :: _,[],_,_,_,h=>h.elim
 | t :: ts,v :: vs,d :: ds,ps,hr,hlt,⟨p,q,h1,h2,e⟩=>by
  simp only [List.all_cons,Bool.and_eq_true,decide_eq_true_eq] at hr
  exact ⟨p,q,Below.trod hl hr.1.1 hr.1.2 h1 hb (fun x hx=>hlt x (by rw [e];exact List.mem_append_left _ hx)),
   trodAll_below hl hb hr.2 (fun x hx=>hlt x (by rw [e];exact List.mem_append_right _ hx)) h2,e⟩
theorem lift_law {C:Checked} {os:Os} {f:FuncId} {fn:Func} {s:ChangeSpec} {conds:List PathCond} {tb:TypeId}
  (hown:ownKnob C.prog.godebug=none) (started:os.Started) (noInit:C.prog.inits.idxOf? f=none) (hfn:C.prog.funcs[f]?=some fn)
  (hl:laidOutB C.prog=true) (hr:(fn.params.toList.all fun t=>C.prog.readableRec t && decide (t<C.prog.types.size))=true)
  (hvars:s.vars=[]) (hres:fn.resultTypes=#[tb]) (htb:C.prog.underlying tb=some .bool)
  (hspec:∀ ds:List (DataW H),ds.length=fn.params.size→s.fn H ds={ results:=[.lit (.bool true)],args:=ds })
  (witness:∃ (w:World) (tape:Tape) (i:Input),w.os=os∧(w.forCall tape i).Shaped C.prog∧i.vars=[]∧Input.okWide C.prog (w.forCall tape i) .any w.heap.size f i ∧
   s.pre6 enc C.prog fn conds false (w.forCall tape i).memory i.args∧({}:Assume).holds C.prog (lone (Frame.enter C.prog f i.args .normal) [] (w.forCall tape i)))
  (walk:∀ (W:World) (base:Nat) (args:Array Value) (ds:List (DataW H)) (ps:List MemPlace),
   (∀ (j:Nat) t v,fn.params[j]?=some t→args[j]?=some v→Value.okWide C.prog W .any base t v) →
   DataW.TrodAll enc C.prog W 0 (fun _=>true) true fn.params.toList args.toList ds ps→(∀ x∈ps,x.block<W.heap.size) →
   Calls C.prog f args W fun e W'=>e=.returned (.bool true)∧Below W.heap.size W W') :
  ReturnsInHanded {} C os f .any (s.pre6 enc C.prog fn conds false) (s.post enc C.prog fn false true false false):=by
 refine returnsInHanded_of_change hown started noInit hfn witness ?_
 intro W base args ds gs before hval hW _ _
 have hW':=hW
 obtain ⟨p,q,hA,hV,rfl,hfz,hnd⟩:=hW
 rw [hvars] at hV
 obtain ⟨rfl,rfl⟩:=trodVars_none hV
 have hlt:∀ x∈p,x.block<W.heap.size:=fun x hx=>hW'.lt x (by simpa using hx)
 have hlen:ds.length=fn.params.size:=by
  have:∀ {ts:List TypeId} {vs:List Value} {ds:List (DataW H)} {ps:List MemPlace},DataW.TrodAll enc C.prog W 0 (fun _=>true) true ts vs ds ps→ds.length=ts.length:=by
   intro ts
   induction ts with
   | nil=>intro vs ds ps h;cases vs <;> cases ds <;> first | rfl | exact h.elim
   | cons t ts ih =>
    intro vs ds ps h
    cases vs <;> cases ds <;> first | exact h.elim | skip
    obtain ⟨_,_,_,h2,_⟩:=h
    simpa using ih h2
  simpa using this hA
 refine (walk W base args ds p hval hA hlt).mono fun e W' ⟨he,hb⟩=>⟨.bool true,he,ds,[],p++[],[],p,[],hW',?_,?_,?_,hb.frame _,fun h=>by cases h⟩
 ·rw [List.append_nil,hspec ds hlen,hres]
  exact trodAll_cons_mk (shut_bool htb true) trodAll_mk0
 ·rw [List.append_nil,hspec ds hlen]
  exact trodAll_below hl hb hr hlt hA
 ·rw [hvars,List.append_nil,hspec ds hlen]
  rfl
end
open Go.RowKit
structure Only (S:Nat→Prop) (w w':World):Prop where
 os:w'.os=w.os
 tape:w'.tape=w.tape
 output:w'.output=w.output
 size:w.heap.size≤w'.heap.size
 block:∀ k,k<w.heap.size→¬ S k→w'.heap[k]?=w.heap[k]?
section
variable {S T:Nat→Prop} {a b c w w':World}
theorem Only.refl (S:Nat→Prop) (w:World):Only S w w:=⟨rfl,rfl,rfl,Nat.le_refl _,fun _ _ _=>rfl⟩
theorem Only.mono (h:Only S a b) (hs:∀ k,k<a.heap.size→S k→T k):Only T a b:=⟨h.os,h.tape,h.output,h.size,fun k hk hn=>h.block k hk (fun hs'=>hn (hs k hk hs'))⟩
theorem Only.trans (h:Only S a b) (k:Only T b c) (hs:∀ i,i<a.heap.size→T i→S i):Only S a c :=
 ⟨k.os.trans h.os,k.tape.trans h.tape,k.output.trans h.output,Nat.le_trans h.size k.size,
  fun i hi hn=>(k.block i (Nat.lt_of_lt_of_le hi h.size) (fun ht=>hn (hs i hi ht))).trans (h.block i hi hn)⟩
theorem Only.drewN (h:Only S a w) (n:Nat):Only S a (w.drewN n):=⟨h.os,h.tape,h.output,h.size,h.block⟩
theorem Only.alloc (h:Only S a w) (o:Obj):Only S a (w.alloc o) :=
 ⟨h.os,h.tape,h.output,Nat.le_trans h.size (by simp),fun k hk hn=>(Below.heap_alloc w o k (Nat.lt_of_lt_of_le hk h.size)).trans (h.block k hk hn)⟩
theorem Only.setCell (h:Only S a w) {p:Addr} (hp:p.block<a.heap.size→S p.block) (u:Value):Only S a (w.setCell p u) :=
 ⟨h.os,h.tape,h.output,by simpa [World.setCell] using h.size,fun k hk hn=>(Below.heap_setCell w p u k (fun e=>hn (by subst e;exact hp hk))).trans (h.block k hk hn)⟩
theorem Only.grown (h:Only S a w) {row:Option Nat} (hg:w.grownBy w' row) (hr:∀ k,k<a.heap.size→row=some k→S k):Only S a w' :=
 ⟨hg.os.trans h.os,hg.tape.trans h.tape,hg.output.trans h.output,Nat.le_trans h.size hg.size,
  fun k hk hn=>(hg.block k (Nat.lt_of_lt_of_le hk h.size) (fun e=>hn (hr k hk e.symm))).trans (h.block k hk hn)⟩
theorem Only.below (h:Only S a w) {B:Nat} (hB:B≤a.heap.size) (hs:∀ k,k<a.heap.size→S k→B≤k):Below B a w :=
 ⟨h.os,h.tape,h.output,h.size,fun k hk=>h.block k (by omega) (fun hs'=>by have:=hs k (by omega) hs';omega)⟩
theorem Only.cell (h:Only S a w) {p:Addr} (hp:p.block<a.heap.size) (hn:¬ S p.block):w.cell? p=a.cell? p:=World.cell?_of_block (w:=a) (h.block p.block hp hn)
theorem Only.own (h:Only S a w) {base:Nat} {e:TypeId} {size n:Nat} {v:Value} {xs:List Value} (ho:a.ownsRow base e size v n xs) (hn:∀ k,v.ownBlock=some k→¬ S k):w.ownsRow base e size v n xs:=by
 refine ⟨ho.1,?_⟩
 rcases ho.2 with h0 | ⟨g,cap,cur,rfl,hb,hg,rest⟩
 ·exact .inl h0
 ·exact .inr ⟨g,cap,cur,rfl,hb,by rw [h.block g (Array.getElem?_eq_some_iff.1 hg).1 (hn g rfl)];exact hg,rest⟩
end
theorem own_form {w:World} {base:Nat} {e:TypeId} {size n:Nat} {v:Value} {xs:List Value} (h:w.ownsRow base e size v n xs):∃ A c,v=.slice A n c:=by
 rcases h.2 with ⟨rfl,rfl⟩ | ⟨g,cap,cur,rfl,_⟩
 ·exact ⟨_,_,rfl⟩
 ·exact ⟨_,_,rfl⟩
abbrev Pure (w w':World):Prop:=Only (fun _=>False) w w'
theorem Pure.then {a b c:World} (h:Pure a b) (k:Pure b c):Pure a c:=h.trans k (fun _ _ f=>f)
theorem Pure.below {w w':World} (h:Pure w w'):Below w.heap.size w w':=Only.below h (Nat.le_refl _) (fun _ _ f=>f.elim)
def SlI (w:World) (B:Nat) (v:Value) (xs:List Int):Prop :=
 ∃ (A:Option Addr) (c:Nat),v=.slice A xs.length c∧xs.length≤c∧c≤maxLen∧(∀ x∈xs,-9223372036854775808≤x∧x≤9223372036854775807) ∧
  (0<xs.length→∃ b off,A=some ⟨b,off,none⟩∧b<B∧∀ j,j<xs.length→w.cell? ⟨b,off+j,none⟩=some (.int .i64 (xs.getD j 0)))
theorem SlI.keep {w w':World} {B:Nat} {v:Value} {xs:List Int} (h:SlI w B v xs) (hb:∀ b o,b<B→v.ownBlock=some b→w'.cell? ⟨b,o,none⟩=w.cell? ⟨b,o,none⟩):SlI w' B v xs:=by
 obtain ⟨A,c,rfl,h1,h2,h3,h4⟩:=h
 refine ⟨A,c,rfl,h1,h2,h3,fun hp=>?_⟩
 obtain ⟨b,off,rfl,hlt,hc⟩:=h4 hp
 exact ⟨b,off,rfl,hlt,fun j hj=>(hb b (off+j) hlt rfl).trans (hc j hj)⟩
theorem SlI.only {w w':World} {S:Nat→Prop} {v:Value} {xs:List Int} (h:SlI w w.heap.size v xs) (ho:Only S w w') (hn:∀ k,v.ownBlock=some k→¬ S k):SlI w' w'.heap.size v xs:=by
 have h2:SlI w' w.heap.size v xs:=h.keep fun b _ hlt hv=>ho.cell (p:=⟨b,_,none⟩) hlt (hn b hv)
 obtain ⟨A,c,rfl,h1,h2,h3,h4⟩:=h2
 refine ⟨A,c,rfl,h1,h2,h3,fun hp=>?_⟩
 obtain ⟨b,off,e,hlt,hc⟩:=h4 hp
 exact ⟨b,off,e,Nat.lt_of_lt_of_le hlt ho.size,hc⟩
theorem SlI.nil (w:World) (B:Nat):SlI w B (.slice none 0 0) []:=⟨none,0,rfl,Nat.le_refl _,by simp [maxLen],by simp,by simp⟩
theorem SlI.len {w:World} {B:Nat} {v:Value} {xs:List Int} (h:SlI w B v xs):∃ A c,v=.slice A xs.length c∧xs.length≤c∧c≤9223372036854775807:=by
 obtain ⟨A,c,h,h1,h2,_⟩:=h
 exact ⟨A,c,h,h1,by simpa [maxLen] using h2⟩
def ints (xs:List Int):List Value:=xs.map (Value.int .i64)
theorem ints_append (xs ys:List Int):ints (xs++ys)=ints xs++ints ys:=by simp [ints]
theorem ints_length (xs:List Int):(ints xs).length=xs.length:=by simp [ints]
theorem ints_set (xs:List Int) (j:Nat) (x:Int):(ints xs).set j (.int .i64 x)=ints (xs.set j x):=by simp [ints,List.map_set]
theorem ints_one (xs:List Int):∀ u∈ints xs,u.oneCell'=true:=by
 intro u hu
 simp only [ints,List.mem_map] at hu
 obtain ⟨x,_,rfl⟩:=hu
 rfl
theorem ints_get (xs:List Int) (j:Nat) (u:Value) (h:(ints xs)[j]?=some u):j<xs.length∧u=.int .i64 (xs.getD j 0):=by
 simp only [ints,List.getElem?_map,Option.map_eq_some_iff] at h
 obtain ⟨x,hx,rfl⟩:=h
 exact ⟨(List.getElem?_eq_some_iff.1 hx).1,by simp [List.getD_eq_getElem?_getD,hx]⟩
theorem getD_mem (xs:List Int) (i:Nat) (h:i<xs.length):xs.getD i 0∈xs:=by
 rw [List.getD_eq_getElem?_getD,List.getElem?_eq_getElem h]
 exact List.getElem_mem h
theorem SlI.of_own {w:World} {base:Nat} {e:TypeId} {n:Nat} {v:Value} {xs:List Int} (h:w.ownsRow base e 1 v n (ints xs)) (hx:∀ x∈xs,-9223372036854775808≤x∧x≤9223372036854775807):SlI w w.heap.size v xs:=by
 have hl:xs.length=n:=by have:=h.1;rw [ints_length] at this;omega
 rcases h.2 with ⟨rfl,rfl⟩ | ⟨g,cap,cur,rfl,hb,hg,hnc,hcm,hcs,ht⟩
 ·obtain rfl:xs=[]:=List.eq_nil_of_length_eq_zero hl
  exact SlI.nil _ _
 ·subst hl
  refine ⟨_,cap,rfl,hnc,hcm,hx,fun hp=>⟨g,0,rfl,(Array.getElem?_eq_some_iff.1 hg).1,fun j hj=>?_⟩⟩
  rw [Nat.zero_add,cell_of_row w g j cur e (0,0) hg]
  have:(cur.toList.take (xs.length * 1))[j]?=(ints xs)[j]?:=by rw [ht]
  rw [List.getElem?_take,if_pos (by omega),Array.getElem?_toList] at this
  rw [this]
  simp [ints,List.getElem?_eq_getElem hj]
section
variable {P:Program} (w:World)
def Src (w:World) (size:Nat) (A:Option Addr) (m:Nat) (news:List Value):Prop :=
 news.length=m * size∧(0<m→∃ b off,A=some ⟨b,off,none⟩∧∀ j u,news[j]?=some u→w.cell? ⟨b,off+j,none⟩=some u)
theorem Src.keep {w w':World} {size m:Nat} {A:Option Addr} {news:List Value} (h:Src w size A m news) (hk:∀ ad:Addr,A=some ad→0<m→∀ o,w'.cell? ⟨ad.block,o,none⟩=w.cell? ⟨ad.block,o,none⟩):Src w' size A m news :=
 ⟨h.1,fun hm=>by
  obtain ⟨b,off,rfl,hc⟩:=h.2 hm
  exact ⟨b,off,rfl,fun j u hu=>(hk _ rfl hm _).trans (hc j u hu)⟩⟩
theorem Src.below {w w':World} {B size m:Nat} {A:Option Addr} {news:List Value} (h:Src w size A m news) (hb:Below B w w') (hlt:∀ ad:Addr,0<m→A=some ad→ad.block<B):Src w' size A m news :=
 h.keep fun ad e hm o=>hb.cell (p:=⟨ad.block,o,none⟩) (hlt ad hm e)
theorem run_app (base:Nat) (t ty e:TypeId) (i:TypeInfo) (z:Value) (size bytes:Nat) (ht:P.underlying t=some (.slice e)) (hi:P.info? e=some i) (hz:i.zero=some z)
  (hsize:i.size=size) (hby:i.bytes=bytes) (hzs:z.cells.size=size) (hsz:0<size)
  (v:Value) (n:Nat) (xs:List Value) (hown:w.ownsRow base e size v n xs)
  (A:Option Addr) (m c:Nat) (news:List Value) (hs:Src w size A m news) (h1:∀ u∈news,u.oneCell'=true)
  (h63:n+m≤maxLen) (hbytes:(n+m) * bytes≤140737488355328) (hbase:base≤w.heap.size) :
  ∃ v' w',(Builtin.append_ #[t,t] ty #[v,.slice A m c]).run P w=.ok v' w'∧w'.ownsRow base e size v' (n+m) (xs++news)∧w.grownBy w' v.ownBlock ∧
   (v'.ownBlock=v.ownBlock∨v'.ownBlock=some w.heap.size):=by
 rcases A with _ | ad
 ·have hm:m=0:=by
   rcases Nat.eq_zero_or_pos m with h0 | h0
   ·exact h0
   ·obtain ⟨b,off,h,_⟩:=hs.2 h0
    cases h
  subst hm
  obtain rfl:news=[]:=List.eq_nil_of_length_eq_zero (by have:=hs.1;omega)
  refine ⟨v,w,?_,by simpa using hown,World.grownBy.refl w _,.inl rfl⟩
  rcases hown.2 with ⟨rfl,rfl⟩ | ⟨g,cap,cur,rfl,_,_,hnc,_⟩
  ·simp [Builtin.append_,run_underlying ht,sizeOf,typeInfo,hi,Builtin.lenOf,Builtin.firstCells]
  ·simp [Builtin.append_,run_underlying ht,sizeOf,typeInfo,hi,Builtin.lenOf,Builtin.firstCells,hnc,storeCells]
 ·have hc:∀ j u,news[j]?=some u→w.cell? (ad.add j)=some u:=by
   intro j u hu
   rcases Nat.eq_zero_or_pos m with rfl | hm
   ·obtain rfl:news=[]:=List.eq_nil_of_length_eq_zero (by have:=hs.1;omega)
    simp at hu
   ·obtain ⟨b,off,h,hc⟩:=hs.2 hm
    injection h with h
    subst h
    rw [Go.WideShapes.add_plain]
    exact hc j u hu
  obtain ⟨v',w',hr,h2,h3,_,h5⟩:=run_append_own_at (P:=P) w base t ty e i z size bytes ht hi hz hsize hby hzs hsz v n xs hown ad m c news hs.1 hc h1 h63 hbytes hbase
  exact ⟨v',w',hr,h2,h3,h5⟩
theorem wpList_app {ops:Array Oper} {rest:List Oper} {o:Oper} {a:Act} {Q:Exit→Act→World→Prop} (hgd:o.guard=none) (s x:Operand) (t:TypeId)
  (ho:o.op=.call { callee:=.builtin .append,args:=#[s,x],argTypes:=#[t,t] })
  (base:Nat) (e:TypeId) (i:TypeInfo) (z:Value) (size bytes:Nat) (ht:P.underlying t=some (.slice e)) (hi:P.info? e=some i) (hz:i.zero=some z)
  (hsize:i.size=size) (hby:i.bytes=bytes) (hzs:z.cells.size=size) (hsz:0<size)
  (v:Value) (n:Nat) (xs:List Value) (hs:a.eval s=v) (hown:w.ownsRow base e size v n xs)
  (A:Option Addr) (m c:Nat) (news:List Value) (hx:a.eval x=.slice A m c) (hsrc:Src w size A m news) (h1:∀ u∈news,u.oneCell'=true)
  (h63:n+m≤maxLen) (hbytes:(n+m) * bytes≤140737488355328) (hbase:base≤w.heap.size)
  (h:∀ v' w',w'.ownsRow base e size v' (n+m) (xs++news)→w.grownBy w' v.ownBlock→(v'.ownBlock=v.ownBlock∨v'.ownBlock=some w.heap.size)→wpList P ops Q rest (a.put o.dst v') w'):wpList P ops Q (o :: rest) a w :=
 wpList_plain hgd fun _ hK=>by
  obtain ⟨v',w',hr,h2,h3,h4⟩:=run_app (P:=P) w base t o.type e i z size bytes ht hi hz hsize hby hzs hsz v n xs hown A m c news hsrc h1 h63 hbytes hbase
  unfold Oper.wp execOp
  simp only [ho,resolve,invoke,builtin,Sem.run_bind,Sem.run_pure,Result.andThen_ok,List.map_toArray,List.map_cons,List.map_nil,hs,hx,hr]
  exact hK _ _ (h v' w' h2 h3 h4)
theorem SlI.src {B:Nat} {A:Option Addr} {m c:Nat} {xs:List Int} {w:World} (h:SlI w B (.slice A m c) xs):m=xs.length∧Src w 1 A m (ints xs):=by
 obtain ⟨A',c',e,h1,h2,h3,h4⟩:=h
 injection e with e1 e2 e3
 subst e1;subst e2
 refine ⟨rfl,by simp [ints_length],fun hm=>?_⟩
 obtain ⟨b,off,e,_,hc⟩:=h4 hm
 refine ⟨b,off,e,fun j u hu=>?_⟩
 obtain ⟨hj,rfl⟩:=ints_get xs j u hu
 exact hc j hj
end
def SlG (w:World) (B:Nat) (v:Value) (vs:List Value):Prop :=
 ∃ (A:Option Addr) (c:Nat),v=.slice A vs.length c∧vs.length≤c∧c≤9223372036854775807 ∧
  (0<vs.length→∃ b off,A=some ⟨b,off,none⟩∧b<B∧∀ j u,vs[j]?=some u→w.cell? ⟨b,off+j,none⟩=some u)
def bools (bs:List Bool):List Value:=bs.map Value.bool
theorem bools_length (bs:List Bool):(bools bs).length=bs.length:=by simp [bools]
theorem SlG.only {w w':World} {S:Nat→Prop} {v:Value} {vs:List Value} (h:SlG w w.heap.size v vs) (ho:Only S w w') (hn:∀ k,v.ownBlock=some k→¬ S k):SlG w' w'.heap.size v vs:=by
 obtain ⟨A,c,rfl,h1,h2,h4⟩:=h
 refine ⟨A,c,rfl,h1,h2,fun hp=>?_⟩
 obtain ⟨b,off,rfl,hlt,hc⟩:=h4 hp
 exact ⟨b,off,rfl,Nat.lt_of_lt_of_le hlt ho.size,fun j u hu=>(ho.cell (p:=⟨b,off+j,none⟩) hlt (hn b rfl)).trans (hc j u hu)⟩
theorem SlG.pure {w w':World} {v:Value} {vs:List Value} (h:SlG w w.heap.size v vs) (ho:Pure w w'):SlG w' w'.heap.size v vs:=h.only ho (fun _ _ f=>f)
section
open Go.ChangeShapes Go.WideShapes Go.ChangeAt
variable {H:Type} {enc:TypeId × Value→H} {P:Program}
theorem open_sl {W:World} {b0 base:Nat} {t e:TypeId} {v:Value} {d:DataW H} {ps:List MemPlace} {r:Reach} (ht:P.underlying t=some (.slice e)) (he:P.underlying e=some (.int .i64)) (hc:P.cellsOf e=1)
  (hval:Value.okWide P W r b0 t v) (h:DataW.Trod enc P W base (fun _=>true) true t v d ps):∃ xs,SlI W W.heap.size v xs:=by
 obtain ⟨a0,len,cap,rfl⟩:=okWide_slice ht hval
 obtain ⟨fuel,hf⟩:=h
 rcases open_ints ht he hc hf with ⟨hcs,_⟩ | ⟨a,len',cap',zs,hcs,_,hl,hm,hz,_,hcell,hwz⟩
 ·have hcs':[Value.slice a0 len cap]=[.slice none 0 0]:=hcs
  injection hcs' with hcs'
  rw [hcs']
  exact ⟨[],SlI.nil _ _⟩
 ·have hcs':[Value.slice a0 len cap]=[.slice (some a) len' cap']:=hcs
  injection hcs' with hcs'
  rw [hcs']
  have hz':zs.length=cap':=by simpa using hz
  have hl':(zs.take len').length=len':=by rw [List.length_take];omega
  refine ⟨zs.take len',some a,cap',by rw [hl'],by omega,hm,fun x hx=>?_,fun hp=>?_⟩
  ·have hw:=hwz x (List.mem_of_mem_take hx)
   simp [Lit.wf,IntKind.max,IntKind.min,IntKind.signed,IntKind.bits] at hw
   omega
  ·obtain ⟨b,off,rfl,hc'⟩:=ints_at hcell (by omega)
   refine ⟨b,off,rfl,World.block_lt_of_cell? W ⟨b,off+0,none⟩ (hc' 0 (by omega)),fun j hj=>?_⟩
   rw [hc' j (by omega)]
   simp only [List.getD_eq_getElem?_getD,List.getElem?_take]
   rw [if_pos (by omega)]
theorem int_bounds {x:Int} (h:(Lit.int .i64 x).wf=true):-9223372036854775808≤x∧x≤9223372036854775807:=by
 simp [Lit.wf,IntKind.max,IntKind.min,IntKind.signed,IntKind.bits] at h
 omega
end
theorem withS {P:Program} {f:FuncId} {args:Array Value} {w:World} {v:Value} {S:World→Prop} (hS:S w) (hk:∀ a b:World,S a→Pure a b→S b)
  (h:Calls P f args w fun e w'=>e=.returned v∧Pure w w'):Calls P f args w fun e w'=>e=.returned v∧S w':=h.mono fun _ _ ⟨he,hp⟩=>⟨he,hk _ _ hS hp⟩
theorem same_pure {P:Program} {f:FuncId} {args:Array Value} {w:World} {v:Value} (h:Calls P f args w fun e w'=>e=.returned v∧w=w'):Calls P f args w fun e w'=>e=.returned v∧Pure w w' :=
 h.mono fun _ _ ⟨he,hw⟩=>⟨he,hw ▸ Only.refl _ _⟩
theorem Pure.keep {w w':World} {p:Addr} {v:Value} (h:Pure w w') (hc:w.cell? p=some v):w'.cell? p=some v :=
 (h.cell (World.block_lt_of_cell? w p hc) (fun f=>f)).trans hc
theorem ret_b {x y:Bool} (h:y=x):Ending.returned (.bool x)=.returned (.bool y):=by rw [h]
theorem ret_i {k:IntKind} {x y:Int} (h:y=x):Ending.returned (.int k x)=.returned (.int k y):=by rw [h]
open Go.RowKit
def mayB (a:Bool) (n:Nat):Bool:=decide (n≤40) && (!a || n == 1)
abbrev shV (a:Bool) (A:Option Addr) (n c:Nat):Value:=.agg #[.bool a,.slice A n c]
theorem may_any (a:Bool) (A:Option Addr) (n c:Nat) (w:World) (hn:n≤9223372036854775807) :
  Calls Tryz.prog 17 #[shV a A n c] w fun e w'=>e=.returned (.bool (mayB a n))∧Pure w w':=by
 by_cases h1:n≤40
 ·cases a
  ·go_enter Tryz.func17,Tryz.ntmps17
   go_wp2
   go_ret
   exact ⟨ret_b (by simp [mayB,h1]),(Only.refl _ _).alloc _⟩
  ·by_cases h2:n=1
   ·subst h2
    go_enter Tryz.func17,Tryz.ntmps17
    go_wp2
    go_ret
    exact ⟨ret_b (by simp [mayB]),(Only.refl _ _).alloc _⟩
   ·have h2':((n:Int) == 1)=false:=by simp;omega
    go_enter Tryz.func17,Tryz.ntmps17
    go_wp2
    go_ret
    exact ⟨ret_b (by simp [mayB,h2]),(Only.refl _ _).alloc _⟩
 ·go_enter Tryz.func17,Tryz.ntmps17
  go_wp2
  go_ret
  exact ⟨ret_b (by simp [mayB,h1]),(Only.refl _ _).alloc _⟩
theorem mayB_le {a:Bool} {n:Nat} (h:mayB a n=true):n≤40:=by
 simp only [mayB,Bool.and_eq_true,decide_eq_true_eq] at h
 exact h.1
open Go.RowKit
structure Sh where
 a:Bool
 v:Value
 bs:List Bool
def ShsR (w:World) (B:Nat) (v:Value) (l:List Sh):Prop :=
 (∃ (A:Option Addr) (c:Nat),v=.slice A l.length c∧l.length≤c∧c≤9223372036854775807 ∧
  (0<l.length→∃ b off,A=some ⟨b,off,none⟩∧b<B∧∀ j s,l[j]?=some s→w.cell? ⟨b,off+j * 2,none⟩=some (.bool s.a)∧w.cell? ⟨b,off+j * 2+1,none⟩=some s.v)) ∧
 ∀ s∈l,SlG w B s.v (bools s.bs)
theorem ShsR.pure {w w':World} {v:Value} {l:List Sh} (h:ShsR w w.heap.size v l) (hp:Pure w w'):ShsR w' w'.heap.size v l:=by
 obtain ⟨⟨A,c,e,h1,h2,h3⟩,h4⟩:=h
 refine ⟨⟨A,c,e,h1,h2,fun hl=>?_⟩,fun s hs=>(h4 s hs).pure hp⟩
 obtain ⟨b,off,rfl,hb,hc⟩:=h3 hl
 refine ⟨b,off,rfl,Nat.lt_of_lt_of_le hb hp.size,fun j s hj=>?_⟩
 obtain ⟨c1,c2⟩:=hc j s hj
 exact ⟨hp.keep c1,hp.keep c2⟩
structure Cn where
 frags:Int
 spine:Int
 globals:Int
 threads:Int
 locals:Int
 cache:Int
 stack:Int
 low:Int
abbrev cnV (c:Cn) (v:Value):Value:=.agg #[.int .i64 c.frags,.int .i64 c.spine,.int .i64 c.globals,.int .i64 c.threads,.int .i64 c.locals,.int .i64 c.cache,.int .i64 c.stack,.int .i64 c.low,v]
def withinB (n a b:Int):Bool:=decide (a≤n) && decide (n≤b)
def tests (c:Cn):List Bool:=[withinB c.frags 4 1024,withinB c.spine 0 2048,withinB c.globals 0 8,withinB c.threads 1 16,withinB c.locals 1 8,withinB c.cache 0 8,withinB c.stack 1 256,withinB c.low 0 c.frags]
def mayAll (l:List Sh):Bool:=l.all fun s=>mayB s.a s.bs.length
def checkI (c:Cn) (l:List Sh):Int :=
 if (tests c).all id=false then 1 else if c.frags<c.threads * c.cache then 1 else if (withinB l.length 1 8 && mayAll l)=false then 4 else 0
theorem within_any (n a b:Int) (w:World):Calls Tryz.prog 14 #[.int .i64 n,.int .i64 a,.int .i64 b] w fun e w'=>e=.returned (.bool (withinB n a b))∧w=w':=by
 by_cases h:a≤n
 ·go_enter Tryz.func14,Tryz.ntmps14
  go_wp2
  go_ret
  exact ⟨ret_b (by simp [withinB,h]),rfl⟩
 ·go_enter Tryz.func14,Tryz.ntmps14
  go_wp2
  go_ret
  exact ⟨ret_b (by rw [withinB,decide_eq_false (show ¬ a≤n by omega)];rfl),rfl⟩
theorem closure_any (a:Bool) (A:Option Addr) (n c:Nat) (w:World) (hn:n≤9223372036854775807) :
  Calls Tryz.prog 16 #[shV a A n c] w fun e w'=>e=.returned (.bool (!mayB a n))∧Pure w w':=by
 go_enter Tryz.func16,Tryz.ntmps16
 go_wp2_with fail
 refine (may_any a A n c _ hn).mono ?_
 rintro e w1 ⟨rfl,hp1⟩
 have P1:=hid (Pure.then ((Only.refl (fun _=>False) w).alloc (.cells #[.bool a,.slice A n c] 35)) hp1)
 clear hp1
 go_wp2
 go_ret
 exact ⟨rfl,P1.out⟩
theorem index_any (v:Value) (l:List Sh) (w:World) (hl:ShsR w w.heap.size v l) :
  Calls Tryz.prog 39 #[v,.func (.func 16) #[] #[]] w fun e w'=>(∃ r:Int,e=.returned (.int .i64 r)∧decide (0≤r)=!mayAll l)∧Pure w w':=by
 have HL:=hid hl
 obtain ⟨⟨A,cc,rfl,h1,h2,h3⟩,h4⟩:=hl
 have H3:=hid h3
 have H4:=hid h4
 clear h3 h4
 go_enter Tryz.func39,Tryz.ntmps39
 go_wp2_with fail
 go_loopw [8] (fun i wr=>∃ k:Nat,k≤l.length∧i=.int .i64 k∧(∀ j,j<k→∀ s,l[j]?=some s→mayB s.a s.bs.length=true)∧Pure w wr) (fun i _=>l.length-(intOf i).toNat)
 case atStart=>exact ⟨0,Nat.zero_le _,rfl,(by omega),Only.refl _ _⟩
 case round =>
  obtain ⟨k,hk,rfl,hall,hp⟩:=hrel
  have HALL:=hid hall
  have HP:=hid hp
  clear hall hp
  by_cases hlt:k<l.length
  ·obtain ⟨b,off,hA,hb,hc⟩:=H3.out (by omega)
   subst hA
   obtain ⟨s,hs⟩:∃ s,l[k]?=some s:=⟨l[k],List.getElem?_eq_getElem hlt⟩
   obtain ⟨c1,c2⟩:=hc k s hs
   obtain ⟨B,d,hv,hd1,hd2,_⟩:=H4.out s (List.mem_of_getElem? hs)
   rw [hv] at c2
   rw [bools_length] at c2 hd1
   have c1':=HP.out.keep c1
   have c2':=HP.out.keep c2
   have HS:=hid hs
   clear hc c1 c2 hv hs
   cases hm:mayB s.a s.bs.length with
   | false =>
    have HM:=hid hm
    go_wp2_with fail
    refine (closure_any s.a B s.bs.length d _ (by omega)).mono ?_
    rw [hm]
    rintro e w1 ⟨rfl,hp1⟩
    have P1:=hid (HP.out.then hp1)
    clear hp1
    go_wp2
    go_ret
    refine ⟨⟨k,rfl,?_⟩,P1.out⟩
    have:mayAll l=false:=by
     simp only [mayAll,List.all_eq_false]
     exact ⟨s,List.mem_of_getElem? HS.out,by rw [HM.out];simp⟩
    rw [this]
    simp
   | true =>
    have HM:=hid hm
    go_wp2_with fail
    refine (closure_any s.a B s.bs.length d _ (by omega)).mono ?_
    rw [hm]
    rintro e w1 ⟨rfl,hp1⟩
    have P1:=hid (HP.out.then hp1)
    clear hp1
    go_wp2
    go_roundw
    case rel =>
     refine ⟨k+1,by omega,by first | rfl | simp,?_,P1.out⟩
     intro j hj s' hs'
     by_cases e:j<k
     ·exact HALL.out j e s' hs'
     ·obtain rfl:j=k:=by omega
      rw [HS.out] at hs'
      cases hs'
      exact HM.out
    case measure=>simp [intOf];omega
  ·obtain rfl:k=l.length:=by omega
   go_wp2
   go_ret
   refine ⟨⟨-1,rfl,?_⟩,HP.out⟩
   have:mayAll l=true:=by
    simp only [mayAll,List.all_eq_true]
    intro s hs
    obtain ⟨j,hj,e⟩:=List.mem_iff_getElem.1 hs
    exact HALL.out j hj s (by rw [List.getElem?_eq_getElem hj,e])
   rw [this]
   rfl
theorem contains_any (v:Value) (l:List Sh) (w:World) (hl:ShsR w w.heap.size v l) :
  Calls Tryz.prog 15 #[v,.func (.func 16) #[] #[]] w fun e w'=>e=.returned (.bool (!mayAll l))∧Pure w w':=by
 have HL:=hid hl
 clear hl
 go_enter Tryz.func15,Tryz.ntmps15
 go_wp2_with fail
 refine (index_any v l _ HL.out).mono ?_
 rintro e w1 ⟨⟨r,rfl,hr⟩,hp1⟩
 have P1:=hid hp1
 have HR:=hid hr
 clear hp1 hr
 go_wp2
 go_ret
 refine ⟨ret_b ?_,P1.out⟩
 rw [← HR.out]
open Go.RowKit
def CnAt (w:World) (X:Nat) (c:Cn) (v:Value) (w':World):Prop :=
 w'.cell? ⟨X,0,none⟩=some (.int .i64 c.frags)∧w'.cell? ⟨X,1,none⟩=some (.int .i64 c.spine)∧w'.cell? ⟨X,2,none⟩=some (.int .i64 c.globals)∧w'.cell? ⟨X,3,none⟩=some (.int .i64 c.threads) ∧
 w'.cell? ⟨X,4,none⟩=some (.int .i64 c.locals)∧w'.cell? ⟨X,5,none⟩=some (.int .i64 c.cache)∧w'.cell? ⟨X,6,none⟩=some (.int .i64 c.stack)∧w'.cell? ⟨X,7,none⟩=some (.int .i64 c.low)∧w'.cell? ⟨X,8,none⟩=some v∧Pure w w'
theorem CnAt.keep {w:World} {X:Nat} {c:Cn} {v:Value} (a b:World) (h:CnAt w X c v a) (k:Pure a b):CnAt w X c v b:=by
 obtain ⟨h0,h1,h2,h3,h4,h5,h6,h7,h8,h9⟩:=h
 exact ⟨k.keep h0,k.keep h1,k.keep h2,k.keep h3,k.keep h4,k.keep h5,k.keep h6,k.keep h7,k.keep h8,h9.then k⟩
theorem check_any (c:Cn) (v:Value) (l:List Sh) (w:World) (hl:ShsR w w.heap.size v l) :
  Calls Tryz.prog 6 #[cnV c v] w fun e w'=>e=.returned (.int .i64 (checkI c l))∧Pure w w':=by
 have HL:=hid (fun (w':World) (hp:Pure w w')=>hl.pure hp)
 obtain ⟨⟨A,cc,rfl,h1,h2,h3⟩,h4⟩:=hl
 clear h3 h4
 go_enter Tryz.func6,Tryz.ntmps6
 go_wp2_with fail
 have hC:CnAt w w.heap.size c (.slice A l.length cc) (w.alloc (.cells #[.int .i64 c.frags,.int .i64 c.spine,.int .i64 c.globals,.int .i64 c.threads,.int .i64 c.locals,.int .i64 c.cache,.int .i64 c.stack,.int .i64 c.low,.slice A l.length cc] 24)) :=
  ⟨by simp,by simp,by simp,by simp,by simp,by simp,by simp,by simp,by simp,(Only.refl _ _).alloc _⟩
 generalize w.alloc (.cells #[.int .i64 c.frags,.int .i64 c.spine,.int .i64 c.globals,.int .i64 c.threads,.int .i64 c.locals,.int .i64 c.cache,.int .i64 c.stack,.int .i64 c.low,.slice A l.length cc] 24)=W at *
 generalize w.heap.size=X at *
 have HC:=hid hC
 obtain ⟨k0,k1,k2,k3,k4,k5,k6,k7,k8,k9⟩:=hC
 clear k9
 go_region_held3 (fun w'=>w'.cell? ⟨X,0,none⟩=some (.int .i64 c.frags)∧w'.cell? ⟨X,1,none⟩=some (.int .i64 c.spine)∧w'.cell? ⟨X,2,none⟩=some (.int .i64 c.globals)∧w'.cell? ⟨X,3,none⟩=some (.int .i64 c.threads) ∧
   w'.cell? ⟨X,4,none⟩=some (.int .i64 c.locals)∧w'.cell? ⟨X,5,none⟩=some (.int .i64 c.cache)∧w'.cell? ⟨X,6,none⟩=some (.int .i64 c.stack)∧w'.cell? ⟨X,7,none⟩=some (.int .i64 c.low)∧w'.cell? ⟨X,8,none⟩=some (.slice A l.length cc)∧Pure w w')
  ((first | assumption | exact CnAt.keep W W.drew HC.out ((Only.refl _ W).drewN 1) | exact CnAt.keep _ _ (by assumption) ((Only.refl _ _).alloc _)))
  (first | (go_at_call 14;refine (withS (by assumption) (CnAt.keep (X:=X) (c:=c)) (same_pure (within_any _ _ _ _))).mono ?_;rintro e w' ⟨rfl,hs⟩))
 have hT:∀ j b,(tests c)[j]?=some b→(w'.alloc (.cells #[.bool (withinB c.frags 4 1024),.bool (withinB c.spine 0 2048),.bool (withinB c.globals 0 8),.bool (withinB c.threads 1 16),.bool (withinB c.locals 1 8),.bool (withinB c.cache 0 8),.bool (withinB c.stack 1 256),.bool (withinB c.low 0 c.frags)] 4)).cell? ⟨w'.heap.size,j,none⟩=some (.bool b):=by
  intro j b hj
  have hlt:j<8:=by
   rcases Nat.lt_or_ge j 8 with h | h
   ·exact h
   ·rw [List.getElem?_eq_none (by simpa [tests] using h)] at hj;simp at hj
  match j,hlt,hj with
  | 0,_,hj | 1,_,hj | 2,_,hj | 3,_,hj | 4,_,hj | 5,_,hj | 6,_,hj | 7,_,hj=>simp [tests] at hj;subst hj;simp
 have hS1:=CnAt.keep _ _ hs ((Only.refl (fun _=>False) w').alloc (.cells #[.bool (withinB c.frags 4 1024),.bool (withinB c.spine 0 2048),.bool (withinB c.globals 0 8),.bool (withinB c.threads 1 16),.bool (withinB c.locals 1 8),.bool (withinB c.cache 0 8),.bool (withinB c.stack 1 256),.bool (withinB c.low 0 c.frags)] 4))
 generalize w'.alloc (.cells #[.bool (withinB c.frags 4 1024),.bool (withinB c.spine 0 2048),.bool (withinB c.globals 0 8),.bool (withinB c.threads 1 16),.bool (withinB c.locals 1 8),.bool (withinB c.cache 0 8),.bool (withinB c.stack 1 256),.bool (withinB c.low 0 c.frags)] 4)=W1 at hT hS1 ⊢
 generalize w'.heap.size=Y at hT ⊢
 have HT:=hid hT
 have HS1:=hid hS1
 clear hT hS1 hs
 go_wp2_with fail
 go_loopw [33] (fun i wr=>∃ k:Nat,k≤8∧i=.int .i64 k∧(∀ j,j<k→∀ b,(tests c)[j]?=some b→b=true)∧wr=W1) (fun i _=>8-(intOf i).toNat)
 case atStart=>exact ⟨0,Nat.zero_le _,rfl,(by omega),rfl⟩
 case round =>
  obtain ⟨k,hk,rfl,hall,rfl⟩:=hrel
  have HALL:=hid hall
  clear hall
  by_cases hlt:k<8
  ·obtain ⟨b,hb⟩:∃ b,(tests c)[k]?=some b:=⟨(tests c)[k]'(by simpa [tests] using hlt),List.getElem?_eq_getElem _⟩
   have hcl:=HT.out k b hb
   have HB:=hid hb
   clear hb
   cases b with
   | false =>
    go_wp2
    go_ret
    refine ⟨?_,HS1.out.2.2.2.2.2.2.2.2.2⟩
    have:(tests c).all id=false:=by
     simp only [List.all_eq_false]
     exact ⟨false,List.mem_of_getElem? HB.out,by simp⟩
    rw [checkI,if_pos this]
    rfl
   | true =>
    go_wp2
    go_roundw
    case rel =>
     refine ⟨k+1,by omega,by first | rfl | simp,?_,by first | trivial | rfl⟩
     intro j hj b' hb'
     by_cases e:j<k
     ·exact HALL.out j e b' hb'
     ·obtain rfl:j=k:=by omega
      rw [HB.out] at hb'
      cases hb'
      rfl
    case measure=>simp [intOf];omega
  ·obtain rfl:k=8:=by omega
   have hall:(tests c).all id=true:=by
    simp only [List.all_eq_true]
    intro b hb
    obtain ⟨j,hj,e⟩:=List.mem_iff_getElem.1 hb
    exact HALL.out j (by simpa [tests] using hj) b (by rw [List.getElem?_eq_getElem hj,e])
   have hb:0≤c.threads * c.cache∧c.threads * c.cache≤128:=by
    have h3:withinB c.threads 1 16=true:=HALL.out 3 (by omega) (withinB c.threads 1 16) rfl
    have h5:withinB c.cache 0 8=true:=HALL.out 5 (by omega) (withinB c.cache 0 8) rfl
    simp only [withinB,Bool.and_eq_true,decide_eq_true_eq] at h3 h5
    refine ⟨Int.mul_nonneg (by omega) (by omega),Int.le_trans (Int.mul_le_mul_of_nonneg_right h3.2 h5.1) (by omega)⟩
   obtain ⟨k0,k1,k2,k3,k4,k5,k6,k7,k8,k9⟩:=HS1.out
   have HA:=hid hall
   clear k1 k2 k4 k6 k7 k9 hall
   have e1:checkI c l=if c.frags<c.threads * c.cache then 1 else if (withinB l.length 1 8 && mayAll l)=false then 4 else 0:=by
    rw [checkI,if_neg (by rw [HA.out];simp)]
   have E1:=hid e1
   clear e1
   by_cases hf:c.frags<c.threads * c.cache
   ·have E2:=hid (E1.out.trans (if_pos hf))
    go_wp2
    go_ret
    refine ⟨?_,HS1.out.2.2.2.2.2.2.2.2.2⟩
    rw [E2.out]
    rfl
   ·have E2:=hid (E1.out.trans (if_neg hf))
    go_wp2_with fail
    refine (within_any (l.length:Int) 1 8 _).mono ?_
    rintro e w2 ⟨rfl,rfl⟩
    cases hw:withinB (l.length:Int) 1 8 with
    | false =>
     have HW:=hid hw
     clear hw
     go_wp2
     go_ret
     refine ⟨?_,HS1.out.2.2.2.2.2.2.2.2.2⟩
     have e4:checkI c l=4:=by rw [E2.out,HW.out];simp
     rw [e4]
     rfl
    | true =>
     have HW:=hid hw
     clear hw
     go_wp2_with fail
     refine (contains_any _ l _ (HL.out _ HS1.out.2.2.2.2.2.2.2.2.2)).mono ?_
     rintro e w3 ⟨rfl,hp3⟩
     have P3:=hid (HS1.out.2.2.2.2.2.2.2.2.2.then hp3)
     clear hp3
     cases hm:mayAll l with
     | false =>
      have HM:=hid hm
      clear hm
      go_wp2
      go_ret
      refine ⟨?_,P3.out⟩
      have e4:checkI c l=4:=by rw [E2.out,HM.out];simp
      rw [e4]
      rfl
     | true =>
      have HM:=hid hm
      clear hm
      go_wp2
      go_ret
      refine ⟨?_,P3.out⟩
      have e4:checkI c l=0:=by rw [E2.out,HM.out,HW.out];simp
      rw [e4]
      rfl
end Go.Proofs.YtpgdiceeimehiaaGreat
