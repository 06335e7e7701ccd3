/- Part 42 of the proof that spotop.TopOrder returns true for all arguments and leaves what was there as it was. -/
import Derived.Test.YtpgdiceeimehiaaGreatQ41
set_option maxRecDepth 100000
set_option maxHeartbeats 16000000
open Go.Lib (hid)
namespace Go.Proofs.YtpgdiceeimehiaaGreat.Law
open Go.RowKit
open Ac (Vl OpD CT zeroVl opV)
open Opn (SgOk Made kn)
section
variable {w:World} {K:Cor.Q} {κ:Nat→Nat} {m:Cor.St} {b:Ac.B} {s:Ac.St} {yb hb lg:Nat} {y:Cyc.St} {o:Option Tr.St} {L:List OpD} {q T n:Nat} {P:World→(Nat→Nat)→Prop} {a1 a2 a3:Int} {v:Vl} {d:Bool} {t:TOp}
theorem in_starts (hs:Sys w c0 K κ m b s) (hn:s.own=(n:Int)) (hn2:n≤1000000000) (h1:s.phase=2) (h2:s.at_=0) (hop:b.ops[s.next]?=some (opD t)) (hP:Keep9 P)
  (hc:∀ w κ,Sys w c0 K κ m b { s with own:=((n+1:Nat):Int) }→Calls Tryz.prog 121 #[.pointer (some ⟨b.ab,0,none⟩),.pointer (some ⟨K.kb,0,none⟩),opV (opD t)] w (Ans w κ a1 a2 a3 v d P)) :
  Calls Tryz.prog 25 #[.pointer (some ⟨b.ab,0,none⟩),.pointer (some ⟨K.kb,0,none⟩)] w (Ans w κ a1 a2 a3 v d P) :=
 step_within a1 a2 a3 v d n P w hs h1 hn hn2 hP (fun w2 κ2 hs2=>within_starts (opD t) a1 a2 a3 v d P w2 hs2 h2 hop hP (fun w3 κ3 hs3=>hc w3 κ3 hs3))
theorem in_reads (hs:Sys w c0 K κ m b s) (hn:s.own=(n:Int)) (hn2:n≤1000000000) (h1:s.phase=2) (h2:s.at_=2) (hop:b.ops[s.next]?=some (opD t)) (hP:Keep9 P)
  (hc:∀ w κ,Sys w c0 K κ m b { s with own:=((n+1:Nat):Int) }→Calls Tryz.prog 123 #[.pointer (some ⟨b.ab,0,none⟩),.pointer (some ⟨K.kb,0,none⟩),opV (opD t)] w (Ans w κ a1 a2 a3 v d P)) :
  Calls Tryz.prog 25 #[.pointer (some ⟨b.ab,0,none⟩),.pointer (some ⟨K.kb,0,none⟩)] w (Ans w κ a1 a2 a3 v d P) :=
 step_within a1 a2 a3 v d n P w hs h1 hn hn2 hP (fun w2 κ2 hs2=>within_reads (opD t) a1 a2 a3 v d P w2 hs2 h2 hop hP (fun w3 κ3 hs3=>hc w3 κ3 hs3))
theorem in_stores (hs:Sys w c0 K κ m b s) (hn:s.own=(n:Int)) (hn2:n≤1000000000) (h1:s.phase=2) (h2:s.at_=6) (hop:b.ops[s.next]?=some (opD t)) (hP:Keep9 P)
  (hc:∀ w κ,Sys w c0 K κ m b { s with own:=((n+1:Nat):Int) }→Calls Tryz.prog 128 #[.pointer (some ⟨b.ab,0,none⟩),.pointer (some ⟨K.kb,0,none⟩)] w (Ans w κ a1 a2 a3 v d P)) :
  Calls Tryz.prog 25 #[.pointer (some ⟨b.ab,0,none⟩),.pointer (some ⟨K.kb,0,none⟩)] w (Ans w κ a1 a2 a3 v d P) :=
 step_within a1 a2 a3 v d n P w hs h1 hn hn2 hP (fun w2 κ2 hs2=>within_stores (opD t) a1 a2 a3 v d P w2 hs2 h2 hop hP (fun w3 κ3 hs3=>hc w3 κ3 hs3))
theorem in_makes (hs:Sys w c0 K κ m b s) (hn:s.own=(n:Int)) (hn2:n≤1000000000) (h1:s.phase=2) (h2:s.at_=7) (hop:b.ops[s.next]?=some (opD t)) (hP:Keep9 P)
  (hc:∀ w κ,Sys w c0 K κ m b { s with own:=((n+1:Nat):Int) }→Calls Tryz.prog 124 #[.pointer (some ⟨b.ab,0,none⟩),.pointer (some ⟨K.kb,0,none⟩)] w (Ans w κ a1 a2 a3 v d P)) :
  Calls Tryz.prog 25 #[.pointer (some ⟨b.ab,0,none⟩),.pointer (some ⟨K.kb,0,none⟩)] w (Ans w κ a1 a2 a3 v d P) :=
 step_within a1 a2 a3 v d n P w hs h1 hn hn2 hP (fun w2 κ2 hs2=>within_makes (opD t) a1 a2 a3 v d P w2 hs2 h2 hop hP (fun w3 κ3 hs3=>hc w3 κ3 hs3))
theorem in_bears (hs:Sys w c0 K κ m b s) (hn:s.own=(n:Int)) (hn2:n≤1000000000) (h1:s.phase=2) (h2:s.at_=8) (hop:b.ops[s.next]?=some (opD t)) (hP:Keep9 P)
  (hc:∀ w κ,Sys w c0 K κ m b { s with own:=((n+1:Nat):Int) }→Calls Tryz.prog 125 #[.pointer (some ⟨b.ab,0,none⟩),.pointer (some ⟨K.kb,0,none⟩),opV (opD t)] w (Ans w κ a1 a2 a3 v d P)) :
  Calls Tryz.prog 25 #[.pointer (some ⟨b.ab,0,none⟩),.pointer (some ⟨K.kb,0,none⟩)] w (Ans w κ a1 a2 a3 v d P) :=
 step_within a1 a2 a3 v d n P w hs h1 hn hn2 hP (fun w2 κ2 hs2=>within_bears (opD t) a1 a2 a3 v d P w2 hs2 h2 hop hP (fun w3 κ3 hs3=>hc w3 κ3 hs3))
theorem Ta.done {a a':A} {r':List TOp} {m':Cor.St} {s':Ac.St} (h:Ta L q a (t :: r') m s y) (hq:Qt m s) (hx:Ex a t a') (hn:s'.next=s.next+1) (h1:s'.phase=1) (h2:s'.pc=0) (hl:s'.locals=locs a') (hme:Me a' m'.words) (hcm:Cm m' (tA a'.cnt)) (e1:s'.sense=s.sense) (e2:m'.se=m.se) (e3:m'.xs=m.xs) (e4:m'.s.en=m.s.en) (e5:m'.st=m.st) (e6:s'.status=s.status) (e7:m'.stats=m.stats):Sx L q m' s' y o :=
 .ab a' r' (h.next hx hn hl hme e1 e2 e3 e4) (.border h1 h2 hcm) ⟨e5.trans hq.st,e6.trans hq.s0,e7.trans hq.stats⟩
theorem ab_border {a:A} {r:List TOp} (hK:Kok K) (hbo:b.ops=L) (h:Mt w c0 K κ m b s yb y hb lg o) (ht:Ta L q a r m s y) (hq:Qt m s) (h1:s.phase=1) (h2:s.pc=0) (h3:Cm m (tA a.cnt)) :
  Calls Tryz.prog 10 #[.pointer (some ⟨hb,0,none⟩),.int .i64 1] w (StepOk L q (T+1) K b hb lg yb w κ 1):=by
 refine go_1 hK h (fun w1 κ1 hs=>step_border _ w1 hs h1 keep_t (fun w2 κ2 hs2=>(border_in w2 hs2 h2 (by rw [hq.st,hq.s0]) (by rw [hbo];have:=ht.short;omega)).mono ?_))
 rintro r2 w' ⟨hr,κ',he,hs'⟩
 exact ⟨hr,κ',he,_,_,hs',.ab a r (ht.like rfl rfl ht.me rfl rfl rfl rfl) (.start rfl rfl h3) ⟨hq.st,hq.s0,hq.stats⟩,⟨0,rfl,by omega⟩⟩
theorem ab_clear {a a':A} {r':List TOp} {j:Nat} (hK:Kok K) (hbo:b.ops=L) (hL:L.length≤100000) (h:Mt w c0 K κ m b s yb y hb lg o) (ht:Ta L q a (.clear j :: r') m s y) (hq:Qt m s) (hn:s.own=(n:Int)) (hnT:n≤T) (hT:T≤1000000) (h1:s.phase=2) (h2:s.at_=0) (h3:Cm m (tA a.cnt))
  (hj:j<4) (hx:Ex a (.clear j) a') (hl:(locs a).set j (true,noneW)=locs a') (hsame:a'.cnt=a.cnt∧a'.nx=a.nx∧a'.g=a.g) :
  Calls Tryz.prog 10 #[.pointer (some ⟨hb,0,none⟩),.int .i64 1] w (StepOk L q (T+1) K b hb lg yb w κ 1):=by
 have hsh:=ht.short
 refine go_1d hK h (true,noneW) (s.next:Int) ((n+1:Nat):Int) 0 ht.tick (fun w1 κ1 hs=>in_starts hs hn (by omega) h1 h2 (by rw [hbo];exact ht.op rfl) keep_t (fun w2 κ2 hs2=>(starts_clear _ j w2 hs2 rfl (fun x _=>sg_ok (fun j' e=>by injection e with e;omega) x) rfl (by show j<s.locals.length;rw [ht.loc];exact hj) (by show s.phase≠4;omega) (by show s.next≤100000;omega)).mono ?_))
 rintro r2 w' ⟨hr,κ',he,hs'⟩
 exact ⟨hr,κ',he,_,_,hs',ht.done hq hx rfl rfl rfl (by show s.locals.set j _=_;rw [ht.loc];exact hl) (ht.me.same hsame.1 hsame.2.1 hsame.2.2) (by rw [hsame.1];exact h3) rfl rfl rfl rfl rfl rfl rfl,⟨n+1,rfl,by omega⟩⟩
theorem ab_look {a:A} {r':List TOp} (hK:Kok K) (hbo:b.ops=L) (hL:L.length≤100000) (h:Mt w c0 K κ m b s yb y hb lg o) (ht:Ta L q a (.look1 :: r') m s y) (hq:Qt m s) (hn:s.own=(n:Int)) (hnT:n≤T) (hT:T≤1000000) (h1:s.phase=2) (h2:s.at_=0) (h3:Cm m (tA a.cnt)) :
  Calls Tryz.prog 10 #[.pointer (some ⟨hb,0,none⟩),.int .i64 1] w (StepOk L q (T+1) K b hb lg yb w κ 1):=by
 have hsh:=ht.short
 have hrw:RefW (optW a.g):=by
  cases hg:a.g with
  | none=>exact .inl rfl
  | some i=>exact .inr ⟨i,by have:=ht.ok.g i hg;omega,rfl⟩
 refine go_1d hK h (true,optW a.g) (s.next:Int) ((n+1:Nat):Int) 0 ht.tick (fun w1 κ1 hs=>in_starts hs hn (by omega) h1 h2 (by rw [hbo];exact ht.op rfl) keep_t (fun w2 κ2 hs2=>(starts_look _ 0 352 1 (optW a.g) w2 hs2 rfl (fun x _=>sg_ok (fun j' e=>by cases e) x) rfl (by decide) (by decide) hrw ht.me.glob rfl (by show 1<s.locals.length;rw [ht.loc];show 1<4;omega) (by show s.phase≠4;omega) (by show s.next≤100000;omega)).mono ?_))
 rintro r2 w' ⟨hr,κ',he,hs'⟩
 exact ⟨hr,κ',he,_,_,hs',ht.done hq .look1 rfl rfl rfl (by show s.locals.set 1 _=_;rw [ht.loc];rfl) (ht.me.same rfl rfl rfl) h3 rfl rfl rfl rfl rfl rfl rfl,⟨n+1,rfl,by omega⟩⟩
theorem ab_set {a:A} {r':List TOp} {v:Option Nat} (hK:Kok K) (hbo:b.ops=L) (hL:L.length≤100000) (h:Mt w c0 K κ m b s yb y hb lg o) (ht:Ta L q a (.set0 :: r') m s y) (hq:Qt m s) (hn:s.own=(n:Int)) (hnT:n≤T) (hT:T≤1000000) (h1:s.phase=2) (h2:s.at_=0) (h3:Cm m (tA a.cnt)) (hv:a.l0=some v) :
  Calls Tryz.prog 10 #[.pointer (some ⟨hb,0,none⟩),.int .i64 1] w (StepOk L q (T+1) K b hb lg yb w κ 1):=by
 have hsh:=ht.short
 refine go_1d hK h zeroVl (s.next:Int) ((n+1:Nat):Int) 0 ht.tick (fun w1 κ1 hs=>in_starts hs hn (by omega) h1 h2 (by rw [hbo];exact ht.op rfl) keep_t (fun w2 κ2 hs2=>(starts_set _ 0 352 0 (true,optW v) w2 hs2 rfl (fun x _=>sg_ok (fun j' e=>by cases e) x) rfl (by decide) (by decide) (by rw [ht.me.len];decide) rfl (by show s.locals[0]?=_;rw [ht.loc];show some (locV a.l0)=_;rw [hv];rfl) rfl (.inl hq.s0) (by show s.phase≠4;omega) (by show s.next≤100000;omega)).mono ?_))
 rintro r2 w' ⟨hr,κ',he,hs'⟩
 exact ⟨hr,κ',he,_,_,hs',ht.done hq (.set0 hv) rfl rfl rfl (by show s.locals=_;rw [ht.loc];rfl) ht.me.setg (h3.same rfl rfl) rfl rfl rfl rfl rfl rfl rfl,⟨n+1,rfl,by omega⟩⟩
theorem ab_load {a a':A} {r':List TOp} {i j ja:Nat} (hK:Kok K) (hbo:b.ops=L) (hL:L.length≤100000) (h:Mt w c0 K κ m b s yb y hb lg o) (ht:Ta L q a (t :: r') m s y) (hq:Qt m s) (hn:s.own=(n:Int)) (hnT:n≤T) (hT:T≤1000000) (h1:s.phase=2) (h2:s.at_=0) (h3:Cm m (tA a.cnt))
  (hk:(opD t).kind=3) (hb1:(opD t).b=(j:Int)) (hnn:(opD t).n=0) (hj:(locs a)[j]?=some (true,refW i)) (hi:44-a.cnt≤i) (hi2:i<44) (hx:Ex a t a') (hsame:a'.cnt=a.cnt∧a'.nx=a.nx∧a'.g=a.g) (hl:locs a'=(locs a).set ja (true,optW (a.nx i))) (hja:(opD t).a=(ja:Int)) (hja4:ja<4) (hcl:∀ j,t=.clear j→j<4) :
  Calls Tryz.prog 10 #[.pointer (some ⟨hb,0,none⟩),.int .i64 1] w (StepOk L q (T+1) K b hb lg yb w κ 1):=by
 have hsh:=ht.short
 obtain ⟨sv,hsv⟩:=hK.s2
 refine go_1 hK h (fun w1 κ1 hs=>in_starts hs hn (by omega) h1 h2 (by rw [hbo];exact ht.op rfl) keep_t (fun w2 κ2 hs2=>(starts_load _ i j 0 0 1 _ w2 hs2 hk (fun x _=>sg_ok hcl x) hb1 hnn (by show s.locals[j]?=_;rw [ht.loc];exact hj) (by omega) (ht.me.obj i hi hi2).w1 hsv rfl (by omega) (by show (0:Nat)<2;omega) (by show (2:Nat)≤40;omega) (by omega) (by show (i:Int)<44;omega) (by omega) rfl hK.few).mono ?_))
 rintro r2 w' ⟨hr,κ',he,fv,hs'⟩
 exact ⟨hr,κ',he,_,_,hs',.ab a _ (ht.like rfl rfl ht.me rfl rfl rfl rfl) (.rd t a' r' i ja rfl h1 rfl rfl rfl hi hi2 hx hsame hl hja hja4 hk h3) ⟨hq.st,hq.s0,hq.stats⟩,⟨n+1,rfl,by omega⟩⟩
theorem ab_store {a a':A} {r':List TOp} {i j j2:Nat} {v:Option Nat} (hK:Kok K) (hbo:b.ops=L) (hL:L.length≤100000) (h:Mt w c0 K κ m b s yb y hb lg o) (ht:Ta L q a (t :: r') m s y) (hq:Qt m s) (hn:s.own=(n:Int)) (hnT:n≤T) (hT:T≤1000000) (h1:s.phase=2) (h2:s.at_=0) (h3:Cm m (tA a.cnt))
  (hk:(opD t).kind=4) (ha1:(opD t).a=(j:Int)) (hb1:(opD t).b=(j2:Int)) (hnn:(opD t).n=0) (hj:(locs a)[j]?=some (true,refW i)) (hj2:(locs a)[j2]?=some (true,optW v)) (hi:44-a.cnt≤i) (hi2:i<44) (hx:Ex a t a') (hsame:a'={ a with nx:=upd a.nx i v }) (hcl:∀ j,t=.clear j→j<4) :
  Calls Tryz.prog 10 #[.pointer (some ⟨hb,0,none⟩),.int .i64 1] w (StepOk L q (T+1) K b hb lg yb w κ 1):=by
 have hsh:=ht.short
 obtain ⟨sv,hsv⟩:=hK.s2
 refine go_1 hK h (fun w1 κ1 hs=>in_starts hs hn (by omega) h1 h2 (by rw [hbo];exact ht.op rfl) keep_t (fun w2 κ2 hs2=>(starts_store _ i j 0 0 1 j2 (optW v) _ w2 hs2 hk (fun x _=>sg_ok hcl x) ha1 hb1 (by show s.locals[j2]?=_;rw [ht.loc];exact hj2) (.inl hq.s0) hnn (by show s.locals[j]?=_;rw [ht.loc];exact hj) (by omega) (ht.me.obj i hi hi2).w1 hsv rfl (by omega) (by show (0:Nat)<2;omega) (by show (2:Nat)≤40;omega) (by omega) (by show (i:Int)<44;omega) (by omega) rfl hK.few).mono ?_))
 rintro r2 w' ⟨hr,κ',he,fv,hs'⟩
 exact ⟨hr,κ',he,_,_,hs',.ab a _ (ht.like rfl rfl ht.me rfl rfl rfl rfl) (.wt t a' r' i v rfl h1 rfl rfl hi hi2 rfl hx hsame h3) ⟨hq.st,hq.s0,hq.stats⟩,⟨n+1,rfl,by omega⟩⟩
theorem ab_rd {a a':A} {r':List TOp} {i ja:Nat} (hK:Kok K) (hbo:b.ops=L) (hL:L.length≤100000) (h:Mt w c0 K κ m b s yb y hb lg o) (ht:Ta L q a (t :: r') m s y) (hq:Qt m s) (hn:s.own=(n:Int)) (hnT:n≤T) (hT:T≤1000000) (h1:s.phase=2) (h2:s.at_=2) (hf:s.ref=true) (ha:s.addr=((8 * i+2:Nat):Int)) (hi:44-a.cnt≤i) (hi2:i<44) (hx:Ex a t a') (hsame:a'.cnt=a.cnt∧a'.nx=a.nx∧a'.g=a.g) (hl:locs a'=(locs a).set ja (true,optW (a.nx i))) (hja:(opD t).a=(ja:Int)) (hja4:ja<4) (h3:Cm m (tA a.cnt)) :
  Calls Tryz.prog 10 #[.pointer (some ⟨hb,0,none⟩),.int .i64 1] w (StepOk L q (T+1) K b hb lg yb w κ 1):=by
 have hsh:=ht.short
 have hrw:RefW (optW (a.nx i)):=by
  cases hg:a.nx i with
  | none=>exact .inl rfl
  | some k=>exact .inr ⟨k,by have:=ht.ok.nx i k hg;omega,rfl⟩
 refine go_1d hK h (true,optW (a.nx i)) (s.next:Int) ((n+1:Nat):Int) 0 ht.tick (fun w1 κ1 hs=>in_reads hs hn (by omega) h1 h2 (by rw [hbo];exact ht.op rfl) keep_t (fun w2 κ2 hs2=>(reads_ref (opD t) _ ja _ w2 hs2 hrw ha (ht.me.obj i hi hi2).w2 hf hja (by show ja<s.locals.length;rw [ht.loc];exact hja4) (by show s.phase≠4;omega) (by show s.next≤100000;omega)).mono ?_))
 rintro r2 w' ⟨hr,κ',he,hs'⟩
 exact ⟨hr,κ',he,_,_,hs',ht.done hq hx rfl rfl rfl (by show s.locals.set ja _=_;rw [ht.loc,hl]) (ht.me.same hsame.1 hsame.2.1 hsame.2.2) (by rw [hsame.1];exact h3) rfl rfl rfl rfl rfl rfl rfl,⟨n+1,rfl,by omega⟩⟩
theorem ab_wt {a a':A} {r':List TOp} {i:Nat} {v:Option Nat} (hK:Kok K) (hbo:b.ops=L) (hL:L.length≤100000) (h:Mt w c0 K κ m b s yb y hb lg o) (ht:Ta L q a (t :: r') m s y) (hq:Qt m s) (hn:s.own=(n:Int)) (hnT:n≤T) (hT:T≤1000000) (h1:s.phase=2) (h2:s.at_=6) (ha:s.addr=((8 * i+2:Nat):Int)) (hi:44-a.cnt≤i) (hi2:i<44) (hw:s.w=optW v) (hx:Ex a t a') (hsame:a'={ a with nx:=upd a.nx i v }) (h3:Cm m (tA a.cnt)) :
  Calls Tryz.prog 10 #[.pointer (some ⟨hb,0,none⟩),.int .i64 1] w (StepOk L q (T+1) K b hb lg yb w κ 1):=by
 have hsh:=ht.short
 subst hsame
 refine go_1d hK h zeroVl (s.next:Int) ((n+1:Nat):Int) 0 ht.tick (fun w1 κ1 hs=>in_stores hs hn (by omega) h1 h2 (by rw [hbo];exact ht.op rfl) keep_t (fun w2 κ2 hs2=>(stores_write (8 * i+2) w2 hs2 h2 ha (by rw [ht.me.len];omega) (by show s.phase≠4;omega) (by show s.next≤100000;omega)).mono ?_))
 rintro r2 w' ⟨hr,κ',he,hs'⟩
 exact ⟨hr,κ',he,_,_,hs',ht.done hq hx rfl rfl rfl (by show s.locals=_;rw [ht.loc];rfl) (by show Me _ (m.words.set (8 * i+2) s.w);rw [hw];exact ht.me.store hi hi2) (h3.same rfl rfl) rfl rfl rfl rfl rfl rfl rfl,⟨n+1,rfl,by omega⟩⟩
end
end Go.Proofs.YtpgdiceeimehiaaGreat.Law
namespace Go.Proofs.YtpgdiceeimehiaaGreat.Law
open Go.RowKit
open Ac (Vl OpD CT zeroVl opV)
open Opn (SgOk Made kn)
section
variable {w:World} {K:Cor.Q} {κ:Nat→Nat} {m:Cor.St} {b:Ac.B} {s:Ac.St} {yb hb lg:Nat} {y:Cyc.St} {o:Option Tr.St} {L:List OpD} {q T n:Nat}
theorem Cm.ext {tf tg:Nat→Tab.One} (h:Cm m tf) (he:∀ i,i<44→tf i=tg i) (h2:∀ i,(tg i).st≤2):Cm m tg :=
 ⟨h.l.trans (tb_ext he),h.fr.trans (tb_ext fun i hi=>by rw [he i hi]),h.lost,h.u,h.kept,h.sx,h.forced,h2⟩
theorem tA_le (k i:Nat):(tA k i).st≤2:=by unfold tA;split <;> decide
theorem up_le {tf:Nat→Tab.One} {j:Nat} {v:Tab.One} (h:∀ i,(tf i).st≤2) (hv:v.st≤2) (i:Nat):(up tf j v i).st≤2:=by
 unfold up;split
 ·exact hv
 ·exact h i
theorem Cm.born {tf:Nat→Tab.One} {m':Cor.St} {i:Nat} (h:Cm m tf) (hl:m'.s.l=m.s.l.set i { tf i with head:=true }) (hf:m'.s.fr=m.s.fr) (h1:m'.lost=m.lost) (h2:m'.s.u=m.s.u) (h3:m'.s.kept=m.s.kept) (h4:m'.s.sx=m.s.sx) (h5:m'.s.forced=m.s.forced):Cm m' (up tf i { tf i with head:=true }):=by
 refine ⟨by rw [hl,h.l,tb_set],?_,h1.trans h.lost,by rw [h2];exact h.u,h3.trans h.kept,h4.trans h.sx,h5.trans h.forced,up_le h.st2 (h.st2 i)⟩
 rw [hf,h.fr]
 refine tb_ext (fun j _=>?_)
 unfold up
 by_cases e:j=i
 ·rw [if_pos e,e]
 ·rw [if_neg e]
theorem cnt_A {k:Nat} (h:Cm m (tA k)):Po.cnt m.s.fr=44-k:=by rw [h.fr,tA_st,cnt_lt (by omega)]
theorem made_2 (hK:Kok K):∃ sv,K.csh[0]?=some ⟨false,sv,bs2⟩∧Made c0 K.csh (opD .new0) 0 ⟨false,sv,bs2⟩:=by
 obtain ⟨sv,hsv⟩:=hK.s2
 exact ⟨sv,hsv,rfl,hsv,rfl,by show (2:Nat)≤1000000;omega,by show (0:Int)≤sizeI false 2 0;decide,by show sizeI false 2 0≤(44:Int);decide,by show spineI false 2 0≤(0:Int);decide⟩
theorem made_0 (hK:Kok K):∃ sv,K.csh[1]?=some ⟨false,sv,bs0⟩∧Made c0 K.csh (opD .big) 1 ⟨false,sv,bs0⟩:=by
 obtain ⟨sv,hsv⟩:=hK.s0
 have hl:bs0.length=40:=by simp [bs0]
 refine ⟨sv,hsv,rfl,hsv,rfl,?_,?_,?_,?_⟩
 ·show bs0.length≤1000000;omega
 ·show (0:Int)≤sizeI false bs0.length 0;rw [hl];decide
 ·show sizeI false bs0.length 0≤(44:Int);rw [hl];decide
 ·show spineI false bs0.length 0≤(0:Int);rw [hl];decide
theorem col_0 (h1:s.sense=false) (h2:s.status=0):col s=false:=by unfold col;rw [h1,h2];rfl
theorem ab_new {a:A} {r':List TOp} (hK:Kok K) (hbo:b.ops=L) (hb0:b.t=0) (h:Mt w c0 K κ m b s yb y hb lg o) (ht:Ta L q a (.new0 :: r') m s y) (hq:Qt m s) (hn:s.own=(n:Int)) (hnT:n≤T) (hT:T≤1000000) (h1:s.phase=2) (h2:s.at_=0) (h3:Cm m (tA a.cnt)) (hc:a.cnt<44) :
  Calls Tryz.prog 10 #[.pointer (some ⟨hb,0,none⟩),.int .i64 1] w (StepOk L q (T+1) K b hb lg yb w κ 1):=by
 obtain ⟨sv,hsv,hmade⟩:=made_2 hK
 have hlow:=grant_low m.s.l m.s.fr [43-a.cnt] (col s) (c0.cache.toNat-m.s.sx.length) (by rw [h3.sx];rfl)
 have hcol:=col_0 ht.sn hq.s0
 refine go_1 hK h (fun w1 κ1 hs=>in_starts hs hn (by omega) h1 h2 (by rw [hbo];exact ht.op rfl) keep_t (fun w2 κ2 hs2=>(starts_new (opD .new0) 0 _ 1 [43-a.cnt] true w2 hs2 rfl (fun x _=>sg_ok (fun j' e=>by cases e) x) hmade sz2 hb0 hK.ns (by omega) (by rw [h3.sx];decide) ht.en (by rw [h3.l,h3.fr,tb_len,tb_len]) (by rw [cnt_A h3];omega) (by rw [h3.fr,tA_st,take_one (by omega) (by omega)];congr 1;omega) ⟨⟨_,hsv,rfl,rfl⟩,sz2,fun x hx=>by simp at hx;subst hx;show ((43-a.cnt:Nat):Int)<44;omega,by simp,sd_one _,by show (2:Nat)≤40;omega,by omega,by simp⟩).mono ?_))
 rintro r2 w' ⟨hr,κ',he,sv',wv',tv',hs'⟩
 have hcm:=h3.grant [43-a.cnt] (col s) { m with s:={ m.s with l:=Sp.setAll (Sp.setAll m.s.l [43-a.cnt] 2 (col s)) (Po.low (Po.off m.s.fr [43-a.cnt]) (c0.cache.toNat-m.s.sx.length)) 1 (col s),fr:=Po.off (Po.off m.s.fr [43-a.cnt]) (Po.low (Po.off m.s.fr [43-a.cnt]) (c0.cache.toNat-m.s.sx.length)),sv:=sv',sx:=m.s.sx++Po.natI (Po.low (Po.off m.s.fr [43-a.cnt]) (c0.cache.toNat-m.s.sx.length)) } } hlow.1 hlow.2.1 rfl rfl rfl ((congrArg (m.s.sx++·) hlow.2.2).trans (List.append_nil _)) rfl
 have hcm2:=hcm.ext (tg:=up (tA a.cnt) (43-a.cnt) ⟨2,false,false⟩) (fun i hi=>by unfold up;rw [hcol];simp) (up_le (tA_le _) (by show 2≤2;omega))
 exact ⟨hr,κ',he,_,_,hs',.ab a _ (ht.like rfl rfl ht.me rfl rfl rfl rfl) (.wr r' 0 rfl hc rfl rfl (by omega) rfl (Done.zero _ _) rfl hcm2) ⟨hq.st,hq.s0,hq.stats⟩,⟨n+1,rfl,by omega⟩⟩
theorem newW_get (i j:Nat) (hj:j<8):∃ z,(newW i)[j]?=some (((8 * i+j:Nat):Int),z):=by
 have h:=obj_get 0 true [i] bs2 1 0 j (by omega) hj
 rw [Nat.mul_zero,Nat.zero_add] at h
 exact ⟨_,h⟩
theorem drop_get {α:Type} {l:List α} {j:Nat} {x:α} (h:l[j]?=some x):l.drop j=x :: l.drop (j+1):=by
 obtain ⟨hj,e⟩:=List.getElem?_eq_some_iff.1 h
 rw [List.drop_eq_getElem_cons hj,e]
theorem newW_len (i:Nat):(newW i).length=8:=Pl.objJ_len _ _ _ _ _
theorem ab_make {a:A} {r':List TOp} {j:Nat} (hK:Kok K) (hbo:b.ops=L) (h:Mt w c0 K κ m b s yb y hb lg o) (ht:Ta L q a (.new0 :: r') m s y) (hq:Qt m s) (hn:s.own=(n:Int)) (hnT:n≤T) (hT:T≤1000000) (h1:s.phase=2) (h2:s.at_=7) (hc:a.cnt<44) (hj:j<8) (hw:s.writes=(newW (43-a.cnt)).drop j) (hd:Done (newW (43-a.cnt)) j m.words) (hg:s.got=Pl.natI [43-a.cnt]) (h3:Cm m (up (tA a.cnt) (43-a.cnt) ⟨2,false,false⟩)) :
  Calls Tryz.prog 10 #[.pointer (some ⟨hb,0,none⟩),.int .i64 1] w (StepOk L q (T+1) K b hb lg yb w κ 1):=by
 obtain ⟨z,hz⟩:=newW_get (43-a.cnt) j hj
 have hdr:=drop_get hz
 have hdone:Done (newW (43-a.cnt)) (j+1) (m.words.set (8 * (43-a.cnt)+j) z):=by
  have:=hd.step hz (by show (((8 * (43-a.cnt)+j:Nat):Int)).toNat<_;rw [ht.me.len];omega) (fun k x hk hx=>obj_uniq (xs:=[43-a.cnt]) (by simp) hx hz (by omega))
  exact this
 refine go_1 hK h (fun w1 κ1 hs=>in_makes hs hn (by omega) h1 h2 (by rw [hbo];exact ht.op rfl) keep_t (fun w2 κ2 hs2=>(makes_any (8 * (43-a.cnt)+j) z ((newW (43-a.cnt)).drop (j+1)) w2 hs2 (hw.trans hdr) (by rw [ht.me.len];omega) h2 _ rfl).mono ?_))
 rintro r2 w' ⟨hr,κ',he,wv',hs'⟩
 refine ⟨hr,κ',he,_,_,hs',.ab a _ (ht.like rfl rfl (ht.me.other (by omega)) rfl rfl rfl rfl) ?_ ⟨hq.st,hq.s0,hq.stats⟩,⟨n+1,rfl,by omega⟩⟩
 by_cases e:j+1<8
 ·refine .wr r' (j+1) rfl hc h1 (if_neg (fun h=>?_)) e rfl hdone hg (h3.same rfl rfl)
  have:=congrArg List.length h
  rw [List.length_drop,newW_len] at this
  simp at this
  omega
 ·obtain rfl:j=7:=by omega
  have hnil:(newW (43-a.cnt)).drop (7+1)=[]:=List.drop_eq_nil_of_le (by rw [newW_len];omega)
  exact .bo r' rfl hc h1 (by show (if (newW (43-a.cnt)).drop (7+1)=[] then (8:Int) else 7)=8;rw [if_pos hnil]) hdone hg (h3.same rfl rfl)
theorem ab_born {a:A} {r':List TOp} (hK:Kok K) (hbo:b.ops=L) (hL:L.length≤100000) (h:Mt w c0 K κ m b s yb y hb lg o) (ht:Ta L q a (.new0 :: r') m s y) (hq:Qt m s) (hn:s.own=(n:Int)) (hnT:n≤T) (hT:T≤1000000) (h1:s.phase=2) (h2:s.at_=8) (hc:a.cnt<44) (hd:Done (newW (43-a.cnt)) 8 m.words) (hg:s.got=Pl.natI [43-a.cnt]) (h3:Cm m (up (tA a.cnt) (43-a.cnt) ⟨2,false,false⟩)) :
  Calls Tryz.prog 10 #[.pointer (some ⟨hb,0,none⟩),.int .i64 1] w (StepOk L q (T+1) K b hb lg yb w κ 1):=by
 have hsh:=ht.short
 have hme:(up (tA a.cnt) (43-a.cnt) ⟨2,false,false⟩) (43-a.cnt)=⟨2,false,false⟩:=up_me _ _ _
 refine go_1d hK h (true,refW (43-a.cnt)) (s.next:Int) ((n+1:Nat):Int) 0 ht.tick (fun w1 κ1 hs=>in_bears hs hn (by omega) h1 h2 (by rw [hbo];exact ht.op rfl) keep_t (fun w2 κ2 hs2=>(bears_any (43-a.cnt) 0 [] ⟨2,false,false⟩ (opD .new0) w2 hs2 hg (by rw [h3.get (by omega),hme]) rfl rfl (by omega) rfl (by show 0<s.locals.length;rw [ht.loc];show 0<4;omega) (by show s.phase≠4;omega) (by show s.next≤100000;omega)).mono ?_))
 rintro r2 w' ⟨hr,κ',he,hs'⟩
 have hcm:=h3.born (m':={ m with s:={ m.s with l:=m.s.l.set (43-a.cnt) { (⟨2,false,false⟩:Tab.One) with head:=true } } }) (i:=43-a.cnt) (by rw [hme]) rfl rfl rfl rfl rfl rfl
 refine ⟨hr,κ',he,_,_,hs',ht.done hq (.new0 hc) rfl rfl rfl (by show s.locals.set 0 _=_;rw [ht.loc];rfl) (ht.me.new hc (two_done hd) _) (hcm.ext (fun i hi=>?_) (tA_le _)) rfl rfl rfl rfl rfl rfl rfl,⟨n+1,rfl,by omega⟩⟩
 rw [hme]
 by_cases e:i=43-a.cnt
 ·rw [e,up_me]
  show _=tA (a.cnt+1) (43-a.cnt)
  unfold tA
  rw [if_neg (by omega)]
 ·rw [up_ne e,up_ne e]
  show tA a.cnt i=tA (a.cnt+1) i
  unfold tA
  by_cases e2:i<44-(a.cnt+1)
  ·rw [if_pos e2,if_pos (by omega)]
  ·rw [if_neg e2,if_neg (by omega)]
theorem out_step {a:A} {r:List TOp} (hK:Kok K) (hb0:b.t=0) (h:Mt w c0 K κ m b s yb y hb lg o) (ht:Ta L q a r m s y) (h1:s.phase=0) (hc:a.cnt=0) (h3:Cm m (tA 0)) (hst:m.st=0) (hss:m.stats=[-1]) (ho:OwnOk s T) :
  Calls Tryz.prog 10 #[.pointer (some ⟨hb,0,none⟩),.int .i64 1] w (StepOk L q (T+1) K b hb lg yb w κ 1):=by
 obtain ⟨n,hn,hnT⟩:=ho
 refine go_1 hK h (fun w1 κ1 hs=>(step_out w1 hs h1 (by rw [hb0,hss];rfl)).mono ?_)
 rintro r2 w' ⟨hr,κ',he,hs'⟩
 refine ⟨hr,κ',he,_,_,hs',.ab a r ⟨ht.drop,ht.run,ht.ok,ht.me,ht.loc,ht.se,ht.se,ht.xs,ht.en,ht.y0⟩ (.border rfl rfl (by rw [hc];exact h3.same rfl rfl)) ⟨hst,hst,?_⟩,⟨n,hn,by omega⟩⟩
 show m.stats.set b.t m.st=[0]
 rw [hb0,hss,hst]
 rfl
theorem Run.nil_eq {a e:A} (h:Run a [] e):e=a:=by cases h;rfl
theorem Ta.tb {a:A} (ht:Ta L q a [] m s y) (h3:Cm m (tA a.cnt)):∃ l,Tb L q l a.nx a.g m s∧l.length≤a.cnt∧(∀ i∈l,Om a.cnt i)∧a.cnt≤44:=by
 obtain ⟨e,l,n,hr,hli,hl,hl0,hl1⟩:=ht.run
 obtain rfl:=hr.nil_eq
 have hsh:=ht.short
 have hin:∀ i∈l,Om e.cnt i:=fun i hi=>by have:=hli.in_ i hi;rw [hli.cn];exact this
 have hb:=congrArg (fun l=>l[0]?) ht.drop
 have hk:=congrArg (fun l=>l[1]?) ht.drop
 simp only [List.getElem?_drop,Nat.add_zero] at hb hk
 refine ⟨l,⟨⟨ht.me.len,fun i hi=>(hin i hi).2,fun i hi=>ht.me.obj i (hin i hi).1 (hin i hi).2,fun i hi=>⟨_,by rw [h3.get (hin i hi).2,tA_get (hin i hi)]⟩,fun i hi j hj=>hli.ch.next i hi j hj,ht.me.glob,fun j hj=>hli.ch.mem j hj⟩,hli.nd,hl,hli.ch,hb.trans rfl,hk.trans rfl,by simpa using hsh,⟨e.l2,hli.e2,?_⟩⟩,?_,hin,ht.ok.c⟩
 ·rw [ht.loc];unfold locs;rw [hl0,hl1];rfl
 ·have h1:=count_out (n:=44) hli.nd (fun i hi=>(hin i hi).2)
  have h2:(List.range 44).countP (fun i=>decide (i<44-e.cnt))≤(List.range 44).countP (fun i=>decide (i ∉ l)):=List.countP_mono_left (fun x _ hp=>by
   simp only [decide_eq_true_eq] at hp ⊢
   intro hm
   have:=(hin x hm).1
   omega)
  have h4:=cnt_lt (n:=44) (q:=44-e.cnt) (by omega)
  rw [cnt_tb] at h4
  have h5:=nd_le 44 l hli.nd (fun i hi=>(hin i hi).2)
  have h6:=ht.ok.c
  omega
theorem Tb.like {l:List Nat} {nx:Nat→Option Nat} {g:Option Nat} {m':Cor.St} {s':Ac.St} (h:Tb L q l nx g m s) (al:Al m' (·∈ l) nx g) (h1:s'.next=s.next) (h2:s'.locals=s.locals):Tb L q l nx g m' s' :=
 ⟨al,h.nd,h.len,h.ch,by rw [h1];exact h.big,by rw [h1];exact h.kd,by rw [h1];exact h.all,by rw [h2];exact h.loc⟩
theorem Al.same {O:Nat→Prop} {nx:Nat→Option Nat} {g:Option Nat} {m':Cor.St} (h:Al m O nx g) (h1:m'.words=m.words) (ht:∀ i,O i→∃ sg,m'.s.l[i]?=some ⟨2,true,sg⟩):Al m' O nx g :=
 ⟨by rw [h1];exact h.len,h.lt,fun i hi=>by rw [h1];exact h.obj i hi,ht,h.cl,by rw [h1];exact h.gw,h.gO⟩
theorem Al.set {O:Nat→Prop} {nx:Nat→Option Nat} {g:Option Nat} {m':Cor.St} {j:Nat} {z:Nat × Nat} (h:Al m O nx g) (h1:m'.words=m.words.set j z) (h2:m'.s=m.s) (hj:¬ O (j / 8)) (hj2:j<352):Al m' O nx g :=
 ⟨by rw [h1,List.length_set];exact h.len,h.lt,fun i hi=>by rw [h1];exact (h.obj i hi).set (fun e=>hj (e ▸ hi)),fun i hi=>by rw [h2];exact h.tab i hi,h.cl,by rw [h1,List.getElem?_set_ne (by omega)];exact h.gw,h.gO⟩
theorem Tk.alt {l:List Nat} {xs:List Nat} {tf:Nat→Tab.One} {m':Cor.St} (h:Tk l xs m tf) (hc:Cm m' tf):Tk l xs m' tf:=⟨hc,h.nd,h.six,h.out,h.tk⟩
theorem Tk.of {l:List Nat} {xs:List Nat} {tf:Nat→Tab.One} {m':Cor.St} {cl:Bool} (h3:Cm m tf) (hc:Cm m' (fun i=>if i∈xs then ⟨2,false,cl⟩ else tf i)) (hx:xs.Nodup) (h6:xs.length=6) (hf:∀ x∈xs,m.s.fr[x]?=some true) (hl:∀ i∈l,(tf i).st=2):Tk l xs m' (fun i=>if i∈xs then ⟨2,false,cl⟩ else tf i):=by
 refine ⟨hc,hx,h6,fun x hx=>?_,fun x hx=>?_⟩
 ·have h1:=hf x hx
  rw [h3.fr] at h1
  obtain ⟨h2,h4⟩:=tb_some h1
  refine ⟨fun hl2=>?_,h2⟩
  have h5:=hl x hl2
  rw [h5] at h4
  exact absurd h4 (by decide)
 ·show (if x∈xs then _ else _:Tab.One).st=2∧(if x∈xs then _ else _:Tab.One).head=false
  rw [if_pos hx]
  exact ⟨rfl,rfl⟩
theorem big_ok (hK:Kok K) {xs:List Nat} (hx:xs.Nodup) (h6:xs.length=6) (h44:∀ x∈xs,x<44):∃ sv,K.csh[1]?=some ⟨false,sv,bs0⟩∧ObjOk c0 K.csh 1 bs0 xs (Sk.sideB (Pl.natI xs)):=by
 obtain ⟨sv,hsv⟩:=hK.s0
 exact ⟨sv,hsv,⟨⟨_,hsv,rfl,rfl⟩,by rw [h6];decide,fun x hx=>by have:=h44 x hx;show (x:Int)<44;omega,hx,rfl,by decide,by omega,by omega⟩⟩
theorem ab_big {a:A} (hK:Kok K) (hbo:b.ops=L) (hb0:b.t=0) (hq1:1≤q) (h:Mt w c0 K κ m b s yb y hb lg o) (ht:Ta L q a [] m s y) (hq:Qt m s) (hn:s.own=(n:Int)) (hnT:n≤T) (hT:T≤1000000) (h1:s.phase=2) (h2:s.at_=0) (h3:Cm m (tA a.cnt)) :
  Calls Tryz.prog 10 #[.pointer (some ⟨hb,0,none⟩),.int .i64 1] w (StepOk L q (T+1) K b hb lg yb w κ 1):=by
 obtain ⟨l,htb,hll,hin,h44⟩:=ht.tb h3
 obtain ⟨sv,hsv,hmade⟩:=made_0 hK
 have hcn:=cnt_A h3
 by_cases hfit:6≤44-a.cnt
 ·obtain ⟨xs,hxs⟩:∃ xs,Po.take m.s.fr 6=xs:=⟨_,rfl⟩
  obtain ⟨hx1,hx2,hx3⟩:=take_spec (l:=m.s.fr) (k:=6) (by omega) (by rw [hcn];exact hfit)
  rw [hxs] at hx1 hx2 hx3
  have h44x:∀ x∈xs,x<44:=fun x hx=>by
   have h5:=hx2 x hx
   rw [h3.fr] at h5
   exact (tb_some h5).1
  obtain ⟨sv2,hsv2,hob⟩:=big_ok hK hx1 hx3 h44x
  have hlow:=grant_low m.s.l m.s.fr xs (col s) (c0.cache.toNat-m.s.sx.length) (by rw [h3.sx];rfl)
  refine go_1 hK h (fun w1 κ1 hs=>in_starts hs hn (by omega) h1 h2 (by rw [hbo];exact htb.big) keep_t (fun w2 κ2 hs2=>(starts_new (opD .big) 1 _ 6 xs (Sk.sideB (Pl.natI xs)) w2 hs2 rfl (fun x _=>sg_ok (fun j' e=>by cases e) x) hmade sz0 hb0 hK.ns (by omega) (by rw [h3.sx];decide) ht.en (by rw [h3.l,h3.fr,tb_len,tb_len]) (by rw [hcn];exact hfit) hxs hob).mono ?_))
  rintro r2 w' ⟨hr,κ',he,sv',wv',tv',hs'⟩
  have hlt:=fun i (hi:i∈l)=>tA_get (hin i hi)
  have hcm:Cm _ _:=h3.grant xs (col s) { m with s:={ m.s with l:=Sp.setAll (Sp.setAll m.s.l xs 2 (col s)) (Po.low (Po.off m.s.fr xs) (c0.cache.toNat-m.s.sx.length)) 1 (col s),fr:=Po.off (Po.off m.s.fr xs) (Po.low (Po.off m.s.fr xs) (c0.cache.toNat-m.s.sx.length)),sv:=sv',sx:=m.s.sx++Po.natI (Po.low (Po.off m.s.fr xs) (c0.cache.toNat-m.s.sx.length)) } } hlow.1 hlow.2.1 rfl rfl rfl ((congrArg (m.s.sx++·) hlow.2.2).trans (List.append_nil _)) rfl
  have htk:=Tk.of (l:=l) h3 hcm hx1 hx3 hx2 (fun i hi=>by rw [hlt i hi])
  refine ⟨hr,κ',he,_,_,hs',.bw l a.nx a.g xs (Sk.sideB (Pl.natI xs)) 0 _ (htb.like (htb.al.same rfl (fun i hi=>?_)) rfl rfl) htk rfl rfl (by omega) (by rw [← hx3];rfl) (Done.zero _ _) rfl ht.en ⟨hq.st,hq.s0,hq.stats⟩ ⟨.inl ⟨ht.y0.1,by rw [ht.y0.2.1,ht.y0.2.2.1]⟩,(fun e he=>by rw [show _=([]:List Ln.En) from ht.en] at he;simp at he),by have:=ht.y0.2.1;omega⟩ (by have:=htb.len;omega),⟨n+1,rfl,by omega⟩⟩
  refine ⟨false,?_⟩
  refine (hcm.get (htb.al.lt i hi)).trans ?_
  show some (if i∈xs then _ else _)=_
  rw [if_neg (fun hx=>(htk.out i hx).1 hi),hlt i hi]
 ·refine go_1 hK h (fun w1 κ1 hs=>in_starts hs hn (by omega) h1 h2 (by rw [hbo];exact htb.big) keep_t (fun w2 κ2 hs2=>(starts_newwait (opD .big) 1 _ 6 w2 hs2 rfl (fun x _=>sg_ok (fun j' e=>by cases e) x) hmade sz0 hb0 hK.ns (by omega) (by rw [h3.sx];decide) ht.en (by rw [h3.l,h3.fr,tb_len,tb_len]) (by rw [hcn];exact hfit) (by omega)).mono ?_))
  rintro r2 w' ⟨hr,κ',he,lv',hs'⟩
  have hcm:Cm { m with s:={ m.s with lv:=lv',en:=[⟨0,6,0,0,0,-1,.slice none 0 0,[],false⟩] } } (tM (fun i=>!decide (i<44-a.cnt)) true (l.take 0)):=by
   have h4:Cm { m with s:={ m.s with lv:=lv',en:=[⟨0,6,0,0,0,-1,.slice none 0 0,[],false⟩] } } (tA a.cnt):=⟨h3.l,h3.fr,h3.lost,h3.u,h3.kept,h3.sx,h3.forced,h3.st2⟩
   refine h4.ext (fun i hi=>?_) (fun i=>?_)
   ·unfold tA tM
    by_cases e:i<44-a.cnt
    ·simp [e]
    ·simp [e]
   ·unfold tM;split
    ·show 2≤2;omega
    ·show 0≤2;omega
  refine ⟨hr,κ',he,_,_,hs',.wait l a.nx a.g (fun i=>!decide (i<44-a.cnt)) true 0 0 true _ ⟨htb.like (htb.al.same rfl htb.al.tab) rfl rfl,hq1,hcm,fun i hi=>?_,rfl,⟨rfl,rfl,rfl,rfl⟩,rfl,⟨?_,?_,?_,.inl rfl,fun _=>?_⟩⟩ (.idle ht.y0.1 ⟨.inl rfl,⟨ht.y0.2.1,ht.y0.2.2.1⟩,rfl,by rw [ht.y0.2.2.2.1];rfl⟩ rfl ht.xs hq.st rfl),⟨n+1,rfl,by omega⟩⟩
  ·have:=(hin i hi).1
   simp
   omega
  ·show m.stats=[s.status];rw [hq.stats,hq.s0]
  ·show 0≤s.status∧s.status≤4;rw [hq.s0];decide
  ·show 0≤m.st∧m.st≤4;rw [hq.st];decide
  ·show s.status=m.st;rw [hq.st,hq.s0]
end
end Go.Proofs.YtpgdiceeimehiaaGreat.Law
