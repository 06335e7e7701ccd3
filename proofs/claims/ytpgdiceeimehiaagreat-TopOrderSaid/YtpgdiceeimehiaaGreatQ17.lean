/- Part 17 of the proof that spotop.TopOrder returns true for all arguments and leaves what was there as it was. -/
import Derived.Maps.RangeRun
import Derived.Maps.Range
import Derived.Test.YtpgdiceeimehiaaGreatQ03
import Derived.Test.YtpgdiceeimehiaaGreatQ16
set_option maxRecDepth 100000
set_option maxHeartbeats 16000000
open Go.Lib (hid)
namespace Go.Proofs.YtpgdiceeimehiaaGreat
open Go.RowKit
open Go.ChangeMaps (setBlock)
theorem kd:Maps.Keyed Tryz.prog 3:=Maps.int_keyed Tryz.underlying3
def MetR (w:World) (M:Nat) (ks:List Nat):Prop :=
 ∃ es clock,w.heap[M]?=some (.map es clock)∧es.toList.map (fun e=>(e.key,e.val))=ks.map (fun (k:Nat)=>(Value.int .i64 (k:Int),Value.bool true))∧∀ k∈ks,k≤1000000
theorem MetR.only {w w':World} {S:Nat→Prop} {M:Nat} {ks:List Nat} (h:MetR w M ks) (ho:Only S w w') (hn:¬ S M):MetR w' M ks:=by
 obtain ⟨es,clock,h1,h2⟩:=h
 exact ⟨es,clock,ho.blk h1 hn,h2⟩
theorem keyN (k:Nat) (hk:k≤1000000):keyOf Tryz.prog 3 (.int .i64 (k:Int))=some (.int .i64 (k:Int)):=Maps.keyOf_int_mk Tryz.underlying3 (by
 have e1:IntKind.i64.min=-9223372036854775808:=by decide
 have e2:IntKind.i64.max=9223372036854775807:=by decide
 simp only [Lit.wf,e1,e2,Bool.and_eq_true,decide_eq_true_eq];omega)
theorem met_mem {es:Array MapEntry} {ks:List Nat} (h:es.toList.map (fun e=>(e.key,e.val))=ks.map (fun (k:Nat)=>(Value.int .i64 (k:Int),Value.bool true))) {e:MapEntry} (he:e∈es.toList):∃ k∈ks,e.key=.int .i64 (k:Int)∧e.val=.bool true:=by
 have:(e.key,e.val)∈es.toList.map (fun e=>(e.key,e.val)):=List.mem_map.2 ⟨e,he,rfl⟩
 rw [h] at this
 obtain ⟨k,hk,e1⟩:=List.mem_map.1 this
 injection e1 with e1 e2
 exact ⟨k,hk,e1.symm,e2.symm⟩
theorem met_mem' {es:Array MapEntry} {ks:List Nat} (h:es.toList.map (fun e=>(e.key,e.val))=ks.map (fun (k:Nat)=>(Value.int .i64 (k:Int),Value.bool true))) {k:Nat} (hk:k∈ks):∃ e∈es.toList,e.key=.int .i64 (k:Int):=by
 have:(Value.int .i64 (k:Int),Value.bool true)∈es.toList.map (fun e=>(e.key,e.val)):=by rw [h];exact List.mem_map.2 ⟨k,hk,rfl⟩
 obtain ⟨e,he,e1⟩:=List.mem_map.1 this
 injection e1 with e1 e2
 exact ⟨e,he,e1⟩
theorem met_lookT {T:TypeId} (hT:Tryz.prog.underlying T=some (.map 3 4)) {w:World} {M k:Nat} {ks:List Nat} (h:MetR w M ks) (hk:k≤1000000):(Instr.lookup T (.map (some M)) (.int .i64 (k:Int)) false).run Tryz.prog w=.ok (.bool (decide (k∈ks))) w:=by
 obtain ⟨es,clock,hb,hm,hle⟩:=h
 have hkeys:∀ e∈es.toList,∃ l,keyOf Tryz.prog 3 e.key=some l:=fun e he=>by
  obtain ⟨j,hj,e1,-⟩:=met_mem hm he
  exact ⟨_,by rw [e1];exact keyN j (hle j hj)⟩
 rcases kd.find w (keyN k hk) es.toList hkeys with ⟨h1,h2⟩ | ⟨j,e0,h1,h2,h3⟩
 ·have hn:k ∉ ks:=fun hin=>by
   obtain ⟨e,he,e1⟩:=met_mem' hm hin
   exact h2 e he e1
  have hz:(zeroValue 4).run Tryz.prog w=.ok (.bool false) w:=by kernel_rfl
  simp [Instr.lookup,run_underlying hT,MapKept.run_getObj_map hb,kd.check w _ (keyN k hk),h1,hz,Result.andThen,hn]
 ·obtain ⟨i,hi,e1,e2⟩:=met_mem hm (List.mem_of_getElem? h2)
  rw [h3] at e1
  injection e1 with e1 e3
  have:k=i:=by omega
  subst this
  clear h2 h3 hkeys
  simp [Instr.lookup,run_underlying hT,MapKept.run_getObj_map hb,kd.check w _ (keyN k hk),h1,Result.andThen,hi,e2]
theorem met_look {w:World} {M k:Nat} {ks:List Nat} (h:MetR w M ks) (hk:k≤1000000):(Instr.lookup 82 (.map (some M)) (.int .i64 (k:Int)) false).run Tryz.prog w=.ok (.bool (decide (k∈ks))) w:=met_lookT Tryz.underlying82 h hk
theorem met_putT {T:TypeId} (hT:Tryz.prog.underlying T=some (.map 3 4)) {w:World} {M k:Nat} {ks:List Nat} (h:MetR w M ks) (hk:k≤1000000) (hn:k ∉ ks) :
  ∃ es clock,(Instr.mapUpdate T (.map (some M)) (.int .i64 (k:Int)) (.bool true)).run Tryz.prog w=.ok () (setBlock w M (.map es clock))∧MetR (setBlock w M (.map es clock)) M (ks++[k]):=by
 obtain ⟨es,clock,hb,hm,hle⟩:=h
 have hkeys:∀ e∈es.toList,∃ l,keyOf Tryz.prog 3 e.key=some l:=fun e he=>by
  obtain ⟨j,hj,e1,-⟩:=met_mem hm he
  exact ⟨_,by rw [e1];exact keyN j (hle j hj)⟩
 have hlt:=(Array.getElem?_eq_some_iff.1 hb).1
 rcases kd.find w (keyN k hk) es.toList hkeys with ⟨h1,h2⟩ | ⟨j,e0,h1,h2,h3⟩
 ·refine ⟨es.push ⟨.int .i64 (k:Int),.bool true,clock⟩,clock+1,?_,es.push ⟨.int .i64 (k:Int),.bool true,clock⟩,clock+1,by simp [setBlock,hlt],by simp [hm],fun j hj=>?_⟩
  ·simp [Instr.mapUpdate,run_underlying hT,MapKept.run_getObj_map hb,kd.check w false (keyN k hk),h1,MapKept.run_setObj_map _ hb,Result.andThen,setBlock]
  ·rcases List.mem_append.1 hj with hj | hj
   ·exact hle j hj
   ·simp at hj;omega
 ·obtain ⟨i,hi,e1,e2⟩:=met_mem hm (List.mem_of_getElem? h2)
  rw [h3] at e1
  injection e1 with e1 e3
  have:k=i:=by omega
  subst this
  exact absurd hi hn
theorem met_put {w:World} {M k:Nat} {ks:List Nat} (h:MetR w M ks) (hk:k≤1000000) (hn:k ∉ ks) :
  ∃ es clock,(Instr.mapUpdate 82 (.map (some M)) (.int .i64 (k:Int)) (.bool true)).run Tryz.prog w=.ok () (setBlock w M (.map es clock))∧MetR (setBlock w M (.map es clock)) M (ks++[k]):=met_putT Tryz.underlying82 h hk hn
theorem met_new (w:World):MetR (w.alloc (.map #[] 0)) w.heap.size []:=⟨#[],0,heap_alloc_new w _,rfl,fun _ h=>by simp at h⟩
theorem met_len {w:World} {M:Nat} {ks:List Nat} (h:MetR w M ks) (ty:TypeId):(Builtin.len_ #[82] ty #[.map (some M)]).run Tryz.prog w=.ok (.int .i64 (ks.length:Int)) w:=by
 obtain ⟨es,clock,hb,hm,-⟩:=h
 have hl:es.size=ks.length:=by
  have:=congrArg List.length hm
  simpa using this
 rw [← hl]
 simp [Builtin.len_,run_underlying Tryz.underlying82,MapKept.run_getObj_map hb,goInt,Result.andThen]
theorem set_only (w:World) (M:Nat) (o:Obj):Only (fun k=>k=M) w (setBlock w M o):=by
 refine ⟨rfl,rfl,rfl,by simp [setBlock],fun k hk hn=>?_⟩
 simp [setBlock,Ne.symm hn]
end Go.Proofs.YtpgdiceeimehiaaGreat
namespace Go.Proofs.YtpgdiceeimehiaaGreat.Cor
open Go.RowKit
def C5 (x:Nat):Prop:=1≤x∧x≤5
def Used (K:Q) (s:Sp.St) (k:Nat):Prop:=Sp.F K.q s k∨∃ e∈s.en,e.gv.ownBlock=some k
open Classical in
noncomputable def colS (n:Nat) (κ:Nat→Nat) (P:Nat→Prop) (k:Nat):Nat:=if k<n then κ k else if P k then 4 else 8
section
variable {n k:Nat} {κ:Nat→Nat} {P:Nat→Prop}
theorem colS_old (h:k<n):colS n κ P k=κ k:=if_pos h
theorem colS_in (h:n≤k) (hp:P k):colS n κ P k=4:=by unfold colS;rw [if_neg (by omega),if_pos hp]
theorem colS_out (h:n≤k) (hp:¬ P k):colS n κ P k=8:=by unfold colS;rw [if_neg (by omega),if_neg hp]
end
section
variable {w w':World} {c:Cn} {K:Q} {κ κ':Nat→Nat} {m:St}
theorem At.spaced8 {s':Sp.St} (h:At w c K κ m) (ho:Only (Sp.F K.q m.s) w w') (hm:Sp.At w' c K.ssh K.q s') (hf:∀ k,Sp.F K.q s' k∨(∃ e∈s'.en,e.gv.ownBlock=some k)→Sp.F K.q m.s k∨(∃ e∈m.s.en,e.gv.ownBlock=some k)∨w.heap.size≤k) :
  Ext (fun x=>x=2∨x=4) w κ w' (colS w.heap.size κ (Used K s'))∧At w' c K (colS w.heap.size κ (Used K s')) { m with s:=s' }:=by
 have ho':Only (fun k=>κ k=2∨κ k=4) w w':=ho.mono (fun k _ hk=>h.sp_col k hk)
 have nc:∀ k,κ k≠2→κ k≠4→¬ (κ k=2∨κ k=4):=fun k h2 h3 ht=>by omega
 have hp:∀ k,k<w.heap.size→colS w.heap.size κ (Used K s') k=κ k:=fun k hk=>colS_old hk
 have hr:=fun k hk=>nc k (by rw [(h.k0 k hk).1];omega) (by rw [(h.k0 k hk).1];omega)
 obtain ⟨n,hme⟩:=h.shade.me
 refine ⟨⟨ho',fun k hk=>colS_old hk⟩,⟨ho'.blk h.me (hr _ (.inl rfl)),h.mem.only ho' (nc _ (by rw [h.k1.1];omega) (by rw [h.k1.1];omega)) (nc _ (by rw [h.k1.2];omega) (by rw [h.k1.2];omega)),
  ⟨⟨n,ho'.blk hme (by rw [h.k3 _ (.inl rfl)];omega)⟩,hm.tab,h.shade.pile.only ho' (fun k hk=>by
   have:=h.k3 k (by rcases hk with hk | hk;exact .inr (.inl hk);exact .inr (.inr hk))
   omega)⟩,hm,
  h.hand.only ho' (nc _ (by rw [h.k5.1];omega) (by rw [h.k5.1];omega)) (nc _ (by rw [h.k5.2];omega) (by rw [h.k5.2];omega)),h.conf.only ho' (fun k hk=>hr k (.inr (.inl hk))),h.ok,h.like,
  fun k hk=>⟨(hp k (h.k0 k hk).2).trans (h.k0 k hk).1,Nat.lt_of_lt_of_le (h.k0 k hk).2 ho.size⟩,⟨(hp _ h.mem.lb).trans h.k1.1,(hp _ h.mem.lg).trans h.k1.2⟩,⟨(hp _ h.shade.tab.mid.lb).trans h.k2.1,(hp _ h.shade.tab.mid.lg).trans h.k2.2⟩,fun k hk=>?_,fun k hk=>?_,⟨(hp _ h.hand.lb).trans h.k5.1,(hp _ h.hand.lg).trans h.k5.2⟩⟩⟩
 ·have hlt:k<w.heap.size:=by
   rcases hk with hk | hk | hk
   ·exact h.shade.lt k (.inl hk)
   ·exact h.shade.lt k (.inr (.inr (.inr (.inl hk))))
   ·exact h.shade.lt k (.inr (.inr (.inr (.inr hk))))
  exact (hp k hlt).trans (h.k3 k hk)
 ·by_cases hlt:k<w.heap.size
  ·rw [hp k hlt]
   refine h.k4 k ?_
   have hk':Sp.F K.q s' k∨(∃ e∈s'.en,e.gv.ownBlock=some k):=by
    rcases hk with hk | hk
    ·exact .inl hk.1
    ·exact .inr hk
   rcases hf k hk' with h1 | h1 | h1
   ·by_cases e1:k=K.q.tb∨k=K.q.tg
    ·rcases hk with hk | hk
     ·exact absurd e1 (by simp [hk.2.1,hk.2.2])
     ·obtain ⟨e,he,hk⟩:=hk
      refine absurd ?_ (hm.gv e he k hk)
      rcases e1 with e1 | e1
      ·exact .inr (.inl e1)
      ·exact .inr (.inr (.inl e1))
    ·exact .inl ⟨h1,fun e=>e1 (.inl e),fun e=>e1 (.inr e)⟩
   ·exact .inr h1
   ·omega
  ·refine colS_in (by omega) ?_
   rcases hk with hk | hk
   ·exact .inl hk.1
   ·exact .inr hk
theorem ext1 (h:At w c K κ m) (ho:Only (fun k=>k=K.mb∨k=K.mg) w w'):Ext C5 w κ w' κ:=Ext.of (ho.mono (fun k _ hk=>by rcases hk with rfl | rfl;rw [h.k1.1];unfold C5;omega;rw [h.k1.2];unfold C5;omega))
theorem ext5 (h:At w c K κ m) (ho:Only (Ha.S K.hb K.hg) w w'):Ext C5 w κ w' κ:=Ext.of (ho.mono (fun k _ hk=>by rcases hk with rfl | rfl;rw [h.k5.1];unfold C5;omega;rw [h.k5.2];unfold C5;omega))
theorem ext23 (h:Ext (fun x=>x=2∨x=3) w κ w' κ'):Ext C5 w κ w' κ':=h.mono (fun x hx=>by unfold C5;omega)
theorem ext24 (h:Ext (fun x=>x=2∨x=4) w κ w' κ'):Ext C5 w κ w' κ':=h.mono (fun x hx=>by unfold C5;omega)
theorem read (j:Nat) (z:Nat × Nat) (w:World) (h:At w c K κ m) (hj:m.words[j]?=some z):Calls Tryz.prog 97 #[.pointer (some ⟨K.mb,0,Option.none⟩),.int .i64 (j:Int)] w fun e w'=>e=.returned (.tuple #[.complex .f64 z.1 z.2,.int .i64 0])∧Ext C5 w κ w' κ∧At w' c K κ m :=
 (Mm.read_in K.mb K.mg m.words j z w h.mem hj).mono fun _ _ ⟨he,ho,ha⟩=>⟨he,ext1 h (ho.mono (fun _ _ hk=>.inl hk)),h.memmed (ho.mono (fun _ _ hk=>.inl hk)) ha⟩
theorem write (j x y:Nat) (w:World) (h:At w c K κ m) (hj:j<m.words.length):Calls Tryz.prog 192 #[.pointer (some ⟨K.mb,0,Option.none⟩),.int .i64 (j:Int),.complex .f64 x y] w fun e w'=>e=.returned (.int .i64 0)∧Ext C5 w κ w' κ∧At w' c K κ { m with words:=m.words.set j (x,y) } :=
 (Mm.write_in K.mb K.mg m.words j x y w h.mem hj).mono fun _ _ ⟨he,ho,ha⟩=>⟨he,ext1 h ho,h.memmed ho ha⟩
theorem peek (j:Nat) (z:Nat × Nat) (w:World) (h:At w c K κ m) (hj:m.words[j]?=some z):Calls Tryz.prog 202 #[.pointer (some ⟨K.mb,0,Option.none⟩),.int .i64 (j:Int)] w fun e w'=>e=.returned (.complex .f64 z.1 z.2)∧w=w':=Mm.peek_in K.mb K.mg m.words j z w h.mem hj
theorem look (w:World) (h:At w c K κ m):Calls Tryz.prog 172 #[.pointer (some ⟨K.hb,0,Option.none⟩)] w fun e w'=>e=.returned (.tuple #[.int .i64 m.st,.bool m.se])∧Ext C5 w κ w' κ∧At w' c K κ m :=
 (Ha.look_any K.hb K.hg m.st m.se m.stats w h.hand).mono fun _ _ ⟨he,ho,ha⟩=>⟨he,ext5 h ho,h.handed ho ha⟩
theorem post (s:Int) (f:Bool) (w:World) (h:At w c K κ m) (h0:0≤s) (h4:s≤4):Calls Tryz.prog 94 #[.pointer (some ⟨K.hb,0,Option.none⟩),.int .i64 s,.bool f] w fun e w'=>e=.returned (.bool true)∧Ext C5 w κ w' κ∧At w' c K κ { m with st:=s,se:=m.se != f } :=
 (Ha.post_any K.hb K.hg m.st m.se m.stats s f w h.hand h0 h4).mono fun _ _ ⟨he,ho,ha⟩=>⟨he,ext5 h ho,h.handed ho ha⟩
theorem answer (j:Nat) (z s:Int) (w:World) (h:At w c K κ m) (hj:m.stats[j]?=some z) (hz:z≠-1) (h0:0≤s) (h4:s≤4):Calls Tryz.prog 173 #[.pointer (some ⟨K.hb,0,Option.none⟩),.int .i64 (j:Int),.int .i64 s] w fun e w'=>e=.returned (.bool true)∧Ext C5 w κ w' κ∧At w' c K κ { m with stats:=m.stats.set j s } :=
 (Ha.answer_in K.hb K.hg m.st m.se m.stats j z s w h.hand hj hz h0 h4).mono fun _ _ ⟨he,ho,ha⟩=>⟨he,ext5 h ho,h.handed ho ha⟩
theorem poll (j:Nat) (z:Int) (w:World) (h:At w c K κ m) (hj:m.stats[j]?=some z):Calls Tryz.prog 147 #[.pointer (some ⟨K.hb,0,Option.none⟩),.int .i64 (j:Int)] w fun e w'=>e=.returned (.bool (z == -1 || z == m.st))∧Ext C5 w κ w' κ∧At w' c K κ m :=
 (Ha.poll_in K.hb K.hg m.st m.se m.stats j z w h.hand hj).mono fun _ _ ⟨he,ho,ha⟩=>⟨he,ext5 h ho,h.handed ho ha⟩
theorem join (j:Nat) (w:World) (h:At w c K κ m) (hj:m.stats[j]?=some (-1)):Calls Tryz.prog 66 #[.pointer (some ⟨K.hb,0,Option.none⟩),.int .i64 (j:Int)] w fun e w'=>e=.returned (.tuple #[.int .i64 m.st,.bool m.se,.bool true])∧Ext C5 w κ w' κ∧At w' c K κ { m with stats:=m.stats.set j m.st } :=
 (Ha.join_in K.hb K.hg m.st m.se m.stats j w h.hand hj).mono fun _ _ ⟨he,ho,ha⟩=>⟨he,ext5 h ho,h.handed ho ha⟩
theorem leave (j:Nat) (z:Int) (w:World) (h:At w c K κ m) (hj:m.stats[j]?=some z) (hz:z≠-1):Calls Tryz.prog 176 #[.pointer (some ⟨K.hb,0,Option.none⟩),.int .i64 (j:Int)] w fun e w'=>e=.returned (.bool true)∧Ext C5 w κ w' κ∧At w' c K κ { m with stats:=m.stats.set j (-1) } :=
 (Ha.leave_in K.hb K.hg m.st m.se m.stats j z w h.hand hj hz).mono fun _ _ ⟨he,ho,ha⟩=>⟨he,ext5 h ho,h.handed ho ha⟩
theorem spc {s':Sp.St} (h:At w c K κ m) (ho:Only (Sp.F K.q m.s) w w') (hm:Sp.At w' c K.ssh K.q s') (hf:∀ k,Used K s' k→Used K m.s k∨w.heap.size≤k) :
  ∃ κ',Ext C5 w κ w' κ'∧At w' c K κ' { m with s:=s' }∧∀ k,w.heap.size≤k→¬ Used K s' k→κ' k=8:=by
 have h8:=h.spaced8 ho hm (fun k hk=>by
  rcases hf k hk with h1 | h1
  ·rcases h1 with h1 | h1
   ·exact .inl h1
   ·exact .inr (.inl h1)
  ·exact .inr (.inr h1))
 exact ⟨_,ext24 h8.1,h8.2,fun k hk hn=>colS_out hk hn⟩
theorem used_same {s':Sp.St} (h1:s'.lv.ownBlock=m.s.lv.ownBlock) (h2:s'.sv.ownBlock=m.s.sv.ownBlock) (h3:∀ e∈s'.en,∀ k,e.gv.ownBlock=some k→∃ e∈m.s.en,e.gv.ownBlock=some k):∀ k,Used K s' k→Used K m.s k∨w.heap.size≤k:=by
 intro k hk
 refine .inl ?_
 rcases hk with hk | ⟨e,he,hk⟩
 ·refine .inl ?_
  unfold Sp.F Ln.LineS Sk.StkS at hk ⊢
  rw [h1,h2] at hk
  exact hk
 ·exact .inr (h3 e he k hk)
theorem born (j:Nat) (o:Tab.One) (w:World) (h:At w c K κ m) (hj:m.s.l[j]?=some o) (hst:o.st=2) (hhd:o.head=false):Calls Tryz.prog 193 #[.pointer (some ⟨K.q.sp,0,Option.none⟩),.int .i64 (j:Int)] w fun e' w'=>e'=.returned (.bool true)∧∃ κ',Ext C5 w κ w' κ'∧At w' c K κ' { m with s:={ m.s with l:=m.s.l.set j { o with head:=true } } } :=
 (Sp.born_in _ _ _ _ j o w h.space hj hst hhd).mono fun _ _ ⟨he,ho,ha⟩=>⟨he,by obtain ⟨κ',h1,h2,-⟩:=spc h ho ha (used_same rfl rfl (fun e he k hk=>⟨e,he,hk⟩));exact ⟨κ',h1,h2⟩⟩
theorem begin_ (w:World) (h:At w c K κ m):Calls Tryz.prog 93 #[.pointer (some ⟨K.q.sp,0,Option.none⟩)] w fun e' w'=>e'=.returned (.tuple #[])∧∃ κ',Ext C5 w κ w' κ'∧At w' c K κ' { m with s:={ m.s with forced:=false,en:=m.s.en.map Ln.note } } :=
 (Sp.begin_any _ _ _ _ w h.space).mono fun _ _ ⟨he,ho,ha⟩=>⟨he,by obtain ⟨κ',h1,h2,-⟩:=spc h ho ha (used_same rfl rfl (fun e he k hk=>by simp only [List.mem_map] at he;obtain ⟨e0,h0,rfl⟩:=he;exact ⟨e0,h0,hk⟩));exact ⟨κ',h1,h2⟩⟩
theorem end_ (w:World) (h:At w c K κ m) (hcy:∀ e∈m.s.en,0≤e.cycles∧e.cycles≤100000):Calls Tryz.prog 115 #[.pointer (some ⟨K.q.sp,0,Option.none⟩)] w fun e' w'=>e'=.returned (.tuple #[])∧∃ κ',Ext C5 w κ w' κ'∧At w' c K κ' { m with s:={ m.s with en:=m.s.en.map Ln.tick } } :=
 (Sp.end_any _ _ _ _ w h.space hcy).mono fun _ _ ⟨he,ho,ha⟩=>⟨he,by obtain ⟨κ',h1,h2,-⟩:=spc h ho ha (used_same rfl rfl (fun e he k hk=>by simp only [List.mem_map] at he;obtain ⟨e0,h0,rfl⟩:=he;exact ⟨e0,h0,hk⟩));exact ⟨κ',h1,h2⟩⟩
theorem wants (w:World) (h:At w c K κ m):Calls Tryz.prog 55 #[.pointer (some ⟨K.q.sp,0,Option.none⟩)] w fun e' w'=>e'=.returned (.bool (decide (0<m.s.en.countP Ln.isW) || decide ((Po.cnt m.s.fr:Int)<c.low) || m.s.forced))∧∃ κ',Ext C5 w κ w' κ'∧At w' c K κ' m :=
 (Sp.wants_any _ _ _ _ w h.space).mono fun _ _ ⟨he,ho,ha⟩=>⟨he,by obtain ⟨κ',h1,h2,-⟩:=spc h ho ha (used_same rfl rfl (fun e he k hk=>⟨e,he,hk⟩));exact ⟨κ',h1,h2⟩⟩
theorem turn (w:World) (h:At w c K κ m) (hu:m.s.u (1-m.s.cur)=0):Calls Tryz.prog 105 #[.pointer (some ⟨K.q.sp,0,Option.none⟩)] w fun e' w'=>e'=.returned (.bool true)∧∃ κ',Ext C5 w κ w' κ'∧At w' c K κ' { m with s:={ m.s with cur:=1-m.s.cur,kept:=m.s.u m.s.cur } } :=
 (Sp.turn_in _ _ _ _ w h.space hu).mono fun _ _ ⟨he,ho,ha⟩=>⟨he,by obtain ⟨κ',h1,h2,-⟩:=spc h ho ha (used_same rfl rfl (fun e he k hk=>⟨e,he,hk⟩));exact ⟨κ',h1,h2⟩⟩
theorem done_ (w:World) (h:At w c K κ m) (hk:m.s.kept=0):Calls Tryz.prog 113 #[.pointer (some ⟨K.q.sp,0,Option.none⟩)] w fun e' w'=>e'=.returned (.bool true)∧∃ κ',Ext C5 w κ w' κ'∧At w' c K κ' { m with s:={ m.s with u:=fun k=>if k=1-m.s.cur then 0 else m.s.u k,kept:=0 } } :=
 (Sp.done_in _ _ _ _ w h.space hk).mono fun _ _ ⟨he,ho,ha⟩=>⟨he,by obtain ⟨κ',h1,h2,-⟩:=spc h ho ha (used_same rfl rfl (fun e he k hk=>⟨e,he,hk⟩));exact ⟨κ',h1,h2⟩⟩
theorem sweep_no (j:Nat) (o:Tab.One) (se:Bool) (w:World) (h:At w c K κ m) (hj:m.s.l[j]?=some o) (hn:o.st=2→o.sense=se):Calls Tryz.prog 114 #[.pointer (some ⟨K.q.sp,0,Option.none⟩),.int .i64 (j:Int),.bool se] w fun e' w'=>e'=.returned (.bool false)∧∃ κ',Ext C5 w κ w' κ'∧At w' c K κ' m :=
 (Sp.sweep_no _ _ _ _ j o se w h.space hj hn).mono fun _ _ ⟨he,ho,ha⟩=>⟨he,by obtain ⟨κ',h1,h2,-⟩:=spc h ho ha (used_same rfl rfl (fun e he k hk=>⟨e,he,hk⟩));exact ⟨κ',h1,h2⟩⟩
theorem sweep_yes (j:Nat) (o:Tab.One) (se:Bool) (w:World) (h:At w c K κ m) (hj:m.s.l[j]?=some o) (h2:o.st=2) (hs:o.sense≠se) (hf:m.s.fr[j]?=some false):Calls Tryz.prog 114 #[.pointer (some ⟨K.q.sp,0,Option.none⟩),.int .i64 (j:Int),.bool se] w fun e' w'=>e'=.returned (.bool true)∧∃ κ',Ext C5 w κ w' κ'∧At w' c K κ' { m with s:={ m.s with l:=m.s.l.set j ⟨0,false,false⟩,fr:=m.s.fr.set j true } } :=
 (Sp.sweep_yes _ _ _ _ j o se w h.space hj h2 hs hf).mono fun _ _ ⟨he,ho,ha⟩=>⟨he,by obtain ⟨κ',h1,h2,-⟩:=spc h ho ha (used_same rfl rfl (fun e he k hk=>⟨e,he,hk⟩));exact ⟨κ',h1,h2⟩⟩
theorem look_wait (e:Ln.En) (w:World) (h:At w c K κ m) (hen:m.s.en=[e]) (hth:e.thread=0) (hst:e.state=0):Calls Tryz.prog 129 #[.pointer (some ⟨K.q.sp,0,Option.none⟩),.int .i64 0] w fun e' w'=>e'=.returned (.agg #[.int .i64 0,.slice Option.none 0 0,.int .i64 (-1)])∧∃ κ',Ext C5 w κ w' κ'∧At w' c K κ' m :=
 (Sp.look_wait _ _ _ _ e w h.space hen hth hst).mono fun _ _ ⟨he,ho,ha⟩=>⟨he,by obtain ⟨κ',h1,h2,-⟩:=spc h ho ha (used_same rfl rfl (fun e he k hk=>⟨e,he,hk⟩));exact ⟨κ',h1,h2⟩⟩
theorem serve_none (se:Bool) (w:World) (h:At w c K κ m) (hix:Ln.ixI Ln.isW m.s.en=-1):Calls Tryz.prog 116 #[.pointer (some ⟨K.q.sp,0,Option.none⟩),.bool se] w fun e' w'=>e'=.returned (.bool false)∧∃ κ',Ext C5 w κ w' κ'∧At w' c K κ' m :=
 (Sp.serve_none _ _ _ _ se w h.space hix).mono fun _ _ ⟨he,ho,ha⟩=>⟨he,by obtain ⟨κ',h1,h2,-⟩:=spc h ho ha (used_same rfl rfl (fun e he k hk=>⟨e,he,hk⟩));exact ⟨κ',h1,h2⟩⟩
theorem serve_wait (e:Ln.En) (k:Nat) (se:Bool) (w:World) (h:At w c K κ m) (hk:1≤k) (hk2:k≤1024) (hen:m.s.en=[e]) (hst:e.state=0) (hfr:e.frags=k) (hspn:e.spine=0) (hcy:e.cycles<2) (hfit:¬ k≤Po.cnt m.s.fr):Calls Tryz.prog 116 #[.pointer (some ⟨K.q.sp,0,Option.none⟩),.bool se] w fun e' w'=>e'=.returned (.bool false)∧∃ κ',Ext C5 w κ w' κ'∧At w' c K κ' m :=
 (Sp.serve_wait _ _ _ _ e k se w h.space hk hk2 hen hst hfr hspn hcy hfit).mono fun _ _ ⟨he,ho,ha⟩=>⟨he,by obtain ⟨κ',h1,h2,-⟩:=spc h ho ha (used_same rfl rfl (fun e he k hk=>⟨e,he,hk⟩));exact ⟨κ',h1,h2⟩⟩
theorem serve_fail (e:Ln.En) (k:Nat) (se:Bool) (w:World) (h:At w c K κ m) (hk:1≤k) (hk2:k≤1024) (hen:m.s.en=[e]) (hst:e.state=0) (hfr:e.frags=k) (hspn:e.spine=0) (hcy:2≤e.cycles) (hfit:¬ k≤Po.cnt m.s.fr):Calls Tryz.prog 116 #[.pointer (some ⟨K.q.sp,0,Option.none⟩),.bool se] w fun e' w'=>e'=.returned (.bool true)∧∃ κ',Ext C5 w κ w' κ'∧At w' c K κ' { m with s:={ m.s with en:=[Ln.failed e] } } :=
 (Sp.serve_fail _ _ _ _ e k se w h.space hk hk2 hen hst hfr hspn hcy hfit).mono fun _ _ ⟨he,ho,ha⟩=>⟨he,by obtain ⟨κ',h1,h2,-⟩:=spc h ho ha (used_same rfl rfl (fun e1 he k hk=>by simp only [List.mem_singleton] at he;subst he;exact ⟨e,by rw [hen];exact List.mem_singleton.2 rfl,hk⟩));exact ⟨κ',h1,h2⟩⟩
theorem drain (w:World) (h:At w c K κ m) (hn:0<K.q.ns) (hsx:m.s.sx=[]):Calls Tryz.prog 119 #[.pointer (some ⟨K.q.sp,0,Option.none⟩),.int .i64 0] w fun e' w'=>e'=.returned (.int .i64 0)∧∃ κ',Ext C5 w κ w' κ'∧At w' c K κ' { m with s:={ m.s with sv:=.slice Option.none 0 0,sx:=[] } } :=
 (Sp.drain_0 _ _ _ _ w h.space hn hsx).mono fun _ _ ⟨he,ho,ha⟩=>⟨he,by
  obtain ⟨κ',h1,h2,-⟩:=spc h ho ha (fun k hk=>by
   refine .inl ?_
   rcases hk with hk | hk
   ·refine .inl ?_
    unfold Sp.F Ln.LineS Sk.StkS at hk ⊢
    rcases hk with hk | hk | hk | hk | hk | hk | hk | hk | hk
    ·exact .inl hk
    ·exact .inr (.inl hk)
    ·exact .inr (.inr (.inl hk))
    ·exact .inr (.inr (.inr (.inl hk)))
    ·exact .inr (.inr (.inr (.inr (.inl hk))))
    ·exact .inr (.inr (.inr (.inr (.inr (.inl hk)))))
    ·exact .inr (.inr (.inr (.inr (.inr (.inr (.inl hk))))))
    ·exact .inr (.inr (.inr (.inr (.inr (.inr (.inr (.inl hk)))))))
    ·simp [Value.ownBlock] at hk
   ·exact .inr hk)
  exact ⟨κ',h1,h2⟩⟩
theorem look_failed (e:Ln.En) (w:World) (h:At w c K κ m) (hen:m.s.en=[e]) (hth:e.thread=0) (hst:e.state=2):Calls Tryz.prog 129 #[.pointer (some ⟨K.q.sp,0,Option.none⟩),.int .i64 0] w fun e' w'=>e'=.returned (.agg #[.int .i64 2,.slice Option.none 0 0,.int .i64 (-1)])∧∃ lv' κ',Ext C5 w κ w' κ'∧At w' c K κ' { m with s:={ m.s with lv:=lv',en:=[] } } :=
 (Sp.look_failed _ _ _ _ e w h.space hen hth hst).mono fun _ _ ⟨lv',he,ho,ha,hl⟩=>⟨he,lv',by
  obtain ⟨κ',h1,h2,-⟩:=spc h ho ha (used_same hl rfl (fun e he=>by simp at he))
  exact ⟨κ',h1,h2⟩⟩
theorem look_granted (e:Ln.En) (w:World) (h:At w c K κ m) (hen:m.s.en=[e]) (hth:e.thread=0) (hst:e.state=1):Calls Tryz.prog 129 #[.pointer (some ⟨K.q.sp,0,Option.none⟩),.int .i64 0] w fun e' w'=>∃ Ag cg lv' κ',e'=.returned (.agg #[.int .i64 1,.slice Ag e.got.length cg,.int .i64 e.at_])∧Ext C5 w κ w' κ'∧At w' c K κ' { m with s:={ m.s with lv:=lv',en:=[] } } ∧
   SlI w' w'.heap.size (.slice Ag e.got.length cg) e.got∧∀ b,(Value.slice Ag e.got.length cg).ownBlock=some b→κ' b=8∧w.heap.size≤b :=
 (Sp.look_granted _ _ _ _ e w h.space hen hth hst).mono fun _ _ ⟨Ag,cg,lv',he,ho,ha,hl,hs,hb⟩=>by
  obtain ⟨κ',h1,h2,h3⟩:=spc h ho ha (used_same hl rfl (fun e he=>by simp at he))
  refine ⟨Ag,cg,lv',κ',he,h1,h2,hs,fun b hk=>⟨h3 b (by have:=hb b hk;omega) (fun hu=>?_),by have:=hb b hk;omega⟩⟩
  have:=hb b hk
  rcases hu with hu | ⟨e,he,_⟩
  ·have h4:Sp.F K.q m.s b:=by
    unfold Sp.F Ln.LineS Sk.StkS at hu ⊢
    rw [hl] at hu
    exact hu
   have:=h.space.lt b h4
   omega
  ·simp at he
theorem serve_yes (e:Ln.En) (k:Nat) (se:Bool) (w:World) (h:At w c K κ m) (hk:1≤k) (hk2:k≤1024) (hen:m.s.en=[e]) (hst:e.state=0) (hfr:e.frags=k) (hspn:e.spine=0) (hfit:k≤Po.cnt m.s.fr) (hll:m.s.fr.length=m.s.l.length):Calls Tryz.prog 116 #[.pointer (some ⟨K.q.sp,0,Option.none⟩),.bool se] w fun e' w'=>e'=.returned (.bool true)∧∃ gv κ',Ext C5 w κ w' κ' ∧
   At w' c K κ' { m with s:={ m.s with l:=Sp.setAll m.s.l (Po.take m.s.fr k) 2 se,fr:=Po.off m.s.fr (Po.take m.s.fr k),en:=[Ln.granted e gv (Po.natI (Po.take m.s.fr k)) (-1)] } } :=
 (Sp.serve_yes _ _ _ _ e k se w h.space hk hk2 hen hst hfr hspn hfit hll).mono fun _ _ ⟨gv,he,ho,ha,hb⟩=>⟨he,gv,by
  obtain ⟨κ',h1,h2,-⟩:=spc h ho ha (fun x hx=>by
   rcases hx with hx | ⟨e1,he1,hx⟩
   ·exact .inl (.inl hx)
   ·simp only [List.mem_singleton] at he1
    subst he1
    exact .inr (hb x hx))
  exact ⟨κ',h1,h2⟩⟩
theorem ask_wait (k:Nat) (se:Bool) (w:World) (h:At w c K κ m) (hn:0<K.q.ns) (hk:1≤k) (hk2:k≤1024) (hsx:m.s.sx.length<k) (hen:m.s.en=[]) (hfit:¬ k≤Po.cnt m.s.fr):Calls Tryz.prog 248 #[.pointer (some ⟨K.q.sp,0,Option.none⟩),.int .i64 0,.int .i64 (k:Int),.int .i64 0,.bool se] w fun e' w'=>e'=.returned (.agg #[.int .i64 0,.slice Option.none 0 0,.int .i64 (-1)])∧∃ lv' κ',Ext C5 w κ w' κ' ∧
   At w' c K κ' { m with s:={ m.s with lv:=lv',en:=[⟨0,k,0,0,0,-1,.slice Option.none 0 0,[],false⟩] } } :=
 (Sp.ask_wait _ _ _ _ k se w h.space hn hk hk2 hsx hen hfit).mono fun _ _ ⟨lv',he,ho,ha,hl⟩=>⟨he,lv',by
  obtain ⟨κ',h1,h2,-⟩:=spc h ho ha (fun x hx=>by
   rcases hx with hx | ⟨e1,he1,hx⟩
   ·unfold Sp.F Ln.LineS at hx
    rcases hl with hl | ⟨j,hj,hjl⟩
    ·rw [hl] at hx
     exact .inl (.inl hx)
    ·rw [hj] at hx
     rcases hx with hx | hx | hx | hx | hx | hx | (hx | hx) | hx
     ·exact .inl (.inl (.inl hx))
     ·exact .inl (.inl (.inr (.inl hx)))
     ·exact .inl (.inl (.inr (.inr (.inl hx))))
     ·exact .inl (.inl (.inr (.inr (.inr (.inl hx)))))
     ·exact .inl (.inl (.inr (.inr (.inr (.inr (.inl hx))))))
     ·exact .inl (.inl (.inr (.inr (.inr (.inr (.inr (.inl hx)))))))
     ·exact .inl (.inl (.inr (.inr (.inr (.inr (.inr (.inr (.inl (.inl hx)))))))))
     ·injection hx with hx
      exact .inr (hx ▸ hjl)
     ·exact .inl (.inl (.inr (.inr (.inr (.inr (.inr (.inr (.inr hx))))))))
   ·simp only [List.mem_singleton] at he1
    subst he1
    simp [Value.ownBlock] at hx)
  exact ⟨κ',h1,h2⟩⟩
theorem ask_yes (k:Nat) (se:Bool) (w:World) (h:At w c K κ m) (hn:0<K.q.ns) (hk:1≤k) (hsx:m.s.sx.length<k) (hen:m.s.en=[]) (hfit:k≤Po.cnt m.s.fr) (hll:m.s.fr.length=m.s.l.length):Calls Tryz.prog 248 #[.pointer (some ⟨K.q.sp,0,Option.none⟩),.int .i64 0,.int .i64 (k:Int),.int .i64 0,.bool se] w fun e' w'=>∃ v sv' κ',e'=.returned (.agg #[.int .i64 1,v,.int .i64 (-1)])∧Ext C5 w κ w' κ' ∧
   At w' c K κ' { m with s:={ m.s with l:=Sp.setAll (Sp.setAll m.s.l (Po.take m.s.fr k) 2 se) (Po.low (Po.off m.s.fr (Po.take m.s.fr k)) (c.cache.toNat-m.s.sx.length)) 1 se,fr:=Po.off (Po.off m.s.fr (Po.take m.s.fr k)) (Po.low (Po.off m.s.fr (Po.take m.s.fr k)) (c.cache.toNat-m.s.sx.length)),sv:=sv',sx:=m.s.sx++Po.natI (Po.low (Po.off m.s.fr (Po.take m.s.fr k)) (c.cache.toNat-m.s.sx.length)) } } ∧
   w'.ownsRow w.heap.size 3 1 v (Po.take m.s.fr k).length (ints (Po.natI (Po.take m.s.fr k)))∧∀ b,v.ownBlock=some b→κ' b=8 :=
 (Sp.ask_yes _ _ _ _ k se w h.space hn hk hsx hen hfit hll).mono fun _ _ ⟨v,sv',he,ho,ha,hs,hv,hne⟩=>by
  have old:∀ x,Sp.F K.q { m.s with sv:=sv' } x→Sp.F K.q m.s x∨sv'.ownBlock=some x:=fun x hx=>by
   unfold Sp.F Sk.StkS at hx ⊢
   rcases hx with hx | hx | hx | hx | hx | hx | hx | (hx | hx)
   ·exact .inl (.inl hx)
   ·exact .inl (.inr (.inl hx))
   ·exact .inl (.inr (.inr (.inl hx)))
   ·exact .inl (.inr (.inr (.inr (.inl hx))))
   ·exact .inl (.inr (.inr (.inr (.inr (.inl hx)))))
   ·exact .inl (.inr (.inr (.inr (.inr (.inr (.inl hx))))))
   ·exact .inl (.inr (.inr (.inr (.inr (.inr (.inr (.inl hx)))))))
   ·exact .inl (.inr (.inr (.inr (.inr (.inr (.inr (.inr (.inl hx))))))))
   ·exact .inr hx
  obtain ⟨κ',h1,h2,h3⟩:=spc h ho ha (fun x hx=>by
   rcases hx with hx | ⟨e1,he1,hx⟩
   ·rcases old x hx with h4 | h4
    ·exact .inl (.inl h4)
    ·rcases hs with hs | ⟨j,hj,hjl⟩
     ·exact .inl (.inl (.inr (.inr (.inr (.inr (.inr (.inr (.inr (.inr (hs ▸ h4))))))))))
     ·rw [hj] at h4
      injection h4 with h4
      exact .inr (h4 ▸ hjl)
   ·have he':e1∈m.s.en:=he1
    rw [hen] at he'
    simp at he')
  refine ⟨v,sv',κ',he,h1,h2,hv,fun b hb=>h3 b (hv.lt b hb).1 (fun hu=>?_)⟩
  have hbl:=(hv.lt b hb).1
  rcases hu with hu | ⟨e,he,_⟩
  ·rcases old b hu with h4 | h4
   ·have:=h.space.lt b h4
    omega
   ·exact hne (h4.trans hb.symm)
  ·have he':e∈m.s.en:=he
   rw [hen] at he'
   simp at he'
theorem shd {l':List Tab.One} {pv':Value} {lost':Bool} {xs':List Int} (h:At w c K κ m) (ho:Only (Sd.S K.sb K.q.tb K.q.tg K.pb m.pv) w w') (hm:Sd.At w' K.sb K.q.tb K.q.tg K.pb pv' l' K.most lost' xs') (hf:pv'.ownBlock=m.pv.ownBlock∨∃ q,pv'.ownBlock=some q∧w.heap.size≤q) :
  ∃ κ',Ext C5 w κ w' κ'∧At w' c K κ' { m with pv:=pv',lost:=lost',xs:=xs',s:={ m.s with l:=l' } }:=by
 have h3:=h.shaded ho hm (fun k hk=>by
  rcases hf with hf | ⟨q,hq,hl⟩
  ·exact .inl (hf ▸ hk)
  ·rw [hq] at hk
   injection hk with hk
   exact .inr (hk ▸ hl))
 exact ⟨_,ext23 h3.1,h3.2⟩
theorem grey_yes (j:Nat) (o:Tab.One) (s:Bool) (w:World) (h:At w c K κ m) (hj:m.s.l[j]?=some o) (hw:Sd.white o s=true) (h2:o.st=2) (hl:m.xs.length<K.most):Calls Tryz.prog 96 #[.pointer (some ⟨K.sb,0,Option.none⟩),.int .i64 j,.bool s] w fun e w'=>e=.returned (.bool true)∧∃ pv' κ',Ext C5 w κ w' κ'∧At w' c K κ' { m with pv:=pv',xs:=m.xs++[(j:Int)],s:={ m.s with l:=m.s.l.set j { o with sense:=s } } } :=
 (Sd.grey_yes _ _ _ _ _ _ _ _ _ j o s w h.shade hj hw h2 hl).mono fun _ _ ⟨he,ho,pv',hp,ha⟩=>⟨he,pv',shd h ho ha hp⟩
theorem next_no (w:World) (h:At w c K κ m) (hx:m.xs=[]):Calls Tryz.prog 99 #[.pointer (some ⟨K.sb,0,Option.none⟩)] w fun e w'=>e=.returned (.tuple #[.int .i64 0,.bool false])∧∃ κ',Ext C5 w κ w' κ'∧At w' c K κ' m :=
 (Sd.next_no _ _ _ _ _ _ _ _ w (hx ▸ h.shade)).mono fun _ _ ⟨he,ho,ha⟩=>⟨he,shd h ho (by rw [hx];exact ha) (.inl rfl)⟩
theorem next_in (xs:List Int) (x:Int) (w:World) (h:At w c K κ m) (hx:m.xs=xs++[x]):Calls Tryz.prog 99 #[.pointer (some ⟨K.sb,0,Option.none⟩)] w fun e w'=>e=.returned (.tuple #[.int .i64 x,.bool true])∧∃ pv' κ',Ext C5 w κ w' κ'∧At w' c K κ' { m with pv:=pv',xs:=xs } :=
 (Sd.next_in _ _ _ _ _ _ _ _ _ x w (hx ▸ h.shade)).mono fun _ _ ⟨he,ho,pv',hp,ha⟩=>⟨he,pv',shd h ho ha (.inl hp)⟩
theorem lost (w:World) (h:At w c K κ m):Calls Tryz.prog 103 #[.pointer (some ⟨K.sb,0,Option.none⟩)] w fun e w'=>e=.returned (.bool m.lost)∧∃ κ',Ext C5 w κ w' κ'∧At w' c K κ' { m with lost:=false } :=
 (Sd.lost_any _ _ _ _ _ _ _ _ _ w h.shade).mono fun _ _ ⟨he,ho,ha⟩=>⟨he,shd h ho ha (.inl rfl)⟩
end
end Go.Proofs.YtpgdiceeimehiaaGreat.Cor
