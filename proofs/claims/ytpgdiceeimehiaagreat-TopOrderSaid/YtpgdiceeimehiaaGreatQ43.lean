/- Part 43 of the proof that spotop.TopOrder returns true for all arguments and leaves what was there as it was. -/
import Derived.Test.YtpgdiceeimehiaaGreatQ42
set_option maxRecDepth 100000
set_option maxHeartbeats 16000000
open Go.Lib (hid)
namespace Go.Proofs.YtpgdiceeimehiaaGreat.Law
open Go.RowKit
open Ac (Vl OpD CT zeroVl opV)
open Opn (SgOk Made kn)
section
variable {w:World} {K:Cor.Q} {κ:Nat→Nat} {m:Cor.St} {b:Ac.B} {s:Ac.St} {yb hb lg:Nat} {y:Cyc.St} {o:Option Tr.St} {L:List OpD} {q T n:Nat} {l:List Nat} {nx:Nat→Option Nat} {g:Option Nat}
theorem Qc.same {m':Cor.St} (h:Qc m y) (he:m'.s.en=[]):Qc m' y:=⟨h.y0,by rw [he];simp,h.few⟩
theorem bigJ_get (sd:Bool) (xs:List Nat) (h6:xs.length=6) (j:Nat) (hj:j<48):∃ z,(Pl.objJ 1 sd xs bs0 6)[j]?=some (((8 * xs.getD (j / 8) 0+j % 8:Nat):Int),z):=by
 have h:=obj_get 1 sd xs bs0 6 (j / 8) (j % 8) (by omega) (by omega)
 rw [show 8 * (j / 8)+j % 8=j from by omega] at h
 exact ⟨_,h⟩
theorem getD_mem {xs:List Nat} {j:Nat} (h:j<xs.length):xs.getD j 0∈xs:=by
 simp only [List.getD,List.getElem?_eq_getElem h,Option.getD_some]
 exact List.getElem_mem h
theorem bw_step {xs:List Nat} {sd:Bool} {j:Nat} {tf:Nat→Tab.One} (hK:Kok K) (hbo:b.ops=L) (h:Mt w c0 K κ m b s yb y hb lg o) (htb:Tb L q l nx g m s) (ht:Tk l xs m tf) (hq:Qt m s) (hn:s.own=(n:Int)) (hnT:n≤T) (hT:T≤1000000) (h1:s.phase=2) (h2:s.at_=7) (hj:j<48) (hw:s.writes=(Pl.objJ 1 sd xs bs0 6).drop j) (hd:Done (Pl.objJ 1 sd xs bs0 6) j m.words) (hg:s.got=Pl.natI xs) (he:m.s.en=[]) (hc:Qc m y) (h38:q≤38) :
  Calls Tryz.prog 10 #[.pointer (some ⟨hb,0,none⟩),.int .i64 1] w (StepOk L q (T+1) K b hb lg yb w κ 1):=by
 obtain ⟨z,hz⟩:=bigJ_get sd xs ht.six j hj
 have hdr:=drop_get hz
 have hmem:=getD_mem (xs:=xs) (j:=j / 8) (by rw [ht.six];omega)
 have hout:=ht.out _ hmem
 obtain ⟨ad,had⟩:∃ ad:Nat,8 * xs.getD (j / 8) 0+j % 8=ad:=⟨_,rfl⟩
 have hadx:ad / 8=xs.getD (j / 8) 0:=by omega
 rw [had] at hz hdr
 have hlen:ad<m.words.length:=by rw [htb.al.len];omega
 have hdone:Done (Pl.objJ 1 sd xs bs0 6) (j+1) (m.words.set ad z):=by
  have:=hd.step hz (by show ((ad:Int)).toNat<_;rw [Int.toNat_natCast];exact hlen) (fun k x hk hx=>obj_uniq (xs:=xs) ht.nd (by rw [ht.six];exact hx) (by rw [ht.six];exact hz) (by omega))
  exact this
 refine go_1 hK h (fun w1 κ1 hs=>in_makes hs hn (by omega) h1 h2 (by rw [hbo];exact htb.big) keep_t (fun w2 κ2 hs2=>(makes_any ad z ((Pl.objJ 1 sd xs bs0 6).drop (j+1)) w2 hs2 (hw.trans hdr) hlen h2 _ rfl).mono ?_))
 rintro r2 w' ⟨hr,κ',he2,wv',hs'⟩
 have hal:Al { m with words:=m.words.set ad z } (·∈ l) nx g:=htb.al.set rfl rfl (by rw [hadx];exact hout.1) (by omega)
 refine ⟨hr,κ',he2,_,_,hs',?_,⟨n+1,rfl,by omega⟩⟩
 have hlj:(Pl.objJ 1 sd xs bs0 6).length=48:=Pl.objJ_len _ _ _ _ _
 by_cases e:j+1<48
 ·refine .bw l nx g xs sd (j+1) tf (htb.like hal rfl rfl) (ht.alt (ht.cm.same rfl rfl)) h1 (if_neg (fun h=>?_)) e rfl hdone hg he ⟨hq.st,hq.s0,hq.stats⟩ (hc.same he) h38
  have:=congrArg List.length h
  rw [List.length_drop,hlj] at this
  simp at this
  omega
 ·obtain rfl:j=47:=by omega
  have hnil:(Pl.objJ 1 sd xs bs0 6).drop (47+1)=[]:=List.drop_eq_nil_of_le (by rw [hlj];omega)
  exact .bb l nx g xs sd tf (htb.like hal rfl rfl) (ht.alt (ht.cm.same rfl rfl)) h1 (by show (if (Pl.objJ 1 sd xs bs0 6).drop (47+1)=[] then (8:Int) else 7)=8;rw [if_pos hnil]) hdone hg he ⟨hq.st,hq.s0,hq.stats⟩ (hc.same he) h38
theorem Tb.tick {m':Cor.St} {s':Ac.St} (htb:Tb L q l nx g m s) {e:Int} (he:e=if 38<q then 6 else 0):TickOk L q true (s.next:Int) e:=fun _=>by
 have h1:=htb.all
 exact ⟨by omega,by omega,fun h=>by omega,fun _=>he⟩
theorem bb_step {xs:List Nat} {sd:Bool} {tf:Nat→Tab.One} (hK:Kok K) (hbo:b.ops=L) (hL:L.length≤100000) (h:Mt w c0 K κ m b s yb y hb lg o) (htb:Tb L q l nx g m s) (ht:Tk l xs m tf) (hq:Qt m s) (hn:s.own=(n:Int)) (hnT:n≤T) (hT:T≤1000000) (h1:s.phase=2) (h2:s.at_=8) (hd:Done (Pl.objJ 1 sd xs bs0 6) 48 m.words) (hg:s.got=Pl.natI xs) (he:m.s.en=[]) (hc:Qc m y) (h38:q≤38) :
  Calls Tryz.prog 10 #[.pointer (some ⟨hb,0,none⟩),.int .i64 1] w (StepOk L q (T+1) K b hb lg yb w κ 1):=by
 have hall:=htb.all
 obtain ⟨x0,rest,rfl⟩:∃ x0 rest,xs=x0 :: rest:=by
  cases xs with
  | nil=>have:=ht.six;simp at this
  | cons x r=>exact ⟨x,r,rfl⟩
 have hx0:=ht.out x0 (by simp)
 have htk:=ht.tk x0 (by simp)
 obtain ⟨v2,hv2,hlc⟩:=htb.loc
 refine go_1d hK h (true,refW x0) (s.next:Int) ((n+1:Nat):Int) 0 (htb.tick (m':=m) (s':=s) (by rw [if_neg (by omega)])) (fun w1 κ1 hs=>in_bears hs hn (by omega) h1 h2 (by rw [hbo];exact htb.big) keep_t (fun w2 κ2 hs2=>(bears_any x0 3 (Pl.natI rest) (tf x0) (opD .big) w2 hs2 hg (ht.cm.get hx0.2) htk.1 htk.2 (by omega) rfl (by show 3<s.locals.length;rw [hlc];show _<4;omega) (by show s.phase≠4;omega) (by show s.next≤100000;omega)).mono ?_))
 rintro r2 w' ⟨hr,κ',he2,hs'⟩
 have hcm:=ht.cm.born (m':={ m with s:={ m.s with l:=m.s.l.set x0 { tf x0 with head:=true } } }) (i:=x0) rfl rfl rfl rfl rfl rfl rfl
 have hne:∀ i∈l,i≠x0:=fun i hi e=>hx0.1 (e ▸ hi)
 obtain ⟨hh,hlk⟩:=big_done (xs:=x0 :: rest) (sd:=sd) (ws:=m.words) (by rw [ht.six];exact hd) ht.six
 refine ⟨hr,κ',he2,_,_,hs',.kb l nx g (x0 :: rest) _ (htb.al.same rfl (fun i hi=>?_)) htb.kd (by show s.next+1+1=L.length;omega) v2 (true,refW x0) hv2 (by show s.locals.set 3 _=_;rw [hlc];rfl) hcm (.inr ⟨x0,rfl,rfl,⟨ht.nd,ht.six,ht.out,hh,hlk⟩,fun x hx=>?_,?_⟩) (.inl ⟨rfl,rfl⟩) he ⟨hq.st,hq.s0,hq.stats⟩ (hc.same he),⟨n+1,rfl,by omega⟩⟩
 ·obtain ⟨sg,hsg⟩:=htb.al.tab i hi
  refine ⟨sg,?_⟩
  show (m.s.l.set x0 _)[i]?=_
  rw [List.getElem?_set_ne (fun e=>hne i hi e.symm)]
  exact hsg
 ·unfold up
  split
  ·exact htk.1
  ·exact (ht.tk x hx).1
 ·rw [up_me]
theorem go_1e (h:Mt w c0 K κ m b s yb y hb lg o) (v:Vl) (a1 a2 a3:Int) (h0:0≤a1) (ht:a1+1=L.length)
  (hc:∀ w1 κ1,Sys w1 c0 K κ1 m b s→Calls Tryz.prog 25 #[.pointer (some ⟨b.ab,0,none⟩),.pointer (some ⟨K.kb,0,none⟩)] w1 (Ans w1 κ1 a1 a2 a3 v true (fun w' κ'=>∃ m' s',Sys w' c0 K κ' m' b s'∧Fin m' s' y K.csh))) :
  Calls Tryz.prog 10 #[.pointer (some ⟨hb,0,none⟩),.int .i64 1] w (StepOk L q T K b hb lg yb w κ 1):=by
 refine (mstep_1 a1 a2 a3 v true _ w h hc).mono ?_
 rintro e w' ⟨he,κ',m',s',hext,hm,hx⟩
 exact ⟨true,a1,a2,a3,v,he,fun _=>⟨h0,by omega,fun h=>by omega,fun h=>by omega⟩,κ',m',s',y,o,hext,hm,hx,fun h=>absurd ⟨rfl,ht⟩ h⟩
theorem Fin.locs_ {s':Ac.St} {csh:List Sh} (h:Fin m s y csh) (h0:s.phase≠0) (h4:s.phase≠4) (hl:∀ v∈s'.locals,v∈s.locals∨Vw.Ixn v.2):Fin m s' y csh:=by
 obtain ⟨O,fr,h1,h2,h3,h5⟩:=h.set
 refine ⟨⟨O,fr,h1,h2,fun _ _ v hv=>?_,h5⟩,h.len,h.sts,h.cyc⟩
 rcases hl v hv with hv | hv
 ·exact h3 h0 h4 v hv
 ·exact .inr hv
theorem kb_step {xs:List Nat} {tf:Nat→Tab.One} {v2:Option (Option Nat)} {v3:Vl} (hK:Kok K) (hbo:b.ops=L) (hL:L.length≤100000) (h:Mt w c0 K κ m b s yb y hb lg o) (hf:Fin m s y K.csh) (al:Al m (·∈ l) nx g) (hk:L[s.next]?=some (opD .kind)) (hl:s.next+1=L.length) (hv2:v2=none∨v2=some none) (loc:s.locals=[(true,noneW),(true,noneW),locV v2,v3]) (cm:Cm m tf)
   (hv3:v3=(false,0,0)∨∃ x,xs[0]?=some x∧v3=(true,refW x)∧Bg m (·∈ l) xs∧(∀ x∈xs,(tf x).st=2)∧(tf x).head=true) (h1:(s.phase=1∧s.pc=0)∨(s.phase=2∧s.at_=0)) (he:m.s.en=[]) (hq:Qt m s) (hc:Qc m y) (ho:OwnOk s T) (hT:T≤1000000) :
  Calls Tryz.prog 10 #[.pointer (some ⟨hb,0,none⟩),.int .i64 1] w (StepOk L q (T+1) K b hb lg yb w κ 1):=by
 obtain ⟨n,hn,hnT⟩:=ho
 rcases h1 with ⟨h1,h2⟩ | ⟨h1,h2⟩
 ·refine go_1 hK h (fun w1 κ1 hs=>step_border _ w1 hs h1 keep_t (fun w2 κ2 hs2=>(border_in w2 hs2 h2 (by rw [hq.st,hq.s0]) (by rw [hbo];omega)).mono ?_))
  rintro r2 w' ⟨hr,κ',he2,hs'⟩
  exact ⟨hr,κ',he2,_,_,hs',.kb l nx g xs tf al hk hl v2 v3 hv2 loc cm hv3 (.inr ⟨rfl,rfl⟩) he ⟨hq.st,hq.s0,hq.stats⟩ hc,⟨0,rfl,by omega⟩⟩
 ·rcases hv3 with rfl | ⟨x,hx,rfl,hb,hu,hh⟩
  ·refine go_1e h zeroVl (s.next:Int) ((n+1:Nat):Int) 4 (by omega) (by omega) (fun w1 κ1 hs=>in_starts hs hn (by omega) h1 h2 (by rw [hbo];exact hk) (keep9_ex fun _=>keep9_ex fun _=>fun w κ X i u hX ⟨h1,h2⟩=>⟨h1.cell9 hX i u,h2⟩) (fun w2 κ2 hs2=>(starts_kind_no (opD .kind) 3 (false,0,0) w2 hs2 rfl (fun x _=>sg_ok (fun j' e=>by cases e) x) rfl (by show s.locals[3]?=_;rw [loc];rfl) rfl (by show s.phase≠4;omega) (by show s.next≤100000;omega)).mono ?_))
   rintro r2 w' ⟨hr,κ',he2,hs'⟩
   exact ⟨hr,κ',he2,_,_,hs',hf.locs_ (by omega) (by omega) (fun v hv=>.inl hv)⟩
  ·obtain ⟨sv,hsv⟩:=hK.s0
   obtain ⟨x',md,hx',hw',hmd⟩:=hb.hd
   rw [hx] at hx'
   injection hx' with hx'
   subst hx'
   have hx44:=(hb.out x (List.mem_of_getElem? hx)).2
   refine go_1e h (false,wholeW 1) (s.next:Int) ((n+1:Nat):Int) 0 (by omega) (by omega) (fun w1 κ1 hs=>in_starts hs hn (by omega) h1 h2 (by rw [hbo];exact hk) (keep9_ex fun _=>keep9_ex fun _=>fun w κ X i u hX ⟨h1,h2⟩=>⟨h1.cell9 hX i u,h2⟩) (fun w2 κ2 hs2=>(starts_kind (opD .kind) x 3 0 1 md _ w2 hs2 rfl (fun x _=>sg_ok (fun j' e=>by cases e) x) rfl rfl (by show s.locals[3]?=_;rw [loc];rfl) (by show 0<s.locals.length;rw [loc];show _<4;omega) (by omega) (by show s.phase≠4;omega) (by show s.next≤100000;omega) hw' hsv rfl hmd (by show bs0.length≤1000000;rw [bs0_len];omega) (by show (x:Int)<44;omega) (by omega)).mono ?_))
   rintro r2 w' ⟨hr,κ',he2,hs'⟩
   refine ⟨hr,κ',he2,_,_,hs',hf.locs_ (by omega) (by omega) (fun v hv=>?_)⟩
   have hv':v∈s.locals.set 0 (false,wholeW 1):=hv
   rcases List.mem_or_eq_of_mem_set hv' with h5 | h5
   ·exact .inl h5
   ·exact .inr (h5 ▸ ixn_whole (n:=1) (by omega))
theorem got_step {xs:List Nat} {e:Ln.En} {tf:Nat→Tab.One} (hK:Kok K) (hbo:b.ops=L) (hb0:b.t=0) (h:Mt w c0 K κ m b s yb y hb lg o) (htb:Tb L q l nx g m s) (ht:Tk l xs m tf) (h1:s.phase=3) (h2:s.pc=5∨s.pc=0) (he:m.s.en=[e]) (he1:e.state=1∧e.thread=0∧e.got=Pl.natI xs) (hq:Qt m s) (hc:Qc m y) (h38:q≤38) (ho:OwnOk s T) (hT:T≤1000000) :
  Calls Tryz.prog 10 #[.pointer (some ⟨hb,0,none⟩),.int .i64 1] w (StepOk L q (T+1) K b hb lg yb w κ 1):=by
 obtain ⟨n,hn,hnT⟩:=ho
 rcases h2 with h2 | h2
 ·obtain ⟨sv2,hsv2,hob⟩:=big_ok hK ht.nd ht.six (fun x hx=>(ht.out x hx).2)
  refine go_1 hK h (fun w1 κ1 hs=>step_waiting _ _ _ _ _ n _ w1 hs h1 hn (by omega) keep_t (fun w2 κ2 hs2=>(waiting_granted e (opD .big) 1 bs0 xs (Sk.sideB (Pl.natI xs)) w2 hs2 h2 hb0 he he1.2.1 he1.1 he1.2.2 (by rw [hbo];exact htb.big) rfl rfl hob (by rw [ht.six];omega)).mono ?_))
  rintro r2 w' ⟨hr,κ',he2,lv',wv',tv',hs'⟩
  exact ⟨hr,κ',he2,_,_,hs',.bw l nx g xs (Sk.sideB (Pl.natI xs)) 0 tf (htb.like (htb.al.same rfl htb.al.tab) rfl rfl) (ht.alt ⟨ht.cm.l,ht.cm.fr,ht.cm.lost,ht.cm.u,ht.cm.kept,ht.cm.sx,ht.cm.forced,ht.cm.st2⟩) rfl rfl (by omega) (by rw [← ht.six];rfl) (Done.zero _ _) rfl rfl ⟨hq.st,hq.s0,hq.stats⟩ (hc.same rfl) h38,⟨n+1,rfl,by omega⟩⟩
 ·refine go_1 hK h (fun w1 κ1 hs=>step_waiting _ _ _ _ _ n _ w1 hs h1 hn (by omega) keep_t (fun w2 κ2 hs2=>(waiting_same w2 hs2 h2 (by rw [hq.st];exact hq.s0.symm)).mono ?_))
  rintro r2 w' ⟨hr,κ',he2,hs'⟩
  exact ⟨hr,κ',he2,_,_,hs',.got l nx g xs e tf (htb.like htb.al rfl rfl) ht h1 (.inl rfl) he he1 ⟨hq.st,hq.s0,hq.stats⟩ hc h38,⟨n+1,rfl,by omega⟩⟩
theorem failed_step {e:Ln.En} {tf:Nat→Tab.One} (hK:Kok K) (hb0:b.t=0) (hL:L.length≤100000) (h:Mt w c0 K κ m b s yb y hb lg o) (htb:Tb L q l nx g m s) (ht:Cm m tf) (h1:s.phase=3) (h2:s.pc=5∨s.pc=0) (he:m.s.en=[e]) (he1:e.state=2∧e.thread=0) (hq:Qt m s) (hc:Qc m y) (h38:38<q) (ho:OwnOk s T) (hT:T≤1000000) :
  Calls Tryz.prog 10 #[.pointer (some ⟨hb,0,none⟩),.int .i64 1] w (StepOk L q (T+1) K b hb lg yb w κ 1):=by
 obtain ⟨n,hn,hnT⟩:=ho
 have hall:=htb.all
 rcases h2 with h2 | h2
 ·obtain ⟨v2,hv2,hlc⟩:=htb.loc
  refine go_1d hK h zeroVl (s.next:Int) ((n+1:Nat):Int) 6 (htb.tick (m':=m) (s':=s) (by rw [if_pos h38])) (fun w1 κ1 hs=>step_waiting _ _ _ _ _ n _ w1 hs h1 hn (by omega) keep_t (fun w2 κ2 hs2=>(waiting_failed e w2 hs2 h2 hb0 he he1.2 he1.1 (by show s.phase≠4;omega) (by show s.next≤100000;omega)).mono ?_))
  rintro r2 w' ⟨hr,κ',he2,lv',hs'⟩
  exact ⟨hr,κ',he2,_,_,hs',.kb l nx g [] tf (htb.al.same rfl htb.al.tab) htb.kd (by show s.next+1+1=L.length;omega) v2 (false,0,0) hv2 hlc ⟨ht.l,ht.fr,ht.lost,ht.u,ht.kept,ht.sx,ht.forced,ht.st2⟩ (.inl rfl) (.inl ⟨rfl,rfl⟩) rfl ⟨hq.st,hq.s0,hq.stats⟩ (hc.same rfl),⟨n+1,rfl,by omega⟩⟩
 ·refine go_1 hK h (fun w1 κ1 hs=>step_waiting _ _ _ _ _ n _ w1 hs h1 hn (by omega) keep_t (fun w2 κ2 hs2=>(waiting_same w2 hs2 h2 (by rw [hq.st];exact hq.s0.symm)).mono ?_))
  rintro r2 w' ⟨hr,κ',he2,hs'⟩
  exact ⟨hr,κ',he2,_,_,hs',.failed l nx g e tf (htb.like htb.al rfl rfl) ht h1 (.inl rfl) he he1 ⟨hq.st,hq.s0,hq.stats⟩ hc h38,⟨n+1,rfl,by omega⟩⟩
end
end Go.Proofs.YtpgdiceeimehiaaGreat.Law
