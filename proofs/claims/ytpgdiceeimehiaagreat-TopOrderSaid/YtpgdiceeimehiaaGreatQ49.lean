/- Part 49 of the proof that spotop.TopOrder returns true for all arguments and leaves what was there as it was. -/
import Derived.Test.YtpgdiceeimehiaaGreatQ34
set_option maxRecDepth 100000
set_option maxHeartbeats 16000000
open Go.Lib (hid)
namespace Go.Proofs.YtpgdiceeimehiaaGreat
open Go.RowKit
open Pl (natI natI_len)
open Go.ChangeMaps (setBlock)
namespace Vw
theorem nodup_le (n:Nat):∀ (l:List Nat),l.Nodup→(∀ i∈l,i<n)→l.length≤n:=by
 induction n with
 | zero =>
  intro l _ h
  cases l with
  | nil=>simp
  | cons a l=>exact absurd (h a (by simp)) (by omega)
 | succ n ih =>
  intro l hd h
  by_cases hm:n∈l
  ·have h1:=ih (l.erase n) (hd.erase n) (fun i hi=>by
    have h2:=(List.Nodup.mem_erase_iff hd).1 hi
    have h3:=h i h2.2
    have h4:=h2.1
    omega)
   rw [List.length_erase,if_pos hm] at h1
   omega
  ·have h1:=ih l hd (fun i hi=>by
    have h3:=h i hi
    have:i≠n:=fun e=>hm (e ▸ hi)
    omega)
   omega
def lenV:Value→Nat
 | .slice _ n _=>n
 | _=>0
theorem own_take {w:World} {base:Nat} {A:Option Addr} {c k:Nat} {xs:List Int} (h:w.ownsRow base 3 1 (.slice A xs.length c) xs.length (ints xs)) (hk:k≤xs.length) (h1:1≤xs.length):w.ownsRow base 3 1 (.slice A k c) k (ints (xs.take k)):=by
 obtain ⟨h0,h2⟩:=h
 refine ⟨by simp [ints];omega,?_⟩
 rcases h2 with ⟨h3,h4⟩ | ⟨g,cap,cur,hv,hg,hb,h5,h6,h7,h8⟩
 ·omega
 ·injection hv with e1 e2 e3
  subst e1;subst e3
  refine .inr ⟨g,c,cur,rfl,hg,hb,by omega,h6,h7,?_⟩
  have h9:=congrArg (fun l=>l.take k) h8
  simp only [List.take_take] at h9
  rw [show min k (xs.length * 1)=k by omega] at h9
  rw [Nat.mul_one,h9]
  simp [ints,List.map_take]
theorem src_own {w:World} {base:Nat} {A:Option Addr} {c:Nat} {ts:List Int} (h:w.ownsRow base 3 1 (.slice A ts.length c) ts.length (ints ts)):Src w 1 A ts.length (ints ts):=by
 have h2:=h.2
 rcases h2 with ⟨hv,h3⟩ | ⟨g,cap,cur,hv,-⟩
 ·have:ts=[]:=List.eq_nil_of_length_eq_zero h3
  subst this
  exact src_zero A
 ·injection hv with e1 e2 e3
  subst e1
  have:=Src.front h ts.length (Nat.le_refl _)
  rwa [List.take_length] at this
structure Rc (w:World) (M:Nat) (O:Nat→Prop) (wv ov:Value) (wk:List Int) (out:List Nat) (wr:World):Prop where
 pu:Pure w wr
 mb:w.heap.size≤M
 met:MetR wr M out
 own:wr.ownsRow w.heap.size 3 1 wv wk.length (ints wk)
 all:∀ x∈wk,∃ i:Nat,x=(i:Int)∧O i
 few:wk.length≤1000+2000 * out.length
 outs:wr.ownsRow w.heap.size 3 1 ov out.length (ints (natI out))
 nd:out.Nodup
 oall:∀ x∈out,O x
 two:∀ k,wv.ownBlock=some k→ov.ownBlock≠some k
section
variable {w wr w9:World} {M:Nat} {O:Nat→Prop} {wv ov:Value} {wk:List Int} {out:List Nat}
theorem Rc.pure (h:Rc w M O wv ov wk out wr) (hp:Pure wr w9):Rc w M O wv ov wk out w9 :=
 ⟨h.pu.then hp,h.mb,h.met.only hp (fun f=>f),hp.own h.own (fun _ _ f=>f),h.all,h.few,hp.own h.outs (fun _ _ f=>f),h.nd,h.oall,h.two⟩
theorem met_ne {g:Nat} {cur:Array Value} {e:TypeId} {ks:List Nat} (h:MetR w M ks) (hg:w.heap[g]?=some (.cells cur e (0,0))):g≠M:=by
 rintro rfl
 obtain ⟨es,cl,h1,-⟩:=h
 rw [hg] at h1
 cases h1
theorem met_own {base:Nat} {e:TypeId} {size n:Nat} {v:Value} {xs:List Value} {ks:List Nat} (h:MetR w M ks) (ho:w.ownsRow base e size v n xs):v.ownBlock≠some M:=by
 rcases ho.2 with ⟨rfl,-⟩ | ⟨g,cap,cur,rfl,-,hg,-⟩
 ·simp [Value.ownBlock]
 ·simp only [Value.ownBlock]
  exact fun e=>met_ne h hg (by injection e)
theorem Rc.pop {A:Option Addr} {c:Nat} (h:Rc w M O (.slice A wk.length c) ov wk out wr) (h1:1≤wk.length):Rc w M O (.slice A (wk.length-1) c) ov (wk.take (wk.length-1)) out wr:=by
 have hl:(wk.take (wk.length-1)).length=wk.length-1:=by simp
 refine ⟨h.pu,h.mb,h.met,?_,fun x hx=>h.all x (List.mem_of_mem_take hx),by have:=h.few;omega,h.outs,h.nd,h.oall,fun k hk=>h.two k ?_⟩
 ·have:=own_take h.own (k:=wk.length-1) (by omega) h1
  rw [hl];exact this
 ·cases A with
  | none=>exact hk
  | some p=>exact hk
theorem Rc.meet {es:Array MapEntry} {clock:Nat} (h:Rc w M O wv ov wk out wr) :
  (setBlock wr M (.map es clock)).ownsRow w.heap.size 3 1 wv wk.length (ints wk)∧(setBlock wr M (.map es clock)).ownsRow w.heap.size 3 1 ov out.length (ints (natI out))∧Pure w (setBlock wr M (.map es clock)):=by
 have hs:=set_only wr M (.map es clock)
 exact ⟨hs.own h.own (fun k hk e=>met_own h.met h.own (e ▸ hk)),hs.own h.outs (fun k hk e=>met_own h.met h.outs (e ▸ hk)),h.pu.trans hs (fun q hq e=>by have:=h.mb;omega)⟩
theorem Rc.outsS {w2:World} {i:Nat} {A A9:Option Addr} {cc n9:Nat} (h:Rc w M O wv (.slice A out.length cc) wk out wr) (hm:MetR w2 M (out++[i])) (ho:w2.ownsRow w.heap.size 3 1 wv wk.length (ints wk)) (ho2:w2.ownsRow w.heap.size 3 1 (.slice A out.length cc) out.length (ints (natI out))) (hp2:Pure w w2)
  (hT:Only (fun q=>(Value.slice A out.length cc).ownBlock=some q) w2 w9) (hown9:w9.ownsRow w.heap.size 3 1 (.slice A9 (out.length+1) n9) (out.length+1) (ints (natI out)++[.int .i64 (i:Int)]))
  (hat:∀ q,(Value.slice A9 (out.length+1) n9).ownBlock=some q→(Value.slice A out.length cc).ownBlock=some q∨w2.heap.size≤q) (hi:O i) (hn:i ∉ out):Rc w M O wv (.slice A9 (out.length+1) n9) wk (out++[i]) w9:=by
 have hM:M<w2.heap.size:=by
  obtain ⟨es,cl,h1,-⟩:=hm
  exact (Array.getElem?_eq_some_iff.1 h1).1
 refine ⟨hp2.trans hT (fun q hq hq2=>by have:=(ho2.lt q hq2).1;omega),h.mb,hm.only hT (met_own hm ho2),hT.own ho (fun k hk e=>h.two k hk e),h.all,by have:=h.few;simp;omega,?_,?_,?_,?_⟩
 ·have:ints (natI out)++[.int .i64 (i:Int)]=ints (natI (out++[i])):=by simp [ints,natI]
  rw [this] at hown9
  simpa using hown9
 ·exact List.nodup_append.2 ⟨h.nd,by simp,fun a ha b hb e=>by simp at hb;subst hb;subst e;exact hn ha⟩
 ·intro x hx
  rcases List.mem_append.1 hx with hx | hx
  ·exact h.oall x hx
  ·simp at hx;exact hx ▸ hi
 ·intro k hk e
  rcases hat k e with h1 | h1
  ·exact h.two k hk h1
  ·have:=(ho.lt k hk).2;omega
theorem Rc.more {A A9:Option Addr} {cc n9:Nat} {ts:List Int} (h:Rc w M O (.slice A wk.length cc) ov wk out wr) (hT:Only (fun q=>(Value.slice A wk.length cc).ownBlock=some q) wr w9) (hown9:w9.ownsRow w.heap.size 3 1 (.slice A9 (wk.length+ts.length) n9) (wk.length+ts.length) (ints wk++ints ts))
  (hat:∀ q,(Value.slice A9 (wk.length+ts.length) n9).ownBlock=some q→(Value.slice A wk.length cc).ownBlock=some q∨wr.heap.size≤q) (ht:∀ x∈ts,∃ i:Nat,x=(i:Int)∧O i) (hl:wk.length+ts.length≤1000+2000 * out.length):Rc w M O (.slice A9 (wk.length+ts.length) n9) ov (wk++ts) out w9:=by
 refine ⟨h.pu.trans hT (fun q hq hq2=>by have:=(h.own.lt q hq2).1;omega),h.mb,h.met.only hT (met_own h.met h.own),?_,?_,by simpa using hl,hT.own h.outs (fun k hk e=>h.two k e hk),h.nd,h.oall,?_⟩
 ·have:ints wk++ints ts=ints (wk++ts):=by simp [ints]
  rw [this] at hown9
  simpa using hown9
 ·intro x hx
  rcases List.mem_append.1 hx with hx | hx
  ·exact h.all x hx
  ·exact ht x hx
 ·intro k hk e
  rcases hat k hk with h1 | h1
  ·exact h.two k h1 e
  ·have:=(h.outs.lt k e).2;omega
end
section
variable {B vb hb lg yb:Nat} {c:Cn} {K:Cor.Q} {κ:Nat→Nat} {m:Cor.St} {b:Ac.B} {s:Ac.St} {y:Cyc.St} {O:Nat→Prop} {fr:Nat→List Nat}
theorem reach_s (w:World) (h:Mac w c K κ m b s yb y hb lg) (hx:∀ s∈K.csh,s.bs.length≤1000000) (hS:SetO m c K.csh O fr) (hO:∀ i,O i→i<1000) (hT:c.threads=1) (hL:s.phase≠0→s.phase≠4→∀ v∈s.locals,LocOk O v) (hg0:0≤c.globals) (hg9:c.globals≤900) (ad:Nat) (had:8 * c.frags+2 * c.spine=(ad:Int)) (hG:∀ g:Nat,(g:Int)<c.globals→∃ z,m.words[ad+g]?=some z∧LocOk O (true,z)) :
  Calls Tryz.prog 29 #[.pointer (some ⟨hb,0,none⟩)] w fun e w'=>∃ v out,e=.returned v∧Pure w w'∧w'.ownsRow w.heap.size 3 1 v out.length (ints out)∧out.Nodup∧out.length≤1000∧∀ x∈out,∃ i:Nat,x=(i:Int)∧O i:=by
 have hp1:Pure w (w.alloc (.map #[] 0)):=(Only.refl _ _).alloc _
 have HMT:Hid (MetR (w.alloc (.map #[] 0)) w.heap.size []):=hid (met_new w)
 have HP1:=hid hp1
 have HSZ1:Hid ((w.alloc (.map #[] 0)).heap.size=w.heap.size+1):=hid (by simp)
 have hroots:=roots_s (w.alloc (.map #[] 0)) (h.pure hp1) hx hT hL hg0 hg9 ad had hG
 have HR:=hid hroots
 have HM:=hid h
 have HX:=hid hx
 have HSO:=hid hS
 have HO:=hid hO
 clear h hx hS hO hL hG had hp1 hroots hg0 hg9 hT
 have hmk:=Pl.run_mkmap 82 w
 go_enter Tryz.func29,Tryz.ntmps29
 go_wp2_with fail
 clear hmk
 generalize w.alloc (.map #[] 0)=w1 at *
 obtain ⟨M,hM⟩:∃ M,M=w.heap.size:=⟨_,rfl⟩
 rw [← hM] at HMT ⊢
 refine HR.out.mono ?_
 rintro e w2 ⟨v,rfl,hp2,xs,hown,hlx,hxo⟩
 have HRC:Hid (Rc w M O v (.slice none 0 0) xs [] w2):=hid ⟨HP1.out.then hp2,by omega,HMT.out.only hp2 (fun f=>f),own_mono hown HP1.out.size,hxo,by simpa using hlx,World.ownsRow_nil _ _ _ _,List.nodup_nil,by simp,fun k hk e=>by simp [Value.ownBlock] at e⟩
 clear hown hlx hxo hp2 HR hM
 go_wp2_with fail
 go_loopw [4,5] (fun wv ov wr=>∃ (wk:List Int) (out:List Nat),Rc w M O wv ov wk out wr) (fun wv ov _=>2001 * (1000-lenV ov)+lenV wv)
 case atStart=>exact ⟨xs,[],HRC.out⟩
 case round =>
  clear HRC
  obtain ⟨wk,out,hr⟩:=hrel
  obtain ⟨A1,n1,rfl⟩:=own_form hr.own
  obtain ⟨A2,n2,hov⟩:=own_form hr.outs
  subst hov
  have hol:out.length≤1000:=nodup_le 1000 out hr.nd (fun i hi=>HO.out i (hr.oall i hi))
  have HOL:=hid hol
  have R:=hid hr
  clear hr hol
  rcases List.eq_nil_or_concat wk with rfl | ⟨wk',x,rfl⟩
  ·go_wp2_with fail
   refine (sort_own w.heap.size (natI out) (.slice A2 out.length n2) wr (by have:=R.out.outs;rw [natI_len];exact this) (by rw [natI_len];have:=HOL.out;omega)).mono ?_
   rintro e w5 ⟨rfl,ho5,ts,ht1,ht2,ht3,ht4⟩
   have HT:=hid (And.intro ho5 (And.intro ht1 (And.intro ht2 (And.intro ht3 ht4))))
   clear ho5 ht1 ht2 ht3 ht4
   go_wp2_with fail
   go_ret
   obtain ⟨ho5,ht1,ht2,ht3,ht4⟩:=HT.out
   rw [natI_len] at ht1
   refine ⟨_,ts,rfl,R.out.pu.trans ho5 (fun q hq hq2=>by have:=(R.out.outs.lt q hq2).1;omega),by rw [ht1] at ht4 ⊢;exact ht4,ht3 ?_,by rw [ht1];exact HOL.out,fun x hx=>?_⟩
   ·exact List.Pairwise.map _ (fun a b hab h=>hab (Int.ofNat.inj h)) R.out.nd
   ·obtain ⟨i,hi,rfl⟩:=List.mem_map.1 ((ht2 x).1 hx)
    exact ⟨i,rfl,R.out.oall i hi⟩
  ·rw [List.concat_eq_append] at R ⊢
   obtain ⟨i,rfl,hoi⟩:=R.out.all x (by simp)
   have HOI:=hid hoi
   have hi1000:=HO.out i hoi
   have hown:=R.out.own
   obtain ⟨g,cap,e,-⟩:=hown.form (by simp)
   injection e with e1 e2 e3
   subst e1
   have hxc:wr.cell? ⟨g,wk'.length,none⟩=some (.int .i64 (i:Int)):=by rw [hown.cellAt _ (by simp)];simp [ints]
   have hcap:=own_cap hown
   obtain ⟨n0,hn0⟩:∃ n0,wk'.length=n0:=⟨_,rfl⟩
   have hlen1:(wk'++[(i:Int)]).length=n0+1:=by simp [hn0]
   have HL:=hid (And.intro hn0 hlen1)
   have hpop:=R.out.pop (by simp)
   have htk:(wk'++[(i:Int)]).take ((wk'++[(i:Int)]).length-1)=wk':=by simp
   rw [htk,hlen1,Nat.add_sub_cancel] at hpop
   have HPOP:=hid hpop
   rw [hlen1] at hcap ⊢
   rw [hn0] at hxc
   have hn1:=hcap.1
   have hn2:n1≤9223372036854775807:=hcap.2
   have hlk:=met_look (k:=i) R.out.met (by omega)
   clear hn0 hlen1 hown hpop htk e2 e3 hcap hoi
   by_cases hin:i∈out
   ·rw [decide_eq_true hin] at hlk
    clear hin
    go_wp2_with fail
    go_roundw
    case rel=>exact ⟨wk',out,HPOP.out⟩
    case measure=>simp [lenV]
   ·rw [decide_eq_false hin] at hlk
    have HIN:=hid hin
    obtain ⟨es,clock,hput,hmet⟩:=met_put (k:=i) R.out.met (by omega) hin
    obtain ⟨hq1,hq2,hq3⟩:=HPOP.out.meet (es:=es) (clock:=clock)
    have HMET:=hid (And.intro hmet (And.intro hq1 (And.intro hq2 hq3)))
    clear hmet hq1 hq2 hq3 hin
    go_upto_region 9 with fail
    generalize hw5:setBlock wr M (.map es clock)=w5 at *
    clear hput hlk hxc hw5
    obtain ⟨i0,hi0,hz0,hz1,hz2⟩:=info_parts Po.int_info
    have hol2:out.length≤1000:=HOL.out
    have hszB:Hid (w.heap.size≤w5.heap.size):=hid HMET.out.2.2.2.size
    go_upto_region 10 with (at_builtin;refine wpList_app _ rfl (.tmp 31) (.tmp 33) _ rfl w.heap.size 3 i0 _ 1 8 Tryz.underlying25 hi0 hz0 hz1 hz2 rfl (by omega) (.slice A2 out.length n2) out.length _ rfl (World.ownsRow.alloc HMET.out.2.2.1 _) _ 1 1 [.int .i64 (i:Int)] rfl (Src.row _ _ #[.int .i64 (i:Int)] 1 1 _ rfl rfl) (by simp [Value.oneCell']) (by simp only [maxLen];omega) (by omega) (by have:=hszB.out;simp;omega) ?_;intro v9 w9 hown9 hg9 hat9;obtain ⟨A9,n9,rfl⟩:=own_form hown9;have HR9:=hid (HPOP.out.outsS HMET.out.1 HMET.out.2.1 HMET.out.2.2.1 HMET.out.2.2.2 (((Only.refl _ w5).alloc _).grown hg9 (fun q _ hq=>hq)) hown9 (fun q hq=>by rcases hat9 with h1 | h1;exact .inl (h1.symm.trans hq);rw [h1] at hq;injection hq with hq;exact .inr (by rw [← hq];simp)) HOI.out HIN.out);clear hown9 hg9 hat9;go_frame)
    clear hszB HMET hol2
    go_wp2_with fail
    refine (looks_s i w9 (HM.out.pure HR9.out.pu) HX.out HSO.out HOI.out).mono ?_
    rintro e w10 ⟨vb,kd,v',nsh,rv,bs,fv,tv,ts,rfl,hp10,ha10,hts1,hts2⟩
    obtain ⟨At_,ct,htv⟩:=own_form ha10.tos
    simp only [] at htv
    subst htv
    have p18:=ha10.p18
    have HR10:=hid (HR9.out.pure hp10)
    have HTS:=hid (And.intro hts1 hts2)
    have HTO:=hid ha10.tos
    have hszB2:Hid (w.heap.size≤w10.heap.size):=hid HR10.out.pu.size
    have hwl:wk'.length≤3000000:=by have:=HR10.out.few;have:=HOL.out;simp at *;omega
    have htl:ts.length≤2000:=hts1
    clear hp10 ha10 hts1 hts2 HR9
    have hsrc:=src_own HTO.out
    have hol3:out.length+1≤1000:=by
     have:=nodup_le 1000 _ HR10.out.nd (fun j hj=>HO.out j (HR10.out.oall j hj))
     simpa using this
    have hfw:=HPOP.out.few
    obtain ⟨j0,hj0,hy0,hy1,hy2⟩:=info_parts Po.int_info
    have hown11:w10.ownsRow w.heap.size 3 1 (.slice (some ⟨g,0,none⟩) n0 n1) n0 (ints wk'):=by
     have:=HR10.out.own
     rwa [HL.out.1] at this
    have HOW:=hid hown11
    have HOLS:=hid (And.intro hol3 hfw)
    have hn0l:n0≤3000000:=by have:=HL.out.1;omega
    clear hown11 hol3 hfw hwl
    go_wp2_with (at_builtin;refine wpList_app _ rfl (.tmp 42) (.tmp 46) _ rfl w.heap.size 3 j0 _ 1 8 Tryz.underlying25 hj0 hy0 hy1 hy2 rfl (by omega) (.slice (some ⟨g,0,none⟩) n0 n1) n0 _ rfl HOW.out At_ ts.length ct (ints ts) rfl hsrc (by intro u hu;obtain ⟨z,-,rfl⟩:=List.mem_map.1 hu;rfl) (by simp only [maxLen];omega) (by omega) hszB2.out ?_;intro v11 w11 hown11 hg11 hat11;obtain ⟨A11,n11,rfl⟩:=own_form hown11;obtain ⟨rfl,-⟩:=HL.out;have HR11:=hid (HR10.out.more ((Only.refl _ w10).grown hg11 (fun q _ hq=>hq)) hown11 (fun q hq=>by rcases hat11 with h1 | h1;exact .inl (h1.symm.trans hq);rw [h1] at hq;injection hq with hq;exact .inr (by rw [← hq];exact Nat.le_refl _)) HTS.out.2 (by have:=HOLS.out.2;simp;omega));clear hown11 hg11 hat11;go_frame)
    go_roundw
    case rel=>exact ⟨_,_,HR11.out⟩
    case measure =>
     have:=HOLS.out.1
     have:=HTS.out.1
     simp [lenV]
     omega
end
end Vw
open Go.RowKit
open Pl (natI natI_len)
open Go.ChangeMaps (setBlock)
namespace Vw
def frsJ (fr:Nat→List Nat) (ts:List Int) (j:Nat):List Nat:=(ts.take j).flatMap (fun x=>fr x.toNat)
theorem frsJ_succ {fr:Nat→List Nat} {ts:List Int} {j:Nat} {i:Nat} (h:ts[j]?=some (i:Int)):frsJ fr ts (j+1)=frsJ fr ts j++fr i:=by
 unfold frsJ
 rw [List.take_add_one,h]
 simp
structure Sn (w:World) (M:Nat) (rv:Value) (ts:List Int) (ks:List Nat) (wr:World):Prop where
 pu:Pure w wr
 mb:w.heap.size≤M
 met:MetR wr M ks
 own:wr.ownsRow w.heap.size 3 1 rv ts.length (ints ts)
section
variable {w wr w':World} {M:Nat} {rv:Value} {ts:List Int} {ks:List Nat}
theorem Sn.pure (h:Sn w M rv ts ks wr) (hp:Pure wr w'):Sn w M rv ts ks w':=⟨h.pu.then hp,h.mb,h.met.only hp (fun f=>f),hp.own h.own (fun _ _ f=>f)⟩
theorem Sn.take {k:Nat} (h:Sn w M rv ts ks wr) (ho:Only (fun q=>q=M) wr w') (hm:MetR w' M (ks++[k])):Sn w M rv ts (ks++[k]) w' :=
 ⟨h.pu.trans ho (fun q hq e=>by have:=h.mb;omega),h.mb,hm,ho.own h.own (fun k hk e=>met_own h.met h.own (e ▸ hk))⟩
end
section
variable {B vb hb lg yb:Nat} {c:Cn} {K:Cor.Q} {κ:Nat→Nat} {m:Cor.St} {b:Ac.B} {s:Ac.St} {y:Cyc.St} {O:Nat→Prop} {fr:Nat→List Nat}
theorem fresh_of (hS:SetO m c K.csh O fr) {ts:List Int} (hnd:ts.Nodup) (hO:∀ x∈ts,∃ i:Nat,x=(i:Int)∧O i) {j k i f:Nat} (hj:ts[j]?=some (i:Int)) (hk:(fr i)[k]?=some f):f ∉ frsJ fr ts j++(fr i).take k:=by
 obtain ⟨i',hi',hOi⟩:=hO _ (List.mem_of_getElem? hj)
 obtain rfl:i=i':=by omega
 intro hm
 rcases List.mem_append.1 hm with hm | hm
 ·unfold frsJ at hm
  obtain ⟨x,hx,hfx⟩:=List.mem_flatMap.1 hm
  obtain ⟨z,rfl,hOz⟩:=hO x (List.mem_of_mem_take hx)
  have hne:i≠z:=by
   rintro rfl
   obtain ⟨p,hp,hpx⟩:=List.mem_iff_getElem.1 hx
   rw [List.getElem_take] at hpx
   have hp2:p<j:=by rw [List.length_take] at hp;omega
   obtain ⟨hjl,hj2⟩:=List.getElem?_eq_some_iff.1 hj
   have:=(List.getElem_inj (h₀:=by omega) (h₁:=hjl) hnd).1 (hpx.trans hj2.symm)
   omega
  exact hS.dj i z hOi hOz hne f (List.mem_of_getElem? hk) (by simpa using hfx)
 ·obtain ⟨p,hp,hpx⟩:=List.mem_iff_getElem.1 hm
  rw [List.getElem_take] at hpx
  have hp2:p<k:=by rw [List.length_take] at hp;omega
  obtain ⟨hkl,hk2⟩:=List.getElem?_eq_some_iff.1 hk
  have:=(List.getElem_inj (h₀:=by omega) (h₁:=hkl) (hS.nd i hOi)).1 (hpx.trans hk2.symm)
  omega
theorem sound_s (w:World) (h:Mac w c K κ m b s yb y hb lg) (hx:∀ s∈K.csh,s.bs.length≤1000000) (hS:SetO m c K.csh O fr) (hO:∀ i,O i→i<1000) (hT:c.threads=1) (hL:s.phase≠0→s.phase≠4→∀ v∈s.locals,LocOk O v) (hg0:0≤c.globals) (hg9:c.globals≤900) (ad:Nat) (had:8 * c.frags+2 * c.spine=(ad:Int)) (hG:∀ g:Nat,(g:Int)<c.globals→∃ z,m.words[ad+g]?=some z∧LocOk O (true,z))
  (hcnt:((Tab.cnt m.s.l 0+Tab.cnt m.s.l 1+Tab.cnt m.s.l 2:Nat):Int)=c.frags) (hf9:c.frags≤2000) (hfr:∀ i,O i→(fr i).length≤2000∧∀ x∈fr i,x≤1000000) :
  Calls Tryz.prog 11 #[.pointer (some ⟨hb,0,none⟩)] w fun e w'=>e=.returned (.int .i64 0)∧Pure w w':=by
 have HM:=hid h
 have HX:=hid hx
 have HS:=hid hS
 have HR:Hid (∀ w1,Pure w w1→Calls Tryz.prog 29 #[.pointer (some ⟨hb,0,none⟩)] w1 fun e w'=>∃ v out,e=.returned v∧Pure w1 w'∧w'.ownsRow w1.heap.size 3 1 v out.length (ints out)∧out.Nodup∧out.length≤1000∧∀ x∈out,∃ i:Nat,x=(i:Int)∧O i):=hid (fun w1 hp=>reach_s w1 (h.pure hp) hx hS hO hT hL hg0 hg9 ad had hG)
 have HC:=hid hcnt
 have HFR:=hid (And.intro hfr hO)
 obtain ⟨n0,hn0⟩:∃ n,Tab.cnt m.s.l 0=n:=⟨_,rfl⟩
 obtain ⟨n1,hn1⟩:∃ n,Tab.cnt m.s.l 1=n:=⟨_,rfl⟩
 obtain ⟨n2,hn2⟩:∃ n,Tab.cnt m.s.l 2=n:=⟨_,rfl⟩
 have hsum:(n0:Int)+(n1:Int)+(n2:Int)=c.frags:=by rw [← hcnt,hn0,hn1,hn2];omega
 have HN:=hid (And.intro hn0 (And.intro hn1 hn2))
 clear h hx hS hO hT hL hg0 hg9 had hG hcnt hfr hn0 hn1 hn2
 go_enter Tryz.func11,Tryz.ntmps11
 go_wp2_with fail
 refine (counts_h w HM.out).mono ?_
 rw [HN.out.1,HN.out.2.1,HN.out.2.2]
 rintro e w2 ⟨rfl,hp2⟩
 have HP2:=hid hp2
 have HM2:=hid (HM.out.pure hp2)
 have p1:=HM2.out.hp.p1
 clear hp2
 go_wp2_with fail
 refine (herrno_in w2 HM2.out.cys.cyc).mono ?_
 rintro e w3 ⟨rfl,hp3⟩
 have HP3:=hid (HP2.out.then hp3)
 have HM3:=hid (HM.out.pure HP3.out)
 have hn0b:n0≤2000:=by omega
 have hn1b:n1≤2000:=by omega
 have hn2b:n2≤2000:=by omega
 clear hp3 p1 HP2 HM2
 go_wp2_with fail
 refine (conf_h w3 HM3.out HX.out).mono ?_
 rintro e w4 ⟨A4,d4,nsh,rfl,hp4,-,-,-⟩
 have HP4:=hid (HP3.out.then hp4)
 have HM4:=hid (HM.out.pure HP4.out)
 have hmk:=Pl.run_mkmap 83 w4
 have hmk2:=Pl.run_mkmap 83 (w4.alloc (.map #[] 0))
 clear hp4 HP3 HM3 hsum
 have hfd:(Instr.field 24 (.agg #[.int .i64 c.frags,.int .i64 c.spine,.int .i64 c.globals,.int .i64 c.threads,.int .i64 c.locals,.int .i64 c.cache,.int .i64 c.stack,.int .i64 c.low,.slice A4 K.csh.length d4]) 0).run Tryz.prog w4=.ok (.int .i64 c.frags) w4:=by kernel_rfl
 dsimp only [cnV]
 go_wp2_with fail
 clear hfd
 have hp5:Pure w4 ((w4.alloc (.map #[] 0)).alloc (.map #[] 0)):=((Only.refl _ w4).alloc _).alloc _
 have HP5:=hid (HP4.out.then hp5)
 have HM5:=hid (HM.out.pure HP5.out)
 have hmt5:=(met_new w4).only ((Only.refl (fun _=>False) _).alloc (.map #[] 0)) (fun f=>f)
 have HMT5:=hid hmt5
 have HSB:Hid (w.heap.size≤w4.heap.size):=hid HP4.out.size
 clear hp5 hmt5 hmk hmk2 HP4 HM4
 generalize (w4.alloc (.map #[] 0)).alloc (.map #[] 0)=w5 at *
 generalize w4.heap.size=M1 at *
 refine (HR.out w5 HP5.out).mono ?_
 rintro e w6 ⟨rv,ts,rfl,hp6,hown6,hnd,htl,htO⟩
 obtain ⟨Ar,cr,rfl⟩:=own_form hown6
 have HT:=hid (And.intro hnd htO)
 have HSN:Hid (Sn w M1 (.slice Ar ts.length cr) ts (frsJ fr ts 0) w6):=hid ⟨HP5.out.then hp6,HSB.out,HMT5.out.only hp6 (fun f=>f),own_mono hown6 HP5.out.size⟩
 clear hp6 hown6 hnd htO HMT5 HP5 HM5
 go_wp2_with fail
 go_loopw [43] (fun i wr=>∃ j:Nat,j≤ts.length∧i=.int .i64 (j:Int)∧Sn w M1 (.slice Ar ts.length cr) ts (frsJ fr ts j) wr) (fun i _=>ts.length-(intOf i).toNat)
 case atStart=>exact ⟨0,Nat.zero_le _,rfl,HSN.out⟩
 case round =>
  clear HSN
  obtain ⟨j,hj,rfl,hsn⟩:=hrel
  have SN:=hid hsn
  clear hsn
  by_cases hlt:j<ts.length
  ·obtain ⟨x,hx⟩:∃ x,ts[j]?=some x:=⟨_,List.getElem?_eq_getElem hlt⟩
   obtain ⟨i,rfl,hoi⟩:=HT.out.2 x (List.mem_of_getElem? hx)
   have HXJ:=hid (And.intro hx hoi)
   have hown:=SN.out.own
   obtain ⟨g,cap,e,-⟩:=hown.form (by omega)
   injection e with e1 e2 e3
   subst e1
   have hxc:wr.cell? ⟨g,j,none⟩=some (.int .i64 (i:Int)):=by rw [hown.cellAt _ (by omega)];simp [ints,hx]
   have hji:(j:Int)<(ts.length:Int):=by omega
   have HLT:=hid hlt
   clear hown hx hoi e2 e3 hlt
   go_wp2_with fail
   refine (look_s i wr (HM.out.pure SN.out.pu) HX.out HS.out HXJ.out.2).mono ?_
   rintro e w7 ⟨kd,fv,rfl,hp7,hown7⟩
   obtain ⟨Af,cf,hfv⟩:=own_form hown7
   subst hfv
   have HOW:=hid hown7
   have SN7:=hid (SN.out.pure hp7)
   obtain ⟨hp8,hsz8,hg8⟩:=Ac.one_new w7 #[.int .i64 (i:Int),.int .i64 (kd:Int),.int .i64 0,.slice Af (fr i).length cf,.int .i64 (-1),.int .i64 0] 86
   have SN8:=hid (SN7.out.pure hp8)
   have hown8:=World.ownsRow.alloc hown7 (.cells #[.int .i64 (i:Int),.int .i64 (kd:Int),.int .i64 0,.slice Af (fr i).length cf,.int .i64 (-1),.int .i64 0] 86)
   have HOW8:=hid hown8
   have HG8:=hid hg8
   have hmb:M1<wr.heap.size:=by obtain ⟨es,cl,h1,-⟩:=SN.out.met;exact (Array.getElem?_eq_some_iff.1 h1).1
   have HMB:=hid hmb
   have HLX:Hid (M1<w7.heap.size):=hid (by obtain ⟨es,cl,h1,-⟩:=SN7.out.met;exact (Array.getElem?_eq_some_iff.1 h1).1)
   clear hp7 hown7 hp8 hsz8 SN hxc HOW hown8 SN7 hmb
   generalize wr.heap.size=B0 at *
   go_upto_region 9 with fail
   generalize w7.alloc (.cells #[.int .i64 (i:Int),.int .i64 (kd:Int),.int .i64 0,.slice Af (fr i).length cf,.int .i64 (-1),.int .i64 0] 86)=w8 at *
   generalize w7.heap.size=X at *
   have z3:w8.cell? ⟨X,3,none⟩=some (.slice Af (fr i).length cf):=by rw [cell_of_row w8 _ _ _ _ _ hg8];rfl
   have z5:w8.cell? ⟨X,5,none⟩=some (.int .i64 0):=by rw [cell_of_row w8 _ _ _ _ _ hg8];rfl
   clear hg8
   have hf2:=(HFR.out.1 i HXJ.out.2).1
   go_wp2_with fail
   clear z3 z5
   go_loopw [69] (fun k wr=>∃ kn:Nat,kn≤(fr i).length∧k=.int .i64 (kn:Int)∧Only (fun q=>q=M1) w8 wr∧Sn w M1 (.slice (some ⟨g,0,none⟩) ts.length cr) ts (frsJ fr ts j++(fr i).take kn) wr) (fun k _=>(fr i).length-(intOf k).toNat)
   case atStart=>exact ⟨0,Nat.zero_le _,rfl,Only.refl _ _,by rw [List.take_zero,List.append_nil];exact SN8.out⟩
   case round =>
    clear SN8
    obtain ⟨k,hk,rfl,ho,hsn⟩:=hrel
    have HO8:=hid ho
    have SN:=hid hsn
    clear ho hsn
    by_cases hlt:k<(fr i).length
    ·obtain ⟨f,hf⟩:∃ f,(fr i)[k]?=some f:=⟨_,List.getElem?_eq_getElem hlt⟩
     have HF:=hid hf
     have hownw:=HO8.out.own HOW8.out (fun q hq e=>by have:=(HOW8.out.lt q hq).1;have:=HMB.out;omega)
     have hlr:(natI (fr i)).length=(fr i).length:=natI_len _
     obtain ⟨gf,capf,ef,-⟩:=hownw.form (by omega)
     injection ef with e1 e2 e3
     subst e1
     have hfc:wr.cell? ⟨gf,k,none⟩=some (.int .i64 (f:Int)):=by rw [hownw.cellAt _ (by omega)];simp [ints,natI,hf]
     have hki:(k:Int)<((fr i).length:Int):=by omega
     have HKL:=hid hlt
     clear hownw hlr e2 e3 hlt hf
     go_wp2_with fail
     obtain ⟨qf,hq1,hq2⟩:=HS.out.used i HXJ.out.2 f (List.mem_of_getElem? HF.out)
     have hst:=state_h f qf wr (HM.out.pure SN.out.pu) hq1
     rw [hq2] at hst
     refine hst.mono ?_
     rintro e w9 ⟨rfl,hp9⟩
     have SN9:=hid (SN.out.pure hp9)
     have HO9:=hid (HO8.out.trans (hp9.mono (T:=fun q=>q=M1) (fun _ _ f=>f.elim)) (fun _ _ h=>h))
     clear hp9 hst hfc hq1 hq2
     go_wp2_with fail
     refine (takes_new M1 f _ w9 SN9.out.met ((HFR.out.1 i HXJ.out.2).2 f (List.mem_of_getElem? HF.out)) (fresh_of HS.out HT.out.1 HT.out.2 HXJ.out.1 HF.out)).mono ?_
     rintro e w10 ⟨rfl,ho10,hm10⟩
     have SN10:=hid (SN9.out.take ho10 hm10)
     have HO10:=hid (HO9.out.trans ho10 (fun _ _ h=>h))
     clear ho10 hm10 HO9 SN9
     go_wp2_with fail
     go_roundw
     case rel =>
      refine ⟨k+1,by have:=HKL.out;omega,by first | rfl | simp,HO10.out,?_⟩
      rw [List.take_add_one,HF.out]
      have:=SN10.out
      rw [List.append_assoc] at this
      exact this
     case measure=>have:=HKL.out;simp [intOf];omega
    ·obtain rfl:k=(fr i).length:=by omega
     clear hlt hk
     have hg9:=HO8.out.blk HG8.out (by have:=HLX.out;omega)
     have z5:wr.cell? ⟨X,5,none⟩=some (.int .i64 0):=by rw [cell_of_row wr _ _ _ _ _ hg9];rfl
     have hsn2:=SN.out
     rw [List.take_length,← frsJ_succ HXJ.out.1] at hsn2
     have SN2:=hid hsn2
     clear hg9 hsn2 SN
     go_wp2_with fail
     clear z5
     go_loopw [86] (fun k wr=>k=.int .i64 0∧Sn w M1 (.slice (some ⟨g,0,none⟩) ts.length cr) ts (frsJ fr ts (j+1)) wr) (fun _ _=>0)
     case atStart=>exact ⟨rfl,SN2.out⟩
     case round =>
      clear SN2
      obtain ⟨rfl,hsn⟩:=hrel
      have SN:=hid hsn
      clear hsn
      go_wp2_with fail
      go_roundw
      case rel=>exact ⟨j+1,by have:=HLT.out;omega,by first | rfl | simp,SN.out⟩
      case measure=>have:=HLT.out;simp [intOf];omega
  ·obtain rfl:j=ts.length:=by omega
   go_wp2_with fail
   go_ret
   exact ⟨rfl,SN.out.pu⟩
end
end Vw
end Go.Proofs.YtpgdiceeimehiaaGreat
