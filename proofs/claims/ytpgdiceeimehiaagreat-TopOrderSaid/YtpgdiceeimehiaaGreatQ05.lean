/- Part 5 of the proof that spotop.TopOrder returns true for all arguments and leaves what was there as it was. -/
import Derived.Test.YtpgdiceeimehiaaGreatQ03
import Derived.Test.YtpgdiceeimehiaaGreatQ04
set_option maxRecDepth 100000
set_option maxHeartbeats 16000000
open Go.Lib (hid)
namespace Go.Proofs.YtpgdiceeimehiaaGreat.Po
open Go.RowKit
def cnt (l:List Bool):Nat:=l.countP id
theorem cnt_le (l:List Bool):cnt l≤l.length:=List.countP_le_length
theorem cnt_off (l:List Bool) (j:Nat) (h:l[j]?=some true):cnt (l.set j false)+1=cnt l:=by
 induction l generalizing j with
 | nil=>simp at h
 | cons a l ih =>
  cases j with
  | zero=>injection h with h;subst h;simp [cnt]
  | succ j=>have:=ih j (by simpa using h);simp only [cnt,List.set_cons_succ,List.countP_cons] at this ⊢;omega
theorem cnt_on (l:List Bool) (j:Nat) (h:l[j]?=some false):cnt (l.set j true)=cnt l+1:=by
 induction l generalizing j with
 | nil=>simp at h
 | cons a l ih =>
  cases j with
  | zero=>injection h with h;subst h;simp [cnt]
  | succ j=>have:=ih j (by simpa using h);simp only [cnt,List.set_cons_succ,List.countP_cons] at this ⊢;omega
structure Mid (w:World) (b g:Nat) (l:List Bool) (n:Int):Prop where
 me:w.heap[b]?=some (.cells #[.slice (some ⟨g,0,none⟩) l.length l.length,.int .i64 n] 211 (0,0))
 row:w.heap[g]?=some (.cells (bools l).toArray 4 (0,0))
 few:l.length≤1024
def At (w:World) (b g:Nat) (l:List Bool):Prop:=Mid w b g l (cnt l:Int)
section
variable {w w':World} {b g:Nat} {l:List Bool} {n:Int}
theorem Mid.c0 (h:Mid w b g l n):w.cell? ⟨b,0,none⟩=some (.slice (some ⟨g,0,none⟩) l.length l.length):=by rw [cell_of_row w b 0 _ _ _ h.me];rfl
theorem Mid.c1 (h:Mid w b g l n):w.cell? ⟨b,1,none⟩=some (.int .i64 n):=by rw [cell_of_row w b 1 _ _ _ h.me];rfl
theorem Mid.fb (h:Mid w b g l n) (k:Nat):w.frozen? ⟨b,k,none⟩=false:=frozen_of_row w b k _ _ h.me
theorem Mid.fg (h:Mid w b g l n) (k:Nat):w.frozen? ⟨g,k,none⟩=false:=frozen_of_row w g k _ _ h.row
theorem Mid.ne (h:Mid w b g l n):b≠g:=by
 rintro rfl
 have:=h.me.symm.trans h.row
 simp at this
theorem Mid.lb (h:Mid w b g l n):b<w.heap.size:=(Array.getElem?_eq_some_iff.1 h.me).1
theorem Mid.lg (h:Mid w b g l n):g<w.heap.size:=(Array.getElem?_eq_some_iff.1 h.row).1
theorem Mid.only {S:Nat→Prop} (h:Mid w b g l n) (ho:Only S w w') (hb:¬ S b) (hg:¬ S g):Mid w' b g l n:=⟨(ho.block b h.lb hb).trans h.me,(ho.block g h.lg hg).trans h.row,h.few⟩
theorem Mid.one (h:Mid w b g l n) {j:Nat} {x:Bool} (hj:l[j]?=some x):w.cell? ⟨g,j,none⟩=some (.bool x):=by
 rw [cell_of_row w g _ _ _ _ h.row]
 simp [bools,hj]
theorem Mid.count (h:Mid w b g l n) (v:Int):Mid (w.setCell ⟨b,1,none⟩ (.int .i64 v)) b g l v :=
 ⟨by simp [World.setCell,Array.getElem?_modify,h.me],by simp only [World.setCell,Array.getElem?_modify,h.row,if_neg h.ne],h.few⟩
theorem Mid.put (h:Mid w b g l n) (j:Nat) (x:Bool):Mid (w.setCell ⟨g,j,none⟩ (.bool x)) b g (l.set j x) n:=by
 refine ⟨?_,?_,by simpa using h.few⟩
 ·simp only [World.setCell,Array.getElem?_modify,h.me,if_neg (Ne.symm h.ne),List.length_set]
 ·simp only [World.setCell,Array.getElem?_modify,h.row,if_true,bools,List.map_set]
  simp
theorem At.mid (h:At w b g l):Mid w b g l (cnt l:Int):=h
theorem At.only {S:Nat→Prop} (h:At w b g l) (ho:Only S w w') (hb:¬ S b) (hg:¬ S g):At w' b g l:=h.mid.only ho hb hg
end
theorem free_any (b g:Nat) (l:List Bool) (w:World) (h:At w b g l):Calls Tryz.prog 144 #[.pointer (some ⟨b,0,none⟩)] w fun e w'=>e=.returned (.int .i64 (cnt l:Int))∧w=w':=by
 have c1:=h.mid.c1
 go_enter Tryz.func144,Tryz.ntmps144
 go_wp2_with fail
 go_ret
 exact ⟨rfl,rfl⟩
theorem takes_in (b g:Nat) (l:List Bool) (j:Nat) (w:World) (h:At w b g l) (hj:l[j]?=some true):Calls Tryz.prog 289 #[.pointer (some ⟨b,0,none⟩),.int .i64 j] w fun e w'=>e=.returned (.tuple #[])∧Only (fun k=>k=b∨k=g) w w'∧w'.heap.size=w.heap.size∧At w' b g (l.set j false):=by
 have c0:=h.mid.c0
 have c2:=h.mid.one hj
 have fg:=h.mid.fg
 have hjl:j<l.length:=(List.getElem?_eq_some_iff.1 hj).1
 have i2:(j:Int)<(l.length:Int):=by omega
 have H1:=hid (h.mid.put j false)
 have O1:Hid (Only (fun k=>k=b∨k=g) w (w.setCell ⟨g,j,none⟩ (.bool false))):=hid ((Only.refl (fun k=>k=b∨k=g) w).setCell (p:=⟨g,j,none⟩) (fun _=>.inr rfl) _)
 have c1:=H1.out.c1
 have fb:=H1.out.fb
 have hle:=cnt_le l
 have hfew:=h.mid.few
 have hcn:=cnt_off l j hj
 have hpos:1≤cnt l:=by omega
 go_enter Tryz.func289,Tryz.ntmps289
 go_wp2_with fail
 go_end0
 refine ⟨rfl,O1.out.setCell (p:=⟨b,1,none⟩) (fun _=>.inl rfl) _,by simp [World.setCell],?_⟩
 unfold At
 rw [show (cnt (l.set j false):Int)=(cnt l:Int)-1 from by omega]
 exact H1.out.count _
theorem give_in (b g:Nat) (l:List Bool) (j:Nat) (w:World) (h:At w b g l) (hj:l[j]?=some false):Calls Tryz.prog 227 #[.pointer (some ⟨b,0,none⟩),.int .i64 j] w fun e w'=>e=.returned (.bool true)∧Only (fun k=>k=b∨k=g) w w'∧At w' b g (l.set j true):=by
 have c0:=h.mid.c0
 have c2:=h.mid.one hj
 have fg:=h.mid.fg
 have hjl:j<l.length:=(List.getElem?_eq_some_iff.1 hj).1
 have i1:decide ((j:Int)<0)=false:=by simp
 have i2:(j:Int)<(l.length:Int):=by omega
 have i3:decide ((j:Int) ≥ (l.length:Int))=false:=by simp;omega
 have H1:=hid (h.mid.put j true)
 have O1:Hid (Only (fun k=>k=b∨k=g) w (w.setCell ⟨g,j,none⟩ (.bool true))):=hid ((Only.refl (fun k=>k=b∨k=g) w).setCell (p:=⟨g,j,none⟩) (fun _=>.inr rfl) _)
 have c1:=H1.out.c1
 have fb:=H1.out.fb
 have hle:=cnt_le l
 have hfew:=h.mid.few
 have hcn:=cnt_on l j hj
 go_enter Tryz.func227,Tryz.ntmps227
 go_wp2_with fail
 go_ret
 refine ⟨rfl,O1.out.setCell (p:=⟨b,1,none⟩) (fun _=>.inl rfl) _,?_⟩
 unfold At
 rw [show (cnt (l.set j true):Int)=(cnt l:Int)+1 from by omega]
 exact H1.out.count _
def runF (l:List Bool) (k:Nat):Nat→Nat→Option Nat
 | 0,_=>none
 | i+1,n=>if l.getD i false=true then (if n+1=k then some i else runF l k i (n+1)) else runF l k i 0
def run (l:List Bool) (k:Nat):Option Nat:=runF l k l.length 0
def runV:Option Nat→Value
 | some i=>.tuple #[.int .i64 (i:Int),.bool true]
 | none=>.tuple #[.int .i64 0,.bool false]
theorem runs_in (b g:Nat) (l:List Bool) (k:Nat) (w:World) (h:At w b g l) (hk:1≤k) (hk2:k≤2000):Calls Tryz.prog 230 #[.pointer (some ⟨b,0,none⟩),.int .i64 k] w fun e w'=>e=.returned (runV (run l k))∧w=w':=by
 have c0:=h.mid.c0
 have h1:decide ((k:Int)<1)=false:=by simp;omega
 have hfew:=h.mid.few
 have H:=hid h
 clear h
 go_enter Tryz.func230,Tryz.ntmps230
 go_wp2_with fail
 go_loopw [6,7] (fun n i wr=>w=wr∧∃ (m q:Nat),n=.int .i64 (m:Int)∧i=.int .i64 ((q:Int)-1)∧q≤l.length∧m+q≤l.length∧run l k=runF l k q m) (fun n i _=>(intOf i+1).toNat)
 case atStart=>exact ⟨rfl,0,l.length,rfl,by go_num,Nat.le_refl _,by omega,rfl⟩
 case round =>
  obtain ⟨rfl,m,q,rfl,rfl,hq,hmq,hrun⟩:=hrel
  have HR:=hid hrun
  clear hrun
  cases q with
  | zero =>
   have hr:run l k=none:=by rw [HR.out];rfl
   have HN:=hid hr
   clear hr
   go_wp2_with fail
   go_ret2
   exact ⟨by rw [HN.out];rfl,rfl⟩
  | succ q =>
   have e:((q+1:Nat):Int)-1=(q:Int):=by omega
   rw [e]
   obtain ⟨x,hx⟩:∃ x,l[q]?=some x:=⟨_,List.getElem?_eq_getElem (by omega)⟩
   have cx:=H.out.mid.one hx
   have i2:(q:Int)<(l.length:Int):=by omega
   have hg:l.getD q false=x:=by simp [List.getD,hx]
   cases x
   ·have hr:run l k=runF l k q 0:=by rw [HR.out,runF,hg];rfl
    have HN:=hid hr
    clear hr hg hx
    go_wp2_with fail
    go_roundw
    case rel=>exact ⟨trivial,0,q,rfl,by go_num,by omega,by omega,HN.out⟩
    case measure=>simp [intOf]
   ·by_cases hm:m+1=k
    ·have hr:run l k=some q:=by rw [HR.out,runF,hg,if_pos rfl,if_pos hm]
     have HN:=hid hr
     have hm2:(((m:Int)+1) == (k:Int))=true:=by simp;omega
     clear hr hg hx
     go_wp2_with fail
     go_ret2
     exact ⟨by rw [HN.out];rfl,rfl⟩
    ·have hr:run l k=runF l k q (m+1):=by rw [HR.out,runF,hg,if_pos rfl,if_neg hm]
     have HN:=hid hr
     have hm2:(((m:Int)+1) == (k:Int))=false:=by simp;omega
     clear hr hg hx
     go_wp2_with fail
     go_roundw
     case rel=>exact ⟨trivial,m+1,q,by go_num,by go_num,by omega,by omega,HN.out⟩
     case measure=>simp [intOf]
def lowF (l:List Bool) (k:Nat):Nat→Nat→List Nat→List Nat
 | 0,_,acc=>acc
 | q+1,p,acc=>if acc.length<k then lowF l k q (p+1) (if l.getD p false=true then acc++[p] else acc) else acc
def low (l:List Bool) (k:Nat):List Nat:=lowF l k l.length 0 []
def off (l:List Bool) (xs:List Nat):List Bool:=xs.foldl (fun l j=>l.set j false) l
theorem off_snoc (l:List Bool) (xs:List Nat) (j:Nat):off l (xs++[j])=(off l xs).set j false:=by simp [off]
theorem off_len (l:List Bool) (xs:List Nat):(off l xs).length=l.length:=by
 induction xs generalizing l with
 | nil=>rfl
 | cons j xs ih=>show (off (l.set j false) xs).length=_;rw [ih,List.length_set]
theorem off_get (l:List Bool) (xs:List Nat) (i:Nat) (h:i ∉ xs):(off l xs)[i]?=l[i]?:=by
 induction xs generalizing l with
 | nil=>rfl
 | cons j xs ih =>
  show (off (l.set j false) xs)[i]?=_
  rw [ih _ (by intro hx;exact h (by simp [hx])),List.getElem?_set_ne (by intro e;subst e;simp at h)]
def natI (xs:List Nat):List Int:=xs.map fun (j:Nat)=>(j:Int)
theorem int_info:(Tryz.prog.info? 3).map (fun i=>(i.zero,i.size,i.bytes))=some (some (.int .i64 0),1,8):=by kernel_rfl
structure TkR (w:World) (b g:Nat) (l:List Bool) (v:Value) (xs:List Nat) (wr:World):Prop where
 at_:At wr b g (off l xs)
 only:Only (fun k=>k=b∨k=g) w wr
 own:wr.ownsRow w.heap.size 3 1 v xs.length (ints (natI xs))
theorem TkR.taken {w wr w1 w2:World} {b g:Nat} {l:List Bool} {A:Option Addr} {c:Nat} {v:Value} {xs:List Nat} {j:Nat} (h:TkR w b g l (.slice A xs.length c) xs wr) (o1:Only (fun k=>k=b∨k=g) wr w1) (hlt:b<w.heap.size∧g<w.heap.size) (h1:At w1 b g ((off l xs).set j false))
  (g2:(w1.alloc (.cells #[.int .i64 (j:Int)] 3)).grownBy w2 (Value.slice A xs.length c).ownBlock) (hown:w2.ownsRow w.heap.size 3 1 v (xs.length+1) (ints (natI xs)++[.int .i64 (j:Int)])):TkR w b g l v (xs++[j]) w2:=by
 have hne:∀ k,(Value.slice A xs.length c).ownBlock=some k→w.heap.size≤k:=fun k hk=>(h.own.lt k hk).1
 have o2:Only (fun k=>(Value.slice A xs.length c).ownBlock=some k) w1 w2:=((Only.refl _ w1).alloc _).grown g2 (fun k _ hk=>hk)
 refine ⟨?_,?_,?_⟩
 ·rw [off_snoc]
  exact h1.only o2 (fun hk=>by have:=hne _ hk;omega) (fun hk=>by have:=hne _ hk;omega)
 ·exact (h.only.trans o1 (fun _ _ hk=>hk)).trans o2 (fun k hk hk'=>by have:=hne _ hk';omega)
 ·simpa [natI,ints] using hown
theorem low_in (b g:Nat) (l:List Bool) (k:Nat) (w:World) (h:At w b g l) (hk2:k≤2000):Calls Tryz.prog 288 #[.pointer (some ⟨b,0,none⟩),.int .i64 k] w fun e w'=>∃ v,e=.returned v∧TkR w b g l v (low l k) w':=by
 obtain ⟨i0,hi0,hz0,hz1,hz2⟩:=info_parts int_info
 have hfew:=h.mid.few
 have hlt:b<w.heap.size∧g<w.heap.size:=⟨h.mid.lb,h.mid.lg⟩
 have H:=hid h
 clear h
 go_enter Tryz.func288,Tryz.ntmps288
 go_wp2_with fail
 go_loopw [5,6] (fun v i wr=>∃ (q p:Nat) (xs:List Nat),i=.int .i64 (p:Int)∧q+p=l.length∧TkR w b g l v xs wr∧xs.length≤p∧(∀ x∈xs,x<p)∧low l k=lowF l k q p xs) (fun _ i _=>(l.length-(intOf i).toNat))
 case atStart=>exact ⟨l.length,0,[],rfl,rfl,⟨H.out,Only.refl _ _,World.ownsRow_nil _ _ _ _⟩,by simp,by simp,rfl⟩
 case round =>
  obtain ⟨q,p,xs,rfl,hq,ht,hxl,hxs,hlow⟩:=hrel
  obtain ⟨A,c,rfl⟩:=own_form ht.own
  have HT:=hid ht
  have HL:=hid hlow
  have HX:=hid hxs
  have c0:=ht.at_.mid.c0
  have hol:=off_len l xs
  rw [hol] at c0
  have hq1:q+p≤l.length:=by omega
  have hq2:l.length≤q+p:=by omega
  clear ht hlow hxs hol hq
  cases q with
  | zero =>
   have hr:low l k=xs:=by rw [HL.out];rfl
   have HN:=hid hr
   have hpl:decide (p<l.length)=false:=by simp;omega
   clear hr hq1 hq2
   go_wp2_with fail
   go_ret
   exact ⟨_,rfl,by rw [HN.out];exact HT.out⟩
  | succ q =>
   have hpl:decide (p<l.length)=true:=by simp;omega
   by_cases hfull:xs.length<k
   ·have hf2:decide (xs.length<k)=true:=by simp;omega
    obtain ⟨x,hx⟩:∃ x,l[p]?=some x:=⟨_,List.getElem?_eq_getElem (by omega)⟩
    have hx2:(off l xs)[p]?=some x:=by rw [off_get _ _ _ (fun hm=>by have:=HX.out p hm;omega)];exact hx
    have hg:l.getD p false=x:=by simp [List.getD,hx]
    have HX2:=hid hx2
    have cx:=HT.out.at_.mid.one hx2
    have i2:(p:Int)<(l.length:Int):=by omega
    have hlq:Hid (l.length≤q+1+p):=hid hq2
    have hlq1:Hid (q+1+p≤l.length):=hid hq1
    clear hx hx2 hq1 hq2
    cases x
    ·have hr:low l k=lowF l k q (p+1) xs:=by rw [HL.out,lowF,if_pos hfull,hg];rfl
     have HN:=hid hr
     clear hr hg
     go_wp2_with fail
     go_roundw
     case rel=>exact ⟨q,p+1,xs,by go_num,by have:=hlq.out;have:=hlq1.out;omega,HT.out,by omega,fun x hx=>by have:=HX.out x hx;omega,HN.out⟩
     case measure=>simp [intOf];omega
    ·have hr:low l k=lowF l k q (p+1) (xs++[p]):=by rw [HL.out,lowF,if_pos hfull,hg];rfl
     have HN:=hid hr
     clear hr hg
     go_wp2_with fail
     refine (takes_in b g (off l xs) p _ HT.out.at_ HX2.out).mono ?_
     rintro e w1 ⟨rfl,o1,-,h1⟩
     have O1:=hid o1
     have H1:=hid h1
     have OWN:Hid (w1.ownsRow w.heap.size 3 1 (.slice A xs.length c) xs.length (ints (natI xs))):=hid (o1.own HT.out.own (fun k hk e=>by have:=(HT.out.own.lt k hk).1;omega))
     have hsz:Hid (w.heap.size≤w1.heap.size):=hid (Nat.le_trans HT.out.only.size o1.size)
     clear cx c0 o1 h1
     go_wp2_with (at_builtin;refine wpList_app _ rfl (.tmp 32) (.tmp 34) _ rfl w.heap.size 3 i0 _ 1 8 Tryz.underlying25 hi0 hz0 hz1 hz2 rfl (by omega) (.slice A xs.length c) xs.length _ rfl (World.ownsRow.alloc OWN.out _) _ 1 1 [.int .i64 (p:Int)] rfl (Src.row _ _ #[.int .i64 (p:Int)] 1 1 _ rfl rfl) (by simp [Value.oneCell']) (by simp only [maxLen];omega) (by omega) (by have:=hsz.out;simp;omega) ?_;intro v9 w9 hown9 hg9 hat9;obtain ⟨A9,n9,rfl⟩:=own_form hown9;have HO9:=hid hown9;have HG9:=hid hg9;clear hown9 hg9 hat9;go_frame)
     go_roundw
     case rel=>exact ⟨q,p+1,xs++[p],by go_num,by have:=hlq.out;have:=hlq1.out;omega,HT.out.taken O1.out hlt H1.out HG9.out HO9.out,by simp;omega,fun x hx=>by rcases List.mem_append.1 hx with hx | hx;(have:=HX.out x hx;omega);(simp at hx;omega),HN.out⟩
     case measure=>simp [intOf];omega
   ·have hf2:decide (xs.length<k)=false:=by simp;omega
    have hr:low l k=xs:=by rw [HL.out,lowF,if_neg hfull]
    have HN:=hid hr
    clear hr hq1 hq2
    go_wp2_with fail
    go_ret
    exact ⟨_,rfl,by rw [HN.out];exact HT.out⟩
theorem runF_spec (l:List Bool) (k:Nat):∀ (i n:Nat) (r:Nat),n<k→(∀ j,j<n→l[i+j]?=some true)→runF l k i n=some r→∀ j,j<k→l[r+j]?=some true:=by
 intro i
 induction i with
 | zero=>intro n r _ _ h;cases h
 | succ i ih =>
  intro n r hn ha h
  unfold runF at h
  split at h
  ·rename_i hg
   have hi:l[i]?=some true:=by
    simp only [List.getD,Option.getD] at hg
    split at hg
    ·rename_i x hx;rw [hx,hg]
    ·cases hg
   have ha':∀ j,j<n+1→l[i+j]?=some true:=fun j hj=>by
    rcases Nat.eq_zero_or_pos j with rfl | h0
    ·simpa using hi
    ·have:=ha (j-1) (by omega)
     rwa [show i+1+(j-1)=i+j from by omega] at this
   split at h
   ·rename_i hk
    injection h with h
    subst h
    intro j hj
    exact ha' j (by omega)
   ·rename_i hk
    exact ih (n+1) r (by omega) ha' h
  ·exact ih 0 r (by omega) (fun j hj=>by omega) h
theorem run_spec {l:List Bool} {k r:Nat} (hk:1≤k) (h:run l k=some r):∀ j,j<k→l[r+j]?=some true:=runF_spec l k l.length 0 r (by omega) (fun j hj=>by omega) h
def take (l:List Bool) (k:Nat):List Nat:=match run l k with
 | some i=>List.range' i k
 | none=>low l k
theorem take_in (b g:Nat) (l:List Bool) (k:Nat) (w:World) (h:At w b g l) (hk:1≤k) (hkn:k≤cnt l):Calls Tryz.prog 232 #[.pointer (some ⟨b,0,none⟩),.int .i64 k] w fun e w'=>∃ v,e=.returned (.tuple #[v,.bool true])∧TkR w b g l v (take l k) w':=by
 obtain ⟨i0,hi0,hz0,hz1,hz2⟩:=info_parts int_info
 have hfew:=h.mid.few
 have hle:=cnt_le l
 have hlt:b<w.heap.size∧g<w.heap.size:=⟨h.mid.lb,h.mid.lg⟩
 have c1:=h.mid.c1
 have d1:decide ((k:Int)<1)=false:=by simp;omega
 have d2:decide ((cnt l:Int)<(k:Int))=false:=by simp;omega
 have d3:decide (cnt l<k)=false:=by simp;omega
 have H:=hid h
 have HRUN:=hid (runs_in b g l k w h hk (by omega))
 clear h
 rcases hr:run l k with _ | r
 ·rw [hr] at HRUN
  have ht:take l k=low l k:=by rw [take,hr]
  have HT:=hid ht
  clear hr ht
  go_enter Tryz.func232,Tryz.ntmps232
  go_wp2_with fail
  refine HRUN.out.mono ?_
  rintro e w1 ⟨rfl,rfl⟩
  simp only [runV]
  go_wp2_with fail
  refine (low_in b g l k w H.out (by omega)).mono ?_
  rintro e w1 ⟨v,rfl,hv⟩
  have HV:=hid hv
  clear hv
  go_wp2_with fail
  go_ret2
  exact ⟨_,rfl,by rw [HT.out];exact HV.out⟩
 ·have hsp:=run_spec hk hr
  have hrl:r<l.length:=(List.getElem?_eq_some_iff.1 (hsp 0 (by omega))).1
  have hrk:r+(k-1)<l.length:=(List.getElem?_eq_some_iff.1 (hsp (k-1) (by omega))).1
  rw [hr] at HRUN
  have ht:take l k=List.range' r k:=by rw [take,hr]
  have HT:=hid ht
  have HSP:=hid hsp
  clear hr ht hsp
  go_enter Tryz.func232,Tryz.ntmps232
  go_wp2_with fail
  refine HRUN.out.mono ?_
  rintro e w1 ⟨rfl,rfl⟩
  simp only [runV]
  go_wp2_with fail
  go_loopw [8,9] (fun v i wr=>∃ m:Nat,i=.int .i64 ((r+m:Nat):Int)∧m≤k∧TkR w b g l v (List.range' r m) wr) (fun _ i _=>(r+k-(intOf i).toNat))
  case atStart=>exact ⟨0,by simp,by omega,⟨H.out,Only.refl _ _,World.ownsRow_nil _ _ _ _⟩⟩
  case round =>
   obtain ⟨m,rfl,hm,ht⟩:=hrel
   obtain ⟨A,c,rfl⟩:=own_form ht.own
   rw [List.length_range'] at *
   have HTK:=hid ht
   clear ht
   obtain ⟨p,hp⟩:∃ p,r+m=p:=⟨_,rfl⟩
   have HP:=hid hp
   rw [hp]
   by_cases hmk:m<k
   ·have d4:decide ((p:Int)<(r:Int)+(k:Int))=true:=by simp;omega
    have hx:=HSP.out m hmk
    rw [hp] at hx
    have hx2:(off l (List.range' r m))[p]?=some true:=by rw [off_get _ _ _ (fun hm'=>by have:=List.mem_range'_1.1 hm';omega)];exact hx
    have hpl:p<l.length:=(List.getElem?_eq_some_iff.1 hx).1
    have HX:=hid hx2
    clear hx hx2 hp
    go_wp2_with fail
    refine (takes_in b g _ p _ HTK.out.at_ HX.out).mono ?_
    rintro e w1 ⟨rfl,o1,-,h1⟩
    have O1:=hid o1
    have H1:=hid h1
    have OWN:Hid (w1.ownsRow w.heap.size 3 1 (.slice A m c) m (ints (natI (List.range' r m)))):=hid (by have:=o1.own HTK.out.own (fun k hk e=>by have:=(HTK.out.own.lt k hk).1;omega);simpa using this)
    have hsz:Hid (w.heap.size≤w1.heap.size):=hid (Nat.le_trans HTK.out.only.size o1.size)
    clear o1 h1
    go_wp2_with (at_builtin;refine wpList_app _ rfl (.tmp 42) (.tmp 44) _ rfl w.heap.size 3 i0 _ 1 8 Tryz.underlying25 hi0 hz0 hz1 hz2 rfl (by omega) (.slice A m c) m _ rfl (World.ownsRow.alloc OWN.out _) _ 1 1 [.int .i64 (p:Int)] rfl (Src.row _ _ #[.int .i64 (p:Int)] 1 1 _ rfl rfl) (by simp [Value.oneCell']) (by simp only [maxLen];omega) (by omega) (by have:=hsz.out;simp;omega) ?_;intro v9 w9 hown9 hg9 hat9;obtain ⟨A9,n9,rfl⟩:=own_form hown9;have HO9:=hid hown9;have HG9:=hid hg9;clear hown9 hg9 hat9;go_frame)
    go_roundw
    case rel =>
     refine ⟨m+1,by rw [← HP.out];first | rfl | (congr 1;omega),by omega,?_⟩
     rw [List.range'_concat,Nat.one_mul,HP.out]
     have hh:=HTK.out
     exact TkR.taken (A:=A) (c:=c) (v:=.slice A9 (m+1) n9) (xs:=List.range' r m) (by simpa using hh) O1.out hlt H1.out (by simpa using HG9.out) (by simpa using HO9.out)
    case measure=>have:=HP.out;simp [intOf];omega
   ·obtain rfl:m=k:=by omega
    have d4:decide ((p:Int)<(r:Int)+(m:Int))=false:=by simp;omega
    clear hp
    go_wp2_with fail
    go_ret2
    exact ⟨_,rfl,by rw [HT.out];simpa using HTK.out⟩
theorem bool_info:(Tryz.prog.info? 4).map (fun i=>(i.zero,i.size,i.bytes))=some (some (.bool false),1,1):=by kernel_rfl
theorem make_bool (m:Nat) (hm:m≤1000000) (w:World):(Instr.makeSlice 33 (.int .i64 m) (.int .i64 m)).run Tryz.prog w=.ok (.slice (some ⟨w.heap.size,0,none⟩) m m) (w.alloc (.cells (bools (List.replicate m false)).toArray 4)):=by
 obtain ⟨i0,hi0,hz0,hz1,hz2⟩:=info_parts bool_info
 rw [run_make w 33 4 i0 _ Tryz.underlying33 hi0 hz0 .i64 .i64 m m (by omega) (by omega) (by rw [hz2];omega) (by omega)]
 have e:madeCells (Value.bool false).cells ((m:Int).toNat * i0.size)=(bools (List.replicate m false)).toArray:=by
  rw [hz1,Int.toNat_natCast,Nat.mul_one]
  apply Array.ext
  ·simp [bools,size_madeCells]
  ·intro i h1 h2
   simp [madeCells,bools,Value.cells,Nat.mod_one]
 rw [e]
 simp
theorem cnt_all (n:Nat):cnt (List.replicate n true)=n:=by simp [cnt,List.countP_replicate]
theorem new_in (m:Nat) (w:World) (hm:m≤1024):Calls Tryz.prog 84 #[.int .i64 m] w fun e w'=>e=.returned (.tuple #[.pointer (some ⟨w.heap.size+1,0,none⟩),.int .i64 0])∧Pure w w'∧w'.heap.size=w.heap.size+2∧At w' (w.heap.size+1) w.heap.size (List.replicate m true):=by
 have hmk:=fun w=>make_bool m (by omega) w
 have h0:decide ((m:Int)<0)=false:=by simp
 have h1:decide ((1024:Int)<(m:Int))=false:=by simp;omega
 have hb:=heap_alloc_new w (.cells (bools (List.replicate m false)).toArray 4)
 have hp:=(Only.refl (fun _=>False) w).alloc (.cells (bools (List.replicate m false)).toArray 4)
 have hz:(w.alloc (.cells (bools (List.replicate m false)).toArray 4)).heap.size=w.heap.size+1:=by simp
 have hb2:=heap_alloc_new (w.alloc (.cells (bools (List.replicate m false)).toArray 4)) (.cells #[.slice (some ⟨w.heap.size,0,none⟩) m m,.int .i64 (m:Int)] 211)
 rw [hz] at hb2
 have hp2:=Pure.then hp ((Only.refl (fun _=>False) _).alloc (.cells #[.slice (some ⟨w.heap.size,0,none⟩) m m,.int .i64 (m:Int)] 211))
 have hb3:=Pure.blk ((Only.refl (fun _=>False) _).alloc (.cells #[.slice (some ⟨w.heap.size,0,none⟩) m m,.int .i64 (m:Int)] 211)) hb
 have hz2:((w.alloc (.cells (bools (List.replicate m false)).toArray 4)).alloc (.cells #[.slice (some ⟨w.heap.size,0,none⟩) m m,.int .i64 (m:Int)] 211)).heap.size=w.heap.size+2:=by simp
 have HM:Hid (Mid ((w.alloc (.cells (bools (List.replicate m false)).toArray 4)).alloc (.cells #[.slice (some ⟨w.heap.size,0,none⟩) m m,.int .i64 (m:Int)] 211)) (w.heap.size+1) w.heap.size (List.replicate m false) (m:Int)):=hid ⟨by simpa using hb2,hb3,by simpa using hm⟩
 have c0:=HM.out.c0
 rw [List.length_replicate] at c0
 have HP:=hid hp2
 have HZ:=hid hz2
 clear hb hp hz hb2 hb3 hp2 hz2
 go_enter Tryz.func84,Tryz.ntmps84
 go_wp2_with fail
 generalize (w.alloc (.cells (bools (List.replicate m false)).toArray 4)).alloc (.cells #[.slice (some ⟨w.heap.size,0,none⟩) m m,.int .i64 (m:Int)] 211)=W at *
 clear c0
 go_loopw [22] (fun i wr=>∃ q:Nat,i=.int .i64 (q:Int)∧q≤m∧Pure w wr∧wr.heap.size=w.heap.size+2∧Mid wr (w.heap.size+1) w.heap.size (List.replicate q true++List.replicate (m-q) false) (m:Int)) (fun i _=>(m-(intOf i).toNat))
 case atStart=>exact ⟨0,rfl,by omega,HP.out,HZ.out,by simpa using HM.out⟩
 case round =>
  obtain ⟨q,rfl,hq,hp,hz,hm'⟩:=hrel
  have hl:(List.replicate q true++List.replicate (m-q) false).length=m:=by simp;omega
  have P:=hid hp
  have Z:=hid hz
  have M:=hid hm'
  have c0:=hm'.c0
  rw [hl] at c0
  clear hp hz hm'
  by_cases hlt:q<m
  ·have hx:(List.replicate q true++List.replicate (m-q) false)[q]?=some false:=by
    rw [List.getElem?_append_right (by simp),List.length_replicate,Nat.sub_self,List.getElem?_replicate,if_pos (by omega)]
   have cx:=M.out.one hx
   have fg:=M.out.fg
   have i2:(q:Int)<(m:Int):=by omega
   have hs:(List.replicate q true++List.replicate (m-q) false).set q true=List.replicate (q+1) true++List.replicate (m-(q+1)) false:=by
    rw [List.set_append_right _ _ (by simp),List.length_replicate,Nat.sub_self,show m-q=(m-(q+1))+1 from by omega,List.replicate_succ,List.set_cons_zero,List.replicate_succ']
    simp
   have HS:=hid hs
   clear hx hs hl
   go_wp2_with fail
   go_roundw
   case rel=>exact ⟨q+1,by go_num,by omega,Only.setCell P.out (p:=⟨w.heap.size,q,none⟩) (fun h=>absurd h (Nat.lt_irrefl _)) _,by have:=Z.out;simpa [World.setCell] using this,by have:=M.out.put q true;rwa [HS.out] at this⟩
   case measure=>simp [intOf];omega
  ·obtain rfl:q=m:=by omega
   go_wp2_with fail
   go_ret2
   refine ⟨rfl,P.out,Z.out,?_⟩
   have:=M.out
   unfold At
   rw [cnt_all]
   simpa using this
end Go.Proofs.YtpgdiceeimehiaaGreat.Po
