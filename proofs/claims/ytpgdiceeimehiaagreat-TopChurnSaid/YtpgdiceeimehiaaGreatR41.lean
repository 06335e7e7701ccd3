/- Part 41 of the proof of spotop.TopChurn. -/
import Derived.Test.YtpgdiceeimehiaaGreatR37
import Derived.Test.YtpgdiceeimehiaaGreatR38
set_option maxRecDepth 100000
set_option maxHeartbeats 16000000
set_option linter.all false
open Go.Proofs.Tryz
namespace Go.Proofs.YtpgdiceeimehiaaGreat
open RowKit
section
open Ac (Vl CT)
structure Cd(w:Y)(c:Cn)(κ:N->N)(xb:N)(v:Value)(sh:List Sh)(t:Tr.St):Prop where
 tr:Tr.At w xb c v sh t
 nA:κ xb=11
 k8:∀k,Tr.Ro v sh t k->κ k=8
section
variable{w g:Y}{c:Cn}{K:aW.Q}{κ κ':N->N}{m a:aW.St}{b:Ac.B}{s s':Ac.St}{yb hb lg xb:N}{y y':dw.St}{v:Value}{sh:List Sh}{t:Tr.St}
theorem Cd.ext{Cq:N->Prop}(h:Cd w c κ xb v sh t)(f:aG Cq w κ g κ')(i:∀x,Cq x->x≠8/\x≠11):Cd g c κ' xb v sh t:=⟨h.tr.MC f.MC (λd=>by rw[h.nA]at d;exact(i _ d).2 T) (λk e d=>by rw[h.k8 k e]at d;exact(i _ d).1 T),(f.same _ h.tr.lt).trans h.nA,λk e=>(f.same _ (h.tr.ro k e).2).trans (h.k8 k e)⟩
theorem Cd.aZ(h:Cd w c κ xb v sh t){X:N}(d:κ X=9)(i:N)(u:Value):Cd (w.setCell (I X i) u) c κ xb v sh t:=h.ext (Cq:=λx=>x=9) (aG.of ((ac.refl (λk=>k=X) w).setCell (p:=⟨X,i,none⟩) (λ_=>T) u |>.mono (λk _ e=>by rw[e];exact d))) (λx f=>by omega)
theorem Cd.of(h:iZ w c K κ m b s xb v sh t):Cd w c κ xb v sh t:=⟨h.tr,h.nA,h.k8⟩
theorem Cd.to(h:Cd w c κ xb v sh t)(d:dt w c K κ m b s):iZ w c K κ m b s xb v sh t:=⟨d,h.tr,h.nA,h.k8⟩
structure BQ(w:Y)(c:Cn)(κ:N->N)(xb:N)(v:Value)(sh:List Sh)(t:Hl.St):Prop where
 hl:Hl.At w xb c v sh t
 nA:κ xb=11
 k8:∀k,mK v sh k->κ k=8
theorem BQ.ext{Cq:N->Prop}{t:Hl.St}(h:BQ w c κ xb v sh t)(f:aG Cq w κ g κ')(i:∀x,Cq x->x≠8/\x≠11):BQ g c κ' xb v sh t:=⟨h.hl.MC f.MC (λd=>by rw[h.nA]at d;exact(i _ d).2 T) (λk e d=>by rw[h.k8 k e]at d;exact(i _ d).1 T),(f.same _ h.hl.lt).trans h.nA,λk e=>(f.same _ (h.hl.ro k e).2).trans (h.k8 k e)⟩
theorem BQ.aZ{t:Hl.St}(h:BQ w c κ xb v sh t){X:N}(d:κ X=9)(i:N)(u:Value):BQ (w.setCell (I X i) u) c κ xb v sh t:=h.ext (Cq:=λx=>x=9) (aG.of ((ac.refl (λk=>k=X) w).setCell (p:=⟨X,i,none⟩) (λ_=>T) u |>.mono (λk _ e=>by rw[e];exact d))) (λx f=>by omega)
theorem BQ.of{t:Hl.St}(h:iM w c K κ m b s xb v sh t):BQ w c κ xb v sh t:=⟨h.hl,h.nA,h.k8⟩
theorem BQ.to{t:Hl.St}(h:BQ w c κ xb v sh t)(d:dt w c K κ m b s):iM w c K κ m b s xb v sh t:=⟨d,h.hl,h.nA,h.k8⟩
inductive Pg where
 | no
 | tr (t:Tr.St)
 | hl (t:Hl.St)
def Fg(w:Y)(c:Cn)(κ:N->N)(ba:List Sh)(y:dw.St):Pg->Prop
 | .no=>True
 | .tr t=>∃xb v sh,y.tr=I xb 0/\Cd w c κ xb v sh t/\alike ba sh
 | .hl t=>∃xb v sh,y.h=I xb 0/\BQ w c κ xb v sh t
theorem Fg.ext{Cq:N->Prop}{d:List Sh}{o:Pg}(h:Fg w c κ d y o)(j:aG Cq w κ g κ')(i:∀x,Cq x->x≠8/\x≠11):Fg g c κ' d y o:=by
 cases o with
 | no=>trivial
 | tr t =>
  obtain⟨xb,v,sh,e,f,k⟩:=h;exact⟨xb,v,sh,e,f.ext j i,k⟩
 | hl t =>
  obtain⟨xb,v,sh,e,f⟩:=h;exact⟨xb,v,sh,e,f.ext j i⟩
theorem Fg.aZ{d:List Sh}{o:Pg}(h:Fg w c κ d y o){X:N}(j:κ X=9)(i:N)(u:Value):Fg (w.setCell (I X i) u) c κ d y o:=by
 cases o with
 | no=>trivial
 | tr t =>
  obtain⟨xb,v,sh,e,f,k⟩:=h;exact⟨xb,v,sh,e,f.aZ j i u,k⟩
 | hl t =>
  obtain⟨xb,v,sh,e,f⟩:=h;exact⟨xb,v,sh,e,f.aZ j i u⟩
structure Mt(w:Y)(c:Cn)(K:aW.Q)(κ:N->N)(m:aW.St)(b:Ac.B)(s:Ac.St)(yb:N)(y:dw.St)(hb lg:N)(o:Pg):Prop where
 Fa:jS w c K κ m b s yb y hb lg
 tr:Fg w c κ K.ba y o
theorem Mt.pure{o:Pg}(h:Mt w c K κ m b s yb y hb lg o)(d:ae w g):Mt g c K κ m b s yb y hb lg o:=⟨h.Fa.pure d,h.tr.ext (Cq:=λ_=>False) (aG.pure d) (λ_ f=>f.elim)⟩
theorem qZ{o:Pg}(n p q:V)(v:Vl)(d:Bool)(Q:aW.St->Ac.St->Prop)(w:Y)(h:Mt w c K κ m b s yb y hb lg o)
  (F:∀w1 f,dt w1 c K f m b s->C 25 #[I b.ab 0,I K.kb 0] w1 (oC w1 f n p q v d (λg κ'=>∃a s',dt g c K κ' a b s'/\Q a s'))) :
  C 10 #[I hb 0,J 1] w λe g=>e=O (nX 1 d n p q v)/\∃κ' a s',aG CM w κ g κ'/\Mt g c K κ' a b s' yb y hb lg o/\Q a s':=by
 refine(FT n p q v d (λg κ'=>∃a s',Mt g c K κ' a b s' yb y hb lg o/\Q a s') w h.Fa (λw κ X i u B=>?_) (λw1 f A E=>?_)).mono ?_
 ·rintro⟨a,s',k,z⟩;exact⟨a,s',⟨k.Fa.aZ B i u,k.tr.aZ B i u⟩,z⟩
 ·refine(F w1 f E.kG.bU).mono ?_;rintro r g⟨H,κ',j,a,s',P,G⟩;refine⟨H,κ',j,a,s',⟨E.fk j P,?_⟩,G⟩;exact(h.tr.ext A (λx l=>by omega)).ext j (λx l=>by unfold CT at l;omega)
 ·rintro e g⟨A,κ',l,a,s',k,z⟩;exact⟨A,κ',a,s',l,k,z⟩
theorem mi{o:Pg}(Q:aW.St->dw.St->Pg->Prop)(w:Y)(h:Mt w c K κ m b s yb y hb lg o)
  (A:∀w1 f,fM w1 c K f m b s yb y->Fg w1 c f K.ba y o->C 24 #[I yb 0,I K.kb 0] w1 (dU w1 c K f b s yb (.tuple #[]) (λg κ' a y'=>∃d,Fg g c κ' K.ba y' d/\Q a y' d))) :
  C 10 #[I hb 0,J 0] w λe g=>e=O (nX 0 false 0 0 0 (false,0,0))/\∃κ' a y' d,aG CM w κ g κ'/\Mt g c K κ' a b s yb y' hb lg d/\Q a y' d:=by
 refine(FR (λg κ'=>∃a y' d,Mt g c K κ' a b s yb y' hb lg d/\Q a y' d) w h.Fa (λw κ X i u p=>?_) (λw1 f n q=>?_)).mono ?_
 ·rintro⟨a,y',d,k,l⟩;exact⟨a,y',d,⟨k.Fa.aZ p i u,k.tr.aZ p i u⟩,l⟩
 ·refine(A w1 f q.kG (h.tr.ext n (λx z=>by omega))).mono ?_;rintro r g⟨E,κ',a,y',j,G,d,F,B⟩;exact⟨E,κ',j,a,y',d,⟨q.IW j G,F⟩,B⟩
 ·rintro e g⟨n,κ',z,a,y',d,k,l⟩;exact⟨n,κ',a,y',d,z,k,l⟩
