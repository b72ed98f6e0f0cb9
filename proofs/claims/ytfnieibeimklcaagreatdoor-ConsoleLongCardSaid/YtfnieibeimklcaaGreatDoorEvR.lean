/- Laid by program out of its parts: EvR. -/
import Derived.Test.YtfnieibeimklcaaGreatDoorEvQ
set_option linter.unusedVariables false
set_option linter.unusedSimpArgs false
/- The evaluator, part R: all of a region that draws its order. -/
namespace Go.Ev
def unlisted (n:Nat) (listed:Array Bool):Nat:=(List.range n).countP fun i=>!listed.getD i true
theorem countP_lt {p q:Nat→Bool}:∀ (l:List Nat),(∀ x∈l,p x=true→q x=true)→(∃ x∈l,q x=true∧p x=false)→l.countP p < l.countP q
 | [],_,⟨_,h,_⟩=>by cases h
 | y :: l,h,⟨x,hx,h1,h2⟩=>by
  rw [List.countP_cons,List.countP_cons]
  have hle:l.countP p≤l.countP q:=List.countP_mono_left fun z hz=>h z (List.mem_cons_of_mem _ hz)
  rcases List.mem_cons.1 hx with rfl | hx
  ·simp [h1,h2];omega
  ·have:=countP_lt l (fun z hz=>h z (List.mem_cons_of_mem _ hz)) ⟨x,hx,h1,h2⟩
   have hy:=h y (List.mem_cons_self ..)
   cases hpy:p y
   ·cases hqy:q y <;> simp <;> omega
   ·simp [hy hpy];omega
theorem getD_tf {listed:Array Bool} {i:Nat} (h:i < listed.size):listed.getD i true=listed.getD i false:=by
 simp [Array.getD,h]
section
variable {t:DTab} {P:Program} {call:CallF} {ops:Array Oper} {s:St}
variable {E:Env} {F:Nat→Option Obj} {ρ0:Ren} {ro rr:Option Nat} {Q:Exit→Act→World→Prop}
theorem all_listed (ok:DOK t P call ops s) {listed:Array Bool} (hs:listed.size=ops.size) (h:Region.ready .any ops listed=[]):∀ i,i < ops.size→Ls listed i:=by
 intro i
 induction i using Nat.strongRecOn with
 | ind i ih =>
  intro hi
  by_cases hL:Ls listed i
  ·exact hL
  ·exfalso
   have:i∈Region.ready .any ops listed:=by
    rw [mem_ready]
    refine ⟨?_,t.oo i,ok.opa i hi,fun e he hb=>ih e.on (ok.edge i e hi he hb) (Nat.lt_trans (ok.edge i e hi he hb) hi)⟩
    rw [getD_tf (by omega)]
    unfold Ls at hL
    simpa using hL
   rw [h] at this;cases this
theorem draw_any (hcall:CallOK P call) (ok:DOK t P call ops s)
  (hP:∀ listed a w ρ c i v H' nx',i < ops.size→t.k i = .pan v H' nx'→(∀ j,t.anc i j→Ls listed j)→∀ u ρ' w',RX s.nx nx' ρ0 ρ'→Rel E F nx' ρ' H'.get w'→VR ρ' v u→DInv t ops s E F ρ0 rr listed a w ρ c→ρ.le ρ'→Q (.panic (fresh u)) a w')
  (hQ:∀ listed a w ρ c,DInv t ops s E F ρ0 rr listed a w ρ c→(∀ i,i < ops.size→Ls listed i)→Q .normal a w):∀ (fuel:Nat) (listed:Array Bool) (a:Act) (w:World) (ρ:Ren) (c:Nat),
  DInv t ops s E F ρ0 rr listed a w ρ c→unlisted ops.size listed≤fuel→wpAnyIn (FW ro) 0 P .any ops Q fuel listed a w
 | 0,listed,a,w,ρ,c,inv,hf=>by
  have hall:∀ i,i < ops.size→listed.getD i true=true:=fun i hi=>by
   have h0:unlisted ops.size listed=0:=by omega
   unfold unlisted at h0
   rw [List.countP_eq_zero] at h0
   have:=h0 i (List.mem_range.2 hi)
   simpa using this
  refine ⟨?_,hQ listed a w ρ c inv fun i hi=>?_⟩
  ·rw [List.eq_nil_iff_forall_not_mem]
   intro i hi
   rw [mem_ready] at hi
   obtain ⟨h1,o,ho,_⟩:=hi
   have hlt:i < ops.size:=(Array.getElem?_eq_some_iff.1 ho).1
   rw [hall i hlt] at h1;cases h1
  ·unfold Ls
   rw [← getD_tf (by rw [inv.size];exact hi)]
   exact hall i hi
 | fuel + 1,listed,a,w,ρ,c,inv,hf=>by
  refine ⟨fun h=>hQ listed a w ρ c inv (all_listed ok inv.size h),fun i hi=>?_⟩
  rw [mem_ready] at hi
  obtain ⟨h1,o,ho,h2⟩:=hi
  have hlt:i < ops.size:=(Array.getElem?_eq_some_iff.1 ho).1
  have hoo:t.oo i=o:=by have:=ok.opa i hlt;rw [ho] at this;exact (Option.some.inj this).symm
  have hL:¬ Ls listed i:=by
   unfold Ls
   rw [← getD_tf (by rw [inv.size];exact hlt),h1];simp
  have hpre:∀ j,t.anc i j→Ls listed j:=fun j hj=>by
   obtain ⟨hji,e,he,hb,hor⟩:=ok.anc i j hlt hj
   rw [hoo] at he
   have hle:Ls listed e.on:=h2 e he hb
   rcases hor with rfl | hor
   ·exact hle
   ·have:e.on < i:=ok.edge i e hlt (by rw [hoo];exact he) hb
    exact inv.down e.on j (by omega) hle hor
  refine step_any hcall ok inv hlt hL hpre (fun ρ' c' a' w' inv'=>draw_any hcall ok hP hQ fuel _ a' w' ρ' c' inv' ?_)
   fun v H' nx' hk u ρ' w' h3 h4 h5 h6 h7=>hP listed a w ρ c i v H' nx' hlt hk hpre u ρ' w' h3 h4 h5 h6 h7
  ·have:unlisted ops.size (listed.setIfInBounds i true) < unlisted ops.size listed:=by
    unfold unlisted
    apply countP_lt
    ·intro x hx hp
     by_cases hxi:i=x
     ·subst hxi
      simp [inv.size,hlt] at hp
     ·rwa [getD_set_ne true hxi] at hp
    ·exact ⟨i,List.mem_range.2 hlt,by simp [h1],by simp [inv.size,hlt]⟩
   omega
theorem draw_start (ok:DOK t P call ops s) {a:Act} {w:World} (hs:SR E F ρ0 s a w rr):DInv t ops s E F ρ0 rr (Array.replicate ops.size false) a w.drew ρ0 0:=by
 have hn:∀ i,¬ Ls (Array.replicate ops.size false) i:=fun i=>by
  unfold Ls
  by_cases h:i < ops.size <;> simp [Array.getD,h]
 refine ⟨by simp,.inl rfl,fun q _=>⟨fun h=>absurd h (hn q),fun h=>absurd h (Nat.not_lt_zero _)⟩,fun i j _ h=>absurd h (hn i),Ren.le_refl _,fun _ _=>rfl,by rw [ok.n0];omega,?_,?_,?_,?_,hs.size,hs.dr,hs.rr,fun i h=>absurd h (hn i)⟩
 ·have:=hs.rel.drew.nx_le (show s.nx≤t.nxs 0 by rw [ok.n0];omega)
  refine Rel.less (h:=s.H.get) this fun x o hx=>?_
  rcases hD_some hx with ⟨j,_,hp,_⟩ | h
  ·exact absurd hp.2.1 (hn j)
  ·rw [ok.G0] at h;exact h
 ·exact fun j _ _=>hs.rel.new _ (by omega)
 ·exact fun i d _ h=>absurd h (hn i)
 ·intro d x _ hx
  exact hs.tr d x hx
theorem draw_fuel:unlisted ops.size (Array.replicate ops.size false)≤ops.size:=by
 unfold unlisted
 have:=List.countP_le_length (p:=fun i=>!(Array.replicate ops.size false).getD i true) (l:=List.range ops.size)
 simpa using this
theorem draw_sound (hcall:CallOK P call) (ok:DOK t P call ops s) (hm:P.follows .mixedOrders=true) (hno:∀ i,i < ops.size→¬ t.isPan i) {s':St} {H':Tr AObj} (hs':s'=⟨s.N,t.Tin ops.size,H',t.nxs ops.size,s.ro,s.D⟩)
  (hH:∀ x o,H'.get x=some o→(∃ j,j < ops.size∧t.k j = .new o∧t.late ops.size ops.size j∧x=s.nx + j)∨(t.G ops.size).get x=some o)
  {id:Nat} {a:Act} {w:World} (hs:SR E F ρ0 s a w rr) (hq:∀ ρ' a' w',RX s.nx s'.nx ρ0 ρ'→SR E F ρ' s' a' w' rr→Q .normal a' w') :
  (Code.region id ops true).wpIn (FW ro) 0 P Q a w:=by
 refine wpIn_region_any hm (draw_any hcall ok (E:=E) (F:=F) (ρ0:=ρ0) (rr:=rr) (fun _ _ _ _ _ i v H' nx' hi hk=>absurd ⟨v,H',nx',hk⟩ (hno i hi)) ?_ _ _ _ _ ρ0 0 (draw_start ok hs) draw_fuel)
 intro listed a' w' ρ c inv hall
 obtain ⟨hG,hn⟩:=G_eq' ok (cand_le inv.cand) (Nat.le_refl _) fun q hq=>by
  rw [← inv.hc q hq]
  exact ⟨fun _=>hq.1,fun _=>hall q hq.1⟩
 have hlt:∀ q,t.hv ops.size q→q < c:=fun q hq=>(inv.hc q hq).1 (hall q hq.1)
 subst hs'
 refine hq ρ a' w' ⟨inv.le,inv.lo,?_⟩ ⟨?_,?_,inv.sz,inv.dr,inv.rr⟩
 ·have:=inv.nn
  show s.nx≤t.nxs ops.size
  rw [← hn];omega
 ·show Rel E F (t.nxs ops.size) ρ H'.get w'
  rw [← hn]
  refine inv.rel.less fun x o hx=>?_
  rcases hH x o hx with ⟨j,h1,h2,h3,rfl⟩ | h
  ·exact hD_new ⟨h1,hall j h1,fun q hq _=>h3 q hq hq.1⟩ h2
  ·rw [← hG] at h
   refine hD_old h fun j o' e hp hj=>?_
   subst e
   rw [fresh_of ok inv hp hj] at h;cases h
 ·intro d b hb
  rcases tin_get ok _ d b (Nat.le_refl _) hb with ⟨k,h1,h2,h3⟩ | ⟨h1,h2⟩
  ·subst h3;exact inv.tm1 k d h1 (hall k h1) h2
  ·exact inv.tm2 d b (fun i hi _=>h1 i hi) h2
theorem draw_panics (hcall:CallOK P call) (ok:DOK t P call ops s) (hm:P.follows .mixedOrders=true) {p nx:Nat} {v:AV} {H':Tr AObj} {T':Tr AV} (hp:p < ops.size)
  (hone:∀ i v' H'' nx',i < ops.size→t.k i = .pan v' H'' nx'→i=p∧v'=v∧H''=H'∧nx'=nx) (hpan:t.isPan p)
  (hT:∀ d b,T'.get d=some b→(t.Tin ops.size).get d=some b∧∀ k,k < ops.size→(t.oo k).dst=some d→t.anc p k)
  {id:Nat} {a:Act} {w:World} (hs:SR E F ρ0 s a w rr) (hq:∀ ρ' a' w' u,RX s.nx nx ρ0 ρ'→SR E F ρ' ⟨s.N,T',H',nx,s.ro,s.D⟩ a' w' rr→VR ρ' v u→Q (.panic (fresh u)) a' w') :
  (Code.region id ops true).wpIn (FW ro) 0 P Q a w:=by
 refine wpIn_region_any hm (draw_any hcall ok (E:=E) (F:=F) (ρ0:=ρ0) (rr:=rr) ?_ ?_ _ _ _ _ ρ0 0 (draw_start ok hs) draw_fuel)
 ·intro listed a' w1 ρ c i v' H'' nx' hi hk hpre u ρ' w' hx hrel hv inv hle
  obtain ⟨rfl,rfl,rfl,rfl⟩:=hone i v' H'' nx' hi hk
  refine hq ρ' a' w' u hx ⟨hrel,?_,inv.sz,inv.dr.mono hle,inv.rr.mono hle⟩ hv
  intro d b hb
  obtain ⟨h1,h2⟩:=hT d b hb
  rcases tin_get ok _ d b (Nat.le_refl _) h1 with ⟨k,h3,h4,h5⟩ | ⟨h3,h4⟩
  ·subst h5
   obtain ⟨z,h6,h7⟩:=inv.tm1 k d h3 (hpre k (h2 k h3 h4)) h4
   exact ⟨z,h6,h7.mono hle⟩
  ·obtain ⟨z,h6,h7⟩:=inv.tm2 d b (fun i hi _=>h3 i hi) h4
   exact ⟨z,h6,h7.mono hle⟩
 ·intro listed a' w' ρ c inv hall
  exact absurd hpan (inv.np p (hall p hp))
end
end Go.Ev
