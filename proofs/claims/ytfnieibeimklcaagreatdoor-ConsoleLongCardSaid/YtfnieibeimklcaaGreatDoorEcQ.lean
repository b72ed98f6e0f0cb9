/- Laid by program out of its parts: EcQ. -/
import Derived.Test.YtfnieibeimklcaaGreatDoorCb
set_option linter.unusedVariables false
set_option linter.unusedSimpArgs false
/- The evaluator, part Q: a region that draws its order: each step, all orders. -/
namespace Go.EvC
section
variable {t:DTab} {P:Program} {call:CallF} {ops:Array Oper} {s:St}
variable {E:Env} {F:Nat→Option Obj} {ρ0:Ren} {ro rr:Option Nat} {Q:Exit→Act→World→Prop}
theorem step_off (ok:DOK t P call ops s) {listed:Array Bool} {a:Act} {w:World} {ρ:Ren} {c i:Nat} {u:Value} (inv:DInv t ops s E F ρ0 rr listed a w ρ c) (hi:i < ops.size) (hL:¬ Ls listed i)
  (hpre:∀ j,t.anc i j→Ls listed j) (hk:∀ o,t.k i≠.new o) (hh:t.k i≠.heavy) (hnp:¬ t.isPan i) (hv:VR ρ (t.v i) u) :
  DInv t ops s E F ρ0 rr (listed.setIfInBounds i true) (a.put (t.oo i).dst u) w ρ c:=by
 refine step_common ok inv hi hL hpre hnp (Ren.le_refl ρ) (fun _ _=>rfl) (fun _ _ _ _=>rfl) hv inv.cand (fun q hq=>?_) inv.nn ?_
 ·have:=inv.hc q hq
  have hne:q≠i:=fun e=>by subst e;exact hh hq.2
  simp [hne,this]
 ·exact inv.rel.less fun x o hx=>stay_hD (by rw [inv.size];exact hi) hk hx fun j o' hp hj=>fresh_of ok inv hp hj
theorem step_new (ok:DOK t P call ops s) {listed:Array Bool} {a:Act} {w w1:World} {ρ:Ren} {c i cap:Nat} {u:Value} {o:AObj} {ob:Obj} (inv:DInv t ops s E F ρ0 rr listed a w ρ c) (hi:i < ops.size) (hL:¬ Ls listed i)
  (hpre:∀ j,t.anc i j→Ls listed j) (hk:t.k i = .new o) (hw:w1=w∨w1=w.drew)
  (hor:OR (ρ.put (s.nx + i) ⟨w.heap.size,0,cap⟩) ⟨w.heap.size,0,cap⟩ o ob) (hv:VR (ρ.put (s.nx + i) ⟨w.heap.size,0,cap⟩) (t.v i) u) :
  DInv t ops s E F ρ0 rr (listed.setIfInBounds i true) (a.put (t.oo i).dst u) (w1.alloc ob) (ρ.put (s.nx + i) ⟨w.heap.size,0,cap⟩) c:=by
 have hni:=inv.unl i hi hL
 have hr1:Rel E F (t.nxs c) ρ (t.hD ops.size s.nx listed c) w1∧w1.heap.size=w.heap.size:=by
  rcases hw with rfl | rfl
  ·exact ⟨inv.rel,rfl⟩
  ·exact ⟨inv.rel.drew,rfl⟩
 have hal:=hr1.1.alloc (i:=s.nx + i) (nx':=t.nxs c) hni (Nat.le_refl _) (by have:=inv.nn;omega) (cap:=cap) (a:=o) (o:=ob) (by rw [hr1.2];exact hor)
 rw [hr1.2] at hal
 refine step_common ok inv hi hL hpre (by rintro ⟨v,H,nx,e⟩;rw [hk] at e;cases e) hal.2 (fun x hx=>Ren.put_ne (by omega) _) (fun j _ hji _=>Ren.put_ne (by omega) _) hv inv.cand (fun q hq=>?_) inv.nn ?_
 ·have:=inv.hc q hq
  have hne:q≠i:=fun e=>by subst e;have:=hk.symm.trans hq.2;cases this
  simp [hne,this]
 ·refine hal.1.less fun x o' hx=>?_
  have hs:i < listed.size:=by rw [inv.size];exact hi
  rcases hD_some hx with ⟨j,rfl,hp,hj⟩ | h
  ·by_cases hji:j=i
   ·subst hji
    rw [hk] at hj;injection hj with hj;subst hj
    simp
   ·rw [if_neg (by omega)]
    exact hD_new ⟨hp.1,((Ls_set hs).1 hp.2.1).resolve_left hji,hp.2.2⟩ hj
  ·have hfi:(t.G c).get (s.nx + i)=none:=by
    have hko:=ok.kind i hi
    unfold DTab.kindOK at hko
    rw [hk] at hko
    exact hko.2.2.2 c inv.cand (not_anc_of inv hL)
   by_cases hxi:x=s.nx + i
   ·subst hxi;rw [hfi] at h;cases h
   ·rw [if_neg hxi]
    refine hD_old h fun j o'' e hp hj=>?_
    subst e
    rw [fresh_of ok inv hp hj] at h;cases h
open Classical in
noncomputable def guardF (t:DTab) (n r0:Nat) (listed:Array Bool) (F:Nat→Option Obj) (w:World) (ρ:Ren) (c i:Nat):Nat→Option Obj:=fun b =>
 if ∃ j blk o,t.pend n listed c j∧t.k j = .new o∧¬ t.anc i j∧ρ (r0 + j)=some blk∧blk.b=b then w.heap[b]? else F b
theorem guardF_in {t:DTab} {n r0:Nat} {listed:Array Bool} {w:World} {ρ:Ren} {c i j:Nat} {blk:Blk} {o:AObj} (hp:t.pend n listed c j) (hk:t.k j = .new o) (ha:¬ t.anc i j) (hb:ρ (r0 + j)=some blk) :
  guardF t n r0 listed F w ρ c i blk.b=w.heap[blk.b]?:=if_pos ⟨j,blk,o,hp,hk,ha,hb,rfl⟩
theorem guardF_out {t:DTab} {n r0:Nat} {listed:Array Bool} {w:World} {ρ:Ren} {c i b:Nat}
  (h:∀ j blk o,t.pend n listed c j→t.k j = .new o→¬ t.anc i j→ρ (r0 + j)=some blk→blk.b≠b):guardF t n r0 listed F w ρ c i b=F b :=
 if_neg fun ⟨j,blk,o,h1,h2,h3,h4,h5⟩=>h j blk o h1 h2 h3 h4 h5
theorem heavy_rel (ok:DOK t P call ops s) {listed:Array Bool} {a:Act} {w:World} {ρ:Ren} {c i:Nat} (inv:DInv t ops s E F ρ0 rr listed a w ρ c) (hi:i < ops.size)
  (hpre:∀ j,t.anc i j→Ls listed j) {V:Tr AObj} (hV:t.sub ops.size s.nx V i c) :
  Rel E (guardF t ops.size s.nx listed F w ρ c i) (t.nxs c) ρ V.get w:=by
 have hle:=fun x o (hx:V.get x=some o)=>sub_hs ok inv hi hpre hV hx
 have hr:=inv.rel
 refine ⟨hr.tape,hr.os,hr.output,?_,fun x o b hx=>hr.ob x o b (hle x o hx),?_,fun x y o o' b b' hx hy=>hr.inj x y o o' b b' (hle x o hx) (hle y o' hy),hr.new,fun g l hg=>hr.gl g l (hle g _ hg),?_⟩
 rotate_right
 ·intro b o hb
  have h1:=hr.bs b o hb
  unfold guardF
  split
  ·exact hr.fr b o h1
  ·exact h1
 ·intro b o hb
  unfold guardF at hb
  split at hb
  ·exact hb
  ·exact hr.fr b o hb
 ·intro x o b hx hb
  rw [guardF_out]
  ·exact hr.dj x o b (hle x o hx) hb
  ·intro j blk oj hp hk ha hblk e
   have hxj:x=s.nx + j:=hr.inj x (s.nx + j) o oj b blk (hle x o hx) (hD_new hp hk) hb hblk e.symm
   subst hxj
   rcases hV _ o hx with ⟨j',h1,h2,h3,h4⟩ | h
   ·have:j'=j:=by omega
    subst this;exact ha h1
   ·rw [fresh_of ok inv hp hk] at h;cases h
theorem step_heavy (ok:DOK t P call ops s) {listed:Array Bool} {a:Act} {w w':World} {ρ ρ':Ren} {c i:Nat} {u:Value} (inv:DInv t ops s E F ρ0 rr listed a w ρ c) (hi:i < ops.size) (hL:¬ Ls listed i)
  (hpre:∀ j,t.anc i j→Ls listed j) (hk:t.k i = .heavy) (hx:RY (s.nx + i) (t.nxs c) (t.nxs (i + 1)) ρ ρ')
  (hrel:Rel E (guardF t ops.size s.nx listed F w ρ c i) (t.nxs (i + 1)) ρ' (t.G (i + 1)).get w') (hv:VR ρ' (t.v i) u) :
  DInv t ops s E F ρ0 rr (listed.setIfInBounds i true) (a.put (t.oo i).dst u) w' ρ' (i + 1):=by
 have hr:=inv.rel
 have hs:i < listed.size:=by rw [inv.size];exact hi
 have hchain:∀ q,t.hv ops.size q→q < i→t.anc i q:=by
  have hko:=ok.kind i hi
  unfold DTab.kindOK at hko
  rw [hk] at hko
  exact hko.2.1
 have hchain':∀ q,t.hv ops.size q→i < q→t.anc q i:=fun q hq hiq=>by
  have hko:=ok.kind q hq.1
  unfold DTab.kindOK at hko
  rw [hq.2] at hko
  exact hko.2.1 i ⟨hi,hk⟩ hiq
 have hlow:∀ q,t.hv ops.size q→(Ls listed q↔q < i):=fun q hq=>by
  rcases Nat.lt_trichotomy q i with h | h | h
  ·exact ⟨fun _=>h,fun _=>hpre q (hchain q hq h)⟩
  ·subst h;exact ⟨fun h=>absurd h hL,fun h=>absurd h (Nat.lt_irrefl _)⟩
  ·exact ⟨fun hl=>absurd (inv.down q i hq.1 hl (hchain' q hq h)) hL,fun h'=>by omega⟩
 have hnn:=inv.nn
 have hlo:∀ x,x < s.nx + ops.size→x≠s.nx + i→ρ' x=ρ x:=fun x hx1 hx2=>hx.lo x (by omega) hx2
 have hpend:∀ j o,t.pend ops.size (listed.setIfInBounds i true) (i + 1) j→t.k j = .new o→t.pend ops.size listed c j∧¬ t.anc i j∧j≠i:=fun j o hp hj=>by
  have hji:j≠i:=fun e=>by subst e;rw [hk] at hj;cases hj
  refine ⟨⟨hp.1,((Ls_set hs).1 hp.2.1).resolve_left hji,fun q hq hqc=>?_⟩,hp.2.2 i ⟨hi,hk⟩ (by omega),hji⟩
  have:=(inv.hc q hq).2 hqc
  have:=(hlow q hq).1 this
  exact hp.2.2 q hq (by omega)
 have hprot:∀ j o b,t.pend ops.size (listed.setIfInBounds i true) (i + 1) j→t.k j = .new o→ρ' (s.nx + j)=some b →
   ρ (s.nx + j)=some b∧t.hD ops.size s.nx listed c (s.nx + j)=some o∧∃ cob,w.heap[b.b]? = some cob∧OR ρ b o cob∧guardF t ops.size s.nx listed F w ρ c i b.b=some cob:=fun j o b hp hj hb=>by
  obtain ⟨h1,h2,h3⟩:=hpend j o hp hj
  rw [hlo _ (by have:=hp.1;omega) (by omega)] at hb
  have hd:t.hD ops.size s.nx listed c (s.nx + j)=some o:=hD_new h1 hj
  obtain ⟨cob,h4,h5⟩:=hr.ob _ _ _ hd hb
  exact ⟨hb,hd,cob,h4,h5,by rw [guardF_in h1 hj h2 hb];exact h4⟩
 refine step_common ok inv hi hL hpre (by rintro ⟨v,H,nx,e⟩;rw [hk] at e;cases e) hx.le (fun x hx1=>hlo x (by omega) (by omega)) (fun j hj hji _=>hlo _ (by omega) (by omega)) hv (.inr ⟨i,⟨hi,hk⟩,rfl⟩) (fun q hq=>?_) (Nat.le_trans hnn hx.nn) ?_
 ·rw [hlow q hq]
  omega
 ·refine ⟨hrel.tape,hrel.os,hrel.output,?_,?_,?_,?_,hrel.new,fun g l hg=>?_,hr.bs⟩
  rotate_right
  ·rcases hD_some hg with ⟨j,rfl,hp,hj⟩ | h
   ·obtain ⟨h1,_,_⟩:=hpend j _ hp hj
    exact hr.gl _ _ (hD_new h1 hj)
   ·exact hrel.gl g l h
  ·intro b o hb
   apply hrel.fr b o
   unfold guardF
   split
   ·exact hr.fr b o hb
   ·exact hb
  ·intro x o b hx1 hb
   rcases hD_some hx1 with ⟨j,rfl,hp,hj⟩ | h
   ·obtain ⟨h1,h2,cob,h3,h4,h5⟩:=hprot j o b hp hj hb
    exact ⟨cob,hrel.fr _ _ h5,h4.mono hx.le⟩
   ·exact hrel.ob x o b h hb
  ·intro x o b hx1 hb
   rcases hD_some hx1 with ⟨j,rfl,hp,hj⟩ | h
   ·obtain ⟨h1,h2,_⟩:=hprot j o b hp hj hb
    exact hr.dj _ _ _ h2 h1
   ·have hn:=hrel.dj x o b h hb
    rw [← hn]
    symm
    apply guardF_out
    intro j blk oj hp hj ha hblk e
    obtain ⟨cob,h4,h5⟩:=hr.ob _ _ _ (hD_new hp hj) hblk
    rw [← e,guardF_in hp hj ha hblk,h4] at hn
    cases hn
  ·intro x y o o' b b' hx1 hy1 hb hb' e
   rcases hD_some hx1 with ⟨j,rfl,hp,hj⟩ | h
   ·obtain ⟨h1,h2,cob,h3,h4,h5⟩:=hprot j o b hp hj hb
    rcases hD_some hy1 with ⟨j',rfl,hp',hj'⟩ | h'
    ·obtain ⟨k1,k2,_⟩:=hprot j' o' b' hp' hj' hb'
     exact hr.inj _ _ _ _ _ _ h2 k2 h1 k1 e
    ·have:=hrel.dj y o' b' h' hb'
     rw [← e,h5] at this;cases this
   ·rcases hD_some hy1 with ⟨j',rfl,hp',hj'⟩ | h'
    ·obtain ⟨k1,k2,cob,k3,k4,k5⟩:=hprot j' o' b' hp' hj' hb'
     have:=hrel.dj x o b h hb
     rw [e,k5] at this;cases this
    ·exact hrel.inj _ _ _ _ _ _ h h' hb hb' e
theorem unguard {t:DTab} {n r0:Nat} {listed:Array Bool} {w w':World} {ρ ρ':Ren} {c i nx:Nat} {h:Nat→Option AObj} (hfr:∀ b o,F b=some o→w.heap[b]? = some o) (hbs:∀ b o,E.base b=some o→F b=some o)
  (hg:∀ j blk o,t.pend n listed c j→t.k j = .new o→ρ (r0 + j)=some blk→w.heap[blk.b]?≠none)
  (hrel:Rel E (guardF t n r0 listed F w ρ c i) nx ρ' h w'):Rel E F nx ρ' h w':=by
 refine ⟨hrel.tape,hrel.os,hrel.output,fun b o hb=>hrel.fr b o ?_,hrel.ob,fun x o b hx hb=>?_,hrel.inj,hrel.new,hrel.gl,hbs⟩
 ·unfold guardF
  split
  ·exact hfr b o hb
  ·exact hb
 ·have hn:=hrel.dj x o b hx hb
  unfold guardF at hn
  split at hn
  ·rename_i hp
   obtain ⟨j,blk,oj,h1,h2,h3,h4,h5⟩:=hp
   rw [← h5] at hn
   exact absurd hn (hg j blk oj h1 h2 h4)
  ·exact hn
theorem step_any (hcall:CallOK P call) (ok:DOK t P call ops s) {listed:Array Bool} {a:Act} {w:World} {ρ:Ren} {c i:Nat} (inv:DInv t ops s E F ρ0 rr listed a w ρ c) (hi:i < ops.size) (hL:¬ Ls listed i)
  (hpre:∀ j,t.anc i j→Ls listed j) {K:Act→World→Prop} (hK:∀ ρ' c' a' w',DInv t ops s E F ρ0 rr (listed.setIfInBounds i true) a' w' ρ' c'→K a' w')
  (hP:∀ v H' nx',t.k i = .pan v H' nx'→∀ u ρ' w',RX s.nx nx' ρ0 ρ'→Rel E F nx' ρ' H'.get w'→VR ρ' v u→DInv t ops s E F ρ0 rr listed a w ρ c→ρ.le ρ'→Q (.panic (fresh u)) a w') :
  wpOpIn (FW ro) 0 P ops Q i K a w:=by
 have hko:=ok.kind i hi
 unfold DTab.kindOK at hko
 obtain ⟨X,hX,hXe⟩:=xr_of ok inv hi hL hpre
 unfold wpOpIn
 simp only [ok.opa i hi]
 split at hko
 ·rename_i hk
  rw [if_neg (by rw [wanted_of ok inv hi hL hpre hko.1];simp)]
  refine ⟨about_ok ro P _ w a.eval,hK ρ c _ w ?_⟩
  exact step_off ok inv hi hL hpre (by rw [hk];simp) (by rw [hk];simp) (by rintro ⟨v,H,nx,e⟩;rw [hk] at e;cases e) (by rw [hko.2.1];exact .tup [] [] .nil)
 ·rename_i hk
  rw [if_pos (wanted_of ok inv hi hL hpre hko.1)]
  have hlate:=not_anc_of inv hL
  obtain ⟨V,hV,hev⟩:=hko.2.2 c inv.cand hlate fun q hq han=>(inv.hc q hq).1 (hpre q han)
  rw [← evPure2_congr hXe] at hev
  obtain ⟨u,h4,h5⟩:=evPure2_sound inv.rel (fun x o hx _=>sub_hs ok inv hi hpre hV hx) hX (t.oo i) hev
  exact wpIn_of_yield (pure2_nodefer hev) (.inl h4) (hK ρ c _ w (step_off ok inv hi hL hpre (by rw [hk];simp) (by rw [hk];simp) (by rintro ⟨v,H,nx,e⟩;rw [hk] at e;cases e) h5))
 ·rename_i o hk
  rw [if_pos (wanted_of ok inv hi hL hpre hko.1)]
  have hev:=hko.2.2.1
  rw [← evNew_congr hXe] at hev
  obtain ⟨u,w1,cob,cap,h4,h5,h6,h7⟩:=evNew_sound (P:=P) (w:=w) hX (inv.unl i hi hL) (t.oo i) hev
  exact wpIn_of_yield (new_nodefer hev) (.inl h4) (hK _ c _ _ (step_new ok inv hi hL hpre hk h5 h6 h7))
 ·rename_i hk
  rw [if_pos (wanted_of ok inv hi hL hpre hko.1)]
  obtain ⟨_,hchain,V,hV,hev⟩:=hko
  rw [← evHeavy_congr hXe] at hev
  have hlow:∀ q,t.hv ops.size q→(q < c↔q < i):=fun q hq=>by
   rw [← inv.hc q hq]
   rcases Nat.lt_trichotomy q i with h | h | h
   ·exact ⟨fun _=>h,fun _=>hpre q (hchain q hq h)⟩
   ·subst h;exact ⟨fun h=>absurd h hL,fun h=>absurd h (Nat.lt_irrefl _)⟩
   ·refine ⟨fun hl=>?_,fun h'=>by omega⟩
    have hkq:=ok.kind q hq.1
    unfold DTab.kindOK at hkq
    rw [hq.2] at hkq
    exact absurd (inv.down q i hq.1 hl (hkq.2.1 i ⟨hi,hk⟩ h)) hL
  obtain ⟨hG,hn⟩:=G_eq' ok (cand_le inv.cand) (Nat.le_of_lt hi) hlow
  have hV':t.sub ops.size s.nx V i c:=fun x o hx=>by
   rcases hV x o hx with ⟨j,h1,h2,h3,h4⟩ | h
   ·exact .inl ⟨j,h1,h2,fun q hq hqc=>h3 q hq ((hlow q hq).1 hqc),h4⟩
   ·exact .inr (by rw [hG];exact h)
  have hrel:=heavy_rel ok inv hi hpre hV'
  rw [← hn] at hev
  refine evHeavy_sound hcall hrel hX (inv.unl i hi hL) (Nat.le_refl _) (by have:=inv.nn;omega) hev fun u ρ' w' hy hr hv=>?_
  exact hK ρ' (i + 1) _ w' (step_heavy ok inv hi hL hpre hk hy hr hv)
 ·rename_i hk
  obtain ⟨⟨p,hp,han,hpan⟩,_⟩:=hko
  exact absurd hpan (inv.np p (hpre p han))
 ·rename_i v H' nx' hk
  rw [if_pos (wanted_of ok inv hi hL hpre hko.1)]
  obtain ⟨_,_,hchain,V,hV,hev⟩:=hko
  rw [← evHeavy_congr hXe] at hev
  have hlow:∀ q,t.hv ops.size q→(q < c↔q < i):=fun q hq=>by
   rw [← inv.hc q hq]
   exact ⟨fun _=>(hchain q hq).1,fun _=>hpre q (hchain q hq).2⟩
  obtain ⟨hG,hn⟩:=G_eq' ok (cand_le inv.cand) (Nat.le_of_lt hi) hlow
  have hV':t.sub ops.size s.nx V i c:=fun x o hx=>by
   rcases hV x o hx with ⟨j,h1,h2,h3,h4⟩ | h
   ·exact .inl ⟨j,h1,h2,fun q hq hqc=>h3 q hq ((hlow q hq).1 hqc),h4⟩
   ·exact .inr (by rw [hG];exact h)
  have hrel:=heavy_rel ok inv hi hpre hV'
  rw [← hn] at hev
  refine evHeavy_sound hcall hrel hX (inv.unl i hi hL) (Nat.le_refl _) (by have:=inv.nn;omega) hev fun u ρ' w' hy hr hv=>?_
  refine hP v H' nx' hk u ρ' w' ⟨Ren.le_trans inv.le hy.le,fun x hx=>?_,?_⟩ (unguard inv.rel.fr inv.rel.bs (fun j blk o h1 h2 h3=>?_) hr) hv inv hy.le
  ·have:=inv.nn
   rw [hy.lo x (by omega) (by omega)]
   exact inv.lo x hx
  ·have:=inv.nn
   have:=hy.nn
   omega
  ·obtain ⟨cob,h4,_⟩:=inv.rel.ob _ _ _ (hD_new h1 h2) h3
   rw [h4];simp
end
end Go.EvC
