/- Laid by program out of its parts: EvV, SxF, SxG, SxI, SxJ, SxK, SxL, SxLG, SxM, SxN. -/
import Derived.Test.YtfnieibeimklcaaGreatDoorEvU
import Derived.Below
import Derived.ChangeSame
import Derived.ChangeSlices
import Derived.OpenShut
import Derived.Test.YtfnieibeimklcaaGreatDoorEcV
set_option linter.unusedVariables false
set_option linter.unusedSimpArgs false
section
/- The evaluator, part V: a closed call by evaluation: from every world it ends as evaluated, and leaves what was there as it was. -/
namespace Go.Ev
open Go.RowKit Go.ChangeShapes
noncomputable def says (x:Option CR) (b:Bool):Bool :=
 Option.rec (motive:=fun _=>Bool) false (fun r=>CR.rec (motive:=fun _=>Bool) (fun v _ _=>match v with
  | .bool c=>cond c b (!b)
  | _=>false) (fun _ _ _=>false) (fun _ _ _ _=>false) r) x
theorem says_some {x:Option CR} {b:Bool} (h:says x b=true):∃ H nx,x=some (.mk (.bool b) H nx):=by
 cases x with
 | none=>cases h
 | some r =>
  cases r with
  | mk v H nx =>
   cases v with
   | bool c=>refine ⟨H,nx,?_⟩;cases b <;> cases c <;> first | rfl | cases h
   | _=>cases h
  | _=>cases h
noncomputable def rho0:Ren:=⟨fun _=>none,fun _=>none⟩
theorem post_of_below {P:Program} {H:Type} {enc:TypeId×Value→H} {f:Func} {s:ChangeSpec} {apart fresh handsOn again:Bool} {W W':World} {args:Array Value} {v:Value} {ds gs:List (DataW H)} {before pa pv:List MemPlace}
  (hW:DataW.Whole enc P f.params.toList s.vars apart W args.toList ds gs before)
  (hres:∀ (b:Nat) (sp:Nat→Bool) (hd:Bool),DataW.TrodAll enc P W' b sp hd f.resultTypes.toList (v.resultList f.resultTypes.size) (s.fn H (ds ++ gs)).results [])
  (hargs:∀ sp:Nat→Bool,(∀ p∈before,sp p.block=true)→DataW.TrodAll enc P W' 0 sp true f.params.toList args.toList (s.fn H (ds ++ gs)).args pa)
  (hvars:∀ sp:Nat→Bool,(∀ p∈before,sp p.block=true)→DataW.TrodVars enc P W' sp s.vars (s.fn H (ds ++ gs)).vars pv)
  (hps:before=pa ++ pv) (hb:RowKit.Below W.heap.size W W')
  (hok:∀ (j:Nat) (t:TypeId) (r:Value),f.resultTypes[j]? = some t→(v.resultList f.resultTypes.size)[j]? = some r→Value.okWide P W' .any 0 t r) :
  s.post enc P f apart fresh handsOn again W args v W':=by
 have hlt:∀ p∈before,p.block < W.heap.size:=fun p hp=>by simpa using hW.lt p hp
 have hold:∀ p∈before,(fun b=>decide (b < W.heap.size)) p.block=true:=fun p hp=>by simpa using hlt p hp
 obtain ⟨_,_,_,_,_,hz,hn⟩:=id hW
 refine ⟨ds,gs,before,[],pa,pv,hW,hres _ _ _,hargs _ hold,hvars _ hold,hb.frame _,fun _=>⟨hok,_,_,([] ++ pa) ++ pv,⟨[] ++ pa,pv,trodAll_append (hargs _ fun _ _=>rfl) (hres _ _ _),hvars _ fun _ _=>rfl,rfl,fun b off hp=>?_,fun ha=>?_⟩,fun p hp _=>?_⟩⟩
 ·have hp':MemPlace.cell b off∈before:=by rw [hps];simpa using hp
  rw [hb.frozen (p:=⟨b,off,none⟩) (hlt _ hp')]
  exact hz b off hp'
 ·have:=hn ha
  rw [hps] at this
  simpa using this
 ·rw [hps]
  simpa using hp
end Go.Ev
end
section
/- The symbolic layer, part F: values and objects beside one another, over renumbering; content. -/
namespace Go.Ev
noncomputable def sg (σ:List (Nat×Nat)) (i:Nat):Option Nat :=
 List.rec (motive:=fun _=>Option Nat) none (fun p _ ih=>cond (Nat.beq p.1 i) (some p.2) ih) σ
structure AllI (R:Nat→Prop):Prop where
 h:∀ i,R i
mutual
noncomputable def vmP (σ:List (Nat×Nat)):AV→AV→Prop
 | .bool p,y=>match y with
  | .bool q=>q=p
  | _=>False
 | .int k m,y=>match y with
  | .int k' n=>ikEq k k'=true∧n=m
  | _=>False
 | .str m n,y=>match y with
  | .str m' n'=>m'=m∧n'=n
  | _=>False
 | .bs l,y=>match y with
  | .bs l'=>l'=l
  | .str m n=>bytesL m n=l
  | _=>False
 | .bv l,y=>match y with
  | .bv l'=>l'=l
  | .vec e n f=>Nat.beq e 1=true∧allBR n f=true∧rowB n f=l
  | .sl0=>l=[]
  | _=>False
 | .vec e n f,y=>match y with
  | .vec e' n' f'=>Nat.beq e e'=true∧n'=n∧AllI fun i=>i < n'→vmL σ (f i) (f' i)
  | .bv l=>Nat.beq e 1=true∧l.length=n∧AllI fun i=>i < l.length→vmL σ (f i) (byteRow l i)
  | .sl0=>n=0
  | _=>False
 | .pv l,y=>match y with
  | .pv l'=>vmL σ l l'
  | _=>False
 | .mapv has val z,y=>match y with
  | .mapv has' val' z'=>(∀ k,has' k=has k)∧(∀ k,vmP σ (val k) (val' k))∧(∀ k,has k=false→zOK z (val k))
  | _=>False
 | .ptr0,y=>match y with
  | .ptr0=>True
  | _=>False
 | .ptr i o,y=>match y with
  | .ptr j p=>sg σ i=some j∧Nat.beq o p=true
  | _=>False
 | .sl0,y=>match y with
  | .sl0=>True
  | _=>False
 | .sl i o n c,y=>match y with
  | .sl j p m d=>sg σ i=some j∧o=p∧m=n∧d=c
  | _=>False
 | .slo i o n e,y=>match y with
  | .slo j p m d=>sg σ i=some j∧o=p∧m=n∧Nat.beq e d=true
  | _=>False
 | .slg i n e,y=>match y with
  | .slg j m d=>sg σ i=some j∧m=n∧Nat.beq e d=true
  | .slo j p m d=>sg σ i=some j∧Nat.beq p 0=true∧m=n∧Nat.beq e d=true
  | .sl0=>n=0
  | _=>False
 | .map0,y=>match y with
  | .map0=>True
  | _=>False
 | .map i,y=>match y with
  | .map j=>sg σ i=some j
  | _=>False
 | .fn (.func f) a c,y=>match y with
  | .fn (.func g) b d=>Nat.beq f g=true∧vmL σ a b∧vmL σ c d
  | _=>False
 | .fn0,y=>match y with
  | .fn0=>True
  | _=>False
 | .iface t v,y=>match y with
  | .iface t' v'=>Nat.beq t t'=true∧vmP σ v v'
  | _=>False
 | .iface0,y=>match y with
  | .iface0=>True
  | _=>False
 | .agg l,y=>match y with
  | .agg l'=>vmL σ l l'
  | _=>False
 | .tup l,y=>match y with
  | .tup l'=>vmL σ l l'
  | _=>False
 | .gptr g o,y=>match y with
  | .gptr g' o'=>Nat.beq g g'=true∧Nat.beq o o'=true
  | _=>False
 | .yld i,y=>match y with
  | .yld j=>sg σ i=some j
  | _=>False
 | _,_=>False
noncomputable def vmL (σ:List (Nat×Nat)):List AV→List AV→Prop
 | [],l=>match l with
  | []=>True
  | _=>False
 | x :: l,l'=>match l' with
  | y :: m=>vmP σ x y∧vmL σ l m
  | []=>False
end
structure SgOK (σ:List (Nat×Nat)) (ρ ρ2:Ren):Prop where
 nm:∀ i j,sg σ i=some j→ρ2 i=ρ j
 st:∀ b o,ρ.st b=some o→ρ2.st b=some o
theorem bv_rows {ρ:Ren} {l:List UInt8} {v:Value} (h:VR ρ (.bv l) v):VR ρ (.vec 1 l.length (byteRow l)) v:=by
 cases h with
 | bvz _ hl base cap=>subst hl;exact .vecz _ _ _ rfl _ _
 | bv _ b o cap cs el fz hs hcap hc =>
  refine .vec 1 l.length _ b o cap cs el fz (fun i=>[.int .u8 ((l.getD i 0).toNat:Int)]) hs (by decide) hcap (fun i hi=>.cons _ _ _ _ (.int _ _) .nil) fun i hi j v hj=>?_
  match j with
  | 0=>injection hj with hj;subst hj;simpa using hc i hi
  | _ + 1=>simp at hj
theorem kOK_eq {has has':SKey→Bool} (h:∀ k,has k=has' k) {kd:TypeDesc} {k:SKey} (ho:kOK has kd k):kOK has' kd k:=by
 unfold kOK at ho ⊢
 split at ho
 ·show has' _=false;rw [← h];exact ho
 ·show has' _=true∧_;rw [← h];exact ho
 ·exact ho.elim
mutual
theorem vm_rel {σ:List (Nat×Nat)} {ρ ρ2:Ren} (hσ:SgOK σ ρ ρ2):∀ (a b:AV) (u:Value),vmP σ a b→VR ρ b u→VR ρ2 a u
 | .bool p,b,u,h,hb=>by
  cases b <;> first | (simp [vmP] at h;done) | skip
  rw [vmP] at h;subst h;cases hb;exact .bool _
 | .int k m,b,u,h,hb=>by
  cases b <;> first | (simp [vmP] at h;done) | skip
  rw [vmP] at h
  obtain ⟨h1,h2⟩:=h
  have:=ikEq_eq h1;subst this;subst h2;cases hb;exact .int _ _
 | .str m n,b,u,h,hb=>by
  cases b <;> first | (simp [vmP] at h;done) | skip
  rw [vmP] at h
  obtain ⟨rfl,rfl⟩:=h
  cases hb with
  | str _ _ hn=>exact .str _ _ hn
 | .bs l,b,u,h,hb=>by
  cases b <;> first | (simp [vmP] at h;done) | skip
  ·rw [vmP] at h;subst h;rw [strL_val hb rfl];exact .bs _
  ·rw [vmP] at h;subst h;cases hb;exact .bs _
 | .bv l,b,u,h,hb=>by
  cases b <;> first | (simp [vmP] at h;done) | skip
  ·rw [vmP] at h;subst h;cases hb;exact .bvz _ rfl _ _
  ·rw [vmP] at h;subst h
   cases hb with
   | bv _ b o cap cs el fz hs hcap hc=>exact .bv _ b o cap cs el fz (hσ.st _ _ hs) hcap hc
   | bvz _ hl base cap=>exact .bvz _ hl _ _
  ·rw [vmP] at h
   obtain ⟨h1,h2,rfl⟩:=h
   rw [Nat.beq_eq] at h1;subst h1
   cases sl_bytes hb h2 with
   | bv _ b o cap cs el fz hs hcap hc=>exact .bv _ b o cap cs el fz (hσ.st _ _ hs) hcap hc
   | bvz _ hl base cap=>exact .bvz _ hl _ _
 | .vec e n f,b,u,h,hb=>by
  have key:∀ (n':Nat) (f':Nat→List AV),VR ρ (.vec e n' f') u→n'=n→(∀ i,i < n'→vmL σ (f i) (f' i))→VR ρ2 (.vec e n f) u:=fun n' f' hb hn hf=>by
   subst hn
   cases hb with
   | vec _ _ _ b o cap cs el fz g hs he hcap hv hc=>exact .vec _ _ _ b o cap cs el fz g (hσ.st _ _ hs) he hcap (fun i hi=>vmL_rel hσ (f i) (f' i) (g i) (hf i hi) (hv i hi)) hc
   | vecz _ _ _ h0 base cap=>exact .vecz _ _ _ h0 _ _
  cases b <;> first | (simp [vmP] at h;done) | skip
  ·rw [vmP] at h;subst h;cases hb;exact .vecz _ _ _ rfl _ _
  ·rw [vmP] at h
   obtain ⟨h1,h2,h3⟩:=h
   rw [Nat.beq_eq] at h1;subst h1
   exact key _ _ (bv_rows hb) h2 h3.h
  ·rw [vmP] at h
   obtain ⟨h1,h2,h3⟩:=h
   rw [Nat.beq_eq] at h1;subst h1
   exact key _ _ hb h2 h3.h
 | .pv l,b,u,h,hb=>by
  cases b <;> first | (simp [vmP] at h;done) | skip
  rw [vmP] at h
  cases hb with
  | pv _ vs b o cs el fz hs hv hc=>exact .pv _ vs b o cs el fz (hσ.st _ _ hs) (vmL_rel hσ l _ vs h hv) hc
 | .mapv has val z,b,u,h,hb=>by
  cases b <;> first | (simp [vmP] at h;done) | skip
  rw [vmP] at h
  obtain ⟨h1,h2,h3⟩:=h
  cases hb with
  | mapv _ _ _ b es clock g hs hn hy hz hg =>
   exact .mapv _ _ _ b es clock g (hσ.st _ _ hs) (fun kd k u hk ho hf=>hn kd k u hk (kOK_eq (fun k=>(h1 k).symm) ho) (by rw [h1];exact hf)) (fun kd k u hk ho hf=>hy kd k u hk (kOK_eq (fun k=>(h1 k).symm) ho) (by rw [h1];exact hf)) h3
    fun k hk=>vm_rel hσ (val k) _ (g k) (h2 k) (hg k (by rw [h1];exact hk))
 | .ptr0,b,u,h,hb=>by
  cases b <;> first | (simp [vmP] at h;done) | skip
  cases hb;exact .ptr0
 | .ptr i o,b,u,h,hb=>by
  cases b <;> first | (simp [vmP] at h;done) | skip
  rw [vmP] at h
  obtain ⟨h1,h2⟩:=h
  rw [Nat.beq_eq] at h2;subst h2
  cases hb with
  | ptr _ _ b hb=>exact .ptr _ _ b (by rw [hσ.nm _ _ h1];exact hb)
 | .sl0,b,u,h,hb=>by
  cases b <;> first | (simp [vmP] at h;done) | skip
  cases hb;exact .sl0
 | .sl i o n c,b,u,h,hb=>by
  cases b <;> first | (simp [vmP] at h;done) | skip
  rw [vmP] at h
  obtain ⟨h1,rfl,rfl,rfl⟩:=h
  cases hb with
  | sl _ _ _ _ b hb=>exact .sl _ _ _ _ b (by rw [hσ.nm _ _ h1];exact hb)
 | .slo i o n e,b,u,h,hb=>by
  cases b <;> first | (simp [vmP] at h;done) | skip
  rw [vmP] at h
  obtain ⟨h1,rfl,rfl,h2⟩:=h
  rw [Nat.beq_eq] at h2;subst h2
  cases hb with
  | slo _ _ _ _ b hb he hl=>exact .slo _ _ _ _ b (by rw [hσ.nm _ _ h1];exact hb) he hl
 | .slg i n e,b,u,h,hb=>by
  cases b <;> first | (simp [vmP] at h;done) | skip
  ·rw [vmP] at h;subst h;cases hb;exact .slg0 _ _ _ rfl _
  ·rw [vmP] at h
   obtain ⟨h1,h0,rfl,h2⟩:=h
   rw [Nat.beq_eq] at h2 h0;subst h2;subst h0
   cases hb with
   | slo _ _ _ _ b hb he hl =>
    rw [Nat.sub_zero,Nat.add_zero]
    exact .slg _ _ _ b (by rw [hσ.nm _ _ h1];exact hb) he (by omega)
  ·rw [vmP] at h
   obtain ⟨h1,rfl,h2⟩:=h
   rw [Nat.beq_eq] at h2;subst h2
   cases hb with
   | slg _ _ _ b hb he hl=>exact .slg _ _ _ b (by rw [hσ.nm _ _ h1];exact hb) he hl
   | slg0 _ _ _ hn base=>exact .slg0 _ _ _ hn base
 | .map0,b,u,h,hb=>by
  cases b <;> first | (simp [vmP] at h;done) | skip
  cases hb;exact .map0
 | .map i,b,u,h,hb=>by
  cases b <;> first | (simp [vmP] at h;done) | skip
  rw [vmP] at h
  cases hb with
  | map _ b hb=>exact .map _ b (by rw [hσ.nm _ _ h];exact hb)
 | .fn (.func f) a c,b,u,h,hb=>by
  cases b <;> first | (simp [vmP] at h;done) | skip
  rename_i g b d
  cases g <;> first | (simp [vmP] at h;done) | skip
  rw [vmP] at h
  obtain ⟨h1,h2,h3⟩:=h
  rw [Nat.beq_eq] at h1;subst h1
  cases hb with
  | fn _ _ _ va vc ha hc=>exact .fn _ _ _ va vc (vmL_rel hσ a _ va h2 ha) (vmL_rel hσ c _ vc h3 hc)
 | .fn0,b,u,h,hb=>by
  cases b <;> first | (simp [vmP] at h;done) | skip
  cases hb;exact .fn0
 | .iface t v,b,u,h,hb=>by
  cases b <;> first | (simp [vmP] at h;done) | skip
  rw [vmP] at h
  obtain ⟨h1,h2⟩:=h
  rw [Nat.beq_eq] at h1;subst h1
  cases hb with
  | iface _ _ w hv=>exact .iface _ _ _ (vm_rel hσ v _ w h2 hv)
 | .iface0,b,u,h,hb=>by
  cases b <;> first | (simp [vmP] at h;done) | skip
  cases hb;exact .iface0
 | .agg l,b,u,h,hb=>by
  cases b <;> first | (simp [vmP] at h;done) | skip
  rw [vmP] at h
  cases hb with
  | agg _ vs hv=>exact .agg _ _ (vmL_rel hσ l _ vs h hv)
 | .tup l,b,u,h,hb=>by
  cases b <;> first | (simp [vmP] at h;done) | skip
  rw [vmP] at h
  cases hb with
  | tup _ vs hv=>exact .tup _ _ (vmL_rel hσ l _ vs h hv)
 | .gptr g o,b,u,h,hb=>by
  cases b <;> first | (simp [vmP] at h;done) | skip
  rw [vmP] at h
  obtain ⟨h1,h2⟩:=h
  rw [Nat.beq_eq] at h1 h2;subst h1;subst h2
  cases hb;exact .gptr _ _
 | .yld i,b,u,h,hb=>by
  cases b <;> first | (simp [vmP] at h;done) | skip
  rw [vmP] at h
  cases hb with
  | yld _ b hb=>exact .yld _ b (by rw [hσ.nm _ _ h];exact hb)
 | .sle _,b,u,h,hb | .chan0,b,u,h,hb | .chan _,b,u,h,hb | .pel _ _ _ _,b,u,h,hb=>by simp [vmP] at h
 | .fn (.method _) _ _,b,u,h,hb=>by simp [vmP] at h
 | .fn (.methodOf _ _) _ _,b,u,h,hb=>by simp [vmP] at h
 | .fn (.via _ _ _ _) _ _,b,u,h,hb=>by simp [vmP] at h
 | .fn (.yield _) _ _,b,u,h,hb=>by simp [vmP] at h
theorem vmL_rel {σ:List (Nat×Nat)} {ρ ρ2:Ren} (hσ:SgOK σ ρ ρ2):∀ (a b:List AV) (u:List Value),vmL σ a b→VRL ρ b u→VRL ρ2 a u
 | [],b,u,h,hb=>by
  cases b with
  | cons _ _=>simp [vmL] at h
  | nil=>cases hb;exact .nil
 | x :: l,b,u,h,hb=>by
  cases b with
  | nil=>simp [vmL] at h
  | cons y m =>
   rw [vmL] at h
   cases hb with
   | cons _ v _ vs h1 h2=>exact .cons _ _ _ _ (vm_rel hσ x y v h.1 h1) (vmL_rel hσ l m vs h.2 h2)
end
end Go.Ev
end
section
/- The symbolic layer, part G: objects and states beside one another: stations. -/
namespace Go.Ev
noncomputable def pcP (σ:List (Nat×Nat)) (c:Tr AV) (z:CB) (c':Tr AV) (z':CB) (n:Nat):Prop :=
 Nat.rec (motive:=fun _=>Prop) True (fun k ih=>ih∧(match cellOf c z k with
  | none=>True
  | some a=>match cellOf c' z' k with
   | none=>False
   | some b=>vmP σ a b)) n
noncomputable def esP (σ:List (Nat×Nat)):List AEnt→List AEnt→Prop
 | [],l=>match l with
  | []=>True
  | _=>False
 | e :: l,l'=>match l' with
  | d :: m=>(vmP σ e.key d.key∧vmP σ e.val d.val∧Nat.beq e.born d.born=true)∧esP σ l m
  | []=>False
noncomputable def trP (σ:List (Nat×Nat)) (T:Tr AV):Tr AV→Prop :=
 Tr.rec (motive:=fun _=>Tr AV→Prop) (fun _=>True) (fun v _ _ il ir T'=>Tr.rec (motive:=fun _=>Prop) False (fun v' l' r' _ _=>(match v with
  | none=>True
  | some a=>match v' with
   | none=>False
   | some b=>vmP σ a b)∧il l'∧ir r') T') T
theorem trP_gp {σ:List (Nat×Nat)}:∀ {T T':Tr AV},trP σ T T'→∀ (p:List Bool) (a:AV),Tr.gp p T=some a→∃ b,Tr.gp p T'=some b∧vmP σ a b
 | .leaf,_,_,p,a,h=>by rw [Tr.gp_leaf] at h;cases h
 | .node v l r,.leaf,h,p,a,hg=>False.elim h
 | .node v l r,.node v' l' r',h,p,a,hg=>by
  obtain ⟨h1,h2,h3⟩:=h
  cases p with
  | nil =>
   have hg':v=some a:=hg
   subst hg'
   cases v' with
   | none=>exact h1.elim
   | some b=>exact ⟨b,rfl,h1⟩
  | cons c p =>
   cases c with
   | true=>exact trP_gp h2 p a hg
   | false=>exact trP_gp h3 p a hg
noncomputable def omP (σ:List (Nat×Nat)) (a b:AObj):Prop :=
 match a with
 | .cells el c z n op=>match b with
  | .cells el' c' z' n' op'=>Nat.beq el el'=true∧(op || !op')=true∧(match z with
   | .rows e f=>match c with
    | .leaf=>match c',z' with
     | .leaf,.rows e' f'=>Nat.beq e e'=true∧n'=n∧AllI fun i=>i * e < n'→vmL σ (f i) (f' i)
     | _,_=>n'=n∧pcP σ .leaf (.rows e f) c' z' n'
    | _=>False
   | .per _=>Nat.beq n n'=true∧pcP σ c z c' z' n)
  | _=>False
 | .map es ck=>match b with
  | .map es' ck'=>Nat.beq ck ck'=true∧esP σ es es'
  | _=>False
 | .glob l=>match b with
  | .glob l'=>l'=l
  | _=>False
 | .dfr op=>match b with
  | .dfr op'=>cond op op' (!op')=true
  | _=>False
 | .loop st pend T N ps asg body d=>match st,pend,b with
  | .ready,none,.loop st' pend' T' N' ps' asg' body' d'=>match st',pend' with
   | .ready,none=>Nat.beq N N'=true∧(match sg σ d with
    | none=>False
    | some j=>Nat.beq j d'=true)∧ps=ps'∧asg=asg'∧body=body'∧trP σ T T'
   | _,_=>False
  | _,_,_=>False
 | _=>False
theorem pcP_get {σ:List (Nat×Nat)} {c:Tr AV} {z:CB} {c':Tr AV} {z':CB}:∀ {n:Nat},pcP σ c z c' z' n→∀ k a,k < n→cellOf c z k=some a→∃ b,cellOf c' z' k=some b∧vmP σ a b
 | 0,_,k,a,hk,_=>by omega
 | n + 1,h,k,a,hk,ha=>by
  have h':pcP σ c z c' z' n∧(match cellOf c z n with
   | none=>True
   | some a=>match cellOf c' z' n with
    | none=>False
    | some b=>vmP σ a b):=h
  by_cases hkn:k=n
  ·subst hkn
   have h2:=h'.2
   rw [ha] at h2
   simp only at h2
   split at h2
   ·exact h2.elim
   ·rename_i b hb;exact ⟨b,hb,h2⟩
  ·exact pcP_get h'.1 k a (by omega) ha
theorem vmL_get {σ:List (Nat×Nat)}:∀ {l m:List AV},vmL σ l m→∀ (j:Nat) (a:AV),l[j]? = some a→∃ b,m[j]? = some b∧vmP σ a b
 | [],m,h,j,a,ha=>by simp at ha
 | x :: l,m,h,j,a,ha=>by
  cases m with
  | nil=>simp [vmL] at h
  | cons y m =>
   rw [vmL] at h
   match j with
   | 0=>injection ha with ha;subst ha;exact ⟨y,rfl,h.1⟩
   | j + 1=>exact vmL_get h.2 j a ha
theorem esP_rel {σ:List (Nat×Nat)} {ρ ρ2:Ren} (hσ:SgOK σ ρ ρ2):∀ {es es':List AEnt} {l:List MapEntry},esP σ es es'→ERL ρ es' l→ERL ρ2 es l
 | [],es',l,h,hl=>by
  cases hl with
  | nil=>exact .nil
  | cons=>simp [esP] at h
 | e :: es,es',l,h,hl=>by
  cases hl with
  | nil=>simp [esP] at h
  | cons d m _ _ h1 h2 =>
   rw [esP] at h
   obtain ⟨⟨h3,h4,h5⟩,h6⟩:=h
   rw [Nat.beq_eq] at h5
   exact .cons _ _ _ _ ⟨vm_rel hσ _ _ _ h3 h1.1,vm_rel hσ _ _ _ h4 h1.2.1,h5.trans h1.2.2⟩ (esP_rel hσ h6 h2)
theorem om_rel {σ:List (Nat×Nat)} {ρ ρ2:Ren} (hσ:SgOK σ ρ ρ2) {a o:AObj} {b:Blk} {c:Obj} (h:omP σ a o) (ho:OR ρ b o c):OR ρ2 b a c:=by
 unfold omP at h
 split at h
 ·rename_i el c0 z n op
  split at h
  ·rename_i el' c' z' n' op'
   obtain ⟨h1,h2,h3⟩:=h
   rw [Nat.beq_eq] at h1;subst h1
   cases ho with
   | cells _ _ _ _ _ cs fz hsize hn hop hfz hc =>
    have hop2:∀ m,m=n'→op=false→m=b.cap:=fun m hm h=>by
     subst hm;subst h
     refine hop ?_
     cases op' <;> first | rfl | simp at h2
    cases z with
    | rows e f =>
     cases c0 with
     | node _ _ _=>exact h3.elim
     | leaf =>
      simp only at h3
      split at h3
      ·rename_i e' f'
       obtain ⟨h4,rfl,h6⟩:=h3
       rw [Nat.beq_eq] at h4;subst h4
       refine .cells _ _ _ _ _ cs fz hsize hn (hop2 _ rfl) hfz fun k a hk ha=>?_
       rw [cellOf_leaf] at ha
       have ha':(f (k / e))[k % e]? = some a:=ha
       have hlt:k / e * e < n':=Nat.lt_of_le_of_lt (Nat.div_mul_le_self k e) hk
       obtain ⟨b',hb',hm⟩:=vmL_get (h6.h _ hlt) _ _ ha'
       obtain ⟨v,hv,hr⟩:=hc k b' hk (by rw [cellOf_leaf];exact hb')
       exact ⟨v,hv,vm_rel hσ _ _ _ hm hr⟩
      ·obtain ⟨rfl,h5⟩:=h3
       refine .cells _ _ _ _ _ cs fz hsize hn (hop2 _ rfl) hfz fun k a hk ha=>?_
       obtain ⟨b',hb',hm⟩:=pcP_get h5 k a hk ha
       obtain ⟨v,hv,hr⟩:=hc k b' hk hb'
       exact ⟨v,hv,vm_rel hσ _ _ _ hm hr⟩
    | per zs =>
     simp only at h3
     obtain ⟨h4,h5⟩:=h3
     rw [Nat.beq_eq] at h4;subst h4
     refine .cells _ _ _ _ _ cs fz hsize hn (hop2 _ rfl) hfz fun k a hk ha=>?_
     obtain ⟨b',hb',hm⟩:=pcP_get h5 k a hk ha
     obtain ⟨v,hv,hr⟩:=hc k b' hk hb'
     exact ⟨v,hv,vm_rel hσ _ _ _ hm hr⟩
  ·exact h.elim
 ·split at h
  ·obtain ⟨h1,h2⟩:=h
   rw [Nat.beq_eq] at h1;subst h1
   cases ho with
   | map _ _ l hl=>exact .map _ _ l (esP_rel hσ h2 hl)
  ·exact h.elim
 ·split at h
  ·cases ho
  ·exact h.elim
 ·rename_i op
  split at h
  ·rename_i op'
   have e:op=op':=by cases op <;> cases op' <;> first | rfl | cases h
   subst e
   cases ho with
   | dfr _=>exact .dfr op
  ·exact h.elim
 ·rename_i st pend T N ps asg body d
  split at h
  ·rename_i st' pend' T' N' ps' asg' body' d'
   split at h
   ·obtain ⟨h1,h2,rfl,rfl,rfl,h6⟩:=h
    rw [Nat.beq_eq] at h1;subst h1
    split at h2
    ·exact h2.elim
    ·rename_i j hj
     rw [Nat.beq_eq] at h2;subst h2
     cases ho with
     | loop _ _ _ _ _ _ _ _ fn tmps bd hT hN hd =>
      refine .loop _ _ _ _ _ _ _ _ fn tmps bd (fun t a ha=>?_) hN ((hσ.nm _ _ hj).trans hd)
      obtain ⟨b',hb',hm⟩:=trP_gp h6 _ a ha
      obtain ⟨v,hv,hr⟩:=hT t b' hb'
      exact ⟨v,hv,vm_rel hσ _ _ _ hm hr⟩
   ·exact h.elim
  ·exact h.elim
 ·exact h.elim
mutual
noncomputable def subA (a b:AV) (σ:List (Nat×Nat)):List (Nat×Nat) :=
 match a with
 | .ptr i _=>match b with
  | .ptr j _=>addS i j σ
  | _=>σ
 | .sl i _ _ _=>match b with
  | .sl j _ _ _=>addS i j σ
  | _=>σ
 | .slo i _ _ _=>match b with
  | .slo j _ _ _=>addS i j σ
  | _=>σ
 | .slg i _ _=>match b with
  | .slg j _ _=>addS i j σ
  | .slo j _ _ _=>addS i j σ
  | _=>σ
 | .map i=>match b with
  | .map j=>addS i j σ
  | _=>σ
 | .yld i=>match b with
  | .yld j=>addS i j σ
  | _=>σ
 | .fn _ l m=>match b with
  | .fn _ l' m'=>subL m m' (subL l l' σ)
  | _=>σ
 | .agg l=>match b with
  | .agg l'=>subL l l' σ
  | _=>σ
 | .tup l=>match b with
  | .tup l'=>subL l l' σ
  | _=>σ
 | .iface _ v=>match b with
  | .iface _ v'=>subA v v' σ
  | _=>σ
 | _=>σ
noncomputable def subL (a b:List AV) (σ:List (Nat×Nat)):List (Nat×Nat) :=
 match a with
 | []=>σ
 | x :: l=>match b with
  | []=>σ
  | y :: m=>subL l m (subA x y σ)
noncomputable def addS (i j:Nat) (σ:List (Nat×Nat)):List (Nat×Nat):=Option.rec (motive:=fun _=>List (Nat×Nat)) ((i,j) :: σ) (fun _=>σ) (sg σ i)
end
noncomputable def subC (c:Tr AV) (z:CB) (c':Tr AV) (z':CB) (n:Nat) (σ:List (Nat×Nat)):List (Nat×Nat) :=
 Nat.rec (motive:=fun _=>List (Nat×Nat)) σ (fun k ih=>match cellOf c z k with
  | none=>ih
  | some a=>match cellOf c' z' k with
   | none=>ih
   | some b=>subA a b ih) n
noncomputable def subOb (a b:AObj) (σ:List (Nat×Nat)):List (Nat×Nat) :=
 match a with
 | .cells _ c z n _=>match z with
  | .rows _ _=>σ
  | .per _=>match b with
   | .cells _ c' z' _ _=>subC c z c' z' n σ
   | _=>σ
 | _=>σ
noncomputable def fL {β:Type} (l:List (Nat×Nat)):(List (Nat×Nat)→β)→β :=
 List.rec (motive:=fun _=>(List (Nat×Nat)→β)→β) (fun k=>k []) (fun p _ ih k=>fN p.1 fun a=>fN p.2 fun b=>ih fun l=>k ((a,b) :: l)) l
theorem fL_eq {β:Type}:∀ (l:List (Nat×Nat)) (k:List (Nat×Nat)→β),fL l k=k l
 | [],_=>rfl
 | p :: l,k=>by
  show (fN p.1 fun a=>fN p.2 fun b=>fL l fun l=>k ((a,b) :: l))=_
  rw [fN_eq,fN_eq,fL_eq l]
noncomputable def subT (T:Tr AV) (l:List (Nat×AV)) (σ:List (Nat×Nat)):List (Nat×Nat) :=
 List.rec (motive:=fun _=>List (Nat×Nat)→List (Nat×Nat)) (fun σ=>σ) (fun p _ ih σ=>fL (Option.rec (motive:=fun _=>List (Nat×Nat)) σ (fun b=>subA p.2 b σ) (T.get p.1)) ih) l σ
noncomputable def subH (H:Tr AObj) (l:List (Nat×AObj)) (σ:List (Nat×Nat)):List (Nat×Nat) :=
 List.rec (motive:=fun _=>List (Nat×Nat)→List (Nat×Nat)) (fun σ=>σ) (fun p _ ih σ=>fL (Option.rec (motive:=fun _=>List (Nat×Nat)) σ (fun j =>
  Option.rec (motive:=fun _=>List (Nat×Nat)) σ (fun o=>subOb p.2 o σ) (H.get j)) (sg σ p.1)) ih) l σ
noncomputable def nod (l:List Nat):Bool:=List.rec (motive:=fun _=>Bool) true (fun a l ih=>cond (l.any (Nat.beq a)) false ih) l
noncomputable def idS (n0:Nat):List (Nat×Nat):=(List.range n0).map fun i=>(i,i)
def memN (i:Nat) (l:List Nat):Bool:=l.any fun j=>Nat.beq i j
theorem memN_of {i:Nat} {l:List Nat} (h:i∈l):memN i l=true:=List.any_eq_true.2 ⟨i,h,Nat.beq_refl i⟩
noncomputable def sgWF (n0 nx:Nat) (dom:List Nat) (σ:List (Nat×Nat)):Bool :=
 cond ((List.range n0).all fun i=>Option.rec (motive:=fun _=>Bool) false (fun j=>Nat.beq j i) (sg σ i)) (cond (σ.all fun p=>Nat.blt p.1 nx) (nod ((σ.filter fun p=>memN p.1 dom).map (·.2))) false) false
noncomputable def tP (σ:List (Nat×Nat)) (T:Tr AV) (l:List (Nat×AV)):Prop :=
 List.rec (motive:=fun _=>Prop) True (fun p _ ih=>(match T.get p.1 with
  | none=>False
  | some b=>vmP σ p.2 b)∧ih) l
def isGl:AObj→Bool
 | .glob _=>true
 | _=>false
noncomputable def hP (n0:Nat) (σ:List (Nat×Nat)) (H:Tr AObj) (l:List (Nat×AObj)):Prop :=
 List.rec (motive:=fun _=>Prop) True (fun p _ ih=>(cond (isGl p.2) (Nat.blt p.1 n0) true=true∧match sg σ p.1 with
  | none=>True
  | some j=>match H.get j with
   | none=>False
   | some o=>omP σ p.2 o)∧ih) l
noncomputable def mkT (l:List (Nat×AV)):Tr AV:=List.rec (motive:=fun _=>Tr AV) .leaf (fun p _ ih=>ih.set p.1 p.2) l
noncomputable def mkH (l:List (Nat×AObj)):Tr AObj:=List.rec (motive:=fun _=>Tr AObj) .leaf (fun p _ ih=>ih.set p.1 p.2) l
theorem mkT_get:∀ {l:List (Nat×AV)} {t:Nat} {a:AV},(mkT l).get t=some a→(t,a)∈l
 | [],t,a,h=>by rw [show mkT [] = .leaf from rfl,Tr.get_leaf] at h;cases h
 | p :: l,t,a,h=>by
  have h':((mkT l).set p.1 p.2).get t=some a:=h
  rw [Tr.get_set] at h'
  split at h'
  ·rename_i e;injection h' with h';subst e;subst h';exact List.mem_cons_self ..
  ·exact List.mem_cons_of_mem _ (mkT_get h')
theorem mkH_get:∀ {l:List (Nat×AObj)} {t:Nat} {a:AObj},(mkH l).get t=some a→(t,a)∈l
 | [],t,a,h=>by rw [show mkH [] = .leaf from rfl,Tr.get_leaf] at h;cases h
 | p :: l,t,a,h=>by
  have h':((mkH l).set p.1 p.2).get t=some a:=h
  rw [Tr.get_set] at h'
  split at h'
  ·rename_i e;injection h' with h';subst e;subst h';exact List.mem_cons_self ..
  ·exact List.mem_cons_of_mem _ (mkH_get h')
theorem tP_mem {σ:List (Nat×Nat)} {T:Tr AV}:∀ {l:List (Nat×AV)},tP σ T l→∀ p∈l,∃ b,T.get p.1=some b∧vmP σ p.2 b
 | [],_,p,hp=>by cases hp
 | q :: l,h,p,hp=>by
  have h':(match T.get q.1 with
   | none=>False
   | some b=>vmP σ q.2 b)∧tP σ T l:=h
  rcases List.mem_cons.1 hp with rfl | hp
  ·have h2:=h'.1
   split at h2
   ·exact h2.elim
   ·rename_i b hb;exact ⟨b,hb,h2⟩
  ·exact tP_mem h'.2 p hp
theorem hP_mem {n0:Nat} {σ:List (Nat×Nat)} {H:Tr AObj}:∀ {l:List (Nat×AObj)},hP n0 σ H l→∀ p∈l,cond (isGl p.2) (Nat.blt p.1 n0) true=true∧∀ j,sg σ p.1=some j→∃ o,H.get j=some o∧omP σ p.2 o
 | [],_,p,hp=>by cases hp
 | q :: l,h,p,hp=>by
  have h':(cond (isGl q.2) (Nat.blt q.1 n0) true=true∧match sg σ q.1 with
   | none=>True
   | some j=>match H.get j with
    | none=>False
    | some o=>omP σ q.2 o)∧hP n0 σ H l:=h
  rcases List.mem_cons.1 hp with rfl | hp
  ·refine ⟨h'.1.1,fun j hj=>?_⟩
   have h2:=h'.1.2
   rw [hj] at h2
   simp only at h2
   split at h2
   ·exact h2.elim
   ·rename_i o ho;exact ⟨o,ho,h2⟩
  ·exact hP_mem h'.2 p hp
theorem sg_mem:∀ {σ:List (Nat×Nat)} {i j:Nat},sg σ i=some j→(i,j)∈σ
 | [],i,j,h=>by cases h
 | p :: σ,i,j,h=>by
  have h':cond (Nat.beq p.1 i) (some p.2) (sg σ i)=some j:=h
  cases hb:Nat.beq p.1 i with
  | true =>
   rw [hb] at h';rw [Nat.beq_eq] at hb
   injection h' with h';subst hb;subst h'
   exact List.mem_cons_self ..
  | false=>rw [hb] at h';exact List.mem_cons_of_mem _ (sg_mem h')
theorem nod_inj:∀ {l:List (Nat×Nat)},nod (l.map (·.2))=true→∀ p∈l,∀ q∈l,p.2=q.2→p=q
 | [],_,p,hp,_,_,_=>by cases hp
 | a :: l,h,p,hp,q,hq,e=>by
  have h':cond ((l.map (·.2)).any (Nat.beq a.2)) false (nod (l.map (·.2)))=true:=h
  cases ha:(l.map (·.2)).any (Nat.beq a.2) with
  | true=>rw [ha] at h';cases h'
  | false =>
   rw [ha,cond_false] at h'
   have hno:∀ r∈l,r.2≠a.2:=fun r hr e=>by
    have:(l.map (·.2)).any (Nat.beq a.2)=true:=List.any_eq_true.2 ⟨r.2,List.mem_map.2 ⟨r,hr,rfl⟩,by rw [Nat.beq_eq];exact e.symm⟩
    rw [ha] at this;cases this
   rcases List.mem_cons.1 hp with h1 | h1 <;> rcases List.mem_cons.1 hq with h2 | h2
   ·rw [h1,h2]
   ·rw [h1] at e;exact absurd e.symm (hno q h2)
   ·rw [h2] at e;exact absurd e (hno p h1)
   ·exact nod_inj h' p h1 q h2 e
structure Keep (n0:Nat) (ρ ρ':Ren):Prop where
 lo:∀ i,i < n0→ρ' i=ρ i
 st:∀ b o,ρ.st b=some o→ρ'.st b=some o
theorem Keep.refl (n0:Nat) (ρ:Ren):Keep n0 ρ ρ:=⟨fun _ _=>rfl,fun _ _ h=>h⟩
theorem Keep.trans {n0:Nat} {a b c:Ren} (h:Keep n0 a b) (k:Keep n0 b c):Keep n0 a c :=
 ⟨fun i hi=>(k.lo i hi).trans (h.lo i hi),fun b o hb=>k.st b o (h.st b o hb)⟩
theorem Keep.of_rx {n0 n n':Nat} {ρ ρ':Ren} (h:RX n n' ρ ρ') (hn:n0≤n):Keep n0 ρ ρ' :=
 ⟨fun i hi=>h.lo i (Nat.lt_of_lt_of_le hi hn),h.le.st⟩
noncomputable def renS (σ:List (Nat×Nat)) (ρ:Ren):Ren:=⟨fun i=>(sg σ i).bind ρ.nm,ρ.st⟩
theorem renS_ok (σ:List (Nat×Nat)) (ρ:Ren):SgOK σ ρ (renS σ ρ):=⟨fun i j h=>by show (sg σ i).bind ρ.nm=_;rw [h];rfl,fun _ _ h=>h⟩
noncomputable def stP (n0 N nx:Nat) (T:List (Nat×AV)) (H:List (Nat×AObj)) (s:St):Prop :=
 match s.D,s.ro with
 | [],none=>fL (subH s.H H (subT s.T T (idS n0))) fun σ=>cond (Nat.beq s.N N) (cond (Nat.ble n0 nx) (sgWF n0 nx (H.map (·.1)) σ) false) false=true∧tP σ s.T T∧hP n0 σ s.H H
 | _,_=>False
theorem stP_rel {n0 N nx:Nat} {T:List (Nat×AV)} {H:List (Nat×AObj)} {s:St} (h:stP n0 N nx T H s) {E:Env} {F:Nat→Option Obj} {ρ:Ren} {a:Act} {w:World} {ro:Option Nat} (hs:SR E F ρ s a w ro) :
  n0≤nx∧∃ ρ2,Keep n0 ρ ρ2∧SR E F ρ2 ⟨N,mkT T,mkH H,nx,none,[]⟩ a w ro:=by
 unfold stP at h
 split at h
 ·rename_i hD hro
  rw [fL_eq] at h
  generalize (subH s.H H (subT s.T T (idS n0)))=σ at h
  obtain ⟨hw,hT,hH⟩:=h
  obtain ⟨hN,hw⟩:=cond_and hw
  obtain ⟨hn0,hw⟩:=cond_and hw
  rw [Nat.beq_eq] at hN
  rw [Nat.ble_eq] at hn0
  refine ⟨hn0,?_⟩
  unfold sgWF at hw
  obtain ⟨hw1,hw2⟩:=cond_and hw
  obtain ⟨hw2,hw3⟩:=cond_and hw2
  have hσ:=renS_ok σ ρ
  have hnm:∀ i b,renS σ ρ i=some b→∃ j,sg σ i=some j∧ρ j=some b:=fun i b h=>by
   have h':(sg σ i).bind ρ.nm=some b:=h
   cases hsi:sg σ i with
   | none=>rw [hsi] at h';cases h'
   | some j=>rw [hsi] at h';exact ⟨j,rfl,h'⟩
  have hobj:∀ i o b,(mkH H).get i=some o→renS σ ρ i=some b→∃ j o',sg σ i=some j∧ρ j=some b∧s.H.get j=some o'∧omP σ o o':=fun i o b hi hb=>by
   obtain ⟨j,h1,h2⟩:=hnm i b hb
   obtain ⟨o',h3,h4⟩:=(hP_mem hH _ (mkH_get hi)).2 j h1
   exact ⟨j,o',h1,h2,h3,h4⟩
  have r:=hs.rel
  refine ⟨renS σ ρ,⟨fun i hi=>?_,fun _ _ h=>h⟩,⟨⟨r.tape,r.os,r.output,r.fr,fun i o b hi hb=>?_,fun i o b hi hb=>?_,fun i k o o' b b' hi hk hb hb' e=>?_,fun i hi=>?_,fun g l hg=>?_,r.bs,r.st,fun i o b hi hb=>?_,r.sf⟩,fun t v ht=>?_,hs.size.trans hN,?_,?_⟩⟩
  ·have:=List.all_eq_true.1 hw1 i (List.mem_range.2 hi)
   cases hsi:sg σ i with
   | none=>rw [hsi] at this;cases this
   | some j =>
    rw [hsi] at this
    have this:Nat.beq j i=true:=this
    rw [Nat.beq_eq] at this;subst this
    show (sg σ j).bind ρ.nm=_
    rw [hsi];rfl
  ·obtain ⟨j,o',h1,h2,h3,h4⟩:=hobj i o b hi hb
   obtain ⟨c,h5,h6⟩:=r.ob j o' b h3 h2
   exact ⟨c,h5,om_rel hσ h4 h6⟩
  ·obtain ⟨j,o',h1,h2,h3,h4⟩:=hobj i o b hi hb
   exact r.dj j o' b h3 h2
  ·obtain ⟨j,p,h1,h2,h3,h4⟩:=hobj i o b hi hb
   obtain ⟨j',p',h1',h2',h3',h4'⟩:=hobj k o' b' hk hb'
   have hj:=r.inj j j' p p' b b' h3 h3' h2 h2' e
   have:=nod_inj hw3 _ (List.mem_filter.2 ⟨sg_mem h1,memN_of (List.mem_map.2 ⟨_,mkH_get hi,rfl⟩)⟩) _ (List.mem_filter.2 ⟨sg_mem h1',memN_of (List.mem_map.2 ⟨_,mkH_get hk,rfl⟩)⟩) hj
   exact congrArg Prod.fst this
  ·show (sg σ i).bind ρ.nm=none
   cases hsi:sg σ i with
   | none=>rfl
   | some j =>
    have h1:Nat.blt i nx=true:=List.all_eq_true.1 hw2 _ (sg_mem hsi)
    rw [Nat.blt_eq] at h1
    have hi':nx≤i:=hi
    omega
  ·obtain ⟨h1,h2⟩:=hP_mem hH _ (mkH_get hg)
   have hlt:g < n0:=by
    have h1:Nat.blt g n0=true:=h1
    rwa [Nat.blt_eq] at h1
   have:=List.all_eq_true.1 hw1 g (List.mem_range.2 hlt)
   cases hsi:sg σ g with
   | none=>rw [hsi] at this;cases this
   | some j =>
    rw [hsi] at this
    have this:Nat.beq j g=true:=this
    rw [Nat.beq_eq] at this;subst this
    obtain ⟨o,h3,h4⟩:=h2 j hsi
    cases o with
    | glob l' =>
     have h4:l'=l:=h4
     subst h4;exact r.gl j l' h3
    | _=>exact h4.elim
  ·obtain ⟨j,o',h1,h2,h3,h4⟩:=hobj i o b hi hb
   exact r.sd j o' b h3 h2
  ·obtain ⟨b,h1,h2⟩:=tP_mem hT _ (mkT_get ht)
   obtain ⟨u,h3,h4⟩:=hs.tr _ b h1
   exact ⟨u,h3,vm_rel hσ _ _ _ h2 h4⟩
  ·have hdr:=hs.dr
   rw [hD] at hdr
   generalize a.defers=ds at hdr
   cases hdr;exact .nil
  ·have hrr:=hs.rr
   rw [hro] at hrr
   cases hrr;exact .none
 ·exact h.elim
end Go.Ev
end
section
/- The symbolic layer, part I: contracts, and the evaluator that leaves a sentence: definitions. -/
namespace Go.Ev
inductive Ct where
 | ret (v:AV)
 | pan (v:AV)
 | br (b:Bool) (t e:Ct)
 | need (p:Prop) (t:Ct)
abbrev Tbl:=List (FuncId×(Tr AObj→List AV→Option Ct))
noncomputable def look (tb:Tbl) (g:FuncId):Option (Tr AObj→List AV→Option Ct) :=
 List.rec (motive:=fun _=>Option (Tr AObj→List AV→Option Ct)) none (fun p _ ih=>cond (Nat.beq p.1 g) (some p.2) ih) tb
noncomputable def sdA (b:Bool) (K:Prop):Prop:=Bool.rec (motive:=fun _=>Prop) False K b
noncomputable def brP (b:Bool) (K L:Prop):Prop:=Bool.rec (motive:=fun _=>Prop) L K b
theorem sdA_iff {b:Bool} {K:Prop}:sdA b K↔b=true∧K:=by cases b <;> simp [sdA]
theorem brP_iff {b:Bool} {K L:Prop}:brP b K L↔(b=true→K)∧(b=false→L):=by cases b <;> simp [brP]
theorem brP_of {b:Bool} {K L:Prop} (h1:b=true→K) (h2:b=false→L):brP b K L:=brP_iff.2 ⟨h1,h2⟩
theorem sdA_of {b:Bool} {K:Prop} (h1:b=true) (h2:K):sdA b K:=sdA_iff.2 ⟨h1,h2⟩
noncomputable def cCt (ct:Ct) (R Pn:AV→Prop):Prop:=Ct.rec (motive:=fun _=>Prop) R Pn (fun b _ _ it ie=>brP b it ie) (fun p _ it=>p∧it) ct
open Classical in
noncomputable def ctOut (ct:Ct):Option (Bool×AV):=Ct.rec (motive:=fun _=>Option (Bool×AV)) (fun v=>some (false,v)) (fun v=>some (true,v)) (fun b _ _ it ie=>cond b it ie) (fun p _ it=>if p then it else none) ct
theorem cCt_out {R Pn:AV→Prop}:∀ {ct:Ct},cCt ct R Pn→∃ p v,ctOut ct=some (p,v)∧(if p then Pn v else R v)
 | .ret v,h=>⟨false,v,rfl,h⟩
 | .pan v,h=>⟨true,v,rfl,h⟩
 | .br b t e,h=>by
  have h':brP b (cCt t R Pn) (cCt e R Pn):=h
  cases b with
  | true=>exact cCt_out (ct:=t) h'
  | false=>exact cCt_out (ct:=e) h'
 | .need p t,h=>by
  have h':p∧cCt t R Pn:=h
  obtain ⟨q,v,h1,h2⟩:=cCt_out (ct:=t) h'.2
  exact ⟨q,v,(if_pos h'.1).trans h1,h2⟩
def outCR (p:Bool) (v:AV) (H:Tr AObj) (nx:Nat):CR:=match p with
 | false=>.mk v H nx
 | true=>.pan v H nx
inductive HCt:Type 1 where
 | ret (v:AV) (up:List (Nat×AObj)) (nx:Nat)
 | pan (v:AV) (up:List (Nat×AObj)) (nx:Nat)
 | br (b:Bool) (t e:HCt)
 | need (p:Prop) (t:HCt)
 | gen {α:Type} (a:α) (f:α→HCt)
abbrev HEnt:=Tr AObj→Nat→List AV→Option HCt
abbrev HTbl:=List (FuncId×HEnt)
noncomputable def lookH (tb:HTbl) (g:FuncId):Option HEnt :=
 List.rec (motive:=fun _=>Option HEnt) none (fun p _ ih=>cond (Nat.beq p.1 g) (some p.2) ih) tb
def isGone (o:AObj):Bool:=match o with
 | .miter _ _ _ _=>true
 | _=>false
noncomputable def setL (l:List (Nat×AObj)) (H:Tr AObj):Tr AObj:=List.rec (motive:=fun _=>Tr AObj) H (fun p _ ih=>cond (isGone p.2) (ih.del p.1) (ih.set p.1 p.2)) l
noncomputable def cHCt (hc:HCt) (R Pn:AV→List (Nat×AObj)→Nat→Prop):Prop:=HCt.rec (motive:=fun _=>Prop) R Pn (fun b _ _ it ie=>brP b it ie) (fun p _ it=>p∧it) (fun a _ ih=>∀ y,y=a→ih y) hc
open Classical in
noncomputable def hOut (hc:HCt):Option (Bool×AV×List (Nat×AObj)×Nat) :=
 HCt.rec (motive:=fun _=>Option (Bool×AV×List (Nat×AObj)×Nat)) (fun v up nx=>some (false,v,up,nx)) (fun v up nx=>some (true,v,up,nx)) (fun b _ _ it ie=>cond b it ie) (fun p _ it=>if p then it else none) (fun a _ ih=>ih a) hc
theorem cHCt_out {R Pn:AV→List (Nat×AObj)→Nat→Prop}:∀ {hc:HCt},cHCt hc R Pn→∃ p v up nx,hOut hc=some (p,v,up,nx)∧(if p then Pn v up nx else R v up nx)
 | .ret v up nx,h=>⟨false,v,up,nx,rfl,h⟩
 | .pan v up nx,h=>⟨true,v,up,nx,rfl,h⟩
 | .br b t e,h=>by
  have h':brP b (cHCt t R Pn) (cHCt e R Pn):=h
  cases b with
  | true=>exact cHCt_out (hc:=t) h'
  | false=>exact cHCt_out (hc:=e) h'
 | .need p t,h=>by
  have h':p∧cHCt t R Pn:=h
  obtain ⟨q,v,up,nx,h1,h2⟩:=cHCt_out (hc:=t) h'.2
  exact ⟨q,v,up,nx,(if_pos h'.1).trans h1,h2⟩
 | .gen a f,h=>by
  have h':∀ y,y=a→cHCt (f y) R Pn:=h
  exact cHCt_out (hc:=f a) (h' a rfl)
def HEntOK (P:Program) (g:FuncId) (ent:HEnt):Prop :=
 ∀ H nx args hc,ent H nx args=some hc→∀ p v up nx',hOut hc=some (p,v,up,nx')→∀ E F ρ w,Rel E F nx ρ H.get w→TgtOK P (.fn g args) w ρ (EndsR E F nx ρ (outCR p v (setL up H) nx'))
def HtOK (P:Program) (ht:HTbl):Prop:=∀ g ent,lookH ht g=some ent→HEntOK P g ent
theorem ht_nil (P:Program):HtOK P []:=fun _ _ h=>by cases h
structure RCt where
 X:Type
 pre:Prop
 Q:X→Prop
 v:X→AV
abbrev REnt:=Tr AObj→List AV→Option RCt
abbrev RTbl:=List (FuncId×REnt)
noncomputable def lookR (tb:RTbl) (g:FuncId):Option REnt :=
 List.rec (motive:=fun _=>Option REnt) none (fun p _ ih=>cond (Nat.beq p.1 g) (some p.2) ih) tb
def REntOK (P:Program) (g:FuncId) (ent:REnt):Prop :=
 ∀ H args rc,ent H args=some rc→rc.pre→∀ E F ρ w nx H',(∀ g l,H.get g=some (.glob l)→∃ cs e fz,E.base g=some (.cells cs e fz)∧∀ ρ',VRL ρ' l cs.toList)→Rel E F nx ρ H'.get w →
  TgtOK P (.fn g args) w ρ (fun e w'=>∃ r:CR,(∃ x,rc.Q x∧r = .mk (rc.v x) H' (nx + 1))∧EndsR E F nx ρ r e w')
def RtOK (P:Program) (rt:RTbl):Prop:=∀ g ent,lookR rt g=some ent→REntOK P g ent
theorem rt_nil (P:Program):RtOK P []:=fun _ _ h=>by cases h
structure RHCt where
 X:Type
 pre:Prop
 Q:X→Prop
 v:X→AV
 up:X→List (Nat×AObj)
 nx:Nat
abbrev RHEnt:=Tr AObj→Nat→List AV→Option RHCt
abbrev RHTbl:=List (FuncId×RHEnt)
noncomputable def lookRH (tb:RHTbl) (g:FuncId):Option RHEnt :=
 List.rec (motive:=fun _=>Option RHEnt) none (fun p _ ih=>cond (Nat.beq p.1 g) (some p.2) ih) tb
def RHEntOK (P:Program) (g:FuncId) (ent:RHEnt):Prop :=
 ∀ H nx args rc,ent H nx args=some rc→rc.pre→∀ E F ρ w,Rel E F nx ρ H.get w →
  TgtOK P (.fn g args) w ρ (fun e w'=>∃ r:CR,(∃ x,rc.Q x∧r = .mk (rc.v x) (setL (rc.up x) H) rc.nx)∧EndsR E F nx ρ r e w')
def RhOK (P:Program) (rt:RHTbl):Prop:=∀ g ent,lookRH rt g=some ent→RHEntOK P g ent
theorem rh_nil (P:Program):RhOK P []:=fun _ _ h=>by cases h
noncomputable def callT (tb:Tbl) (ht:HTbl):CallF:=fun t H nx=>match t with
 | .fn g args=>Option.rec (motive:=fun _=>Option CR) (ob (look tb g) fun ent=>ob (ent H args) fun ct=>ob (ctOut ct) fun o=>some (outCR o.1 o.2 H (nx + 1)))
   (fun ent=>ob (ent H nx args) fun hc=>ob (hOut hc) fun o=>some (outCR o.1 o.2.1 (setL o.2.2.1 H) o.2.2.2)) (lookH ht g)
 | .yld _ _=>none
structure Stn where
 X:Type
 T:St→Nat→X→List (Nat×AV)
 H:St→Nat→X→List (Nat×AObj)
 nx:St→Nat→Nat
 I:St→X→Prop
 m:X→Nat
abbrev KX:=AX→St→Prop
abbrev KC:=CR→Prop
structure Ctx where
 P:Program
 tb:Tbl
 lp:FuncId→Nat→Option Stn
 cut:FuncId→Nat→Option Stn
 ht:HTbl:=[]
 hok:HtOK P ht:=by exact ht_nil _
 rt:RTbl:=[]
 rok:RtOK P rt:=by exact rt_nil _
 pl:FuncId→Nat→St→Bool:=fun _ _ _=>false
 fr:FuncId→Nat→List Nat:=fun _ _=>[]
 fl:FuncId→Nat→List Nat:=fun _ _=>[]
 rh:RHTbl:=[]
 rhok:RhOK P rh:=by exact rh_nil _
structure CEv where
 code:Nat→FuncId→Code→St→KX→Prop
 call:FuncId→List AV→Tr AObj→Nat→KC→Prop
noncomputable def okP.{u} {α:Type u} (x:Option α) (K:α→Prop):Prop:=Option.rec (motive:=fun _=>Prop) False K x
theorem okP_some.{u} {α:Type u} {x:Option α} {K:α→Prop} (h:okP x K):∃ a,x=some a∧K a:=by
 cases x with
 | none=>exact h.elim
 | some a=>exact ⟨a,rfl,h⟩
def noCall:CallF:=fun _ _ _=>none
noncomputable def cWant (ops:Array Oper) (T:Tr AV) (o:Oper) (K:Tr AV→Bool→Prop):Prop :=
 match o.guard with
 | none=>K T true
 | some (j,want)=>okP (ops[j]?) fun oj=>okP oj.dst fun d=>okP (T.get d) fun v=>match v with
  | .bool b=>brP b (K (T.set d (.bool true)) want) (K (T.set d (.bool false)) (!want))
  | _=>K T false
noncomputable def cCallee (X:Operand→Option AV) (op:Op) (C:Tgt→Prop):Prop :=
 match op with
 | .call c=>match c.callee with
  | .value f=>okP (X f) fun fv=>okP (xsL X c.args.toList) fun xs=>okP (evTarget fv xs) C
  | _=>False
 | _=>False
noncomputable def cFind (kd:TypeDesc) (k:SKey) (z:AV) (K:Bool→AV→Prop) (es:List AEnt):Prop :=
 List.rec (motive:=fun _=>Prop) (K false z) (fun e _ ih=>okP (keyS kd e.key) fun s=>okP (eqS k s) fun q=>brP q (K true e.val) ih) es
noncomputable def cLook (P:Program) (X:Operand→Option AV) (H:Tr AObj) (nx:Nat) (op:Op) (K:KC) (D:Prop):Prop :=
 match op with
 | .lookup t m k ok=>okP (X m) fun m=>okP (X k) fun k=>okP (P.underlying t) fun d=>match d with
  | .map key elem=>okP (P.underlying key) fun kd=>sdA (keyD kd) (okP (keyS kd k) fun s=>okP (zeroAV P elem) fun z=>match m with
   | .map id=>okP (H.get id) fun o=>match o with
    | .map es _=>cFind kd s z (fun has v=>K (.mk (cond ok (.tup [v,.bool has]) v) H nx)) es
    | _=>False
   | _=>False)
  | _=>False
 | _=>D
noncomputable def waysI (z:Int) (K:Nat→Prop) (n:Nat):Prop:=Nat.rec (motive:=fun _=>Prop) False (fun j ih=>brP (ieq z (j:Int)) (K j) ih) n
theorem waysI_some {z:Int} {K:Nat→Prop}:∀ {n:Nat},waysI z K n→∃ j,j < n∧z=(j:Int)∧K j
 | 0,h=>h.elim
 | n + 1,h=>by
  obtain ⟨h1,h2⟩:=brP_iff.1 (show brP (ieq z (n:Int)) (K n) (waysI z K n) from h)
  cases hb:ieq z (n:Int) with
  | true=>exact ⟨n,Nat.lt_succ_self _,by simpa [ieq_eq] using hb,h1 hb⟩
  | false =>
   obtain ⟨j,h3,h4,h5⟩:=waysI_some (h2 hb)
   exact ⟨j,Nat.lt_succ_of_lt h3,h4,h5⟩
noncomputable def cIdx (P:Program) (X:Operand→Option AV) (op:Op) (K:AV→Prop) (D:Prop):Prop :=
 match op with
 | .indexAddr t x i=>match X x,X i with
  | some (.sl id off n _),some (.int _ z)=>cond (Nat.ble n 8) (okP (P.underlying t) fun d=>match d with
   | .slice e=>okP (P.underlying e) fun _=>waysI z (fun j=>fN (off + j * P.cellsOf e) fun o=>K (.ptr id o)) n
   | _=>D) D
  | _,_=>D
 | _=>D
theorem cIdx_sound {P:Program} {H:Tr AObj} {X:Operand→Option AV} {op:Op} {K:AV→Prop} {D:Prop} (h:cIdx P X op K D):D∨∃ v,evPure3 P H X op=some v∧K v:=by
 unfold cIdx at h
 split at h
 ·rename_i t x i
  split at h
  ·rename_i id off n cap k z hx hi
   cases hb:Nat.ble n 8 with
   | false=>rw [hb] at h;exact .inl h
   | true =>
    rw [hb,cond_true] at h
    obtain ⟨d,hd,h1⟩:=okP_some h
    split at h1
    ·rename_i e
     obtain ⟨de,hde,h2⟩:=okP_some h1
     obtain ⟨j,hj,rfl,h3⟩:=waysI_some h2
     rw [fN_eq] at h3
     refine .inr ⟨_,?_,h3⟩
     have hlt:Nat.blt j n=true:=by rw [Nat.blt_eq];exact hj
     show (ob (X x) fun a=>ob (X i) fun b=>evIndexAddr P t a b)=_
     rw [hx,hi]
     show evIndexAddr P t (.sl id off n cap) (.int k (.ofNat j))=_
     simp only [evIndexAddr,hd,hde,ob,gd,hlt,cond_true,fN_eq]
    ·exact .inl h1
  ·exact .inl h
 ·exact .inl h
noncomputable def cOp (P:Program) (X:Operand→Option AV) (H:Tr AObj) (ni nx nx':Nat) (op:Op) (K:KC) (C:Tgt→Prop):Prop :=
 Option.rec (motive:=fun _=>Prop) (cIdx P X op (fun v=>K (.mk v H nx)) (Option.rec (motive:=fun _=>Prop) (Option.rec (motive:=fun _=>Prop) (Option.rec (motive:=fun _=>Prop)
  (Option.rec (motive:=fun _=>Prop) (Option.rec (motive:=fun _=>Prop) (cLook P X H nx op K (cCallee X op C)) K (evHeavy3 P noCall X H ni nx' op))
   (fun r=>sdA r.1 (K (.mk r.2.1 r.2.2 nx'))) (sHeavy P X H ni op))
  (fun p=>K (.mk p.1 (H.set ni p.2) nx')) (evNew3 P X ni op))
  (fun r=>sdA r.1 (K (.mk r.2.1 (H.set ni r.2.2) nx'))) (sNew P X ni op))
  (fun v=>K (.mk v H nx)) (evPure3 P H X op)))
  (fun r=>sdA r.1 (K (.mk r.2 H nx))) (sPure P H X op)
noncomputable def cPut (N:Nat) (T:Tr AV) (dst:Option Tmp) (v:AV) (K:Tr AV→Prop):Prop :=
 match dst with
 | none=>K T
 | some d=>sdA (Nat.blt d N) (K (T.set d v))
noncomputable def cBehind (o:Oper) (s:St) (K:KX) (ih:St→Prop) (r:CR):Prop :=
 match r with
 | .mk v H nx=>cPut s.N s.T o.dst v fun T=>ih ⟨s.N,T,H,nx,s.ro,s.D⟩
 | .pan v H nx=>K (.pan v) ⟨s.N,s.T,H,nx,s.ro,s.D⟩
 | .dfr g args H nx=>match s.ro with
  | none=>cPut s.N s.T o.dst (.tup []) fun T=>ih ⟨s.N,T,H,nx,s.ro,.call g args :: s.D⟩
  | some _=>False
noncomputable def fzFind (fz:List FZ) (id:Nat):Option FZ:=List.rec (motive:=fun _=>Option FZ) none (fun z _ ih=>cond (Nat.beq z.id id) (some z) ih) fz
noncomputable def fzS (fz:List FZ) (a:AV):Bool×AV :=
 match a with
 | .slg id n e=>Option.rec (motive:=fun _=>Bool×AV) (true,.slg id n e) (fun z=>(cond (Nat.beq e z.esz) (Nat.beq n z.n) false,z.a)) (fzFind fz id)
 | a=>(true,a)
noncomputable def fzO (fz:List FZ) (a:Option AV):Bool×Option AV:=Option.rec (motive:=fun _=>Bool×Option AV) (true,none) (fun a=>((fzS fz a).1,some (fzS fz a).2)) a
noncomputable def fzTr (fz:List FZ) (T:Tr AV):Bool×Tr AV :=
 Tr.rec (motive:=fun _=>Bool×Tr AV) (true,.leaf) (fun v _ _ il ir=>(cond (fzO fz v).1 (cond il.1 ir.1 false) false,.node (fzO fz v).2 il.2 ir.2)) T
noncomputable def fzT (fz:List FZ) (T:Tr AV):Bool×Tr AV :=
 match fz with
 | []=>(true,T)
 | fz=>fzTr fz T
def roundId:FuncId:=1000000
noncomputable def cYield (E:CEv) (id:Nat) (args:List AV) (H:Tr AObj) (nx:Nat) (K:KC):Prop :=
 okP (H.get id) fun o=>match o with
  | .loop _ _ T N ps asg body _=>okP (setPs ps.toList args N T) fun T'=>E.code nx roundId asg ⟨N,T',H,nx,some id,[]⟩ fun x s=>match x with
   | .nrm=>okP (loopSet s.H id fun st pend=>match st with
     | .ready=>some (.busy,pend)
     | _=>none) fun H1=>E.code nx roundId body ⟨s.N,s.T,H1,s.nx,s.ro,s.D⟩ fun x2 s2=>sdA x2.calm
      (okP (loopSet s2.H id fun _ _=>some (cond x2.jump.isNone .ready .done,x2.jump)) fun H2=>K (.mk (.bool x2.jump.isNone) H2 s2.nx))
   | _=>False
  | _=>False
noncomputable def cRange (E:CEv) (f:Operand) (ps:Array Tmp) (asg body:Code) (s:St) (K:KX):Prop :=
 okP (opd s.T f) fun fa=>match s.ro with
  | none=>fN (s.nx + 1) fun l=>fN (l + 1) fun nx=>okP (evTarget fa [.yld l]) fun t=>match t with
   | .fn g args=>E.call g args ((s.H.set s.nx (.dfr true)).set l (.loop .ready none s.T s.N ps asg body s.nx)) nx fun r=>match r with
    | .mk _ H nx'=>okP (H.get l) fun o=>match o with
     | .loop st pend _ _ _ _ _ _=>okP (jumpX pend) fun x=>okP (loopSet H l fun _ _=>match st with
       | .busy=>none
       | _=>some (.exhausted,pend)) fun H'=>K x ⟨s.N,s.T,H',nx',s.ro,.mark s.nx :: s.D⟩
     | _=>False
    | _=>False
   | _=>False
  | some _=>False
noncomputable def cTgt0 (cx:Ctx) (E:CEv) (o:Oper) (s:St) (nx':Nat) (K:KX) (ih:St→Prop) (t:Tgt):Prop :=
 match t with
 | .yld id args=>cYield E id args s.H nx' (cBehind o s K ih)
 | .fn g args=>Option.rec (motive:=fun _=>Prop) (Option.rec (motive:=fun _=>Prop) (E.call g args s.H nx' (cBehind o s K ih))
  (fun ent=>okP (frzL cx.P s.H args) fun r=>sdA r.1 (okP (ent s.H r.2.1) fun ct=>(fun q:Bool×Tr AV=>sdA q.1
   (cCt ct (fun v=>cBehind o ⟨s.N,q.2,delL s.H r.2.2.2,nx',s.ro,s.D⟩ K ih (.mk v (delL s.H r.2.2.2) (nx' + 1)))
    (fun v=>cBehind o ⟨s.N,q.2,delL s.H r.2.2.2,nx',s.ro,s.D⟩ K ih (.pan v (delL s.H r.2.2.2) (nx' + 1))))) (fzT r.2.2.1 s.T))) (look cx.tb g))
  (fun ent=>okP (ent s.H nx' args) fun hc=>cHCt hc (fun v up nx=>cBehind o ⟨s.N,s.T,s.H,nx',s.ro,s.D⟩ K ih (.mk v (setL up s.H) nx))
   (fun v up nx=>cBehind o ⟨s.N,s.T,s.H,nx',s.ro,s.D⟩ K ih (.pan v (setL up s.H) nx))) (lookH cx.ht g)
noncomputable def cTgt (cx:Ctx) (E:CEv) (o:Oper) (s:St) (nx':Nat) (K:KX) (ih:St→Prop) (t:Tgt):Prop :=
 match t with
 | .yld id args=>cYield E id args s.H nx' (cBehind o s K ih)
 | .fn g args=>Option.rec (motive:=fun _=>Prop) (Option.rec (motive:=fun _=>Prop) (cTgt0 cx E o s nx' K ih (.fn g args))
  (fun ent=>okP (frzL cx.P s.H args) fun r=>sdA r.1 (okP (ent s.H r.2.1) fun rc=>(fun q:Bool×Tr AV=>sdA q.1
   (rc.pre∧∀ x,rc.Q x→cBehind o ⟨s.N,q.2,delL s.H r.2.2.2,nx',s.ro,s.D⟩ K ih (.mk (rc.v x) (delL s.H r.2.2.2) (nx' + 1)))) (fzT r.2.2.1 s.T))) (lookR cx.rt g))
  (fun ent=>okP (ent s.H nx' args) fun rc=>rc.pre∧∀ x,rc.Q x→cBehind o ⟨s.N,s.T,s.H,nx',s.ro,s.D⟩ K ih (.mk (rc.v x) (setL (rc.up x) s.H) rc.nx)) (lookRH cx.rh g)
noncomputable def cSeq (cx:Ctx) (E:CEv) (ops:Array Oper) (K:KX) (l:List Oper):St→Prop :=
 List.rec (motive:=fun _=>St→Prop) (fun s=>K .nrm s)
  (fun o _ ih s=>cWant ops s.T o fun T wd=>cond wd
   (fN (s.nx + 1) fun nx'=>cOp cx.P (opd T) s.H s.nx s.nx nx' o.op (cBehind o ⟨s.N,T,s.H,s.nx,s.ro,s.D⟩ K ih) (cTgt cx E o ⟨s.N,T,s.H,s.nx,s.ro,s.D⟩ nx' K ih))
   (cPut s.N T o.dst (.tup []) fun T=>ih ⟨s.N,T,s.H,s.nx,s.ro,s.D⟩)) l
noncomputable def cCond (T:Tr AV) (c:Operand) (A B:Tr AV→Prop):Prop :=
 match c with
 | .tmp d=>okP (T.get d) fun v=>match v with
  | .bool b=>brP b (A (T.set d (.bool true))) (B (T.set d (.bool false)))
  | _=>False
 | .const (.bool b)=>brP b (A T) (B T)
 | _=>False
noncomputable def firstR (c:Code):Option Nat:=Code.rec (motive:=fun _=>Option Nat) none (fun id _ _=>some id) (fun _ _ ia ib=>Option.rec (motive:=fun _=>Option Nat) ib some ia) (fun _ _ _ _ _=>none)
 (fun _ _ ic=>ic) (fun _ ic=>ic) (fun _ _ _ _ _ _=>none) (fun _=>none) (fun _ ic=>ic) (fun _=>none) (fun _=>none) none (fun _=>none) c
noncomputable def stOf (S:Stn) (s:St) (n0:Nat) (x:S.X):St:=⟨s.N,mkT (S.T s n0 x),mkH (S.H s n0 x),S.nx s n0,none,[]⟩
noncomputable def cCut (E:CEv) (S:Stn) (n0:Nat) (f:FuncId) (a b:Code) (s:St) (K:KX):Prop :=
 (E.code n0 f a s fun ax s'=>match ax with
  | .nrm=>∃ x:S.X,S.I s x∧stP n0 s.N (S.nx s n0) (S.T s n0 x) (S.H s n0 x) s'
  | ax=>K ax s') ∧
 ∀ x:S.X,S.I s x→E.code n0 f b (stOf S s n0 x) K
noncomputable def cFrz (P:Program) (ds:List Nat) (K:St→Prop) (s:St):Prop :=
 List.rec (motive:=fun _=>St→Prop) K (fun d _ ih s=>okP (s.T.get d) fun v=>okP (frz P s.H v) fun r=>sdA r.1
  ((fun q:Bool×Tr AV=>sdA q.1 (ih ⟨s.N,q.2.set d r.2.1,delL s.H r.2.2.2,s.nx,s.ro,s.D⟩)) (fzT r.2.2.1 s.T))) ds s
noncomputable def cLoop (P:Program) (ds:List Nat) (E:CEv) (S:Stn) (n0:Nat) (f:FuncId) (c:Code) (s:St) (K:KX):Prop :=
 (∃ x0:S.X,S.I s x0∧stP n0 s.N (S.nx s n0) (S.T s n0 x0) (S.H s n0 x0) s) ∧
 ∀ x:S.X,S.I s x→E.code n0 f c (stOf S s n0 x) fun ax s'=>match ax with
  | .nrm=>cFrz P ds (fun s'=>∃ x':S.X,S.I s x'∧S.m x' < S.m x∧stP n0 s.N (S.nx s n0) (S.T s n0 x') (S.H s n0 x') s') s'
  | ax=>K ax s'
noncomputable def flOf (cx:Ctx) (f:FuncId) (c:Code):List Nat:=Option.rec (motive:=fun _=>List Nat) [] (fun r=>cx.fl f r) (firstR c)
noncomputable def cCodeF (cx:Ctx) (E:CEv) (D:Array Oper→St→KX→Prop) (n0:Nat) (f:FuncId) (c:Code) (s:St) (K:KX):Prop :=
 match c with
 | .skip=>K .nrm s
 | .region id ops false=>cFrz cx.P (cx.fr f id) (fun s=>cSeq cx E ops K ops.toList s) s
 | .region id ops true=>cFrz cx.P (cx.fr f id) (fun s=>D ops s K) s
 | .seq a b=>Option.rec (motive:=fun _=>Prop) (E.code n0 f a s fun ax s'=>match ax with
   | .nrm=>E.code n0 f b s' K
   | ax=>K ax s') (fun S=>cCut E S n0 f a b s K) (Option.rec (motive:=fun _=>Option Stn) none (fun r=>cx.cut f r) (firstR b))
 | .cond c a b=>cCond s.T c (fun T=>E.code n0 f a ⟨s.N,T,s.H,s.nx,s.ro,s.D⟩ K) (fun T=>E.code n0 f b ⟨s.N,T,s.H,s.nx,s.ro,s.D⟩ K)
 | .block id c=>E.code n0 f c s fun ax s'=>match ax with
   | .exit id'=>cond (Nat.beq id' id) (K .nrm s') (K (.exit id') s')
   | ax=>K ax s'
 | .loop c=>Option.rec (motive:=fun _=>Prop) (E.code n0 f c s fun ax s'=>match ax with
   | .nrm=>E.code n0 f (.loop c) s' K
   | ax=>K ax s') (fun S=>cond (Option.rec (motive:=fun _=>Bool) false (fun r=>cx.pl f r s) (firstR c)) (E.code n0 f c s fun ax s'=>match ax with
   | .nrm=>cLoop cx.P (flOf cx f c) E S n0 f c s' K
   | ax=>K ax s') (cLoop cx.P (flOf cx f c) E S n0 f c s K)) (Option.rec (motive:=fun _=>Option Stn) none (fun r=>cx.lp f r) (firstR c))
 | .exit id=>K (.exit id) s
 | .label _=>K .nrm s
 | .goto l=>K (.goto l) s
 | .ret=>K .ret s
 | .scope c=>E.code n0 f c s fun ax s'=>match ax with
   | .goto _=>False
   | ax=>K ax s'
 | .rangeFunc g ps asg body=>cRange E g ps asg body s K
 | _=>False
abbrev KD:=AX→St→MD→Prop
noncomputable def cRec (s:St) (dst:Option Tmp) (m:MD) (K:KD):Prop :=
 match m with
 | .pan v=>okP (evPut s.N s.T dst v) fun T=>K .nrm ⟨s.N,T,s.H,s.nx,s.ro,s.D⟩ (.rcd v)
 | .ret=>okP (evPut s.N s.T dst .iface0) fun T=>K .nrm ⟨s.N,T,s.H,s.nx,s.ro,s.D⟩ .ret
 | .rcd v=>okP (evPut s.N s.T dst .iface0) fun T=>K .nrm ⟨s.N,T,s.H,s.nx,s.ro,s.D⟩ (.rcd v)
noncomputable def cDcode (E:CEv) (n0:Nat) (f:FuncId) (k:Nat):Code→St→MD→KD→Prop :=
 Nat.rec (motive:=fun _=>Code→St→MD→KD→Prop) (fun _ _ _ _=>False) (fun _ ih c s m K=>match c with
  | .seq a b=>ih a s m fun x s' m'=>match x with
   | .nrm=>ih b s' m' K
   | x=>K x s' m'
  | .cond c a b=>cCond s.T c (fun T=>ih a ⟨s.N,T,s.H,s.nx,s.ro,s.D⟩ m K) (fun T=>ih b ⟨s.N,T,s.H,s.nx,s.ro,s.D⟩ m K)
  | .block id c=>ih c s m fun x s' m'=>match x with
   | .exit id'=>cond (Nat.beq id' id) (K .nrm s' m') (K (.exit id') s' m')
   | x=>K x s' m'
  | .region id ops false=>Option.rec (motive:=fun _=>Prop) (E.code n0 f (.region id ops false) s fun x s'=>K x s' m) (fun dst=>cRec s dst m K) (recOp ops.toList)
  | c=>E.code n0 f c s fun x s'=>K x s' m) k
noncomputable def cDef (P:Program) (E:CEv) (g:FuncId) (args:List AV) (H:Tr AObj) (nx:Nat) (m:MD) (K:MD→Tr AObj→Nat→Prop):Prop :=
 okP (P.funcs[g]?) fun fn => sdA (!(fn.name == "runtime.NumGoroutine")) (okP fn.body fun c =>
  fN args.length fun n=>fN (n + (fn.ntmps - n)) fun N=>cDcode E nx g 60 c ⟨N,setArgs args .leaf 0,H,nx,none,[]⟩ m fun x s m'=>cond (match x with
   | .nrm=>true
   | .ret=>true
   | _=>false) (sdA s.D.isEmpty (okP (evResults P s.H s.T fn.results.toList) fun _=>K m'.settle s.H s.nx)) False)
noncomputable def cLeaveL (P:Program) (E:CEv) (l:List ADef):MD→Tr AObj→Nat→(MD→Tr AObj→Nat→Prop)→Prop :=
 List.rec (motive:=fun _=>MD→Tr AObj→Nat→(MD→Tr AObj→Nat→Prop)→Prop) (fun m H nx K=>K m H nx)
  (fun d _ ih m H nx K=>match d with
   | .mark id=>okP (H.get id) fun o=>match o with
    | .dfr true=>ih m (H.set id (.dfr false)) nx K
    | _=>False
   | .call g args=>cDef P E g args H nx m fun m H nx=>ih m H nx K) l
noncomputable def cLeave (P:Program) (E:CEv) (fn:Func) (K:KC) (m:MD) (s:St):Prop :=
 cLeaveL P E s.D m s.H s.nx fun m H nx=>match m with
  | .ret=>okP (evResults P H s.T fn.results.toList) fun v=>K (.mk v H nx)
  | .pan v=>K (.pan v H nx)
  | .rcd _=>False
noncomputable def cOut (P:Program) (E:CEv) (fn:Func) (K:KC) (ax:AX) (s:St):Prop :=
 match s.D with
 | []=>match ax with
  | .nrm=>okP (evResults P s.H s.T fn.results.toList) fun v=>K (.mk v s.H s.nx)
  | .ret=>okP (evResults P s.H s.T fn.results.toList) fun v=>K (.mk v s.H s.nx)
  | .pan v=>K (.pan v s.H s.nx)
  | _=>False
 | _=>match ax with
  | .nrm=>cLeave P E fn K .ret s
  | .ret=>cLeave P E fn K .ret s
  | .pan v=>cLeave P E fn K (.pan v) s
  | _=>False
noncomputable def cFunc (cx:Ctx) (E:CEv) (g:FuncId) (args:List AV) (H:Tr AObj) (nx:Nat) (K:KC):Prop :=
 okP (cx.P.funcs[g]?) fun fn => sdA (!(fn.name == "runtime.NumGoroutine")) (okP fn.body fun c =>
  fN args.length fun n=>fN (n + (fn.ntmps - n)) fun N=>E.code nx g c ⟨N,setArgs args .leaf 0,H,nx,none,[]⟩ (cOut cx.P E fn K))
noncomputable def cEvs (cx:Ctx) (D:Array Oper→St→KX→Prop) (n:Nat):CEv :=
 Nat.rec (motive:=fun _=>CEv) ⟨fun _ _ _ _ _=>False,fun _ _ _ _ _=>False⟩ (fun _ E=>⟨cCodeF cx E D,cFunc cx E⟩) n
end Go.Ev
end
section
/- The symbolic layer, part J: what the sentence says holds: operations, calls, regions in order. -/
namespace Go.Ev
def EndsK (E:Env) (F:Nat→Option Obj) (nx:Nat) (ρ:Ren) (K:KC) (e:Ending) (w':World):Prop:=∃ r,K r∧EndsR E F nx ρ r e w'
def CallKOK (P:Program) (call:FuncId→List AV→Tr AObj→Nat→KC→Prop):Prop :=
 ∀ g args H nx K,call g args H nx K→∀ E F ρ w,Rel E F nx ρ H.get w→TgtOK P (.fn g args) w ρ (EndsK E F nx ρ K)
def GlOK (E:Env) (H:Tr AObj):Prop:=∀ g l,H.get g=some (.glob l)→∃ cs e fz,E.base g=some (.cells cs e fz)∧∀ ρ',VRL ρ' l cs.toList
def EntOK (P:Program) (g:FuncId) (ent:Tr AObj→List AV→Option Ct):Prop :=
 ∀ H args ct,ent H args=some ct→∀ p v,ctOut ct=some (p,v)→∀ E F ρ w nx H',GlOK E H→Rel E F nx ρ H'.get w→TgtOK P (.fn g args) w ρ (EndsR E F nx ρ (outCR p v H' (nx + 1)))
def TbOK (P:Program) (tb:Tbl):Prop:=∀ g ent,look tb g=some ent→EntOK P g ent
theorem noCall_ok (P:Program):CallOK P noCall:=fun _ _ _ _ h=>by cases h
theorem callT_ok {P:Program} {tb:Tbl} {ht:HTbl} (h:TbOK P tb) (hh:HtOK P ht):CallOK P (callT tb ht):=by
 intro t H nx r hr E F ρ w rel
 cases t with
 | yld _ _=>cases hr
 | fn g args =>
  have hr':Option.rec (motive:=fun _=>Option CR) (ob (look tb g) fun ent=>ob (ent H args) fun ct=>ob (ctOut ct) fun o=>some (outCR o.1 o.2 H (nx + 1)))
   (fun ent=>ob (ent H nx args) fun hc=>ob (hOut hc) fun o=>some (outCR o.1 o.2.1 (setL o.2.2.1 H) o.2.2.2)) (lookH ht g)=some r:=hr
  clear hr
  cases hl:lookH ht g with
  | some ent =>
   rw [hl] at hr'
   obtain ⟨hc,h1,h2⟩:=ob_some.1 hr'
   obtain ⟨⟨p,v,up,n⟩,h3,h4⟩:=ob_some.1 h2
   injection h4 with h4;subst h4
   exact hh g ent hl H nx args hc h1 p v up n h3 E F ρ w rel
  | none =>
  rw [hl] at hr'
  have hr:=hr'
  obtain ⟨ent,he,h1⟩:=ob_some.1 hr
  obtain ⟨ct,hc,h2⟩:=ob_some.1 h1
  obtain ⟨⟨p,v⟩,ho,h3⟩:=ob_some.1 h2
  injection h3 with h3;subst h3
  exact h g ent he H args ct hc p v ho E F ρ w nx H rel.gl rel
theorem cFind_sound {ρ:Ren} {kd:TypeDesc} {k:SKey} {z:AV} {u zv:Value} {K:Bool→AV→Prop} (hk:KR kd k u) (hz:VR ρ z zv):∀ {es:List AEnt} {l:List MapEntry},ERL ρ es l→∀ (i:Nat),
  cFind kd k z K es→∃ has val v,K has val∧VR ρ val v∧(if has then ∃ j,Instr.findNow kd u l i=some (some (j,v)) else Instr.findNow kd u l i=some none∧v=zv)
 | _,_,.nil,i,h=>⟨false,z,zv,h,hz,by simp [Instr.findNow]⟩
 | _,_,.cons e m es l he hs,i,h=>by
  obtain ⟨s,hs1,h1⟩:=okP_some (show okP (keyS kd e.key) (fun s=>okP (eqS k s) fun q=>brP q (K true e.val) (cFind kd k z K es)) from h)
  obtain ⟨q,hq,h2⟩:=okP_some h1
  obtain ⟨h3,h4⟩:=brP_iff.1 h2
  have hn:=eqS_same hk (keyS_kr he.1 hs1) hq
  cases q with
  | true=>exact ⟨true,e.val,m.val,h3 rfl,he.2.1,by simp [Instr.findNow,hn]⟩
  | false =>
   obtain ⟨has,val,v,h5,h6,h7⟩:=cFind_sound hk hz hs (i + 1) (h4 rfl)
   exact ⟨has,val,v,h5,h6,by simpa [Instr.findNow,hn] using h7⟩
theorem cLook_sound {P:Program} {X:Operand→Option AV} {H:Tr AObj} {nx:Nat} {op:Op} {K:KC} {D:Prop} (h:cLook P X H nx op K D):D∨∃ t m k ok,op = .lookup t m k ok ∧
  ∀ (E:Env) (F:Nat→Option Obj) (n:Nat) (ρ:Ren) (w:World) (ev:Operand→Value),Rel E F n ρ H.get w→XR ρ X ev→∃ a z,K (.mk a H nx)∧(Instr.lookup t (ev m) (ev k) ok).run P w = .ok z w∧VR ρ a z:=by
 unfold cLook at h
 split at h
 ·rename_i t m k ok
  refine .inr ⟨t,m,k,ok,rfl,fun E F n ρ w ev r hX=>?_⟩
  obtain ⟨ma,hma,h1⟩:=okP_some h
  obtain ⟨ka,hka,h2⟩:=okP_some h1
  obtain ⟨d,hd,h3⟩:=okP_some h2
  have hm:=hX _ _ hma
  have hk:=hX _ _ hka
  generalize ev m=u at hm
  generalize ev k=v at hk
  clear h h1 h2
  split at h3
  ·rename_i key elem
   obtain ⟨kd,hkd,h4⟩:=okP_some h3
   obtain ⟨hkk,h5⟩:=sdA_iff.1 h4
   obtain ⟨s,hsk,h6⟩:=okP_some h5
   obtain ⟨z,hz,h7⟩:=okP_some h6
   have hkr:=keyS_kr hk hsk
   obtain ⟨zv,hzv,hzr⟩:=zeroAV_sound hz w
   have hck:=fun e=>checkKey_plain (P:=P) hkd hkk e 9999 v w
   split at h7
   ·obtain ⟨o,ho,h8⟩:=okP_some h7
    split at h8
    ·rename_i es clock
     cases hm with
     | map _ b hb =>
      obtain ⟨c,hc,hor⟩:=r.ob _ _ b ho hb
      cases hor with
      | map _ _ l hl =>
       obtain ⟨has,val,q,h9,hq,hf⟩:=cFind_sound hkr (hzr ρ) hl 0 h8
       refine ⟨_,?_,h9,?_⟩
       ·exact cond ok (.tuple #[q,.bool has]) q
       ·cases has with
        | true =>
         obtain ⟨j,hf⟩:=hf
         cases ok with
         | true =>
          refine ⟨?_,.tup _ [q,.bool true] (.cons _ _ _ _ hq (.cons _ _ _ _ (.bool true) .nil))⟩
          simp [Instr.lookup,run_underlying hd,hck,Instr.findKey,run_underlying hkd,hf,getObj,Sem.run,hc]
         | false =>
          refine ⟨?_,hq⟩
          simp [Instr.lookup,run_underlying hd,hck,Instr.findKey,run_underlying hkd,hf,getObj,Sem.run,hc]
        | false =>
         obtain ⟨hf,rfl⟩:=hf
         cases ok with
         | true =>
          refine ⟨?_,.tup _ [q,.bool false] (.cons _ _ _ _ hq (.cons _ _ _ _ (.bool false) .nil))⟩
          simp [Instr.lookup,run_underlying hd,hck,Instr.findKey,run_underlying hkd,hf,getObj,Sem.run,hc,hzv]
         | false =>
          refine ⟨?_,hq⟩
          simp [Instr.lookup,run_underlying hd,hck,Instr.findKey,run_underlying hkd,hf,getObj,Sem.run,hc,hzv]
    ·exact h8.elim
   ·exact h7.elim
  ·exact h3.elim
 ·exact .inl h
theorem cOp_sound {P:Program} {X:Operand→Option AV} {H:Tr AObj} {ni nx nx':Nat} {op:Op} {K:KC} {C:Tgt→Prop} (h:cOp P X H ni nx nx' op K C) :
  (∃ r,evOp P noCall X H ni nx nx' op=some r∧K r)∨cLook P X H nx op K (cCallee X op C):=by
 unfold cOp at h
 cases h1:sPure P H X op with
 | some r =>
  rw [h1] at h
  obtain ⟨h2,h3⟩:=sdA_iff.1 h
  obtain ⟨b,v⟩:=r
  simp only at h2;subst h2
  exact .inl ⟨_,by unfold evOp;rw [sPure_ev h1],h3⟩
 | none =>
 rw [h1] at h
 rcases cIdx_sound (H:=H) h with h | ⟨v,hv,hk⟩
 rotate_left
 ·exact .inl ⟨_,by unfold evOp;rw [pure3_ev h1 hv],hk⟩
 cases h2:evPure3 P H X op with
 | some v =>
  rw [h2] at h
  exact .inl ⟨_,by unfold evOp;rw [pure3_ev h1 h2],h⟩
 | none =>
 rw [h2] at h
 have e1:evPure2 P H X op=none:=by unfold evPure2;rw [h1];exact h2
 cases h3:sNew P X ni op with
 | some r =>
  rw [h3] at h
  obtain ⟨h4,h5⟩:=sdA_iff.1 h
  obtain ⟨b,v,o⟩:=r
  simp only at h4;subst h4
  exact .inl ⟨_,by unfold evOp;rw [e1,sNew_ev h3],h5⟩
 | none =>
 rw [h3] at h
 cases h4:evNew3 P X ni op with
 | some p =>
  rw [h4] at h
  exact .inl ⟨_,by unfold evOp;rw [e1,new3_ev h3 h4],h⟩
 | none =>
 rw [h4] at h
 have e2:evNew P X ni op=none:=by unfold evNew;rw [h3];exact h4
 cases h5:sHeavy P X H ni op with
 | some r =>
  rw [h5] at h
  obtain ⟨h6,h7⟩:=sdA_iff.1 h
  obtain ⟨b,v,H'⟩:=r
  simp only at h6;subst h6
  exact .inl ⟨_,by unfold evOp;rw [e1,e2,sHeavy_ev h5],h7⟩
 | none =>
 rw [h5] at h
 cases h6:evHeavy3 P noCall X H ni nx' op with
 | some r =>
  rw [h6] at h
  exact .inl ⟨_,by unfold evOp;rw [e1,e2,heavy3_ev h5 h6],h⟩
 | none =>
  rw [h6] at h
  exact .inr h
theorem cWant_sound {ops:Array Oper} {T:Tr AV} {o:Oper} {K:Tr AV→Bool→Prop} (h:cWant ops T o K):∃ T' wd,K T' wd∧evWanted ops T o=some wd∧∀ t,T'.get t=T.get t:=by
 unfold cWant at h
 unfold evWanted
 split at h
 ·rename_i hg
  rw [hg]
  exact ⟨T,true,h,rfl,fun _=>rfl⟩
 ·rename_i j want hg
  rw [hg]
  obtain ⟨oj,h1,h2⟩:=okP_some h
  obtain ⟨d,h3,h4⟩:=okP_some h2
  obtain ⟨v,h5,h6⟩:=okP_some h4
  simp only [h1]
  have same:∀ b,v = .bool b→∀ t,(T.set d (.bool b)).get t=T.get t:=fun b hb t=>by
   rw [Tr.get_set]
   split
   ·rename_i e;subst e;rw [h5,hb]
   ·rfl
  split at h6
  ·rename_i b
   obtain ⟨h7,h8⟩:=brP_iff.1 h6
   cases b with
   | true=>exact ⟨_,_,h7 rfl,by simp [ob,h3,h5],same true rfl⟩
   | false=>exact ⟨_,_,h8 rfl,by simp [ob,h3,h5],same false rfl⟩
  ·rename_i hnb
   refine ⟨T,false,h6,?_,fun _=>rfl⟩
   simp only [ob,h3,h5]
theorem cPut_sound {N:Nat} {T:Tr AV} {dst:Option Tmp} {v:AV} {K:Tr AV→Prop} (h:cPut N T dst v K):∃ T',evPut N T dst v=some T'∧K T':=by
 unfold cPut at h
 split at h
 ·exact ⟨T,rfl,h⟩
 ·obtain ⟨h1,h2⟩:=sdA_iff.1 h
  exact ⟨_,by unfold evPut;exact gd_some.2 ⟨h1,rfl⟩,h2⟩
theorem call_wp {P:Program} {ρ:Ren} {X:Operand→Option AV} {a:Act} {w:World} (hX:XR ρ X a.eval) {o:Oper} {c:Call} (ho:o.op = .call c) {f:Operand} (hc:c.callee = .value f) {fv:AV} (hf:X f=some fv) {xs:List AV}
  (hxs:xsL X c.args.toList=some xs) {g:FuncId} {targs:List AV} (ht:evTarget fv xs=some (.fn g targs)) {R:Ending→World→Prop} (hok:TgtOK P (.fn g targs) w ρ R) {ro:Option Nat} {next:Act→World→Prop} {Q:Exit→Act→World→Prop}
  (hR:∀ e w',R e w'→match e with
   | .returned v=>next (a.put o.dst v) w'
   | .panicked chain=>Q (.panic chain) a w'
   | .outgrown=>LetsOut Q):o.wpIn (FW ro) 0 P a w next Q:=by
 obtain ⟨dst,op,type,pos,after,guard⟩:=o
 simp only at ho
 subst ho
 obtain ⟨callee,args,argTypes⟩:=c
 simp only at hc hxs
 subst hc
 have hfr:=hX _ _ hf
 have hxr:=xsL_sound hX hxs
 rw [show args.toList.map a.eval=(args.map a.eval).toList by rw [Array.toList_map]] at hxr
 refine ⟨about_ok ro P _ w a.eval,?_⟩
 rw [Oper.semAt_eq _ _ _ (by simp)]
 unfold evTarget at ht
 split at ht
 ·rename_i g' first cap
  injection ht with ht;injection ht with ht1 ht2;subst ht1;subst ht2
  generalize hfe:a.eval f=fvv at hfr
  cases hfr with
  | fn _ _ _ va vc ha hc =>
   obtain ⟨⟨fn,c,hfn,hnm,hbd⟩,hcalls⟩:=hok
   have hc':=hcalls _ (ha.append (hxr.append hc))
   have hrun:(execOp a.eval { dst,op:=.call { callee:=.value f,args,argTypes },type,pos,after,guard }).run P w = .ok (.enter g' ((va ++ ((args.map a.eval).toList ++ vc)).toArray)) w:=by
    simp only [execOp,resolve,hfe,Deferred.ofValue,Sem.run_bind,Sem.run_pure,Result.andThen_ok,invoke,callFunc,run_program,hfn,hnm,Bool.false_eq_true,if_false,hbd,Option.isNone_some]
    congr 2
    apply Array.ext'
    simp
   rw [hrun]
   refine ⟨by simp [FW,Fence.wide],?_⟩
   have hmono:=CallsIn.mono hc' (R':=fun
    | .returned v,w''=>next (a.put dst v) w''
    | .panicked chain,w''=>Q (.panic chain) a w''
    | .outgrown,_=>LetsOut Q) (fun e w' he=>by
     have:=hR e w' he
     cases e <;> exact this)
   cases ro with
   | none=>exact hmono
   | some l=>exact hmono
 ·injection ht with ht;cases ht
 ·cases ht
theorem fzS_rel {ρ ρ1:Ren} {w:World} {H:Tr AObj} {fz:List FZ} {ids0 ids:List Nat} (hz:FzOK ρ w H fz ids0) (hi:idsOK H ids) (hsub:∀ i∈ids0,i∈ids) (hρ:ρ1=frzR ρ w ids) (hle:ρ.le ρ1) {a:AV} {v:Value}
  (hv:VR ρ a v) (h:(fzS fz a).1=true):VR ρ1 (fzS fz a).2 v:=by
 have find:∀ (l:List FZ) id z,fzFind l id=some z→z∈l∧z.id=id:=by
  intro l
  induction l with
  | nil=>intro id z h;cases h
  | cons y l ih =>
   intro id z h
   have h':cond (Nat.beq y.id id) (some y) (fzFind l id)=some z:=h
   cases hb:Nat.beq y.id id with
   | true=>rw [hb] at h';injection h' with h';subst h';rw [Nat.beq_eq] at hb;exact ⟨List.mem_cons_self ..,hb⟩
   | false=>rw [hb] at h';obtain ⟨h1,h2⟩:=ih id z h';exact ⟨List.mem_cons_of_mem _ h1,h2⟩
 unfold fzS at h ⊢
 split at h
 ·rename_i id n e
  cases hff:fzFind fz id with
  | none=>exact hv.mono hle
  | some z =>
   rw [hff] at h
   have h:(cond (Nat.beq e z.esz) (Nat.beq n z.n) false)=true:=h
   obtain ⟨h1,h2⟩:=cond_and h
   rw [Nat.beq_eq] at h1 h2
   obtain ⟨h3,h4⟩:=find fz id z hff
   subst h4;subst h1;subst h2
   obtain ⟨h5,h6⟩:=hz z h3
   rw [hρ]
   exact h6 ids hi (hsub _ h5) v hv
 ·exact hv.mono hle
theorem fzTr_get {fz:List FZ}:∀ (T:Tr AV),(fzTr fz T).1=true→∀ (p:List Bool) (b:AV),Tr.gp p (fzTr fz T).2=some b→∃ a,Tr.gp p T=some a∧(fzS fz a).1=true∧(fzS fz a).2=b
 | .leaf,_,p,b,h=>by rw [show (fzTr fz (.leaf:Tr AV)).2 = .leaf from rfl,Tr.gp_leaf] at h;cases h
 | .node v l r,h,p,b,hg=>by
  have h':cond (fzO fz v).1 (cond (fzTr fz l).1 (fzTr fz r).1 false) false=true:=h
  obtain ⟨h1,h2⟩:=cond_and h'
  obtain ⟨h2,h3⟩:=cond_and h2
  cases p with
  | nil =>
   have hg':(fzO fz v).2=some b:=hg
   cases v with
   | none=>cases hg'
   | some a=>injection hg' with hg';exact ⟨a,rfl,h1,hg'⟩
  | cons c p =>
   cases c with
   | true=>exact fzTr_get l h2 p b hg
   | false=>exact fzTr_get r h3 p b hg
theorem fzT_tr {ρ ρ1:Ren} {w:World} {H:Tr AObj} {fz:List FZ} {ids0 ids:List Nat} (hz:FzOK ρ w H fz ids0) (hi:idsOK H ids) (hsub:∀ i∈ids0,i∈ids) (hρ:ρ1=frzR ρ w ids) (hle:ρ.le ρ1) {T:Tr AV} {tmps:Array Value}
  (ht:TR ρ T tmps) (h:(fzT fz T).1=true):TR ρ1 (fzT fz T).2 tmps:=by
 unfold fzT at h ⊢
 split at h
 ·exact ht.mono hle
 ·intro t b hb
  obtain ⟨a,h1,h2,h3⟩:=fzTr_get T h _ b hb
  obtain ⟨v,h4,h5⟩:=ht t a h1
  subst h3
  exact ⟨v,h4,fzS_rel hz hi hsub hρ hle h5 h2⟩
theorem yield_wp {P:Program} {ρ:Ren} {X:Operand→Option AV} {a:Act} {w:World} (hX:XR ρ X a.eval) {o:Oper} {c:Call} (ho:o.op = .call c) {f:Operand} (hc:c.callee = .value f) {fv:AV} (hf:X f=some fv) {xs:List AV}
  (hxs:xsL X c.args.toList=some xs) {id:Nat} {targs:List AV} (ht:evTarget fv xs=some (.yld id targs)) {R:Ending→World→Prop} (hok:TgtOK P (.yld id targs) w ρ R) {ro:Option Nat} {next:Act→World→Prop} {Q:Exit→Act→World→Prop}
  (hR:∀ e w',R e w'→match e with
   | .returned v=>next (a.put o.dst v) w'
   | .panicked chain=>Q (.panic chain) a w'
   | .outgrown=>LetsOut Q):o.wpIn (FW ro) 0 P a w next Q:=by
 obtain ⟨dst,op,type,pos,after,guard⟩:=o
 simp only at ho
 subst ho
 obtain ⟨callee,args,argTypes⟩:=c
 simp only at hc hxs
 subst hc
 have hfr:=hX _ _ hf
 have hxr:=xsL_sound hX hxs
 rw [show args.toList.map a.eval=(args.map a.eval).toList by rw [Array.toList_map]] at hxr
 refine ⟨about_ok ro P _ w a.eval,?_⟩
 rw [Oper.semAt_eq _ _ _ (by simp)]
 unfold evTarget at ht
 split at ht
 ·cases ht
 ·rename_i id'
  injection ht with ht;injection ht with ht1 ht2;subst ht1;subst ht2
  generalize hfe:a.eval f=fvv at hfr
  cases hfr with
  | yld _ b hb =>
   obtain ⟨fn,tmps,asg,body,hy,hround⟩:=hok _ b hxr hb
   have hrun:(execOp a.eval { dst,op:=.call { callee:=.value f,args,argTypes },type,pos,after,guard }).run P w = .ok (.round b.b fn tmps asg body) w:=by
    rw [Array.toArray_toList] at hy
    simp only [execOp,resolve,hfe,Deferred.ofValue,Sem.run_bind,Sem.run_pure,Result.andThen_ok,invoke,Array.empty_append,hy]
   rw [hrun]
   refine ⟨by simp [FW,Fence.wide],?_⟩
   have hmono:=RoundIn.mono hround (R':=fun
    | .returned v,w''=>next (a.put dst v) w''
    | .panicked chain,w''=>Q (.panic chain) a w''
    | .outgrown,_=>LetsOut Q) (fun e w' he=>by
     have:=hR e w' he
     cases e <;> exact this)
   cases ro with
   | none=>exact hmono
   | some l=>exact hmono
 ·cases ht
def YieldKOK (P:Program) (y:Nat→List AV→Tr AObj→Nat→KC→Prop):Prop :=
 ∀ id args H nx K,y id args H nx K→∀ E F ρ w,Rel E F nx ρ H.get w→TgtOK P (.yld id args) w ρ (EndsK E F nx ρ K)
set_option maxHeartbeats 1000000 in
theorem cSeq_sound {cx:Ctx} {En:CEv} (hcall:CallKOK cx.P En.call) (hyld:YieldKOK cx.P (cYield En)) (htb:TbOK cx.P cx.tb) {ops:Array Oper} {E:Env} {F:Nat→Option Obj} {ro:Option Nat} {Q:Exit→Act→World→Prop} {n0:Nat} {ρ0:Ren} {K:KX}
  (hq:∀ x s' ρ' a' w',K x s'→n0≤s'.nx→Keep n0 ρ0 ρ'→SR E F ρ' s' a' w' ro→ExQ ρ' x fun e=>Q e a' w') :
  ∀ (l:List Oper) (i:Nat) (s:St) (ρ:Ren) (a:Act) (w:World),(∀ j o,l[j]? = some o→ops[i + j]? = some o)→cSeq cx En ops K l s→n0≤s.nx→Keep n0 ρ0 ρ→SR E F ρ s a w ro →
   OpsTo ro cx.P ops Q (List.range' i l.length) a w
 | [],i,s,ρ,a,w,_,h,hn,hk,hs=>opsTo_nil (hq .nrm s ρ a w h hn hk hs)
 | o :: l,i,s,ρ,a,w,hl,h,hn,hk,hs=>by
  obtain ⟨T,wd,h1,hwd,hTs⟩:=cWant_sound (show cWant ops s.T o (fun T wd=>cond wd
   (fN (s.nx + 1) fun nx'=>cOp cx.P (opd T) s.H s.nx s.nx nx' o.op (cBehind o ⟨s.N,T,s.H,s.nx,s.ro,s.D⟩ K (cSeq cx En ops K l)) (cTgt cx En o ⟨s.N,T,s.H,s.nx,s.ro,s.D⟩ nx' K (cSeq cx En ops K l)))
   (cPut s.N T o.dst (.tup []) fun T=>cSeq cx En ops K l ⟨s.N,T,s.H,s.nx,s.ro,s.D⟩)) from h)
  have hw:=evWanted_sound hs.tr hwd
  have htr:TR ρ T a.tmps:=fun t b hb=>hs.tr t b (by rw [← hTs];exact hb)
  have ho:ops[i]? = some o:=by have:=hl 0 o rfl;simpa using this
  have hl':∀ j o',l[j]? = some o'→ops[i + 1 + j]? = some o':=fun j o' hj=>by
   have:=hl (j + 1) o' (by simpa using hj)
   rwa [show i + (j + 1)=i + 1 + j by omega] at this
  rw [show (o :: l).length=l.length + 1 from rfl,List.range'_succ]
  have ih:=cSeq_sound (ops:=ops) hcall hyld htb hq l (i + 1)
  cases wd with
  | false =>
   rw [cond_false] at h1
   obtain ⟨T',hT',h3⟩:=cPut_sound h1
   obtain ⟨e1,e2,e3⟩:=evPut_sound (u:=undef) htr hs.size (.tup (ρ:=ρ) [] [] .nil) hT'
   exact opsTo_off ho (by rw [hw];simp) (about_ok ro _ o w a.eval) (ih _ ρ _ w hl' h3 hn hk ⟨hs.rel,e1,e2,by rw [e3];exact hs.dr,hs.rr⟩)
  | true =>
   rw [cond_true,fN_eq] at h1
   refine opsTo_step ho hw ?_
   have behind:∀ (T':Tr AV) (H':Tr AObj) (r:CR),cBehind o ⟨s.N,T',H',s.nx + 1,s.ro,s.D⟩ K (cSeq cx En ops K l) r→(∀ g args H nx,r≠.dfr g args H nx)→∀ ρ1,TR ρ1 T' a.tmps→RX s.nx (s.nx + 1) ρ ρ1 →
     match r with
     | .mk v H nx=>∀ u ρ' w',RX (s.nx + 1) nx ρ1 ρ'→Rel E F nx ρ' H.get w'→VR ρ' v u→OpsTo ro cx.P ops Q (List.range' (i + 1) l.length) (a.put o.dst u) w'
     | .pan v H nx=>∀ u ρ' w',RX (s.nx + 1) nx ρ1 ρ'→Rel E F nx ρ' H.get w'→VR ρ' v u→Q (.panic (fresh u)) a w'
     | .dfr _ _ _ _=>True:=by
    intro T' H' r hb hnd ρ1 ht1 hx1
    cases r with
    | mk v H nx =>
     intro u ρ' w' hx hrel hv
     obtain ⟨T2,hT2,h3⟩:=cPut_sound (show cPut s.N T' o.dst v (fun T=>cSeq cx En ops K l ⟨s.N,T,H,nx,s.ro,s.D⟩) from hb)
     obtain ⟨e1,e2,e3⟩:=evPut_sound (ht1.mono hx.le) hs.size hv hT2
     have hx2:=hx1.trans hx
     have hnn:=hx2.nn
     exact ih _ ρ' _ w' hl' h3 (Nat.le_trans hn hx2.nn) (hk.trans (Keep.of_rx hx2 hn)) ⟨hrel,e1,e2,by rw [e3];exact hs.dr.mono hx2.le,hs.rr.mono hx2.le⟩
    | pan v H nx =>
     intro u ρ' w' hx hrel hv
     have hx2:=hx1.trans hx
     exact hq (.pan v) ⟨s.N,T',H,nx,s.ro,s.D⟩ ρ' a w' hb (Nat.le_trans hn hx2.nn) (hk.trans (Keep.of_rx hx2 hn)) ⟨hrel,ht1.mono hx.le,hs.size,hs.dr.mono hx2.le,hs.rr.mono hx2.le⟩ u hv
    | dfr g args H nx=>trivial
   rcases cOp_sound h1 with ⟨r,hr,hb⟩ | hlc
   ·refine evOp_sound (noCall_ok cx.P) hs.rel htr.xr (hs.rel.new _ (Nat.le_refl _)) (Nat.le_succ _) (Nat.lt_succ_self _) hr ?_
    cases r with
    | mk v H nx =>
     obtain ⟨T2,hT2,h3⟩:=cPut_sound (show cPut s.N T o.dst v (fun T=>cSeq cx En ops K l ⟨s.N,T,H,nx,s.ro,s.D⟩) from hb)
     intro u ρ' w' hx hrel hv
     have hle:=hx.le
     obtain ⟨e1,e2,e3⟩:=evPut_sound (htr.mono hle) hs.size hv hT2
     exact ih _ ρ' _ w' hl' h3 (Nat.le_trans hn hx.nn) (hk.trans (Keep.of_rx hx.rx hn)) ⟨hrel,e1,e2,by rw [e3];exact hs.dr.mono hle,hs.rr.mono hle⟩
    | pan v H nx =>
     intro u ρ' w' hx hrel hv
     have hle:=hx.le
     exact hq (.pan v) ⟨s.N,T,H,nx,s.ro,s.D⟩ ρ' a w' hb (Nat.le_trans hn hx.nn) (hk.trans (Keep.of_rx hx.rx hn)) ⟨hrel,htr.mono hle,hs.size,hs.dr.mono hle,hs.rr.mono hle⟩ u hv
    | dfr g args H nx =>
     have hb':(match s.ro with
      | none=>cPut s.N T o.dst (.tup []) fun T=>cSeq cx En ops K l ⟨s.N,T,H,nx,s.ro,.call g args :: s.D⟩
      | some _=>False):=hb
     cases hro:s.ro with
     | some l0=>rw [hro] at hb';exact hb'.elim
     | none =>
      rw [hro] at hb'
      obtain ⟨T2,hT2,h4⟩:=cPut_sound hb'
      have hrr:=hs.rr
      have hro':ro=none:=by rw [hro] at hrr;cases hrr;rfl
      refine ⟨hro',fun va vc hx hrel hv=>?_⟩
      obtain ⟨e1,e2,e3⟩:=evPut_sound (u:=undef) (a:={ a with defers:={ target:=.fn (.func g) vc.toArray,args:=va.toArray } :: a.defers }) htr hs.size (.tup (ρ:=ρ) [] [] .nil) hT2
      exact ih _ ρ _ w hl' h4 (Nat.le_trans hn hx.nn) (hk.trans (Keep.of_rx hx hn)) ⟨hrel,e1,e2,by rw [e3];exact .call g args va vc _ _ hv hs.dr,by rw [← hro];exact hs.rr⟩
   ·refine (cLook_sound hlc).elim (fun hcl=>?_) (fun ⟨t,m,k,ok,hop,hlk⟩=>?_)
    rotate_left
    ·obtain ⟨v,z,hb,hrun,hv⟩:=hlk E F s.nx ρ w a.eval hs.rel htr.xr
     obtain ⟨T2,hT2,h3⟩:=cPut_sound (show cPut s.N T o.dst v (fun T=>cSeq cx En ops K l ⟨s.N,T,s.H,s.nx,s.ro,s.D⟩) from hb)
     obtain ⟨e1,e2,e3⟩:=evPut_sound htr hs.size hv hT2
     refine wpIn_of_yield (by rw [hop];simp) (.inl ?_) (ih _ ρ _ w hl' h3 hn hk ⟨hs.rel,e1,e2,by rw [e3];exact hs.dr,hs.rr⟩)
     obtain ⟨dst,op,type,pos,after,guard⟩:=o
     simp only at hop
     subst hop
     exact run_v hrun
    unfold cCallee at hcl
    split at hcl
    ·rename_i c hop
     split at hcl
     ·rename_i f hcf
      obtain ⟨fv,hfv,h2⟩:=okP_some hcl
      obtain ⟨xs,hxs,h3⟩:=okP_some h2
      obtain ⟨t,ht,h4⟩:=okP_some h3
      cases t with
      | yld id args =>
       have hok:=hyld id args s.H (s.nx + 1) _ h4 E F ρ w (hs.rel.nx_le (Nat.le_succ _))
       have hx1:RX s.nx (s.nx + 1) ρ ρ:=⟨Ren.le_refl ρ,fun _ _=>rfl,Nat.le_succ _⟩
       refine yield_wp htr.xr hop hcf hfv hxs ht hok fun e w' he=>?_
       obtain ⟨r,hr1,hr2⟩:=he
       cases r with
       | mk v H nx =>
        obtain ⟨u,ρ',rfl,hx,hrel,hv⟩:=hr2
        exact behind T s.H (.mk v H nx) hr1 (fun _ _ _ _ h=>by cases h) ρ htr hx1 u ρ' w' hx hrel hv
       | pan v H nx =>
        obtain ⟨u,ρ',rfl,hx,hrel,hv⟩:=hr2
        exact behind T s.H (.pan v H nx) hr1 (fun _ _ _ _ h=>by cases h) ρ htr hx1 u ρ' w' hx hrel hv
       | dfr g args H nx=>exact hr2.elim
      | fn g args =>
       have h40:(Option.rec (motive:=fun _=>Prop) (Option.rec (motive:=fun _=>Prop) (cTgt0 cx En o ⟨s.N,T,s.H,s.nx,s.ro,s.D⟩ (s.nx + 1) K (cSeq cx En ops K l) (.fn g args))
        (fun ent=>okP (frzL cx.P s.H args) fun r=>sdA r.1 (okP (ent s.H r.2.1) fun rc=>(fun q:Bool×Tr AV=>sdA q.1
         (rc.pre∧∀ x,rc.Q x→cBehind o ⟨s.N,q.2,delL s.H r.2.2.2,s.nx + 1,s.ro,s.D⟩ K (cSeq cx En ops K l) (.mk (rc.v x) (delL s.H r.2.2.2) (s.nx + 1 + 1)))) (fzT r.2.2.1 T))) (lookR cx.rt g))
        (fun ent=>okP (ent s.H (s.nx + 1) args) fun rc=>rc.pre∧∀ x,rc.Q x→cBehind o ⟨s.N,T,s.H,s.nx + 1,s.ro,s.D⟩ K (cSeq cx En ops K l) (.mk (rc.v x) (setL (rc.up x) s.H) rc.nx)) (lookRH cx.rh g)):=h4
       cases hrh:lookRH cx.rh g with
       | some ent =>
        rw [hrh] at h40
        obtain ⟨rc,hrc,hpre,h5⟩:=okP_some h40
        have hok:=cx.rhok g ent hrh s.H (s.nx + 1) args rc hrc hpre E F ρ w (hs.rel.nx_le (Nat.le_succ _))
        have hx1:RX s.nx (s.nx + 1) ρ ρ:=⟨Ren.le_refl ρ,fun _ _=>rfl,Nat.le_succ _⟩
        refine call_wp htr.xr hop hcf hfv hxs ht hok fun e w' he=>?_
        obtain ⟨r,⟨x,hqx,rfl⟩,he⟩:=he
        obtain ⟨u,ρ',rfl,hx,hrel,hv⟩:=he
        exact behind T s.H (.mk (rc.v x) (setL (rc.up x) s.H) rc.nx) (h5 x hqx) (fun _ _ _ _ h=>by cases h) ρ htr hx1 u ρ' w' hx hrel hv
       | none =>
       rw [hrh] at h40
       have h41:(Option.rec (motive:=fun _=>Prop) (cTgt0 cx En o ⟨s.N,T,s.H,s.nx,s.ro,s.D⟩ (s.nx + 1) K (cSeq cx En ops K l) (.fn g args))
        (fun ent=>okP (frzL cx.P s.H args) fun r=>sdA r.1 (okP (ent s.H r.2.1) fun rc=>(fun q:Bool×Tr AV=>sdA q.1
         (rc.pre∧∀ x,rc.Q x→cBehind o ⟨s.N,q.2,delL s.H r.2.2.2,s.nx + 1,s.ro,s.D⟩ K (cSeq cx En ops K l) (.mk (rc.v x) (delL s.H r.2.2.2) (s.nx + 1 + 1)))) (fzT r.2.2.1 T))) (lookR cx.rt g)):=h40
       cases hrt:lookR cx.rt g with
       | some ent =>
        rw [hrt] at h41
        obtain ⟨⟨sd,args',fz,ids⟩,hfr,h5⟩:=okP_some h41
        obtain ⟨h6,h7⟩:=sdA_iff.1 h5
        simp only at h6;subst h6
        obtain ⟨rc,hrc,h8⟩:=okP_some h7
        obtain ⟨h9,hpre,h10⟩:=sdA_iff.1 h8
        obtain ⟨hids,hfz,hargs⟩:=frzL_sound hs.rel args args' fz ids hfr
        obtain ⟨hx0,hrel0⟩:=frzR_rel hs.rel hids
        have hx1:RX s.nx (s.nx + 1) ρ (frzR ρ w ids):=⟨hx0.le,hx0.lo,Nat.le_succ _⟩
        have ht1:TR (frzR ρ w ids) (fzT fz T).2 a.tmps:=fzT_tr hfz hids (fun _ h=>h) rfl hx0.le htr h9
        have hok:=cx.rok g ent hrt s.H args' rc hrc hpre E F (frzR ρ w ids) w (s.nx + 1) (delL s.H ids) hs.rel.gl (hrel0.nx_le (Nat.le_succ _))
        have hok':=hok.2
        refine call_wp htr.xr hop hcf hfv hxs ht (R:=fun e w'=>∃ r:CR,(∃ x,rc.Q x∧r = .mk (rc.v x) (delL s.H ids) (s.nx + 1 + 1))∧EndsR E F (s.nx + 1) (frzR ρ w ids) r e w') ⟨hok.1,fun vs hvs=>hok' vs (hargs ids hids (fun _ h=>h) vs hvs)⟩ fun e w' he=>?_
        obtain ⟨r,⟨x,hqx,rfl⟩,he⟩:=he
        obtain ⟨u,ρ',rfl,hx,hrel,hv⟩:=he
        exact behind _ _ (.mk (rc.v x) (delL s.H ids) (s.nx + 1 + 1)) (h10 x hqx) (fun _ _ _ _ h=>by cases h) _ ht1 hx1 u ρ' w' hx hrel hv
       | none =>
       rw [hrt] at h41
       have h4o:(Option.rec (motive:=fun _=>Prop) (Option.rec (motive:=fun _=>Prop) (En.call g args s.H (s.nx + 1) (cBehind o ⟨s.N,T,s.H,s.nx,s.ro,s.D⟩ K (cSeq cx En ops K l)))
        (fun ent=>okP (frzL cx.P s.H args) fun r=>sdA r.1 (okP (ent s.H r.2.1) fun ct=>(fun q:Bool×Tr AV=>sdA q.1
         (cCt ct (fun v=>cBehind o ⟨s.N,q.2,delL s.H r.2.2.2,s.nx + 1,s.ro,s.D⟩ K (cSeq cx En ops K l) (.mk v (delL s.H r.2.2.2) (s.nx + 1 + 1)))
          (fun v=>cBehind o ⟨s.N,q.2,delL s.H r.2.2.2,s.nx + 1,s.ro,s.D⟩ K (cSeq cx En ops K l) (.pan v (delL s.H r.2.2.2) (s.nx + 1 + 1))))) (fzT r.2.2.1 T))) (look cx.tb g))
        (fun ent=>okP (ent s.H (s.nx + 1) args) fun hc=>cHCt hc (fun v up nx=>cBehind o ⟨s.N,T,s.H,s.nx + 1,s.ro,s.D⟩ K (cSeq cx En ops K l) (.mk v (setL up s.H) nx))
         (fun v up nx=>cBehind o ⟨s.N,T,s.H,s.nx + 1,s.ro,s.D⟩ K (cSeq cx En ops K l) (.pan v (setL up s.H) nx))) (lookH cx.ht g)):=h41
       cases hlh:lookH cx.ht g with
       | some ent =>
        rw [hlh] at h4o
        obtain ⟨hc,hhc,h5⟩:=okP_some h4o
        obtain ⟨p,v,up,n1,hout,h6⟩:=cHCt_out h5
        have hok:=cx.hok g ent hlh s.H (s.nx + 1) args hc hhc p v up n1 hout E F ρ w (hs.rel.nx_le (Nat.le_succ _))
        have hx1:RX s.nx (s.nx + 1) ρ ρ:=⟨Ren.le_refl ρ,fun _ _=>rfl,Nat.le_succ _⟩
        refine call_wp htr.xr hop hcf hfv hxs ht hok fun e w' he=>?_
        cases p with
        | false =>
         obtain ⟨u,ρ',rfl,hx,hrel,hv⟩:=he
         exact behind T s.H (.mk v (setL up s.H) n1) h6 (fun _ _ _ _ h=>by cases h) ρ htr hx1 u ρ' w' hx hrel hv
        | true =>
         obtain ⟨u,ρ',rfl,hx,hrel,hv⟩:=he
         exact behind T s.H (.pan v (setL up s.H) n1) h6 (fun _ _ _ _ h=>by cases h) ρ htr hx1 u ρ' w' hx hrel hv
       | none =>
       rw [hlh] at h4o
       have h4':(Option.rec (motive:=fun _=>Prop) (En.call g args s.H (s.nx + 1) (cBehind o ⟨s.N,T,s.H,s.nx,s.ro,s.D⟩ K (cSeq cx En ops K l)))
        (fun ent=>okP (frzL cx.P s.H args) fun r=>sdA r.1 (okP (ent s.H r.2.1) fun ct=>(fun q:Bool×Tr AV=>sdA q.1
         (cCt ct (fun v=>cBehind o ⟨s.N,q.2,delL s.H r.2.2.2,s.nx + 1,s.ro,s.D⟩ K (cSeq cx En ops K l) (.mk v (delL s.H r.2.2.2) (s.nx + 1 + 1)))
          (fun v=>cBehind o ⟨s.N,q.2,delL s.H r.2.2.2,s.nx + 1,s.ro,s.D⟩ K (cSeq cx En ops K l) (.pan v (delL s.H r.2.2.2) (s.nx + 1 + 1))))) (fzT r.2.2.1 T))) (look cx.tb g)):=h4o
       cases hlk:look cx.tb g with
       | none =>
        rw [hlk] at h4'
        have hok:=hcall g args s.H (s.nx + 1) _ h4' E F ρ w (hs.rel.nx_le (Nat.le_succ _))
        refine call_wp htr.xr hop hcf hfv hxs ht hok fun e w' he=>?_
        obtain ⟨r,hr1,hr2⟩:=he
        have hx1:RX s.nx (s.nx + 1) ρ ρ:=⟨Ren.le_refl ρ,fun _ _=>rfl,Nat.le_succ _⟩
        cases r with
        | mk v H nx =>
         obtain ⟨u,ρ',rfl,hx,hrel,hv⟩:=hr2
         exact behind T s.H (.mk v H nx) hr1 (fun _ _ _ _ h=>by cases h) ρ htr hx1 u ρ' w' hx hrel hv
        | pan v H nx =>
         obtain ⟨u,ρ',rfl,hx,hrel,hv⟩:=hr2
         exact behind T s.H (.pan v H nx) hr1 (fun _ _ _ _ h=>by cases h) ρ htr hx1 u ρ' w' hx hrel hv
        | dfr g args H nx=>exact hr2.elim
       | some ent =>
        rw [hlk] at h4'
        obtain ⟨⟨sd,args',fz,ids⟩,hfr,h5⟩:=okP_some h4'
        obtain ⟨h6,h7⟩:=sdA_iff.1 h5
        simp only at h6;subst h6
        obtain ⟨ct,hct,h8⟩:=okP_some h7
        obtain ⟨h9,h10⟩:=sdA_iff.1 h8
        obtain ⟨p,v,hout,h11⟩:=cCt_out h10
        obtain ⟨hids,hfz,hargs⟩:=frzL_sound hs.rel args args' fz ids hfr
        obtain ⟨hx0,hrel0⟩:=frzR_rel hs.rel hids
        have hx1:RX s.nx (s.nx + 1) ρ (frzR ρ w ids):=⟨hx0.le,hx0.lo,Nat.le_succ _⟩
        have ht1:TR (frzR ρ w ids) (fzT fz T).2 a.tmps:=fzT_tr hfz hids (fun _ h=>h) rfl hx0.le htr h9
        have hok:=htb g ent hlk s.H args' ct hct p v hout E F (frzR ρ w ids) w (s.nx + 1) (delL s.H ids) hs.rel.gl (hrel0.nx_le (Nat.le_succ _))
        have hok':TgtOK cx.P (.fn g args) w ρ (EndsR E F (s.nx + 1) (frzR ρ w ids) (outCR p v (delL s.H ids) (s.nx + 1 + 1))):=⟨hok.1,fun vs hvs=>hok.2 vs (hargs ids hids (fun _ h=>h) vs hvs)⟩
        refine call_wp htr.xr hop hcf hfv hxs ht hok' fun e w' he=>?_
        cases p with
        | false =>
         obtain ⟨u,ρ',rfl,hx,hrel,hv⟩:=he
         exact behind _ _ (.mk v (delL s.H ids) (s.nx + 1 + 1)) h11 (fun _ _ _ _ h=>by cases h) _ ht1 hx1 u ρ' w' hx hrel hv
        | true =>
         obtain ⟨u,ρ',rfl,hx,hrel,hv⟩:=he
         exact behind _ _ (.pan v (delL s.H ids) (s.nx + 1 + 1)) h11 (fun _ _ _ _ h=>by cases h) _ ht1 hx1 u ρ' w' hx hrel hv
     ·exact hcl.elim
    ·exact hcl.elim
end Go.Ev
end
section
/- The symbolic layer, part K: what the sentence says holds: code, loops, functions. -/
namespace Go.Ev
def LoopP (F:Fence) (n:Nat) (P:Program) (c:Code) (Q:Exit→Act→World→Prop) (a:Act) (w:World):Prop :=
 ∀ (b:Frame) (k:List Item) (cs:List Frame),b.roundOf=F.round→F.fn b.fn→F.room (cs.length + 1 + n) →
  ∃ e a' w',Q e a' w'∧ArrivesIn (Machine.fenced P F) P (lone (b.atR a (.code c :: .inLoop c :: k)) cs w) b k cs e a' w'
theorem loopP_round {F:Fence} {n:Nat} {P:Program} {c:Code} {Q:Exit→Act→World→Prop} {a:Act} {w:World} (h:c.wpIn F n P (Exit.then (LoopP F n P c Q) Q) a w):LoopP F n P c Q a w:=by
 intro b k cs hro hb hr
 obtain ⟨e,a₁,w₁,hq,harr⟩:=h b (.inLoop c :: k) cs hro hb hr
 cases e with
 | normal =>
  obtain ⟨e₂,a₂,w₂,hq₂,harr₂⟩:=hq b k cs hro hb hr
  exact ⟨e₂,a₂,w₂,hq₂,.of_steps (StepsIn.trans harr (.one (fenced_calm hb hr rfl) stepR_inLoop)) harr₂⟩
 | exit id=>exact ⟨_,a₁,w₁,hq,.pass (x:=.inLoop c) rfl (fun _ _=>.inl (by simp)) harr⟩
 | goto l=>exact ⟨_,a₁,w₁,hq,.pass (x:=.inLoop c) rfl (fun _ _=>.inl (by simp)) harr⟩
 | ret=>exact ⟨_,a₁,w₁,hq,.pass (x:=.inLoop c) rfl (fun _ _=>.inl (by simp)) harr⟩
 | panic ch=>exact ⟨_,a₁,w₁,hq,.pass (x:=.inLoop c) rfl (fun _ _=>.inl (by simp)) harr⟩
 | outgrown=>exact ⟨_,a₁,w₁,hq,.pass (x:=.inLoop c) rfl (fun _ _=>.inl (by simp)) harr⟩
theorem loopP_loop {F:Fence} {n:Nat} {P:Program} {c:Code} {Q:Exit→Act→World→Prop} {a:Act} {w:World} (h:LoopP F n P c Q a w):(Code.loop c).wpIn F n P Q a w:=by
 intro b k cs hro hb hr
 obtain ⟨e,a',w',hq,harr⟩:=h b k cs hro hb hr
 exact ⟨e,a',w',hq,.of_steps (.one (fenced_calm hb hr rfl) stepR_loop) harr⟩
def KSem (E:Env) (F:Nat→Option Obj) (n0:Nat) (ρ0:Ren) (ro:Option Nat) (K:KX) (Q:Exit→Act→World→Prop):Prop :=
 ∀ x s' ρ' a' w',K x s'→n0≤s'.nx→Keep n0 ρ0 ρ'→SR E F ρ' s' a' w' ro→ExQ ρ' x fun e=>Q e a' w'
def CodeKOK (P:Program) (code:Nat→FuncId→Code→St→KX→Prop):Prop :=
 ∀ n0 f c s K,code n0 f c s K→∀ E F ρ0 ρ a w ro Q,KSem E F n0 ρ0 ro K Q→n0≤s.nx→Keep n0 ρ0 ρ→SR E F ρ s a w ro →
  match c with
  | .loop c'=>LoopP (FW ro) 0 P c' Q a w
  | c=>c.wpIn (FW ro) 0 P Q a w
def DrawKOK (P:Program) (D:Array Oper→St→KX→Prop):Prop :=
 ∀ ops s K,D ops s K→∀ id E F n0 ρ0 ρ a w ro Q,KSem E F n0 ρ0 ro K Q→n0≤s.nx→Keep n0 ρ0 ρ→SR E F ρ s a w ro→(Code.region id ops true).wpIn (FW ro) 0 P Q a w
theorem code_wp {P:Program} {code:Nat→FuncId→Code→St→KX→Prop} (h:CodeKOK P code) {n0:Nat} {f:FuncId} {c:Code} {s:St} {K:KX} (hc:code n0 f c s K) {E:Env} {F:Nat→Option Obj} {ρ0 ρ:Ren} {a:Act} {w:World} {ro:Option Nat}
  {Q:Exit→Act→World→Prop} (hq:KSem E F n0 ρ0 ro K Q) (hn:n0≤s.nx) (hk:Keep n0 ρ0 ρ) (hs:SR E F ρ s a w ro):c.wpIn (FW ro) 0 P Q a w:=by
 have:=h n0 f c s K hc E F ρ0 ρ a w ro Q hq hn hk hs
 cases c <;> first | exact this | exact loopP_loop this
theorem cCond_sound {ρ:Ren} {T:Tr AV} {tmps:Array Value} {c:Operand} {A B:Tr AV→Prop} (h:cCond T c A B) {a:Act} (ht:TR ρ T a.tmps) :
  ∃ b T',a.eval c = .bool b∧(∀ t,T'.get t=T.get t)∧(if b then A T' else B T'):=by
 unfold cCond at h
 split at h
 ·rename_i d
  obtain ⟨v,hv,h1⟩:=okP_some h
  split at h1
  ·rename_i b
   have hr:=ht.xr (.tmp d) (.bool b) hv
   have he:a.eval (.tmp d) = .bool b:=by
    generalize a.eval (.tmp d)=u at hr
    cases hr;rfl
   obtain ⟨h2,h3⟩:=brP_iff.1 h1
   refine ⟨b,T.set d (.bool b),he,fun t=>?_,?_⟩
   ·rw [Tr.get_set];split
    ·rename_i e;subst e;exact hv.symm
    ·rfl
   ·cases b with
    | true=>exact h2 rfl
    | false=>exact h3 rfl
  ·exact h1.elim
 ·rename_i b
  obtain ⟨h2,h3⟩:=brP_iff.1 h
  refine ⟨b,T,rfl,fun _=>rfl,?_⟩
  cases b with
  | true=>exact h2 rfl
  | false=>exact h3 rfl
 ·exact h.elim
theorem cYield_sound {P:Program} {En:CEv} (hcode:CodeKOK P En.code):YieldKOK P (cYield En):=by
 intro id args H nx K h E F ρ w r vs b hvs hb
 obtain ⟨o,ho,h1⟩:=okP_some h
 clear h
 cases o with
 | loop st0 pend0 T N ps asg body d =>
  obtain ⟨T',hT',h2⟩:=okP_some h1
  clear h1
  obtain ⟨fn,tmps,bd,hheap,htr,hsz,_,_⟩:=loop_at r hb ho
  obtain ⟨e1,e2,e3⟩:=setPs_sound ps.toList args vs N T T' tmps hvs hT' htr hsz
  have hy:=run_yield (P:=P) (args:=vs.toArray) hheap (by simp [e1])
  have hfold:(ps.zip vs.toArray).foldl (fun tmps (x:Tmp×Value)=>tmps.setIfInBounds x.1 x.2) tmps=(ps.toList.zip vs).foldl (fun tmps (x:Tmp×Value)=>tmps.setIfInBounds x.1 x.2) tmps:=by
   rw [← Array.foldl_toList,Array.toList_zip]
  refine ⟨fn,_,asg,body,hy,roundIn_of_wpIn trivial ?_⟩
  rw [hfold]
  have hrx:∀ {n:Nat} {ρ':Ren},nx≤n→Keep nx ρ ρ'→RX nx n ρ ρ':=fun {n ρ'} hn hk=>⟨⟨fun i b hb=>(by
   by_cases hi:i < nx
   ·rw [hk.lo i hi];exact hb
   ·rw [r.new i (by omega)] at hb;exact absurd hb (by simp)),hk.st⟩,hk.lo,hn⟩
  refine code_wp hcode h2 (E:=E) (F:=F) (ρ0:=ρ) (ρ:=ρ) (a:={ tmps:=(ps.toList.zip vs).foldl (fun tmps (x:Tmp×Value)=>tmps.setIfInBounds x.1 x.2) tmps,defers:=[] }) (ro:=some b.b) ?_ (Nat.le_refl _) (Keep.refl _ _) ⟨r,e2,e3,.nil,.some id b hb⟩
  intro x s ρ1 a1 w1 hx hn1 hk1 hs1
  cases x with
  | nrm =>
   obtain ⟨H1,hH1,h4⟩:=okP_some hx
   obtain ⟨st1,p1,T1,N1,ps1,asg1,body1,d1,st1',p1',g1,g2,g3⟩:=loopSet_some hH1
   have hb1:=(hrx hn1 hk1).le _ _ hb
   obtain ⟨fn1,tmps1,bd1,hheap1,_,_,_,hset1⟩:=loop_at hs1.rel hb1 g1
   have hst1:st1 = .ready∧st1' = .busy∧p1'=p1:=by
    cases st1 <;> first | (cases g2;done) | (injection g2 with g2;injection g2 with g4 g5;exact ⟨rfl,g4.symm,g5.symm⟩)
   obtain ⟨rfl,rfl,rfl⟩:=hst1
   refine ⟨_,run_beginRound hheap1 rfl,?_⟩
   refine code_wp hcode h4 (E:=E) (F:=F) (ρ0:=ρ) (ρ:=ρ1) (ro:=some b.b) ?_ hn1 hk1 ⟨by rw [g3];exact hset1 .busy p1',hs1.tr,hs1.size,hs1.dr,hs1.rr⟩
   intro x2 s2 ρ2 a2 w2 hx2 hn2 hk2 hs2
   obtain ⟨hcalm,h5⟩:=sdA_iff.1 hx2
   obtain ⟨H2,hH2,h6⟩:=okP_some h5
   obtain ⟨st2,p2,T2,N2,ps2,asg2,body2,d2,st2',p2',k1,k2,k3⟩:=loopSet_some hH2
   have hb2:=(hrx hn2 hk2).le _ _ hb
   obtain ⟨fn2,tmps2,bd2,hheap2,_,_,_,hset2⟩:=loop_at hs2.rel hb2 k1
   injection k2 with k2;injection k2 with k4 k5
   refine roundPost_ex (run_endRound x2.jump hheap2) ⟨_,h6,_,ρ2,rfl,hrx hn2 hk2,?_,.bool _⟩ ρ2 hcalm
   rw [k3,← k4,← k5]
   have:=hset2 (cond x2.jump.isNone .ready .done) x2.jump
   have hc:(cond x2.jump.isNone LoopState.ready .done)=if x2.jump.isNone=true then .ready else .done:=by cases x2.jump.isNone <;> rfl
   rw [hc] at this ⊢
   exact this
  | _=>exact hx.elim
 | _=>exact h1.elim
theorem cRange_sound {P:Program} {En:CEv} (hcall:CallKOK P En.call) {f:Operand} {ps:Array Tmp} {asg body:Code} {s:St} {K:KX} (h:cRange En f ps asg body s K)
  {E:Env} {F:Nat→Option Obj} {n0:Nat} {ρ0 ρ:Ren} {a:Act} {w:World} {ro:Option Nat} {Q:Exit→Act→World→Prop} (hq0:KSem E F n0 ρ0 ro K Q) (hn:n0≤s.nx) (hk:Keep n0 ρ0 ρ) (hs:SR E F ρ s a w ro) :
  (Code.rangeFunc f ps asg body).wpIn (FW ro) 0 P Q a w:=by
 refine wpIn_rangeFunc fun fn _=>?_
 obtain ⟨fa,hfa,h1⟩:=okP_some h
 clear h
 have hfr:=hs.tr.xr _ _ hfa
 have hrr:=hs.rr
 cases hro:s.ro with
 | some l0=>rw [hro] at h1;exact h1.elim
 | none =>
  rw [hro] at h1 hrr
  cases hrr
  simp only [fN_eq] at h1
  obtain ⟨t,ht,h2⟩:=okP_some h1
  clear h1
  have hn0:=hs.rel.new s.nx (Nat.le_refl _)
  have A1:=hs.rel.alloc (nx':=s.nx + 1) hn0 (Nat.le_succ _) (Nat.lt_succ_self _) (cap:=0) (a:=.dfr true) (o:=.deferred (some [])) (.dfr true)
  obtain ⟨A1r,A1l⟩:=A1
  rw [← get_set_fun] at A1r
  have hn1:=A1r.new (s.nx + 1) (Nat.le_refl _)
  have hput0:(ρ.put s.nx ⟨w.heap.size,0,0⟩) s.nx=some ⟨w.heap.size,0,0⟩:=Ren.put_same _ _ _
  let ρ1:Ren:=ρ.put s.nx ⟨w.heap.size,0,0⟩
  let blk:Blk:=⟨(w.alloc (.deferred (some []))).heap.size,0,0⟩
  let ρ2:Ren:=ρ1.put (s.nx + 1) blk
  have hl12:ρ1.le ρ2:=Ren.le_put (ρ:=ρ1) hn1 blk
  have A2:=A1r.alloc (nx':=s.nx + 1 + 1) hn1 (Nat.le_succ _) (Nat.lt_succ_self _) (cap:=0) (a:=.loop .ready none s.T s.N ps asg body s.nx)
   (o:=.loop { state:=.ready,pending:=none,fn,tmps:=a.tmps,params:=ps,assign:=asg,body,defers:=w.heap.size })
   (.loop .ready none s.T s.N ps asg body s.nx fn a.tmps ⟨w.heap.size,0,0⟩ (hs.tr.mono (Ren.le_trans A1l hl12)) hs.size (hl12 _ _ hput0))
  obtain ⟨A2r,A2l⟩:=A2
  rw [← get_set_fun] at A2r
  have hle:ρ.le ρ2:=Ren.le_trans A1l hl12
  have hb:ρ2 (s.nx + 1)=some blk:=Ren.put_same _ _ _
  have hlt:∀ i,i < s.nx→ρ2 i=ρ i:=fun i hi=>by simp [Ren.put,ρ2,ρ1,Nat.ne_of_lt hi,Nat.ne_of_lt (Nat.lt_succ_of_lt hi)]
  have hx0:RX s.nx (s.nx + 1 + 1) ρ ρ2:=⟨hle,hlt,by omega⟩
  have hdr2:DR ρ2 (.mark s.nx :: s.D) ({ target:=.collected w.heap.size,args:=#[] } :: a.defers):=.mark s.nx ⟨w.heap.size,0,0⟩ _ _ (hl12 _ _ hput0) (hs.dr.mono hle)
  cases t with
  | yld _ _=>exact h2.elim
  | fn g args =>
   have hok:=hcall g args _ _ _ h2 E F ρ2 _ A2r
   have hfr2:=hfr.mono hle
   unfold evTarget at ht
   split at ht
   ·rename_i gi first cap
    injection ht with ht;injection ht with ht1 ht2;subst ht1;subst ht2
    generalize hfe:a.eval f=fv at hfr2
    cases hfr2 with
    | fn _ _ _ va vc ha hc =>
     obtain ⟨⟨fn',c,hfn,hnm,hbd⟩,hcalls⟩:=hok
     have hargs:VRL ρ2 [AV.yld (s.nx + 1)] [Value.func (.yield blk.b) #[] #[]]:=.cons _ _ _ _ (.yld (s.nx + 1) blk hb) .nil
     have hc':=hcalls _ (ha.append (hargs.append hc))
     have e:blk.b=w.heap.size + 1:=by simp [blk]
     refine ⟨w.heap.size + 1,[{ target:=.collected w.heap.size,args:=#[] }],((w.alloc (.deferred (some []))).alloc (.loop { state:=.ready,pending:=none,fn,tmps:=a.tmps,params:=ps,assign:=asg,body,defers:=w.heap.size })),{ target:=.fn (.func gi) vc.toArray,args:=va.toArray ++ #[.func (.yield blk.b) #[] #[]] },((w.alloc (.deferred (some []))).alloc (.loop { state:=.ready,pending:=none,fn,tmps:=a.tmps,params:=ps,assign:=asg,body,defers:=w.heap.size })),gi,(va ++ ([Value.func (.yield blk.b) #[] #[]] ++ vc)).toArray,((w.alloc (.deferred (some []))).alloc (.loop { state:=.ready,pending:=none,fn,tmps:=a.tmps,params:=ps,assign:=asg,body,defers:=w.heap.size })),run_enterLoop_outer fn a.tmps ps asg body,?_,fun _ _=>trivial,?_,by simp [FW,Fence.wide],?_⟩
     ·rw [← e]
      unfold resolve rangeCall
      have hm:Array.map a.eval #[Operand.const (Value.func (Fn.yield blk.b) #[] #[])] = #[Value.func (Fn.yield blk.b) #[] #[]]:=by simp [Act.eval]
      have hfe':Act.eval { a with defers:=[{ target:=.collected w.heap.size,args:=#[] }] ++ a.defers } f = .func (.func gi) va.toArray vc.toArray:=hfe
      first
       | (simp only [hfe,Deferred.ofValue,hm];rfl)
       | (simp only [hfe',Deferred.ofValue,hm];rfl)
     ·simp only [invoke,callFunc,Sem.run_bind,run_program,Result.andThen_ok,hfn,hnm,Bool.false_eq_true,if_false,hbd,Option.isNone_some,Sem.run_pure]
      congr 2
      apply Array.ext'
      simp
     ·rw [← e]
      refine CallsIn.mono hc' ?_
      rintro ed w' ⟨r,hr,hend⟩
      cases r with
      | pan _ _ _=>exact hr.elim
      | dfr _ _ _ _=>exact hend.elim
      | mk v H nx =>
       obtain ⟨u,ρ',rfl,hx,hrel,hv⟩:=hend
       obtain ⟨o,ho,h3⟩:=okP_some hr
       cases o with
       | loop st pend T N ps' asg' body' d =>
        obtain ⟨x1,hx1,h4⟩:=okP_some h3
        obtain ⟨H1,hH1,h5⟩:=okP_some h4
        obtain ⟨hpend,hcalm⟩:=jumpX_some hx1
        obtain ⟨st1,p1,T1,N1,ps1,asg1,body1,d1,st1',p1',g1,g2,g3⟩:=loopSet_some hH1
        rw [ho] at g1
        injection g1 with g1
        injection g1 with g1 g4 g5 g6 g7 g8 g9 g10
        subst g1;subst g4
        have hb':=hx.le _ _ hb
        obtain ⟨fn2,tmps,bd,hheap,_,_,_,hset⟩:=loop_at hrel hb' ho
        have hnb:st≠.busy∧st1' = .exhausted∧p1'=pend:=by
         cases st <;> first | (cases g2;done) | (injection g2 with g2;injection g2 with g11 g12;exact ⟨by simp,g11.symm,g12.symm⟩)
        obtain ⟨hnb1,rfl,rfl⟩:=hnb
        refine ⟨p1',_,run_endLoop hheap hnb1,?_⟩
        have hxx:=RX.trans hx0 hx
        have hsr:SR E F ρ' ⟨s.N,s.T,H1,nx,none,.mark s.nx :: s.D⟩ { a with defers:=[{ target:=.collected w.heap.size,args:=#[] }] ++ a.defers } (w'.putObj blk.b (.loop { state:=.exhausted,pending:=p1',fn:=fn2,tmps,params:=ps',assign:=asg',body:=body',defers:=bd })) none:=by
         refine ⟨?_,hs.tr.mono hxx.le,hs.size,hdr2.mono hx.le,.none⟩
         show Rel E F nx ρ' H1.get _
         rw [g3]
         subst g5;subst g6;subst g7;subst g8;subst g9;subst g10
         exact hset .exhausted p1'
        have hq':=hq0 x1 _ ρ' _ _ h5 (Nat.le_trans hn hxx.nn) (hk.trans (Keep.of_rx hxx hn)) hsr
        have:=jump_wp (P:=P) (ro:=none) (Q:=Q) (a:={ a with defers:=[{ target:=.collected w.heap.size,args:=#[] }] ++ a.defers }) x1 hcalm hq'
        rw [← hpend] at this
        exact this
       | _=>exact h3.elim
   ·cases ht
   ·cases ht
theorem cFrz_sound {P:Program} {E:Env} {F:Nat→Option Obj} {n0:Nat} {ρ0:Ren} {a:Act} {w:World} {ro:Option Nat} {K:St→Prop}:∀ (ds:List Nat) (s:St) (ρ:Ren),cFrz P ds K s→n0≤s.nx→Keep n0 ρ0 ρ→SR E F ρ s a w ro →
  ∃ s' ρ',K s'∧n0≤s'.nx∧Keep n0 ρ0 ρ'∧SR E F ρ' s' a w ro
 | [],s,ρ,h,hn,hk,hs=>⟨s,ρ,h,hn,hk,hs⟩
 | d :: ds,s,ρ,h,hn,hk,hs=>by
  obtain ⟨v,hv,h1⟩:=okP_some (show okP (s.T.get d) fun v=>okP (frz P s.H v) fun r=>sdA r.1
   ((fun q:Bool×Tr AV=>sdA q.1 (cFrz P ds K ⟨s.N,q.2.set d r.2.1,delL s.H r.2.2.2,s.nx,s.ro,s.D⟩)) (fzT r.2.2.1 s.T)) from h)
  obtain ⟨⟨sd,v',fz,ids⟩,hf,h2⟩:=okP_some h1
  obtain ⟨e1,h3⟩:=sdA_iff.1 h2
  simp only at e1;subst e1
  obtain ⟨e2,h4⟩:=sdA_iff.1 h3
  obtain ⟨hids,hfz,hval⟩:=frz_sound hs.rel v v' fz ids hf
  obtain ⟨hx0,hrel0⟩:=frzR_rel hs.rel hids
  have ht1:TR (frzR ρ w ids) (fzT fz s.T).2 a.tmps:=fzT_tr hfz hids (fun _ h=>h) rfl hx0.le hs.tr e2
  have ht2:TR (frzR ρ w ids) ((fzT fz s.T).2.set d v') a.tmps:=fun t b hb=>by
   rw [Tr.get_set] at hb
   by_cases e:d=t
   ·rw [if_pos e] at hb
    injection hb with hb
    subst e;subst hb
    obtain ⟨u,hu,hvu⟩:=hs.tr d v hv
    exact ⟨u,hu,hval ids hids (fun _ h=>h) u hvu⟩
   ·rw [if_neg e] at hb;exact ht1 t b hb
  exact cFrz_sound ds ⟨s.N,(fzT fz s.T).2.set d v',delL s.H ids,s.nx,s.ro,s.D⟩ (frzR ρ w ids) h4 hn (hk.trans (Keep.of_rx hx0 hn)) ⟨hrel0,ht2,hs.size,hs.dr.mono hx0.le,hs.rr.mono hx0.le⟩
theorem cCodeF_sound {cx:Ctx} {En:CEv} {D:Array Oper→St→KX→Prop} (hD:DrawKOK cx.P D) (hcode:CodeKOK cx.P En.code) (hcall:CallKOK cx.P En.call) (htb:TbOK cx.P cx.tb):CodeKOK cx.P (cCodeF cx En D):=by
 intro n0 f c s K h E F ρ0 ρ a w ro Q hq hn hk hs
 cases c with
 | skip=>exact wpIn_skip (hq _ _ _ _ _ h hn hk hs)
 | region id ops draw =>
  cases draw with
  | false =>
   obtain ⟨s',ρ',h',hn',hk',hs'⟩:=cFrz_sound (cx.fr f id) s ρ (show cFrz cx.P (cx.fr f id) (fun s=>cSeq cx En ops K ops.toList s) s from h) hn hk hs
   refine opsTo_region ?_
   have:=cSeq_sound hcall (cYield_sound hcode) htb (ops:=ops) (E:=E) (F:=F) (ro:=ro) (Q:=Q) (K:=K) hq ops.toList 0 s' ρ' a w (fun j o hj=>by simpa using hj) h' hn' hk' hs'
   rw [List.range_eq_range']
   simpa using this
  | true =>
   obtain ⟨s',ρ',h',hn',hk',hs'⟩:=cFrz_sound (cx.fr f id) s ρ (show cFrz cx.P (cx.fr f id) (fun s=>D ops s K) s from h) hn hk hs
   exact hD ops s' K h' id E F n0 ρ0 ρ' a w ro Q hq hn' hk' hs'
 | seq p q =>
  have h':(Option.rec (motive:=fun _=>Prop) (En.code n0 f p s fun ax s'=>match ax with
   | .nrm=>En.code n0 f q s' K
   | ax=>K ax s') (fun S=>cCut En S n0 f p q s K) (Option.rec (motive:=fun _=>Option Stn) none (fun r=>cx.cut f r) (firstR q))):=h
  cases hS:(Option.rec (motive:=fun _=>Option Stn) none (fun r=>cx.cut f r) (firstR q)) with
  | none =>
   rw [hS] at h'
   refine wpIn_seq (code_wp hcode h' (ρ0:=ρ0) ?_ hn hk hs)
   intro x s' ρ' a' w' hx hn' hk' hs'
   cases x with
   | nrm=>exact code_wp hcode hx hq hn' hk' hs'
   | exit id=>exact hq _ _ _ _ _ hx hn' hk' hs'
   | goto l=>exact hq _ _ _ _ _ hx hn' hk' hs'
   | ret=>exact hq _ _ _ _ _ hx hn' hk' hs'
   | pan v=>exact fun u hu=>hq (.pan v) _ _ _ _ hx hn' hk' hs' u hu
  | some S =>
   rw [hS] at h'
   obtain ⟨h1,h2⟩:=(show cCut En S n0 f p q s K from h')
   refine wpIn_seq (code_wp hcode h1 (ρ0:=ρ0) ?_ hn hk hs)
   intro x s' ρ' a' w' hx hn' hk' hs'
   cases x with
   | nrm =>
    obtain ⟨x0,hI,hst⟩:=hx
    obtain ⟨hn2,ρ2,hk2,hs2⟩:=stP_rel hst hs'
    exact code_wp hcode (h2 x0 hI) hq hn2 (hk'.trans hk2) hs2
   | exit id=>exact hq _ _ _ _ _ hx hn' hk' hs'
   | goto l=>exact hq _ _ _ _ _ hx hn' hk' hs'
   | ret=>exact hq _ _ _ _ _ hx hn' hk' hs'
   | pan v=>exact fun u hu=>hq (.pan v) _ _ _ _ hx hn' hk' hs' u hu
 | cond c p q =>
  obtain ⟨b,T',he,hT,hb⟩:=cCond_sound (tmps:=a.tmps) (show cCond s.T c (fun T=>En.code n0 f p ⟨s.N,T,s.H,s.nx,s.ro,s.D⟩ K) (fun T=>En.code n0 f q ⟨s.N,T,s.H,s.nx,s.ro,s.D⟩ K) from h) hs.tr
  have hs':SR E F ρ ⟨s.N,T',s.H,s.nx,s.ro,s.D⟩ a w ro:=⟨hs.rel,fun t b hb=>hs.tr t b (by rw [← hT];exact hb),hs.size,hs.dr,hs.rr⟩
  refine wpIn_cond he ?_
  cases b with
  | true=>exact code_wp hcode (show En.code n0 f p ⟨s.N,T',s.H,s.nx,s.ro,s.D⟩ K from hb) hq hn hk hs'
  | false=>exact code_wp hcode (show En.code n0 f q ⟨s.N,T',s.H,s.nx,s.ro,s.D⟩ K from hb) hq hn hk hs'
 | block id p =>
  refine wpIn_block (code_wp hcode (show En.code n0 f p s _ from h) (ρ0:=ρ0) ?_ hn hk hs)
  intro x s' ρ' a' w' hx hn' hk' hs'
  cases x with
  | nrm=>exact hq _ _ _ _ _ hx hn' hk' hs'
  | exit id' =>
   show if id'=id then Q .normal a' w' else Q (.exit id') a' w'
   have hx':cond (Nat.beq id' id) (K .nrm s') (K (.exit id') s'):=hx
   cases hb:Nat.beq id' id with
   | true =>
    rw [hb,cond_true] at hx'
    rw [Nat.beq_eq] at hb
    rw [if_pos hb];exact hq _ _ _ _ _ hx' hn' hk' hs'
   | false =>
    rw [hb,cond_false] at hx'
    rw [if_neg (fun e=>by rw [← Nat.beq_eq,hb] at e;cases e)];exact hq _ _ _ _ _ hx' hn' hk' hs'
  | goto l=>exact hq _ _ _ _ _ hx hn' hk' hs'
  | ret=>exact hq _ _ _ _ _ hx hn' hk' hs'
  | pan v=>exact fun u hu=>hq (.pan v) _ _ _ _ hx hn' hk' hs' u hu
 | loop p =>
  have h':(Option.rec (motive:=fun _=>Prop) (En.code n0 f p s fun ax s'=>match ax with
   | .nrm=>En.code n0 f (.loop p) s' K
   | ax=>K ax s') (fun S=>cond (Option.rec (motive:=fun _=>Bool) false (fun r=>cx.pl f r s) (firstR p)) (En.code n0 f p s fun ax s'=>match ax with
   | .nrm=>cLoop cx.P (flOf cx f p) En S n0 f p s' K
   | ax=>K ax s') (cLoop cx.P (flOf cx f p) En S n0 f p s K)) (Option.rec (motive:=fun _=>Option Stn) none (fun r=>cx.lp f r) (firstR p))):=h
  show LoopP (FW ro) 0 cx.P p Q a w
  cases hS:(Option.rec (motive:=fun _=>Option Stn) none (fun r=>cx.lp f r) (firstR p)) with
  | none =>
   rw [hS] at h'
   refine loopP_round (code_wp hcode h' (ρ0:=ρ0) ?_ hn hk hs)
   intro x s' ρ' a' w' hx hn' hk' hs'
   cases x with
   | nrm=>exact hcode n0 f (.loop p) s' K hx E F ρ0 ρ' a' w' ro Q hq hn' hk' hs'
   | exit id=>exact hq _ _ _ _ _ hx hn' hk' hs'
   | goto l=>exact hq _ _ _ _ _ hx hn' hk' hs'
   | ret=>exact hq _ _ _ _ _ hx hn' hk' hs'
   | pan v=>exact fun u hu=>hq (.pan v) _ _ _ _ hx hn' hk' hs' u hu
  | some S =>
   rw [hS] at h'
   have stat:∀ (s:St) ρ a w,cLoop cx.P (flOf cx f p) En S n0 f p s K→n0≤s.nx→Keep n0 ρ0 ρ→SR E F ρ s a w ro→LoopP (FW ro) 0 cx.P p Q a w:=by
    intro s ρ a w hl hn hk hs
    obtain ⟨⟨x0,hI0,hst0⟩,hround⟩:=hl
    have key:∀ (m:Nat) (x:S.X),S.m x < m→S.I s x→∀ ρ a w,n0≤S.nx s n0→Keep n0 ρ0 ρ→SR E F ρ (stOf S s n0 x) a w ro→LoopP (FW ro) 0 cx.P p Q a w:=by
     intro m
     induction m with
     | zero=>intro x hx;omega
     | succ m ih =>
      intro x hx hI ρ a w hn1 hk1 hs1
      refine loopP_round (code_wp hcode (hround x hI) (ρ0:=ρ0) ?_ hn1 hk1 hs1)
      intro y s' ρ' a' w' hy hn' hk' hs'
      cases y with
      | nrm =>
       obtain ⟨s1,ρ1,⟨x1,hI1,hm1,hst1⟩,hn1',hk1',hs1'⟩:=cFrz_sound (flOf cx f p) s' ρ' hy hn' hk' hs'
       obtain ⟨hn2,ρ2,hk2,hs2⟩:=stP_rel hst1 hs1'
       exact ih x1 (by omega) hI1 ρ2 a' w' hn2 (hk1'.trans hk2) hs2
      | exit id=>exact hq _ _ _ _ _ hy hn' hk' hs'
      | goto l=>exact hq _ _ _ _ _ hy hn' hk' hs'
      | ret=>exact hq _ _ _ _ _ hy hn' hk' hs'
      | pan v=>exact fun u hu=>hq (.pan v) _ _ _ _ hy hn' hk' hs' u hu
    obtain ⟨hn2,ρ2,hk2,hs2⟩:=stP_rel hst0 hs
    exact key (S.m x0 + 1) x0 (Nat.lt_succ_self _) hI0 ρ2 a w hn2 (hk.trans hk2) hs2
   cases hp:(Option.rec (motive:=fun _=>Bool) false (fun r=>cx.pl f r s) (firstR p)) with
   | false =>
    have h2:cond (Option.rec (motive:=fun _=>Bool) false (fun r=>cx.pl f r s) (firstR p)) _ (cLoop cx.P (flOf cx f p) En S n0 f p s K):=h'
    rw [hp] at h2
    exact stat s _ a w h2 hn hk hs
   | true =>
    have h2:cond (Option.rec (motive:=fun _=>Bool) false (fun r=>cx.pl f r s) (firstR p)) (En.code n0 f p s fun ax s'=>match ax with
     | .nrm=>cLoop cx.P (flOf cx f p) En S n0 f p s' K
     | ax=>K ax s') (cLoop cx.P (flOf cx f p) En S n0 f p s K):=h'
    rw [hp] at h2
    refine loopP_round (code_wp hcode h2 (ρ0:=ρ0) ?_ hn hk hs)
    intro x s' ρ' a' w' hx hn' hk' hs'
    cases x with
    | nrm=>exact stat s' ρ' a' w' hx hn' hk' hs'
    | exit id=>exact hq _ _ _ _ _ hx hn' hk' hs'
    | goto l=>exact hq _ _ _ _ _ hx hn' hk' hs'
    | ret=>exact hq _ _ _ _ _ hx hn' hk' hs'
    | pan v=>exact fun u hu=>hq (.pan v) _ _ _ _ hx hn' hk' hs' u hu
 | rangeFunc g ps asg body=>exact cRange_sound hcall (show cRange En g ps asg body s K from h) hq hn hk hs
 | exit id=>exact wpIn_exit (hq (.exit id) _ _ _ _ h hn hk hs)
 | label l=>exact wpIn_label (hq .nrm _ _ _ _ h hn hk hs)
 | goto l=>exact wpIn_goto (hq (.goto l) _ _ _ _ h hn hk hs)
 | ret=>exact wpIn_ret (hq .ret _ _ _ _ h hn hk hs)
 | scope p =>
  refine wpIn_scope (code_wp hcode (show En.code n0 f p s _ from h) (ρ0:=ρ0) ?_ hn hk hs)
  intro x s' ρ' a' w' hx hn' hk' hs'
  cases x with
  | nrm=>exact ⟨fun _ e=>(by cases e),hq .nrm _ _ _ _ hx hn' hk' hs'⟩
  | exit id=>exact ⟨fun _ e=>(by cases e),hq (.exit id) _ _ _ _ hx hn' hk' hs'⟩
  | goto l=>exact hx.elim
  | ret=>exact ⟨fun _ e=>(by cases e),hq .ret _ _ _ _ hx hn' hk' hs'⟩
  | pan v=>exact fun u hu=>⟨fun _ e=>(by cases e),hq (.pan v) _ _ _ _ hx hn' hk' hs' u hu⟩
 | refuse _=>exact h.elim
theorem cDcode_sound {P:Program} {En:CEv} (hcode:CodeKOK P En.code) {n0:Nat} {f:FuncId} {E:Env} {F:Nat→Option Obj} {ρ0:Ren} (hle0:∀ ρ',Keep n0 ρ0 ρ'→ρ0.le ρ'):∀ (k:Nat) (c:Code) (s:St) (m:MD) (K:KD),cDcode En n0 f k c s m K →
  ∀ (ρ:Ren) (a:Act) (w:World) (c₀:Frame) (cs:List Frame) (Q:Exit→Act→List Frame→World→Prop),(∀ x s' m' ρ' a' w' u',K x s' m'→n0≤s'.nx→Keep n0 ρ0 ρ'→SR E F ρ' s' a' w' none→MR ρ0 m' u'→ExQ ρ' x fun e=>Q e a' ({ c₀ with mode:=u' } :: cs) w') →
   n0≤s.nx→Keep n0 ρ0 ρ→SR E F ρ s a w none→MR ρ0 m c₀.mode→c.wpSIn (FW none) 0 P Q a (c₀ :: cs) w
 | 0,_,_,_,_,h=>h.elim
 | k + 1,c,s,m,K,h=>by
  intro ρ a w c₀ cs Q hq hn hk hs hm
  have ih:=cDcode_sound hcode (f:=f) (E:=E) (F:=F) hle0 k
  have lift:En.code n0 f c s (fun x s'=>K x s' m)→c.wpSIn (FW none) 0 P Q a (c₀ :: cs) w:=fun h =>
   wpSIn_of_wpIn rfl (code_wp hcode h (Q:=fun e a' w'=>Q e a' (c₀ :: cs) w') (fun x s' ρ' a' w' hx hn' hk' hs'=>hq x s' m ρ' a' w' c₀.mode hx hn' hk' hs' hm) hn hk hs)
  cases c with
  | skip=>exact lift h
  | region id ops draw =>
   cases draw with
   | true=>exact lift h
   | false =>
    have h':Option.rec (motive:=fun _=>Prop) (En.code n0 f (.region id ops false) s fun x s'=>K x s' m) (fun dst=>cRec s dst m K) (recOp ops.toList):=h
    cases hr:recOp ops.toList with
    | none=>rw [hr] at h';exact lift h'
    | some dst =>
     rw [hr] at h'
     refine recover_region hr ?_
     cases m with
     | ret =>
      obtain ⟨T,hT,h1⟩:=okP_some h'
      generalize hu:c₀.mode=u at hm
      cases hm
      obtain ⟨e1,e2,e3⟩:=evPut_sound hs.tr hs.size (.iface0 (ρ:=ρ)) hT
      have hc:{ c₀ with mode:=.returning } = c₀:=by rw [← hu]
      have:=hq .nrm _ _ ρ (a.put dst .nilIface) w .returning h1 hn hk ⟨hs.rel,e1,e2,by rw [e3];exact hs.dr,hs.rr⟩ .ret
      simp only [recoverD,hu]
      rw [hc] at this
      exact this
     | pan v =>
      obtain ⟨T,hT,h1⟩:=okP_some h'
      generalize hu:c₀.mode=u at hm
      cases hm
      rename_i u hv
      obtain ⟨e1,e2,e3⟩:=evPut_sound hs.tr hs.size (hv.mono (hle0 ρ hk)) hT
      have:=hq .nrm _ _ ρ (a.put dst u) w (.panicking [{ v:=u,recovered:=true }]) h1 hn hk ⟨hs.rel,e1,e2,by rw [e3];exact hs.dr,hs.rr⟩ (.rcd v u hv)
      simp only [recoverD,hu,fresh]
      exact this
     | rcd v =>
      obtain ⟨T,hT,h1⟩:=okP_some h'
      generalize hu:c₀.mode=u at hm
      cases hm
      rename_i u hv
      obtain ⟨e1,e2,e3⟩:=evPut_sound hs.tr hs.size (.iface0 (ρ:=ρ)) hT
      have hc:{ c₀ with mode:=.panicking [{ v:=u,recovered:=true }] } = c₀:=by rw [← hu]
      have:=hq .nrm _ _ ρ (a.put dst .nilIface) w (.panicking [{ v:=u,recovered:=true }]) h1 hn hk ⟨hs.rel,e1,e2,by rw [e3];exact hs.dr,hs.rr⟩ (.rcd v u hv)
      simp only [recoverD,hu]
      rw [hc] at this
      exact this
  | seq p q =>
   refine wpSIn_seq (ih p s m _ (show cDcode En n0 f k p s m (fun x s' m'=>match x with
    | .nrm=>cDcode En n0 f k q s' m' K
    | x=>K x s' m') from h) ρ a w c₀ cs _ (fun x s' m' ρ' a' w' u' hx hn' hk' hs' hm'=>?_) hn hk hs hm)
   cases x with
   | nrm=>exact ih q s' m' K hx ρ' a' w' { c₀ with mode:=u' } cs Q (fun x s'' m'' ρ'' a'' w'' u'' hx' hn'' hk'' hs'' hm''=>hq x s'' m'' ρ'' a'' w'' u'' hx' hn'' hk'' hs'' hm'') hn' hk' hs' hm'
   | exit id=>exact hq (.exit id) s' m' ρ' a' w' u' hx hn' hk' hs' hm'
   | goto l=>exact hq (.goto l) s' m' ρ' a' w' u' hx hn' hk' hs' hm'
   | ret=>exact hq .ret s' m' ρ' a' w' u' hx hn' hk' hs' hm'
   | pan v=>exact hq (.pan v) s' m' ρ' a' w' u' hx hn' hk' hs' hm'
  | cond c p q =>
   obtain ⟨b,T',hce,hT,h1⟩:=cCond_sound (tmps:=a.tmps) (show cCond s.T c (fun T=>cDcode En n0 f k p ⟨s.N,T,s.H,s.nx,s.ro,s.D⟩ m K) (fun T=>cDcode En n0 f k q ⟨s.N,T,s.H,s.nx,s.ro,s.D⟩ m K) from h) (a:=a) hs.tr
   have hs2:SR E F ρ ⟨s.N,T',s.H,s.nx,s.ro,s.D⟩ a w none:=⟨hs.rel,fun t x ht=>hs.tr t x (by rw [← hT];exact ht),hs.size,hs.dr,hs.rr⟩
   refine wpSIn_cond hce ?_
   cases b with
   | true=>exact ih p _ m K h1 ρ a w c₀ cs Q hq hn hk hs2 hm
   | false=>exact ih q _ m K h1 ρ a w c₀ cs Q hq hn hk hs2 hm
  | block id p =>
   refine wpSIn_block (ih p s m _ (show cDcode En n0 f k p s m (fun x s' m'=>match x with
    | .exit id'=>cond (Nat.beq id' id) (K .nrm s' m') (K (.exit id') s' m')
    | x=>K x s' m') from h) ρ a w c₀ cs _ (fun x s' m' ρ' a' w' u' hx hn' hk' hs' hm'=>?_) hn hk hs hm)
   cases x with
   | nrm=>exact hq .nrm s' m' ρ' a' w' u' hx hn' hk' hs' hm'
   | exit id' =>
    show if id'=id then Q .normal a' _ w' else Q (.exit id') a' _ w'
    have hx':cond (Nat.beq id' id) (K .nrm s' m') (K (.exit id') s' m'):=hx
    cases hb:Nat.beq id' id with
    | true =>
     rw [hb] at hx'
     rw [Nat.beq_eq] at hb
     rw [if_pos hb];exact hq .nrm s' m' ρ' a' w' u' hx' hn' hk' hs' hm'
    | false =>
     rw [hb] at hx'
     rw [if_neg (fun e=>by rw [← Nat.beq_eq,hb] at e;cases e)];exact hq (.exit id') s' m' ρ' a' w' u' hx' hn' hk' hs' hm'
   | goto l=>exact hq (.goto l) s' m' ρ' a' w' u' hx hn' hk' hs' hm'
   | ret=>exact hq .ret s' m' ρ' a' w' u' hx hn' hk' hs' hm'
   | pan v=>exact hq (.pan v) s' m' ρ' a' w' u' hx hn' hk' hs' hm'
  | loop p=>exact lift h
  | rangeFunc f ps asg body=>exact lift h
  | exit id=>exact lift h
  | label l=>exact lift h
  | goto l=>exact lift h
  | ret=>exact lift h
  | scope _=>exact lift h
  | refuse _=>exact lift h
theorem keep_rx {n0 n:Nat} {ρ0 ρ':Ren} (hnew:∀ i,n0≤i→ρ0 i=none) (hk:Keep n0 ρ0 ρ') (hn:n0≤n):RX n0 n ρ0 ρ' :=
 ⟨⟨fun i b hb=>(by
  by_cases hi:i < n0
  ·rw [hk.lo i hi];exact hb
  ·rw [hnew i (by omega)] at hb;exact absurd hb (by simp)),hk.st⟩,hk.lo,hn⟩
theorem cDef_sound {P:Program} {En:CEv} (hcode:CodeKOK P En.code) {g:FuncId} {args:List AV} {H:Tr AObj} {nx:Nat} {m:MD} {K:MD→Tr AObj→Nat→Prop} (h:cDef P En g args H nx m K)
  {E:Env} {F:Nat→Option Obj} {ρ:Ren} {w:World} (r:Rel E F nx ρ H.get w) {u:FrameMode} (hm:MR ρ m u) :
  (∃ fn c, P.funcs[g]? = some fn ∧ (fn.name == "runtime.NumGoroutine") = false ∧ fn.body = some c) ∧ ∀ vs, VRL ρ args vs →
   CallsDIn (FW none) 0 P g vs.toArray u w fun e u' w'=>∃ v m' H' nx' ρ',e = .returned v∧K m' H' nx'∧RX nx nx' ρ ρ'∧Rel E F nx' ρ' H'.get w'∧MR ρ' m' (Go.settle u'):=by
 obtain ⟨fn,hfn,h1⟩:=okP_some h
 obtain ⟨hnm,h2⟩:=sdA_iff.1 h1
 obtain ⟨c,hc,h3⟩:=okP_some h2
 simp only [fN_eq] at h3
 refine ⟨⟨fn,c,hfn,by simpa using hnm,hc⟩,fun vs hvs=>?_⟩
 refine callsDIn_of_wpSIn hfn hc trivial fun c₀ cs hc₀=>?_
 have hlen:=hvs.length
 subst hc₀
 refine cDcode_sound hcode (f:=g) (ρ0:=ρ) (fun ρ' hk=>(keep_rx r.new hk (Nat.le_refl _)).le) 60 c _ m _ h3 ρ { tmps:=vs.toArray ++ Array.replicate (fn.ntmps - vs.toArray.size) undef,defers:=[] } w c₀ cs _ (fun x s m1 ρ' a' w' u' hx hn hk hs' hm'=>?_) (Nat.le_refl _) (Keep.refl _ _) ⟨r,setArgs_tr hvs _,by simp [hlen],.nil,.none⟩ hm
 have h5:(x = .nrm∨x = .ret)∧sdA s.D.isEmpty (okP (evResults P s.H s.T fn.results.toList) fun _=>K m1.settle s.H s.nx):=by
  cases x with
  | nrm=>exact ⟨.inl rfl,hx⟩
  | ret=>exact ⟨.inr rfl,hx⟩
  | exit _=>exact hx.elim
  | goto _=>exact hx.elim
  | pan _=>exact hx.elim
 obtain ⟨hxx,h6⟩:=h5
 obtain ⟨hD,h7⟩:=sdA_iff.1 h6
 obtain ⟨v1,hv1,h8⟩:=okP_some h7
 obtain ⟨uv,hu,_⟩:=evResults_sound (P:=P) hs'.rel hs'.tr hv1
 have hdr:=hs'.dr
 have hD':s.D=[]:=by simpa using hD
 rw [hD'] at hdr
 have hdf:a'.defers=[]:=by generalize a'.defers=ds at hdr;cases hdr;rfl
 have hrx:=keep_rx r.new hk hn
 have fin:a'.defers=[]∧∃ u'',({ c₀ with mode:=u' } :: cs) = { c₀ with mode:=u'' } :: cs∧∃ v,(results fn a'.tmps).run P w' = .ok v w' ∧
   ∃ v' m' H' nx' ρ',Ending.returned v = .returned v'∧K m' H' nx'∧RX nx nx' ρ ρ'∧Rel E F nx' ρ' H'.get w'∧MR ρ' m' (Go.settle u'') :=
  ⟨hdf,u',rfl,uv,hu,uv,m1.settle,s.H,s.nx,ρ',rfl,h8,hrx,hs'.rel,(hm'.mono hrx.le).settle⟩
 rcases hxx with hx | hx
 ·rw [hx];exact fin
 ·rw [hx];exact fin
theorem cLeaveL_sound {P:Program} {En:CEv} (hcode:CodeKOK P En.code) {E:Env} {F:Nat→Option Obj} {fn:Func} {tmps:Array Value} {R:Ending→World→Prop} {K:MD→Tr AObj→Nat→Prop} :
  ∀ (D:List ADef) (ds:List Deferred) (m:MD) (H:Tr AObj) (nx:Nat) (ρ:Ren) (u:FrameMode) (w:World),DR ρ D ds→MR ρ m u→cLeaveL P En D m H nx K→Rel E F nx ρ H.get w →
   (∀ m' H' nx' ρ' u' w',K m' H' nx'→RX nx nx' ρ ρ'→Rel E F nx' ρ' H'.get w'→MR ρ' m' u'→LeavesIn (FW none) 0 P fn tmps R [] u' w')→LeavesInM (FW none) 0 P fn tmps R ds u w
 | _,_,m,H,nx,ρ,u,w,.nil,hm,h,r,hr=>hr m H nx ρ u w h (RX.refl _ ρ) r hm
 | _,_,m,H,nx,ρ,u,w,.mark id b l ds hb hs,hm,h,r,hr=>by
  obtain ⟨o,ho,h1⟩:=okP_some (show okP (H.get id) fun o=>match o with
    | .dfr true=>cLeaveL P En l m (H.set id (.dfr false)) nx K
    | _=>False from h)
  cases o with
  | dfr op =>
   cases op with
   | false=>exact h1.elim
   | true =>
    obtain ⟨c,hc,hor⟩:=r.ob _ _ b ho hb
    cases hor
    refine ⟨hm.out,.inl ⟨b.b,_,rfl,run_takeDeferred hc,?_⟩⟩
    refine cLeaveL_sound hcode l ds m (H.set id (.dfr false)) nx ρ u _ hs hm h1 ?_ hr
    rw [get_set_fun]
    exact r.put ho hb (.dfr false) (putObj_heap w b.b _ _ hc) rfl rfl rfl
  | _=>exact h1.elim
 | _,_,m,H,nx,ρ,u,w,.call g args va vc l ds hv hs,hm,h,r,hr=>by
  obtain ⟨⟨fn1,c1,hfn,hnm,hbd⟩,hcd⟩:=cDef_sound hcode (show cDef P En g args H nx m (fun m H nx=>cLeaveL P En l m H nx K) from h) r hm
  refine ⟨hm.out,.inr ⟨by simp [FW,Fence.wide],.func g,vc.toArray,g,(va ++ vc).toArray,rfl,?_,fun _ _=>trivial,?_⟩⟩
  ·simp only [invoke,callFunc,Sem.run_bind,run_program,Result.andThen_ok,hfn,hnm,Bool.false_eq_true,if_false,hbd,Option.isNone_some,Sem.run_pure]
   congr 2
   apply Array.ext'
   simp
  ·obtain ⟨hF,hcd⟩:=hcd _ hv
   refine ⟨hF,fun c cs hc hroom=>?_⟩
   obtain ⟨e,u',w',fr,⟨v,m1,H1,nx1,ρ',rfl,h1,hx,hrel,hm'⟩,hcomes⟩:=hcd c cs hc hroom
   exact ⟨_,u',w',fr,cLeaveL_sound hcode l ds m1 H1 nx1 ρ' _ w' (hs.mono hx.le) hm' h1 hrel fun m'' H'' nx'' ρ'' u'' w'' hk hx' hrel' hm''=>hr m'' H'' nx'' ρ'' u'' w'' hk (hx.trans hx') hrel' hm'',hcomes⟩
theorem cFunc_sound {cx:Ctx} (hm:cx.P.follows .mixedOrders=true) {En:CEv} (hcode:CodeKOK cx.P En.code):CallKOK cx.P (cFunc cx En):=by
 intro g args H nx K h E F ρ w r
 obtain ⟨fn,hfn,h1⟩:=okP_some h
 obtain ⟨hnm,h2⟩:=sdA_iff.1 h1
 obtain ⟨c,hc,h3⟩:=okP_some h2
 simp only [fN_eq] at h3
 refine ⟨⟨fn,c,hfn,by simpa using hnm,hc⟩,fun vs hvs=>?_⟩
 refine callsIn_of_wp_marks hfn hc trivial ?_
 have hlen:=hvs.length
 refine code_wp hcode h3 (E:=E) (F:=F) (ρ0:=ρ) (ρ:=ρ) (ro:=none) (fun x s ρ' a' w' hx hn hk hs'=>?_) (Nat.le_refl _) (Keep.refl _ _) ⟨r,setArgs_tr hvs _,by simp [hlen],.nil,.none⟩
 have hrx:RX nx s.nx ρ ρ':=⟨⟨fun i b hb=>(by
  by_cases hi:i < nx
  ·rw [hk.lo i hi];exact hb
  ·rw [r.new i (by omega)] at hb;exact absurd hb (by simp)),hk.st⟩,hk.lo,hn⟩
 unfold cOut at hx
 split at hx
 ·rename_i hD
  have hdr:=hs'.dr
  rw [hD] at hdr
  have hdf:a'.defers=[]:=by generalize a'.defers=ds at hdr;cases hdr;rfl
  have lv:∀ u R,u≠FrameMode.run→LeavesIn (FW none) 0 cx.P fn a'.tmps R [] u w'→LeavesInM (FW none) 0 cx.P fn a'.tmps R a'.defers u w':=fun u R hu h=>by rw [hdf];exact h
  split at hx
  ·obtain ⟨v1,hv1,h8⟩:=okP_some hx
   obtain ⟨u1,hu,hur⟩:=evResults_sound (P:=cx.P) hs'.rel hs'.tr hv1
   exact lv _ _ (by simp) ⟨u1,hu,_,h8,u1,ρ',rfl,hrx,hs'.rel,hur⟩
  ·obtain ⟨v1,hv1,h8⟩:=okP_some hx
   obtain ⟨u1,hu,hur⟩:=evResults_sound (P:=cx.P) hs'.rel hs'.tr hv1
   exact lv _ _ (by simp) ⟨u1,hu,_,h8,u1,ρ',rfl,hrx,hs'.rel,hur⟩
  ·intro u hu
   exact lv _ _ (by simp) ⟨_,hx,u,ρ',rfl,hrx,hs'.rel,hu⟩
  ·exact hx.elim
 ·have leave:∀ (m:MD) (u:FrameMode),MR ρ' m u→cLeave cx.P En fn K m s→LeavesInM (FW none) 0 cx.P fn a'.tmps (EndsK E F nx ρ K) a'.defers u w':=fun m u hmu hL=>by
   refine cLeaveL_sound hcode s.D a'.defers m s.H s.nx ρ' u w' hs'.dr hmu hL hs'.rel fun m1 H1 nx1 ρ'' u'' w'' h6 hle' hrel hm''=>?_
   have hrx2:=hrx.trans hle'
   cases m1 with
   | ret =>
    obtain ⟨v1,hv1,h8⟩:=okP_some h6
    cases hm''
    obtain ⟨u1,hu,hur⟩:=evResults_sound (P:=cx.P) hrel (hs'.tr.mono hle'.le) hv1
    exact ⟨u1,hu,_,h8,u1,ρ'',rfl,hrx2,hrel,hur⟩
   | pan v =>
    cases hm''
    rename_i u1 hu
    exact ⟨_,h6,u1,ρ'',rfl,hrx2,hrel,hu⟩
   | rcd v=>exact h6.elim
  split at hx
  ·exact leave .ret .returning .ret hx
  ·exact leave .ret .returning .ret hx
  ·intro u hu
   exact leave (.pan _) _ (.pan _ u hu) hx
  ·exact hx.elim
theorem cEvs_sound {cx:Ctx} (hm:cx.P.follows .mixedOrders=true) {D:Array Oper→St→KX→Prop} (hD:DrawKOK cx.P D) (htb:TbOK cx.P cx.tb):∀ n,CodeKOK cx.P (cEvs cx D n).code∧CallKOK cx.P (cEvs cx D n).call
 | 0=>⟨fun _ _ _ _ _ h=>h.elim,fun _ _ _ _ _ h=>h.elim⟩
 | n + 1=>by
  obtain ⟨h1,h2⟩:=cEvs_sound hm hD htb n
  exact ⟨cCodeF_sound hD h1 h2 htb,cFunc_sound hm h1⟩
noncomputable def ResM (P:Program) (p:Bool) (c:AV) (r:CR):Prop :=
 match p,r with
 | false,.mk v H _=>okP (frz P H v) fun q=>sdA q.1 (vmP [] c q.2.1)
 | true,.pan v H _=>okP (frz P H v) fun q=>sdA q.1 (vmP [] c q.2.1)
 | _,_=>False
theorem vm_free {ρ ρ2:Ren} (h:∀ b o,ρ.st b=some o→ρ2.st b=some o):SgOK [] ρ ρ2:=⟨fun i j hij=>(by cases hij),h⟩
theorem lift_end {P:Program} {E:Env} {F:Nat→Option Obj} {nx:Nat} {ρ:Ren} {H:Tr AObj} {w:World} (r:Rel E F nx ρ H.get w) {n1:Nat} {ρ1:Ren} {H1:Tr AObj} {w':World} {v' c:AV} {u:Value}
  (hst:∀ b o,ρ.st b=some o→ρ1.st b=some o) (r1:Rel (guardE E ρ) (fun b=>w.heap[b]?) n1 ρ1 H1.get w') (hv:VR ρ1 v' u) (hc:okP (frz P H1 v') fun q=>sdA q.1 (vmP [] c q.2.1)) :
  ∃ ρ',RX nx (nx + 1) ρ ρ'∧Rel E F (nx + 1) ρ' H.get w'∧VR ρ' c u:=by
 obtain ⟨⟨s,c',fz,ids⟩,hfr,h1⟩:=okP_some hc
 obtain ⟨h2,h3⟩:=sdA_iff.1 h1
 simp only at h2;subst h2
 obtain ⟨hids,_,hval⟩:=frz_sound r1 v' c' fz ids hfr
 obtain ⟨hx,r2⟩:=frzR_rel r1 hids
 have hv2:=hval ids hids (fun _ h=>h) u hv
 generalize frzR ρ1 w' ids=ρ2 at hx r2 hv2
 have hst2:∀ b o,ρ.st b=some o→ρ2.st b=some o:=fun b o h=>hx.le.st b o (hst b o h)
 have hle:ρ.le ⟨ρ.nm,ρ2.st⟩:=⟨fun _ _ h=>h,hst2⟩
 have hheap:∀ b o,w.heap[b]? = some o→w'.heap[b]? = some o:=r2.fr
 have hfs:∀ b o o',w.heap[b]? = some o→ρ2.st b=some o'→ρ.st b≠none:=fun b o o' h1 h2=>by
  have:=r2.sf b o o' h1 h2
  simpa [guardE] using this
 refine ⟨⟨ρ.nm,ρ2.st⟩,⟨hle,fun _ _=>rfl,Nat.le_succ _⟩,⟨r2.tape,r2.os,r2.output,fun b o hb=>hheap b o (r.fr b o hb),fun i o b hi hb=>?_,r.dj,r.inj,fun i hi=>r.new i (Nat.le_of_succ_le hi),r.gl,r.bs,r2.st,fun i o b hi hb=>?_,fun b o o' hF hs=>?_⟩,vm_rel (ρ:=ρ2) (ρ2:=⟨ρ.nm,ρ2.st⟩) (vm_free fun _ _ h=>h) c c' u h3 hv2⟩
 ·obtain ⟨oc,h4,h5⟩:=r.ob i o b hi hb
  exact ⟨oc,hheap _ _ h4,h5.mono hle⟩
 ·obtain ⟨oc,h4,h5⟩:=r.ob i o b hi hb
  cases hs:ρ2.st b.b with
  | none=>rfl
  | some o'=>exact absurd (r.sd i o b hi hb) (hfs b.b oc o' h4 hs)
 ·have:=hfs b o o' (r.fr b o hF) hs
  cases hs':ρ.st b with
  | none=>exact absurd hs' this
  | some o''=>exact r.sf b o o'' hF hs'
theorem ent_ok {P:Program} {call:FuncId→List AV→Tr AObj→Nat→KC→Prop} (hcall:CallKOK P call) {g:FuncId} {ent:Tr AObj→List AV→Option Ct} {gl:List (Nat×AObj)} {ng:Nat}
  (hgl:∀ p∈gl,isGl p.2=true)
  (hrun:∀ H args ct,ent H args=some ct→(∀ p∈gl,H.get p.1=some p.2)∧vmL [] args args∧∀ p v,ctOut ct=some (p,v)→call g args (mkH gl) ng (ResM P p v)):EntOK P g ent:=by
 intro H args ct hct p v hout E F ρ w nx H' hG r
 obtain ⟨hH,hargs,hcl⟩:=hrun H args ct hct
 have r0:Rel (guardE E ρ) (fun b=>w.heap[b]?) ng ⟨fun _=>none,ρ.st⟩ (mkH gl).get w :=
  ⟨r.tape,r.os,r.output,fun _ _ h=>h,fun _ _ _ _ h=>(by cases h),fun _ _ _ _ h=>(by cases h),fun _ _ _ _ _ _ _ _ h=>(by cases h),fun _ _=>rfl,
   fun g l hg=>hG g l (hH _ (mkH_get hg)),fun b o hb=>r.fr b o (r.bs b o hb),r.st,fun _ _ _ _ h=>(by cases h),fun b o o' _ hs=>(by simp [guardE];exact fun e=>by rw [show ρ.st b=some o' from hs] at e;cases e)⟩
 have hok:=hcall g args (mkH gl) ng _ (hcl p v hout) _ _ _ w r0
 refine ⟨hok.1,fun vs hvs=>CallsIn.mono (hok.2 vs (vmL_rel (ρ:=ρ) (ρ2:=⟨fun _=>none,ρ.st⟩) (vm_free fun _ _ h=>h) args args vs hargs hvs)) fun e w' he=>?_⟩
 obtain ⟨res,hres,hend⟩:=he
 cases p with
 | false =>
  cases res with
  | mk v' H1 n1 =>
   obtain ⟨u,ρ1,rfl,hx,r1,hv⟩:=hend
   obtain ⟨ρ',h1,h2,h3⟩:=lift_end r hx.le.st r1 hv hres
   exact ⟨u,ρ',rfl,h1,h2,h3⟩
  | pan _ _ _=>exact hres.elim
  | dfr _ _ _ _=>exact hres.elim
 | true =>
  cases res with
  | pan v' H1 n1 =>
   obtain ⟨u,ρ1,rfl,hx,r1,hv⟩:=hend
   obtain ⟨ρ',h1,h2,h3⟩:=lift_end r hx.le.st r1 hv hres
   exact ⟨u,ρ',rfl,h1,h2,h3⟩
  | mk _ _ _=>exact hres.elim
  | dfr _ _ _ _=>exact hres.elim
end Go.Ev
end
section
/- The symbolic layer, part L: regions that draw their order. -/
namespace Go.Ev
theorem Tr.set_self {α:Type} {x:α}:∀ (p:List Bool) (t:Tr α),Tr.gp p t=some x→Tr.sp (some x) p t=t
 | [],.leaf,h=>by cases h
 | [],.node v l r,h=>by
  have h':v=some x:=h
  subst h';rfl
 | b :: p,.leaf,h=>by rw [Tr.gp_leaf] at h;cases h
 | b :: p,.node v l r,h=>by
  cases b with
  | true =>
   have h':Tr.gp p l=some x:=h
   show Tr.node v (Tr.sp (some x) p l) r=_
   rw [set_self p l h']
  | false =>
   have h':Tr.gp p r=some x:=h
   show Tr.node v l (Tr.sp (some x) p r)=_
   rw [set_self p r h']
theorem Tr.set_get {α:Type} {x:α} {t:Tr α} {n:Nat} (h:t.get n=some x):t.set n x=t:=set_self (path n) t h
theorem cWant_same {ops:Array Oper} {T:Tr AV} {o:Oper} {K:Tr AV→Bool→Prop} (h:cWant ops T o K):∃ wd,K T wd∧evWanted ops T o=some wd:=by
 unfold cWant at h
 unfold evWanted
 split at h
 ·rename_i hg
  rw [hg]
  exact ⟨true,h,rfl⟩
 ·rename_i j want hg
  rw [hg]
  obtain ⟨oj,h1,h2⟩:=okP_some h
  obtain ⟨d,h3,h4⟩:=okP_some h2
  obtain ⟨v,h5,h6⟩:=okP_some h4
  simp only [h1]
  split at h6
  ·rename_i b
   obtain ⟨h7,h8⟩:=brP_iff.1 h6
   cases b with
   | true=>exact ⟨_,by have:=h7 rfl;rwa [Tr.set_get h5] at this,by simp [ob,h3,h5]⟩
   | false=>exact ⟨_,by have:=h8 rfl;rwa [Tr.set_get h5] at this,by simp [ob,h3,h5]⟩
  ·refine ⟨false,h6,?_⟩
   simp only [ob,h3,h5]
noncomputable def tgtOf (X:Operand→Option AV) (op:Op):Option Tgt :=
 match op with
 | .call c=>match c.callee with
  | .value f=>ob (X f) fun f=>ob (xsL X c.args.toList) fun xs=>evTarget f xs
  | _=>none
 | _=>none
theorem heavy3_target {P:Program} {call:CallF} {X:Operand→Option AV} {H:Tr AObj} {ni nx:Nat} {op:Op} (h:∀ t,tgtOf X op=some t→call t H nx=none):evHeavy3 P call X H ni nx op=evHeavy3 P noCall X H ni nx op:=by
 cases op <;> try rfl
 rename_i c
 obtain ⟨callee,args,ts⟩:=c
 cases callee with
 | builtin b=>cases b <;> rfl
 | invoke _ _=>rfl
 | value f =>
  simp only [evHeavy3]
  simp only [tgtOf] at h
  cases hf:X f with
  | none=>rfl
  | some fv =>
   rw [hf] at h
   cases hx:xsL X args.toList with
   | none=>rfl
   | some xs =>
    rw [hx] at h
    cases ht:evTarget fv xs with
    | none=>simp [ob,ht]
    | some t =>
     have:=h t (by simp [ob,ht])
     simp [ob,ht,this,noCall]
theorem heavy3_call {P:Program} {call:CallF} {X:Operand→Option AV} {H:Tr AObj} {ni nx:Nat} {op:Op} {t:Tgt} {r:CR} (ht:tgtOf X op=some t) (hr:call t H nx=some r):evHeavy3 P call X H ni nx op=some r:=by
 cases op <;> first | (cases ht;done) | skip
 rename_i c
 obtain ⟨callee,args,ts⟩:=c
 cases callee with
 | builtin b=>cases ht
 | invoke _ _=>cases ht
 | value f =>
  obtain ⟨fv,hf,h1⟩:=ob_some.1 (show (ob (X f) fun f=>ob (xsL X args.toList) fun xs=>evTarget f xs)=some t from ht)
  obtain ⟨xs,hx,h2⟩:=ob_some.1 h1
  simp [evHeavy3,ob,hf,hx,h2,hr]
noncomputable def cDput (N p:Nat) (o:Oper) (A:Nat) (σ:DS) (k:DK) (v:AV) (H:Tr AObj) (nx cc:Nat) (K:DS→Prop):Prop :=
 cPut N σ.T o.dst v fun T=>K (match k with
  | .off=>⟨σ.reads,σ.news,σ.hvs,T,H,nx,cc,σ.pn⟩
  | .pure=>cond (readsH o.op) ⟨⟨p,o,A,σ.T,.pure,v,H,cc⟩ :: σ.reads,σ.news,σ.hvs,T,H,nx,cc,σ.pn⟩ ⟨σ.reads,σ.news,σ.hvs,T,H,nx,cc,σ.pn⟩
  | .new b=>⟨σ.reads,⟨p,o,A,σ.T,.new b,v,H,cc⟩ :: σ.news,σ.hvs,T,H,nx,cc,σ.pn⟩
  | .heavy=>⟨σ.reads,σ.news,⟨p,o,A,σ.T,.heavy,v,H,cc⟩ :: σ.hvs,T,H,nx,cc,σ.pn⟩
  | .dead=>⟨σ.reads,σ.news,σ.hvs,T,H,nx,cc,σ.pn⟩
  | .pan v' H' nx'=>⟨σ.reads,σ.news,σ.hvs,T,H,nx,cc,some ⟨p,A,v',H',nx'⟩⟩)
theorem cDput_sound {N p:Nat} {o:Oper} {A:Nat} {σ:DS} {k:DK} {v:AV} {H:Tr AObj} {nx cc:Nat} {K:DS→Prop} (h:cDput N p o A σ k v H nx cc K):∃ σ',dput N p o A σ k v H nx cc=some σ'∧K σ':=by
 obtain ⟨T,h1,h2⟩:=cPut_sound h
 exact ⟨_,by unfold dput;rw [h1];rfl,h2⟩
noncomputable def cDres (N p:Nat) (o:Oper) (A:Nat) (σ:DS) (K:DS→Prop) (r:CR):Prop :=
 match r with
 | .mk v H nx=>fN (p + 1) fun cc=>cDput N p o A σ .heavy v H nx cc K
 | .pan v H nx=>cDput N p o A σ (.pan v H nx) (.tup []) σ.H σ.nx σ.cc K
 | .dfr _ _ _ _=>False
noncomputable def cDcall (tb:Tbl) (ht:HTbl) (Hv:Tr AObj) (nx:Nat) (K:CR→Prop) (g:FuncId) (args:List AV) (L:Prop):Prop :=
 Option.rec (motive:=fun _=>Prop) (Option.rec (motive:=fun _=>Prop) L (fun ent=>okP (ent Hv args) fun ct=>cCt ct (fun v=>K (.mk v Hv (nx + 1))) (fun v=>K (.pan v Hv (nx + 1)))) (look tb g))
  (fun ent=>okP (ent Hv nx args) fun hc=>cHCt hc (fun v up n=>K (.mk v (setL up Hv) n)) (fun v up n=>K (.pan v (setL up Hv) n))) (lookH ht g)
noncomputable def cDheavy (P:Program) (tb:Tbl) (ht:HTbl) (X:Operand→Option AV) (Hv:Tr AObj) (ni nx:Nat) (op:Op) (K:CR→Prop):Prop :=
 Option.rec (motive:=fun _=>Prop)
  (Option.rec (motive:=fun _=>Prop) (okP (evHeavy3 P noCall X Hv ni nx op) K)
   (fun t=>match t with
    | .fn g args=>cDcall tb ht Hv nx K g args (okP (evHeavy3 P noCall X Hv ni nx op) K)
    | .yld _ _=>False) (tgtOf X op))
  (fun r=>sdA r.1 (K (.mk r.2.1 r.2.2 nx))) (sHeavy P X Hv ni op)
theorem cDheavy_sound {P:Program} {tb:Tbl} {ht:HTbl} {X:Operand→Option AV} {Hv:Tr AObj} {ni nx:Nat} {op:Op} {K:CR→Prop} (h:cDheavy P tb ht X Hv ni nx op K):∃ r,evHeavy P (callT tb ht) X Hv ni nx op=some r∧K r:=by
 unfold cDheavy at h
 cases h1:sHeavy P X Hv ni op with
 | some r =>
  rw [h1] at h
  obtain ⟨h2,h3⟩:=sdA_iff.1 h
  obtain ⟨b,v,H'⟩:=r
  simp only at h2;subst h2
  exact ⟨_,sHeavy_ev h1,h3⟩
 | none =>
  rw [h1] at h
  cases h2:tgtOf X op with
  | none =>
   rw [h2] at h
   obtain ⟨r,h3,h4⟩:=okP_some h
   exact ⟨r,heavy3_ev h1 (by rw [heavy3_target (fun t ht=>by rw [h2] at ht;cases ht)];exact h3),h4⟩
  | some t =>
   rw [h2] at h
   cases t with
   | yld _ _=>exact h.elim
   | fn g args =>
    have h':cDcall tb ht Hv nx K g args (okP (evHeavy3 P noCall X Hv ni nx op) K):=h
    unfold cDcall at h'
    cases hlh:lookH ht g with
    | some ent =>
     rw [hlh] at h'
     obtain ⟨hc,h4,h5⟩:=okP_some h'
     obtain ⟨p,v,up,n,h6,h7⟩:=cHCt_out h5
     have hcl:callT tb ht (.fn g args) Hv nx=some (outCR p v (setL up Hv) n):=by
      show Option.rec (motive:=fun _=>Option CR) (ob (look tb g) fun ent=>ob (ent Hv args) fun ct=>ob (ctOut ct) fun o=>some (outCR o.1 o.2 Hv (nx + 1)))
       (fun ent=>ob (ent Hv nx args) fun hc=>ob (hOut hc) fun o=>some (outCR o.1 o.2.1 (setL o.2.2.1 Hv) o.2.2.2)) (lookH ht g)=_
      rw [hlh]
      show (ob (ent Hv nx args) fun hc=>ob (hOut hc) fun o=>some (outCR o.1 o.2.1 (setL o.2.2.1 Hv) o.2.2.2))=_
      rw [h4]
      show (ob (hOut hc) fun o=>some (outCR o.1 o.2.1 (setL o.2.2.1 Hv) o.2.2.2))=_
      rw [h6];rfl
     refine ⟨_,heavy3_ev h1 (heavy3_call h2 hcl),?_⟩
     cases p with
     | false=>exact h7
     | true=>exact h7
    | none =>
    rw [hlh] at h'
    have hnone:callT tb ht (.fn g args) Hv nx=(ob (look tb g) fun ent=>ob (ent Hv args) fun ct=>ob (ctOut ct) fun o=>some (outCR o.1 o.2 Hv (nx + 1))):=by
     show Option.rec (motive:=fun _=>Option CR) (ob (look tb g) fun ent=>ob (ent Hv args) fun ct=>ob (ctOut ct) fun o=>some (outCR o.1 o.2 Hv (nx + 1)))
      (fun ent=>ob (ent Hv nx args) fun hc=>ob (hOut hc) fun o=>some (outCR o.1 o.2.1 (setL o.2.2.1 Hv) o.2.2.2)) (lookH ht g)=_
     rw [hlh]
    cases h3:look tb g with
    | none =>
     rw [h3] at h'
     obtain ⟨r,h4,h5⟩:=okP_some h'
     exact ⟨r,heavy3_ev h1 (by
      rw [heavy3_target (fun t ht'=>by
       rw [h2] at ht';injection ht' with ht';subst ht'
       rw [hnone,h3];rfl)]
      exact h4),h5⟩
    | some ent =>
     rw [h3] at h'
     obtain ⟨ct,h4,h5⟩:=okP_some h'
     obtain ⟨p,v,h6,h7⟩:=cCt_out h5
     have hc:callT tb ht (.fn g args) Hv nx=some (outCR p v Hv (nx + 1)):=by
      rw [hnone,h3]
      show (ob (ent Hv args) fun ct=>ob (ctOut ct) fun o=>some (outCR o.1 o.2 Hv (nx + 1)))=_
      rw [h4]
      show (ob (ctOut ct) fun o=>some (outCR o.1 o.2 Hv (nx + 1)))=_
      rw [h6];rfl
     refine ⟨_,heavy3_ev h1 (heavy3_call h2 hc),?_⟩
     cases p with
     | false=>exact h7
     | true=>exact h7
noncomputable def cDstep (P:Program) (tb:Tbl) (ht:HTbl) (ops:Array Oper) (N r0:Nat) (AT:Tr Nat) (p:Nat) (o:Oper) (σ:DS) (K:DS→Prop):Prop :=
 okP (AT.get p) fun A=>cond (isDead σ.pn A) (cDput N p o A σ .dead (.tup []) σ.H σ.nx σ.cc K) (cWant ops σ.T o fun T wd=>(fun σ:DS=>cond wd
  (Option.rec (motive:=fun _=>Prop) (cIdx P (opd σ.T) o.op (fun v=>cDput N p o A σ .pure v σ.H σ.nx σ.cc K) (Option.rec (motive:=fun _=>Prop)
   (fN (r0 + p) fun ni=>Option.rec (motive:=fun _=>Prop) (Option.rec (motive:=fun _=>Prop)
    (sdA (allL (fun h=>Go.Ev.tb A h.i) σ.hvs) (sdA σ.pn.isNone (cDheavy P tb ht (opd σ.T) (viewF σ.news σ.hvs A p r0 σ.H) ni σ.nx o.op (cDres N p o A σ K))))
    (fun q=>cDput N p o A σ (.new q.2) q.1 σ.H σ.nx σ.cc K) (evNew3 P (opd σ.T) ni o.op))
    (fun q=>sdA q.1 (cDput N p o A σ (.new q.2.2) q.2.1 σ.H σ.nx σ.cc K)) (sNew P (opd σ.T) ni o.op))
   (fun v=>cDput N p o A σ .pure v σ.H σ.nx σ.cc K) (evPure3 P (viewF σ.news σ.hvs A p r0 σ.H) (opd σ.T) o.op)))
   (fun r=>sdA r.1 (cDput N p o A σ .pure r.2 σ.H σ.nx σ.cc K)) (sPure P (viewF σ.news σ.hvs A p r0 σ.H) (opd σ.T) o.op))
  (cDput N p o A σ .off (.tup []) σ.H σ.nx σ.cc K)) ⟨σ.reads,σ.news,σ.hvs,T,σ.H,σ.nx,σ.cc,σ.pn⟩)
theorem cDstep_sound {P:Program} {tb:Tbl} {ht:HTbl} {ops:Array Oper} {N r0:Nat} {AT:Tr Nat} {p:Nat} {o:Oper} {σ:DS} {K:DS→Prop} (h:cDstep P tb ht ops N r0 AT p o σ K):∃ σ',dstep P (callT tb ht) ops N r0 AT p o σ=some σ'∧K σ':=by
 obtain ⟨A,hA,h1⟩:=okP_some h
 unfold dstep
 rw [hA]
 show ∃ σ',(cond (isDead σ.pn A) (dput N p o A σ .dead (.tup []) σ.H σ.nx σ.cc) <| ob (evWanted ops σ.T o) fun wd=>cond wd _ _)=some σ'∧K σ'
 cases hd:isDead σ.pn A with
 | true =>
  rw [hd,cond_true] at h1
  obtain ⟨σ',h2,h3⟩:=cDput_sound h1
  exact ⟨σ',h2,h3⟩
 | false =>
  rw [hd,cond_false] at h1
  obtain ⟨wd,h2,hw⟩:=cWant_same h1
  rw [cond_false,hw]
  cases wd with
  | false =>
   have h2:cDput N p o A σ .off (.tup []) σ.H σ.nx σ.cc K:=h2
   obtain ⟨σ',h3,h4⟩:=cDput_sound h2
   refine ⟨σ',?_,h4⟩
   show dput N p o A σ .off (.tup []) σ.H σ.nx σ.cc=some σ'
   exact h3
  | true =>
   have h2:(Option.rec (motive:=fun _=>Prop) (cIdx P (opd σ.T) o.op (fun v=>cDput N p o A σ .pure v σ.H σ.nx σ.cc K) (Option.rec (motive:=fun _=>Prop)
    (fN (r0 + p) fun ni=>Option.rec (motive:=fun _=>Prop) (Option.rec (motive:=fun _=>Prop)
     (sdA (allL (fun h=>Go.Ev.tb A h.i) σ.hvs) (sdA σ.pn.isNone (cDheavy P tb ht (opd σ.T) (viewF σ.news σ.hvs A p r0 σ.H) ni σ.nx o.op (cDres N p o A σ K))))
     (fun q=>cDput N p o A σ (.new q.2) q.1 σ.H σ.nx σ.cc K) (evNew3 P (opd σ.T) ni o.op))
     (fun q=>sdA q.1 (cDput N p o A σ (.new q.2.2) q.2.1 σ.H σ.nx σ.cc K)) (sNew P (opd σ.T) ni o.op))
    (fun v=>cDput N p o A σ .pure v σ.H σ.nx σ.cc K) (evPure3 P (viewF σ.news σ.hvs A p r0 σ.H) (opd σ.T) o.op)))
    (fun r=>sdA r.1 (cDput N p o A σ .pure r.2 σ.H σ.nx σ.cc K)) (sPure P (viewF σ.news σ.hvs A p r0 σ.H) (opd σ.T) o.op)):=h2
   show ∃ σ',(Option.rec (motive:=fun _=>Option DS)
    (fN (r0 + p) fun ni=>Option.rec (motive:=fun _=>Option DS)
     (gd (allL (fun h=>Go.Ev.tb A h.i) σ.hvs) (gd σ.pn.isNone <| ob (evHeavy P (callT tb ht) (opd σ.T) (viewF σ.news σ.hvs A p r0 σ.H) ni σ.nx o.op) fun r =>
      CR.rec (motive:=fun _=>Option DS) (fun v H nx=>fN (p + 1) fun cc=>dput N p o A σ .heavy v H nx cc) (fun v H nx=>dput N p o A σ (.pan v H nx) (.tup []) σ.H σ.nx σ.cc) (fun _ _ _ _=>none) r))
     (fun q=>dput N p o A σ (.new q.2) q.1 σ.H σ.nx σ.cc) (evNew P (opd σ.T) ni o.op))
    (fun v=>dput N p o A σ .pure v σ.H σ.nx σ.cc) (evPure2 P (viewF σ.news σ.hvs A p r0 σ.H) (opd σ.T) o.op))=some σ'∧K σ'
   cases h3:sPure P (viewF σ.news σ.hvs A p r0 σ.H) (opd σ.T) o.op with
   | some r =>
    rw [h3] at h2
    obtain ⟨h4,h5⟩:=sdA_iff.1 h2
    obtain ⟨b,v⟩:=r
    simp only at h4;subst h4
    rw [sPure_ev h3]
    obtain ⟨σ',h6,h7⟩:=cDput_sound h5
    exact ⟨σ',h6,h7⟩
   | none =>
   rw [h3] at h2
   rcases cIdx_sound (H:=viewF σ.news σ.hvs A p r0 σ.H) h2 with h2 | ⟨v,hv,hk⟩
   rotate_left
   ·rw [pure3_ev h3 hv]
    obtain ⟨σ',h6,h7⟩:=cDput_sound hk
    exact ⟨σ',h6,h7⟩
   cases h4:evPure3 P (viewF σ.news σ.hvs A p r0 σ.H) (opd σ.T) o.op with
   | some v =>
    rw [h4] at h2
    rw [pure3_ev h3 h4]
    obtain ⟨σ',h6,h7⟩:=cDput_sound h2
    exact ⟨σ',h6,h7⟩
   | none =>
   rw [h4] at h2
   have e1:evPure2 P (viewF σ.news σ.hvs A p r0 σ.H) (opd σ.T) o.op=none:=by unfold evPure2;rw [h3];exact h4
   rw [e1]
   simp only [fN_eq] at h2 ⊢
   cases h5:sNew P (opd σ.T) (r0 + p) o.op with
   | some r =>
    rw [h5] at h2
    obtain ⟨h6,h7⟩:=sdA_iff.1 h2
    obtain ⟨b,v,ob'⟩:=r
    simp only at h6;subst h6
    rw [sNew_ev h5]
    obtain ⟨σ',h6,h7⟩:=cDput_sound h7
    exact ⟨σ',h6,h7⟩
   | none =>
   rw [h5] at h2
   cases h6:evNew3 P (opd σ.T) (r0 + p) o.op with
   | some q =>
    rw [h6] at h2
    rw [new3_ev h5 h6]
    obtain ⟨σ',h6,h7⟩:=cDput_sound h2
    exact ⟨σ',h6,h7⟩
   | none =>
   rw [h6] at h2
   have e2:evNew P (opd σ.T) (r0 + p) o.op=none:=by unfold evNew;rw [h5];exact h6
   rw [e2]
   obtain ⟨h7,h8⟩:=sdA_iff.1 h2
   obtain ⟨h9,h10⟩:=sdA_iff.1 h8
   obtain ⟨r,h11,h12⟩:=cDheavy_sound h10
   simp only [h7,h9,h11,gd,cond_true,ob]
   cases r with
   | mk v H nx =>
    have h12:fN (p + 1) (fun cc=>cDput N p o A σ .heavy v H nx cc K):=h12
    rw [fN_eq] at h12
    obtain ⟨σ',h6,h7⟩:=cDput_sound h12
    exact ⟨σ',h6,h7⟩
   | pan v H nx =>
    obtain ⟨σ',h6,h7⟩:=cDput_sound (show cDput N p o A σ (.pan v H nx) (.tup []) σ.H σ.nx σ.cc K from h12)
    exact ⟨σ',h6,h7⟩
   | dfr _ _ _ _=>exact h12.elim
noncomputable def cDrun (P:Program) (tb:Tbl) (ht:HTbl) (ops:Array Oper) (N r0:Nat) (AT:Tr Nat) (K:DS→Prop) (l:List Oper):Nat→DS→Prop :=
 List.rec (motive:=fun _=>Nat→DS→Prop) (fun _ σ=>K σ)
  (fun o _ ih p σ=>cDstep P tb ht ops N r0 AT p o σ fun σ'=>fN (p + 1) fun q=>ih q σ') l
theorem cDrun_sound {P:Program} {tb:Tbl} {ht:HTbl} {ops:Array Oper} {N r0:Nat} {AT:Tr Nat} {K:DS→Prop}:∀ {l:List Oper} {p:Nat} {σ:DS},cDrun P tb ht ops N r0 AT K l p σ→∃ σ',drun P (callT tb ht) ops N r0 AT l p σ=some σ'∧K σ'
 | [],p,σ,h=>⟨σ,rfl,h⟩
 | o :: l,p,σ,h=>by
  obtain ⟨σ1,h1,h2⟩:=cDstep_sound (show cDstep P tb ht ops N r0 AT p o σ (fun σ'=>fN (p + 1) fun q=>cDrun P tb ht ops N r0 AT K l q σ') from h)
  rw [fN_eq] at h2
  obtain ⟨σ',h3,h4⟩:=cDrun_sound h2
  refine ⟨σ',?_,h4⟩
  show (ob (dstep P (callT tb ht) ops N r0 AT p o σ) fun σ'=>fN (p + 1) fun q=>drun P (callT tb ht) ops N r0 AT l q σ')=_
  rw [h1]
  show fN (p + 1) (fun q=>drun P (callT tb ht) ops N r0 AT l q σ1)=_
  rw [fN_eq];exact h3
noncomputable def cPureP (P:Program) (H:Tr AObj) (X:Operand→Option AV) (op:Op) (K:AV→Prop):Prop :=
 Option.rec (motive:=fun _=>Prop) (okP (evPure3 P H X op) K) (fun r=>sdA r.1 (K r.2)) (sPure P H X op)
theorem cPureP_sound {P:Program} {H:Tr AObj} {X:Operand→Option AV} {op:Op} {K:AV→Prop} (h:cPureP P H X op K):∃ v,evPure2 P H X op=some v∧K v:=by
 unfold cPureP at h
 cases h1:sPure P H X op with
 | some r =>
  rw [h1] at h
  obtain ⟨h2,h3⟩:=sdA_iff.1 h
  obtain ⟨b,v⟩:=r
  simp only at h2;subst h2
  exact ⟨v,sPure_ev h1,h3⟩
 | none =>
  rw [h1] at h
  obtain ⟨v,h2,h3⟩:=okP_some h
  exact ⟨v,pure3_ev h1 h2,h3⟩
noncomputable def cRead (P:Program) (σ:DS) (r0:Nat) (r:DRec) (c:Nat) (H:Tr AObj):Prop :=
 cond (Nat.beq c r.cc) True (cond (lateB σ.hvs c r.i) (cond (allL (fun h=>cond (tb r.A h.i) (Nat.blt h.i c) true) σ.hvs)
  (cPureP P (viewF σ.news σ.hvs r.A c r0 H) (opd r.T) r.o.op fun v=>v=r.v) True) True)
theorem cRead_sound {P:Program} {σ:DS} {r0:Nat} {r:DRec} {c:Nat} {H:Tr AObj} (h:cRead P σ r0 r c H):readOK P σ r0 r c H=true:=by
 unfold cRead at h
 unfold readOK
 cases h1:Nat.beq c r.cc with
 | true=>rfl
 | false =>
  rw [h1,cond_false] at h
  rw [cond_false]
  cases h2:lateB σ.hvs c r.i with
  | false=>rfl
  | true =>
   rw [h2,cond_true] at h
   rw [cond_true]
   cases h3:allL (fun h=>cond (tb r.A h.i) (Nat.blt h.i c) true) σ.hvs with
   | false=>rfl
   | true =>
    rw [h3,cond_true] at h
    rw [cond_true]
    obtain ⟨v,h4,h5⟩:=cPureP_sound h
    rw [h4]
    exact sameAV_eq.2 h5
noncomputable def allP {α:Type} (f:α→Prop) (l:List α):Prop:=List.rec (motive:=fun _=>Prop) True (fun a _ ih=>f a∧ih) l
theorem allP_allL {α:Type} {f:α→Prop} {g:α→Bool} (hfg:∀ a,f a→g a=true):∀ {l:List α},allP f l→allL g l=true
 | [],_=>rfl
 | a :: l,h=>by
  have h':f a∧allP f l:=h
  show cond (g a) (allL g l) false=true
  rw [hfg a h'.1];exact allP_allL hfg h'.2
noncomputable def cCand (P:Program) (σ:DS) (r0:Nat) (c:Nat) (H:Tr AObj):Prop:=allP (fun r=>cRead P σ r0 r c H) σ.reads∧sdA (allL (fun r=>newOK σ r0 r c H) σ.news) True
theorem cCand_sound {P:Program} {σ:DS} {r0:Nat} {c:Nat} {H:Tr AObj} (h:cCand P σ r0 c H):candOK P σ r0 c H=true:=by
 unfold candOK
 rw [allP_allL (fun r hr=>cRead_sound hr) h.1]
 exact (sdA_iff.1 h.2).1
noncomputable def cChk (P:Program) (σ:DS) (r0:Nat) (H0:Tr AObj):Prop:=cCand P σ r0 0 H0∧allP (fun h=>cCand P σ r0 h.cc h.H) σ.hvs
theorem cChk_sound {P:Program} {σ:DS} {r0:Nat} {H0:Tr AObj} (h:cChk P σ r0 H0):dchk P σ r0 H0=true:=by
 unfold dchk
 rw [cCand_sound h.1]
 exact allP_allL (fun r hr=>cCand_sound hr) h.2
noncomputable def cDraw (P:Program) (tb:Tbl) (ht:HTbl) (ops:Array Oper) (s:St) (K:KX):Prop :=
 okP (dstat ops) fun AT=>fN ops.size fun n=>fN (s.nx + n) fun nx0=>cDrun P tb ht ops s.N s.nx AT (fun σ=>cChk P σ s.nx s.H ∧
  (Option.rec (motive:=fun _=>Prop) (K .nrm ⟨s.N,σ.T,viewAll σ.news σ.hvs n s.nx σ.H,σ.nx,s.ro,s.D⟩)
   (fun q=>K (.pan q.v) ⟨s.N,cutT q.A ops.toList 0 σ.T,q.H,q.nx,s.ro,s.D⟩) σ.pn)) ops.toList 0 ⟨[],[],[],s.T,s.H,nx0,0,none⟩
theorem cDraw_sound {P:Program} {tb:Tbl} {ht:HTbl} {ops:Array Oper} {s:St} {K:KX} (h:cDraw P tb ht ops s K):∃ x s',evDraw P (callT tb ht) ops s=some (.mk x s')∧K x s':=by
 obtain ⟨AT,h1,h2⟩:=okP_some h
 simp only [fN_eq] at h2
 obtain ⟨σ,h3,h4,h5⟩:=cDrun_sound h2
 unfold evDraw
 simp only [h1,h3,fN_eq,cChk_sound h4,ob,gd,cond_true]
 cases hp:σ.pn with
 | none=>rw [hp] at h5;exact ⟨_,_,rfl,h5⟩
 | some q=>rw [hp] at h5;exact ⟨_,_,rfl,h5⟩
theorem cDraw_ok {P:Program} (hm:P.follows .mixedOrders=true) {tb:Tbl} {ht:HTbl} (htb:TbOK P tb) (hht:HtOK P ht):DrawKOK P (cDraw P tb ht):=by
 intro ops s K h id E F n0 ρ0 ρ a w ro Q hq hn hk hs
 obtain ⟨x,s',h1,h2⟩:=cDraw_sound h
 exact drawOK hm (callT tb ht) ops s x s' (callT_ok htb hht) h1 id E F ρ a w ro Q hs fun ρ' a' w' hx hs'=>hq x s' ρ' a' w' h2 (Nat.le_trans hn hx.nn) (hk.trans (Keep.of_rx hx hn)) hs'
end Go.Ev
end
section
/- The symbolic layer, part LG: a region that draws its order, and fills a map of its own. -/
namespace Go.Ev
structure DEnd (t:DTab) (ops:Array Oper) (s:St) (σ:DS):Prop where
 T:t.Tin ops.size=σ.T
 nx:t.nxs ops.size=σ.nx
 nrm:σ.pn=none→(∀ i,i < ops.size→¬ t.isPan i)∧∀ x o,(viewAll σ.news σ.hvs ops.size s.nx σ.H).get x=some o→(∃ j,j < ops.size∧t.k j = .new o∧t.late ops.size ops.size j∧x=s.nx + j)∨(t.G ops.size).get x=some o
 pan:∀ q,σ.pn=some q→q.p < ops.size∧t.isPan q.p∧(∀ i v' H'' nx',i < ops.size→t.k i = .pan v' H'' nx'→i=q.p∧v'=q.v∧H''=q.H∧nx'=q.nx) ∧
  ∀ d b,(cutT q.A ops.toList 0 σ.T).get d=some b→(t.Tin ops.size).get d=some b∧∀ k,k < ops.size→(t.oo k).dst=some d→t.anc q.p k
theorem drun_tab {P:Program} {call:CallF} {ops:Array Oper} {s:St} {AT:Tr Nat} {σ:DS} (hst:dstat ops=some AT)
  (hrun:drun P call ops s.N s.nx AT ops.toList 0 ⟨[],[],[],s.T,s.H,s.nx + ops.size,0,none⟩=some σ) (hchk:dchk P σ s.nx s.H=true) :
  ∃ t,DOK t P call ops s∧(∀ i,t.oo i=(ops[i]?).getD default)∧DEnd t ops s σ:=by
 have hoo:∀ i,i < ops.size→ops[i]? = some ((ops[i]?).getD default):=fun i hi=>by rw [Array.getElem?_eq_getElem hi];rfl
 have st:=dstat_sound hoo hst
 obtain ⟨f,g,f0,fn,hstep⟩:=drun_sound _ _ _ _ hrun
 rw [show 0 + ops.toList.length=ops.size by simp] at fn
 have step:∀ i,i < ops.size→DStep P call ops s.N s.nx (maskAt AT i) i ((ops[i]?).getD default) (f i) (f (i + 1)) (g i):=fun i hi=>by
  have:=hstep i ((ops[i]?).getD default) (by rw [Array.getElem?_toList];exact hoo i hi)
  rwa [Nat.zero_add] at this
 let t:DTab:=⟨fun i=>(ops[i]?).getD default,maskAt AT,fun i=>(f i).T,fun i=>(g i).k,fun i=>(g i).v,fun i=>(f i).H,fun i=>(f i).nx⟩
 have hvC:∀ p,p≤ops.size→∀ i,i < p→(g i).k = .heavy→g i∈(f p).hvs:=by
  intro p
  induction p with
  | zero=>intro _ i hi;omega
  | succ p ih =>
   intro hp i hi hk
   by_cases hip:i=p
   ·subst hip;exact (step i hp).hv hk
   ·exact (step p hp).hvk _ (ih (by omega) i (by omega) hk)
 have hvS:∀ p,p≤ops.size→∀ r∈(f p).hvs,∃ i,i < p∧r=g i∧(g i).k = .heavy:=by
  intro p
  induction p with
  | zero=>intro _ r hr;rw [f0] at hr;cases hr
  | succ p ih =>
   intro hp r hr
   rcases (step p hp).hvS r hr with hr | ⟨rfl,hk⟩
   ·obtain ⟨i,h1,h2⟩:=ih (by omega) r hr
    exact ⟨i,by omega,h2⟩
   ·exact ⟨p,by omega,rfl,hk⟩
 have nwC:∀ p,p≤ops.size→∀ i b,i < p→(g i).k = .new b→g i∈(f p).news:=by
  intro p
  induction p with
  | zero=>intro _ i b hi;omega
  | succ p ih =>
   intro hp i b hi hk
   by_cases hip:i=p
   ·subst hip;exact (step i hp).nw b hk
   ·exact (step p hp).nwk _ (ih (by omega) i b (by omega) hk)
 have nwS:∀ p,p≤ops.size→∀ r∈(f p).news,∃ i,i < p∧r=g i∧∃ b,(g i).k = .new b:=by
  intro p
  induction p with
  | zero=>intro _ r hr;rw [f0] at hr;cases hr
  | succ p ih =>
   intro hp r hr
   rcases (step p hp).nwS r hr with hr | ⟨rfl,hk⟩
   ·obtain ⟨i,h1,h2⟩:=ih (by omega) r hr
    exact ⟨i,by omega,h2⟩
   ·exact ⟨p,by omega,rfl,hk⟩
 have rdC:∀ p,p≤ops.size→∀ i,i < p→(g i).k = .pure→readsH ((ops[i]?).getD default).op=true→g i∈(f p).reads:=by
  intro p
  induction p with
  | zero=>intro _ i hi;omega
  | succ p ih =>
   intro hp i hi hk hr
   by_cases hip:i=p
   ·subst hip;exact (step i hp).rd hk hr
   ·exact (step p hp).rdk _ (ih (by omega) i (by omega) hk hr)
 have pnS:∀ p,p≤ops.size→∀ q,(f p).pn=some q→q.p < p∧(g q.p).k = .pan q.v q.H q.nx∧q.A=maskAt AT q.p:=by
  intro p
  induction p with
  | zero=>intro _ q hq;rw [f0] at hq;cases hq
  | succ p ih =>
   intro hp q hq
   have hpk:=(step p hp).pk
   rw [hq] at hpk
   have old:(f p).pn=some q→q.p < p + 1∧(g q.p).k = .pan q.v q.H q.nx∧q.A=maskAt AT q.p:=fun h=>by
    obtain ⟨i1,i2,i3⟩:=ih (by omega) q h
    exact ⟨by omega,i2,i3⟩
   split at hpk
   ·rename_i v H nx hk
    injection hpk with hpk;subst hpk
    exact ⟨Nat.lt_succ_self p,hk,rfl⟩
   ·exact old hpk.symm
 have pnK:∀ i v H nx,i < ops.size→(g i).k = .pan v H nx→∀ p,i < p→p≤ops.size→(f p).pn≠none:=by
  intro i v H nx hi hk p
  induction p with
  | zero=>intro h;omega
  | succ p ih =>
   intro hip hp
   have hpk:=(step p hp).pk
   by_cases he:i=p
   ·subst he
    rw [hk] at hpk
    rw [hpk];simp
   ·have:=ih (by omega) (by omega)
    split at hpk
    ·rw [hpk];simp
    ·rw [hpk];exact this
 have hcc:∀ p,p≤ops.size→t.cand ops.size (f p).cc∧(f p).cc≤p∧∀ q,t.hv ops.size q→(q < (f p).cc↔q < p):=by
  intro p
  induction p with
  | zero =>
   intro _
   rw [f0]
   exact ⟨.inl rfl,Nat.le_refl _,fun q _=>Iff.rfl⟩
  | succ p ih =>
   intro hp
   obtain ⟨i1,i2,i3⟩:=ih (by omega)
   have hk:=(step p hp).kind
   by_cases hh:(g p).k = .heavy
   ·rw [hh] at hk
    have e:(f (p + 1)).cc=p + 1:=hk.2.1
    rw [e]
    exact ⟨.inr ⟨p,⟨hp,hh⟩,rfl⟩,Nat.le_refl _,fun q _=>Iff.rfl⟩
   ·have e:(f (p + 1)).cc=(f p).cc:=by
     split at hk
     ·exact hk.2.2.2.2
     ·exact hk.2.2.2.1
     ·exact hk.2.2.2.1
     ·rename_i hx;exact absurd hx hh
     ·exact hk.2.2.2.2
     ·exact hk.2.2.2.1
    rw [e]
    refine ⟨i1,by omega,fun q hqv=>?_⟩
    rw [i3 q hqv]
    have:q≠p:=fun e=>by subst e;exact hh hqv.2
    omega
 have late_of:∀ p,p≤ops.size→∀ c j,(c≤p∨p=ops.size)→lateB (f p).hvs c j=true→t.late ops.size c j:=fun p hp c j hcp hl q hqv hqc han=>by
  have hqp:q < p:=by
   rcases hcp with h | h
   ·omega
   ·rw [h];exact hqv.1
  have:=lateB_iff hl (g q) (hvC p hp q hqp hqv.2) (by rw [(step q hqv.1).ei];exact hqc)
  rw [(step q hqv.1).eA] at this
  unfold DTab.anc at han
  rw [show t.A q=maskAt AT q from rfl,this] at han
  cases han
 have lateB_of':∀ p,p≤ops.size→∀ c j,t.late ops.size c j→lateB (f p).hvs c j=true:=fun p hp c j hl=>lateB_of fun r hr hc=>by
  obtain ⟨q,hq,rfl,hk⟩:=hvS p hp r hr
  have hqn:q < ops.size:=by omega
  rw [(step q hqn).ei] at hc
  have:=hl q ⟨hqn,hk⟩ hc
  unfold DTab.anc at this
  rw [(step q hqn).eA]
  simpa using this
 have sub_of:∀ p,p≤ops.size→∀ i c H,(c≤p∨p=ops.size)→(∀ x o,H.get x=some o→(t.G c).get x=some o)→t.sub ops.size s.nx (viewF (f p).news (f p).hvs (maskAt AT i) c s.nx H) i c:=by
  intro p hp i c H hcp hG x o hx
  rcases viewF_some hx with ⟨r,hr,h1,h2,h3,h4⟩ | h
  ·obtain ⟨j,hj,rfl,b,hb⟩:=nwS p hp r hr
   have hjn:j < ops.size:=by omega
   rw [(step j hjn).ei] at h2 h3 h4
   exact .inl ⟨j,h2,h1,late_of p hp c j hcp h3,h4⟩
  ·exact .inr (hG x o h)
 have cands:∀ c,t.cand ops.size c→candOK P σ s.nx c (t.G c)=true:=by
  obtain ⟨c1,c2⟩:=cond_and hchk
  rintro c (rfl | ⟨q,hqv,rfl⟩)
  ·have:t.G 0=s.H:=by show (f 0).H=s.H;rw [f0]
   rw [this];exact c1
  ·have hm:=hvC ops.size (Nat.le_refl _) q hqv.1 hqv.2
   rw [fn] at hm
   have:=allL_all c2 _ hm
   have hk:=(step q hqv.1).kind
   rw [show (g q).k = .heavy from hqv.2] at hk
   rw [(step q hqv.1).ec,show (f (q + 1)).cc=q + 1 from hk.2.1,(step q hqv.1).eH] at this
   exact this
 have ok:DOK t P call ops s:=by
  refine ⟨hoo,fun i j hi hj=>st.anc i j hi hj,st.edge,by show (f 0).T=_;rw [f0],fun i hi=>(step i hi).put,st.dst,fun i d k hi hk hl hd hne=>st.look i d k hi hk hl hd hne,
   by show (f 0).H=_;rw [f0],by show (f 0).nx=_;rw [f0],fun i hi=>?_⟩
  have hk:=(step i hi).kind
  unfold DTab.kindOK
  show (match (g i).k with
   | .off=>_
   | .pure=>_
   | .new o=>_
   | .heavy=>_
   | .dead=>_
   | .pan v H nx=>_)
  split at hk
  ·rename_i e
   rw [e]
   exact ⟨hk.1,hk.2.1,hk.2.2.1,hk.2.2.2.1⟩
  ·rename_i e
   rw [e]
   refine ⟨hk.1,⟨hk.2.1,hk.2.2.1⟩,fun c hc hl hpre=>?_⟩
   have hpure:=hk.2.2.2.2
   cases hrd:readsH ((ops[i]?).getD default).op with
   | false=>exact ⟨.leaf,fun x o hx=>(by rw [Tr.get_leaf] at hx;cases hx),(evPure2_noread hrd).trans hpure⟩
   | true =>
    have hm:=rdC ops.size (Nat.le_refl _) i hi e hrd
    rw [fn] at hm
    have hcand:=(cond_and (cands c hc)).1
    have hr:=allL_all hcand _ hm
    unfold readOK at hr
    cases hb:Nat.beq c (g i).cc with
    | true =>
     have hce:c=(f i).cc:=by
      rw [Nat.eq_of_beq_eq_true hb,(step i hi).ec];exact hk.2.2.2.1
     obtain ⟨_,i2,i3⟩:=hcc i (by omega)
     refine ⟨_,?_,hpure⟩
     have hsub:=sub_of i (by omega) i i (f i).H (.inl (Nat.le_refl _)) (fun x o h=>h)
     intro x o hx
     rcases hsub x o hx with ⟨j,h1,h2,h3,h4⟩ | h
     ·exact .inl ⟨j,h1,h2,fun q hqv hqc=>h3 q hqv ((i3 q hqv).1 (by rw [← hce];exact hqc)),h4⟩
     ·refine .inr ?_
      have hG:∀ d p,p + d≤i→(∀ q,t.hv ops.size q→(q < p↔q < p + d))→t.G (p + d)=t.G p:=by
       intro d
       induction d with
       | zero=>intro p _ _;rfl
       | succ d ih =>
        intro p hpd hq
        have hnh:(g (p + d)).k≠.heavy:=fun hk'=>by
         have:=hq (p + d) ⟨by omega,hk'⟩
         omega
        have hst:(f (p + d + 1)).H=(f (p + d)).H:=by
         have hk':=(step (p + d) (by omega)).kind
         split at hk'
         ·exact hk'.2.2.1
         ·exact hk'.2.1
         ·exact hk'.2.1
         ·rename_i hx;exact absurd hx hnh
         ·exact hk'.2.2.1
         ·exact hk'.2.1
        refine (show t.G (p + (d + 1))=t.G (p + d) from hst).trans (ih p (by omega) fun q hqv=>?_)
        have:=hq q hqv
        have hne:q≠p + d:=fun e=>by subst e;exact hnh hqv.2
        omega
      obtain ⟨d,hd⟩:=Nat.le.dest i2
      have:=hG d (f i).cc (by omega) (fun q hqv=>by rw [hd];exact i3 q hqv)
      rw [hd] at this
      rw [hce,← this];exact h
    | false =>
     rw [hb,cond_false,(step i hi).ei,← fn,lateB_of' ops.size (Nat.le_refl _) c i hl,cond_true] at hr
     have hall:allL (fun h=>cond (tb (g i).A h.i) (Nat.blt h.i c) true) (f ops.size).hvs=true:=by
      apply allL_of
      intro r hr
      obtain ⟨q,hq,rfl,hkq⟩:=hvS ops.size (Nat.le_refl _) r hr
      rw [(step q hq).ei,(step i hi).eA]
      cases hq':tb (maskAt AT i) q with
      | false=>rfl
      | true =>
       rw [tb_eq] at hq'
       rw [cond_true,Nat.blt_eq]
       exact hpre q ⟨hq,hkq⟩ hq'
     rw [hall,cond_true,(step i hi).eA,(step i hi).eT,(step i hi).eo] at hr
     cases hev:evPure2 P (viewF (f ops.size).news (f ops.size).hvs (maskAt AT i) c s.nx (t.G c)) (opd (f i).T) ((ops[i]?).getD default).op with
     | none=>rw [hev] at hr;cases hr
     | some v =>
      rw [hev] at hr
      have:=sameAV_eq.1 hr
      subst this
      exact ⟨_,sub_of ops.size (Nat.le_refl _) i c (t.G c) (.inr rfl) (fun x o h=>h),hev⟩
  ·rename_i b e
   rw [e]
   refine ⟨hk.1,⟨hk.2.1,hk.2.2.1⟩,hk.2.2.2.2,fun c hc hl=>?_⟩
   have hm:=nwC ops.size (Nat.le_refl _) i b hi e
   rw [fn] at hm
   have hcand:=(cond_and (cands c hc)).2
   have hr:=allL_all hcand _ hm
   unfold newOK at hr
   rw [(step i hi).ei,← fn,lateB_of' ops.size (Nat.le_refl _) c i hl,cond_true,fN_eq] at hr
   simpa using hr
  ·rename_i e
   rw [e]
   refine ⟨hk.1,fun q hqv hqi=>?_,_,sub_of i (by omega) i i (f i).H (.inl (Nat.le_refl _)) (fun x o h=>h),hk.2.2.2.1⟩
   have:=hk.2.2.1 _ (hvC i (by omega) q hqi hqv.2)
   rw [(step q hqv.1).ei] at this
   exact this
  ·rename_i e
   rw [e]
   refine ⟨?_,hk.2.2.1,hk.2.2.2.1⟩
   have hdd:=hk.1
   cases hpn:(f i).pn with
   | none=>rw [hpn] at hdd;cases hdd
   | some q =>
    rw [hpn] at hdd
    obtain ⟨h1,h2,_⟩:=pnS i (by omega) q hpn
    refine ⟨q.p,by omega,?_,q.v,q.H,q.nx,h2⟩
    show (maskAt AT i).testBit q.p=true
    rw [← tb_eq];exact hdd
  ·rename_i v H nx e
   rw [e]
   refine ⟨hk.1,⟨hk.2.1,hk.2.2.1⟩,fun q hqv=>?_,_,sub_of i (by omega) i i (f i).H (.inl (Nat.le_refl _)) (fun x o h=>h),hk.2.2.2.2.2.1⟩
   have hlt:q < i:=by
    rcases Nat.lt_trichotomy q i with h | h | h
    ·exact h
    ·subst h
     have:=hqv.2
     rw [show t.k q=(g q).k from rfl,e] at this;cases this
    ·have hkq:=(step q hqv.1).kind
     rw [show (g q).k = .heavy from hqv.2] at hkq
     exact absurd hkq.2.2.2.2 (pnK i v H nx hi e q h (Nat.le_of_lt hqv.1))
   refine ⟨hlt,?_⟩
   have:=hk.2.2.2.2.1 _ (hvC i (by omega) q hlt hqv.2)
   rw [(step q hqv.1).ei] at this
   exact this
 refine ⟨t,ok,fun i=>rfl,⟨by show (f ops.size).T=_;rw [fn],by show (f ops.size).nx=_;rw [fn],fun hpn=>⟨fun i hi ⟨v,H,nx,hk⟩=>pnK i v H nx hi hk ops.size hi (Nat.le_refl _) (by rw [fn];exact hpn),?_⟩,fun q hpn=>?_⟩⟩
 ·intro x o hx
  rcases viewAll_some hx with ⟨r,hr,h1,h2,h4⟩ | h
  ·rw [← fn] at hr h2
   obtain ⟨j,hj,rfl,b,hb⟩:=nwS ops.size (Nat.le_refl _) r hr
   rw [(step j hj).ei] at h2 h4
   exact .inl ⟨j,hj,h1,late_of ops.size (Nat.le_refl _) _ j (.inr rfl) h2,h4⟩
  ·refine .inr ?_
   show (f ops.size).H.get x=some o
   rw [fn];exact h
 ·rw [← fn] at hpn
  obtain ⟨h1,h2,h5⟩:=pnS ops.size (Nat.le_refl _) q hpn
  refine ⟨h1,⟨_,_,_,h2⟩,fun i v' H'' nx' hi hk=>?_,fun d b hb=>?_⟩
  ·have hki:(g i).k = .pan v' H'' nx':=hk
   have hie:i=q.p:=by
    rcases Nat.lt_trichotomy i q.p with h | h | h
    ·have hkq:=(step q.p h1).kind
     rw [h2] at hkq
     exact absurd hkq.2.2.2.2.2.2 (pnK i v' H'' nx' hi hki q.p h (by omega))
    ·exact h
    ·have hkq:=(step i hi).kind
     rw [hki] at hkq
     exact absurd hkq.2.2.2.2.2.2 (pnK q.p q.v q.H q.nx h1 h2 i h (by omega))
   subst hie
   rw [h2] at hki
   injection hki with e1 e2 e3
   exact ⟨rfl,e1.symm,e2.symm,e3.symm⟩
  ·obtain ⟨e1,e2⟩:=cutT_get _ _ _ _ _ hb
   refine ⟨?_,fun k hk hd=>?_⟩
   ·show (f ops.size).T.get d=some b
    rw [fn];exact e1
   ·have:=e2 k _ (by rw [Array.getElem?_toList];exact hoo k hk) hd
    rw [Nat.zero_add,h5] at this
    exact this
structure Gh where
 j:Nat
 d:Tmp
 t:TypeId
 ins:List (Nat×TypeId×Operand×Operand)
 mv:Nat
 e:Tmp
 lk:Nat
 lt:TypeId
 key:Tmp
 kx:Nat
 val:Value
noncomputable def inG (l:List (Nat×TypeId×Operand×Operand)) (i:Nat):Bool:=List.rec (motive:=fun _=>Bool) false (fun q _ ih=>cond (Nat.beq q.1 i) true ih) l
theorem inG_iff {i:Nat}:∀ {l:List (Nat×TypeId×Operand×Operand)},inG l i=true↔∃ q∈l,q.1=i
 | []=>⟨fun h=>(by cases h),fun ⟨_,h,_⟩=>(by cases h)⟩
 | p :: l=>by
  show cond (Nat.beq p.1 i) true (inG l i)=true↔_
  cases h:Nat.beq p.1 i with
  | true=>exact ⟨fun _=>⟨p,List.mem_cons_self ..,Nat.eq_of_beq_eq_true h⟩,fun _=>rfl⟩
  | false =>
   rw [cond_false,inG_iff]
   constructor
   ·rintro ⟨q,h1,h2⟩;exact ⟨q,List.mem_cons_of_mem _ h1,h2⟩
   ·rintro ⟨q,h1,h2⟩
    rcases List.mem_cons.1 h1 with rfl | h1
    ·rw [h2,Nat.beq_refl] at h;cases h
    ·exact ⟨q,h1,h2⟩
noncomputable def Gh.side (g:Gh) (i:Nat):Bool:=cond (Nat.beq i g.j) true (cond (Nat.beq i g.mv) true (inG g.ins i))
noncomputable def ghOp (g:Gh) (i:Nat) (o:Oper):Oper :=
 cond (Nat.beq i g.lk) ⟨o.dst,.move (.const g.val),o.type,o.pos,o.after,o.guard⟩ (cond (g.side i) ⟨none,.move (.const g.val),o.type,o.pos,o.after,o.guard⟩ o)
noncomputable def ghL (g:Gh) (l:List Oper):Nat→List Oper:=List.rec (motive:=fun _=>Nat→List Oper) (fun _=>[]) (fun o _ ih i=>ghOp g i o :: fN (i + 1) ih) l
noncomputable def ghA (g:Gh) (ops:Array Oper):Array Oper:=⟨ghL g ops.toList 0⟩
theorem ghL_get (g:Gh):∀ (l:List Oper) (p i:Nat),(ghL g l p)[i]? = (l[i]?).map (ghOp g (p + i))
 | [],p,i=>by show ([]:List Oper)[i]? = _;simp
 | o :: l,p,0=>rfl
 | o :: l,p,i + 1=>by
  show (ghOp g p o :: fN (p + 1) (ghL g l))[i + 1]? = _
  rw [fN_eq,List.getElem?_cons_succ,ghL_get g l (p + 1) i,List.getElem?_cons_succ,show p + 1 + i=p + (i + 1) by omega]
theorem ghL_len (g:Gh):∀ (l:List Oper) (p:Nat),(ghL g l p).length=l.length
 | [],p=>rfl
 | o :: l,p=>by
  show (ghOp g p o :: fN (p + 1) (ghL g l)).length=_
  rw [fN_eq,List.length_cons,ghL_len g l,List.length_cons]
theorem ghA_size (g:Gh) (ops:Array Oper):(ghA g ops).size=ops.size:=by
 show (ghL g ops.toList 0).length=_
 rw [ghL_len];simp
theorem ghA_get (g:Gh) (ops:Array Oper) (i:Nat):(ghA g ops)[i]? = (ops[i]?).map (ghOp g i):=by
 show (⟨ghL g ops.toList 0⟩:Array Oper)[i]? = _
 rw [List.getElem?_toArray,ghL_get,Nat.zero_add,Array.getElem?_toList]
theorem ghOp_after (g:Gh) (i:Nat) (o:Oper):(ghOp g i o).after=o.after:=by
 unfold ghOp
 cases Nat.beq i g.lk <;> cases g.side i <;> rfl
theorem ghOp_guard (g:Gh) (i:Nat) (o:Oper):(ghOp g i o).guard=o.guard:=by
 unfold ghOp
 cases Nat.beq i g.lk <;> cases g.side i <;> rfl
noncomputable def ghX (g:Gh) (kAV:AV):Operand→Option AV:=fun x=>match x with
 | .tmp s=>cond (Nat.beq s g.e) (some (.map 0)) (cond (Nat.beq s g.d) (some (.map 0)) (cond (Nat.beq s g.key) (some kAV) none))
 | x=>opd .leaf x
noncomputable def gKey (k:AV):Bool:=match k with
 | .str _ _=>true
 | .bs _=>true
 | _=>false
noncomputable def dropG (i:Nat) (l:List (Nat×TypeId×Operand×Operand)):List (Nat×TypeId×Operand×Operand):=List.rec (motive:=fun _=>List (Nat×TypeId×Operand×Operand)) [] (fun q _ ih=>cond (Nat.beq q.1 i) ih (q :: ih)) l
noncomputable def gOK (P:Program) (g:Gh) (kAV vAV:AV):Nat→List (Nat×TypeId×Operand×Operand)→AObj→Bool :=
 Nat.rec (motive:=fun _=>List (Nat×TypeId×Operand×Operand)→AObj→Bool)
  (fun todo o=>cond todo.isEmpty (Option.rec (motive:=fun _=>Bool) false (fun a=>avEq a vAV) (evPure2 P (Tr.leaf.set 0 o) (ghX g kAV) (.lookup g.lt (.tmp g.e) (.tmp g.key) false))) false)
  (fun _ ih todo o=>cond todo.isEmpty (Option.rec (motive:=fun _=>Bool) false (fun a=>avEq a vAV) (evPure2 P (Tr.leaf.set 0 o) (ghX g kAV) (.lookup g.lt (.tmp g.e) (.tmp g.key) false)))
   (allL (fun q=>Option.rec (motive:=fun _=>Bool) false (fun o'=>ih (dropG q.1 todo) o')
    (ob (opd .leaf q.2.2.1) fun k=>ob (opd .leaf q.2.2.2) fun v=>ob (evMapSet P (Tr.leaf.set 0 o) q.2.1 (.map 0) k v) fun H=>H.get 0)) todo))
noncomputable def hasE (o:Oper) (j:Nat):Bool:=List.rec (motive:=fun _=>Bool) false (fun e _ ih=>cond (Region.binds .any e) (cond (Nat.beq e.on j) true ih) ih) o.after.toList
theorem hasE_some {o:Oper} {j:Nat} (h:hasE o j=true):∃ e∈o.after,Region.binds .any e=true∧e.on=j:=by
 unfold hasE at h
 have:∀ l:List Edge,List.rec (motive:=fun _=>Bool) false (fun e _ ih=>cond (Region.binds .any e) (cond (Nat.beq e.on j) true ih) ih) l=true→∃ e∈l,Region.binds .any e=true∧e.on=j:=fun l=>by
  induction l with
  | nil=>intro h;cases h
  | cons e l ih =>
   intro h
   have h:cond (Region.binds .any e) (cond (Nat.beq e.on j) true (List.rec (motive:=fun _=>Bool) false (fun e _ ih=>cond (Region.binds .any e) (cond (Nat.beq e.on j) true ih) ih) l)) (List.rec (motive:=fun _=>Bool) false (fun e _ ih=>cond (Region.binds .any e) (cond (Nat.beq e.on j) true ih) ih) l)=true:=h
   have old:List.rec (motive:=fun _=>Bool) false (fun e _ ih=>cond (Region.binds .any e) (cond (Nat.beq e.on j) true ih) ih) l=true→∃ x∈e :: l,Region.binds .any x=true∧x.on=j:=fun h=>by
    obtain ⟨x,h1,h2⟩:=ih h
    exact ⟨x,List.mem_cons_of_mem _ h1,h2⟩
   cases hb:Region.binds .any e with
   | false=>rw [hb,cond_false] at h;exact old h
   | true =>
    rw [hb,cond_true] at h
    cases hj:Nat.beq e.on j with
    | false=>rw [hj,cond_false] at h;exact old h
    | true=>exact ⟨e,List.mem_cons_self ..,hb,Nat.eq_of_beq_eq_true hj⟩
 obtain ⟨e,h1,h2⟩:=this _ h
 exact ⟨e,by simpa using h1,h2⟩
structure GhOK (P:Program) (g:Gh) (ops:Array Oper) (kAV vAV:AV):Prop where
 made:∃ o,ops[g.j]? = some o∧o.dst=some g.d∧(∃ t,o.op = .makeMap t none)
 ins:∀ q∈g.ins,∃ o,ops[q.1]? = some o∧o.dst=none∧o.op = .insert q.2.1 (.tmp g.d) q.2.2.1 q.2.2.2∧hasE o g.j=true∧q.1≠g.j∧q.1≠g.mv
 mv:∃ o,ops[g.mv]? = some o∧o.dst=some g.e∧o.op = .move (.tmp g.d)∧hasE o g.j=true∧g.mv≠g.j∧∀ q∈g.ins,hasE o q.1=true
 lk:∃ o,ops[g.lk]? = some o∧o.op = .lookup g.lt (.tmp g.e) (.tmp g.key) false∧hasE o g.mv=true∧hasE o g.kx=true∧g.side g.lk=false
 kx:∃ o,ops[g.kx]? = some o∧o.dst=some g.key∧g.side g.kx=false
 gd:∀ i o,ops[i]? = some o→o.guard=none∧(g.side i=false→o.dst≠some g.d∧o.dst≠some g.e)
 de:g.d≠g.e
 kd:g.key≠g.d∧g.key≠g.e
 key:gKey kAV=true
 val:ofValue g.val=some vAV∧∃ k n,vAV = .int k n
 ok:∃ n o0,evNew P (fun _=>none) 0 (.makeMap g.t none)=some (.map 0,o0)∧gOK P g kAV vAV n g.ins o0=true
 mt:∀ o,ops[g.j]? = some o→o.op = .makeMap g.t none
def ren1 (b cap:Nat):Ren:=⟨fun i=>if i=0 then some ⟨b,0,cap⟩ else none,fun _=>none⟩
theorem ren1_some {b cap i:Nat} {x:Blk} (h:ren1 b cap i=some x):i=0∧x=⟨b,0,cap⟩:=by
 have h:(if i=0 then some (⟨b,0,cap⟩:Blk) else none)=some x:=h
 split at h
 ·rename_i e;exact ⟨e,(Option.some.inj h).symm⟩
 ·cases h
def envG (w:World):Env:=⟨w.tape,w.os,w.output,fun _=>none,fun _=>true⟩
def frmG (w:World) (b:Nat):Nat→Option Obj:=fun k=>if k=b then none else w.heap[k]?
theorem relG {w:World} {b cap:Nat} {o:AObj} {c:Obj} (hc:w.heap[b]? = some c) (ho:OR (ren1 b cap) ⟨b,0,cap⟩ o c):Rel (envG w) (frmG w b) 1 (ren1 b cap) (Tr.leaf.set 0 o).get w:=by
 have hget:∀ i o',(Tr.leaf.set 0 o).get i=some o'→ren1 b cap i≠none→o'=o:=fun i o' h hn=>by
  cases hi:ren1 b cap i with
  | none=>exact absurd hi hn
  | some x =>
   obtain ⟨rfl,_⟩:=ren1_some hi
   rw [Tr.get_set_same] at h;exact (Option.some.inj h).symm
 refine ⟨rfl,rfl,rfl,fun k o' h=>?_,fun i o' x h hx=>?_,fun i o' x h hx=>?_,fun i j o' o'' x y h1 h2 h3 h4 _=>?_,fun i hi=>?_,fun i l h=>?_,fun k o' h=>(by cases h),fun k o' h=>(by cases h),fun i o' x h hx=>rfl,fun k o' o'' h h2=>(by cases h2)⟩
 ·unfold frmG at h
  split at h
  ·cases h
  ·exact h
 ·have:=hget i o' h (by rw [hx];simp)
  obtain ⟨rfl,rfl⟩:=ren1_some hx
  subst this
  exact ⟨c,hc,ho⟩
 ·obtain ⟨rfl,rfl⟩:=ren1_some hx
  exact if_pos rfl
 ·exact (ren1_some h3).1.trans (ren1_some h4).1.symm
 ·exact if_neg (by omega)
 ·by_cases hi:0=i
  ·subst hi
   rw [Tr.get_set_same] at h
   injection h with h;subst h
   cases ho
  ·rw [Tr.get_set_ne _ hi,Tr.get_leaf] at h;cases h
theorem vr_int {ρ ρ':Ren} {k:IntKind} {n:Int} {u:Value} (h:VR ρ (.int k n) u):VR ρ' (.int k n) u:=by cases h;exact .int _ _
theorem vr_key {ρ ρ':Ren} {k:AV} {u:Value} (hk:gKey k=true) (h:VR ρ k u):VR ρ' k u:=by
 unfold gKey at hk
 split at hk
 ·cases h;exact .str _ _ (by assumption)
 ·cases h;exact .bs _
 ·cases hk
theorem rel_gput {E:Env} {F:Nat→Option Obj} {nx:Nat} {ρ:Ren} {h:Nat→Option AObj} {w w':World} (r:Rel E F nx ρ h w) {b:Nat} {c c':Obj} (hb:F b=some c) (hE:E.base b=none) (hf:E.fs b=false)
  (ht:w'.tape=w.tape) (hos:w'.os=w.os) (hout:w'.output=w.output) (hc:w'.heap[b]? = some c') (hw:∀ k o,k≠b→w.heap[k]? = some o→w'.heap[k]? = some o):Rel E (fun k=>if k=b then some c' else F k) nx ρ h w':=by
 have hne:∀ i o x,h i=some o→ρ i=some x→x.b≠b:=fun i o x h1 h2 e=>by
  have:=r.dj i o x h1 h2
  rw [e,hb] at this;cases this
 have hst:∀ k o,ρ.st k=some o→k≠b:=fun k o h e=>by
  subst e
  have:=r.sf _ _ _ hb h
  rw [hf] at this;cases this
 refine ⟨ht.trans r.tape,hos.trans r.os,hout.trans r.output,fun k o hk=>?_,fun i o x h1 h2=>?_,fun i o x h1 h2=>?_,r.inj,r.new,r.gl,fun k o hk=>?_,fun k o hk=>?_,r.sd,fun k o o' hk hs=>?_⟩
 ·split at hk
  ·rename_i e;subst e;injection hk with hk;subst hk;exact hc
  ·rename_i e;exact hw k o e (r.fr k o hk)
 ·obtain ⟨y,h3,h4⟩:=r.ob i o x h1 h2
  exact ⟨y,hw _ _ (hne i o x h1 h2) h3,h4⟩
 ·rw [if_neg (hne i o x h1 h2)]
  exact r.dj i o x h1 h2
 ·rw [if_neg (fun e=>by subst e;rw [hE] at hk;cases hk)]
  exact r.bs k o hk
 ·exact hw k o (hst k o hk) (r.st k o hk)
 ·have:=hst k o' hs
  rw [if_neg this] at hk
  exact r.sf k o o' hk hs
def envN (E:Env) (b:Nat):Env:=⟨E.tape,E.os,E.output,E.base,fun k=>if k=b then false else E.fs k⟩
theorem rel_gnew {E:Env} {F:Nat→Option Obj} {nx:Nat} {ρ:Ren} {h:Nat→Option AObj} {w w1:World} (r:Rel E F nx ρ h w) {c:Obj} (hw:w1=w∨w1=w.drew) :
  Rel (envN E w.heap.size) (fun k=>if k=w.heap.size then some c else F k) nx ρ h (w1.alloc c)∧F w.heap.size=none∧E.base w.heap.size=none∧(w1.alloc c).heap[w.heap.size]? = some c:=by
 have hno:w.heap[w.heap.size]? = none:=by simp
 have hF:F w.heap.size=none:=by
  cases h:F w.heap.size with
  | none=>rfl
  | some o=>have:=r.fr _ _ h;rw [hno] at this;cases this
 have hB:E.base w.heap.size=none:=by
  cases h:E.base w.heap.size with
  | none=>rfl
  | some o=>have:=r.bs _ _ h;rw [hF] at this;cases this
 have hh:(w1.alloc c).heap=w.heap.push c:=by rcases hw with rfl | rfl <;> rfl
 have hnew:(w1.alloc c).heap[w.heap.size]? = some c:=by rw [hh];simp
 have hold:∀ k o,w.heap[k]? = some o→(w1.alloc c).heap[k]? = some o∧k≠w.heap.size:=fun k o hk=>by
  have hlt:=lt_of_heap hk
  refine ⟨?_,by omega⟩
  rw [hh,Array.getElem?_push,if_neg (by omega)];exact hk
 refine ⟨⟨?_,?_,?_,fun k o hk=>?_,fun i o x h1 h2=>?_,fun i o x h1 h2=>?_,r.inj,r.new,r.gl,fun k o hk=>?_,fun k o hk=>(hold k o (r.st k o hk)).1,r.sd,fun k o o' hk hs=>?_⟩,hF,hB,hnew⟩
 ·rcases hw with rfl | rfl <;> exact r.tape
 ·rcases hw with rfl | rfl <;> exact r.os
 ·rcases hw with rfl | rfl <;> exact r.output
 ·split at hk
  ·rename_i e;subst e;injection hk with hk;subst hk;exact hnew
  ·exact (hold k o (r.fr k o hk)).1
 ·obtain ⟨y,h3,h4⟩:=r.ob i o x h1 h2
  exact ⟨y,(hold _ _ h3).1,h4⟩
 ·obtain ⟨y,h3,_⟩:=r.ob i o x h1 h2
  rw [if_neg (hold _ _ h3).2]
  exact r.dj i o x h1 h2
 ·have:=r.bs k o hk
  rw [if_neg (hold k o (r.fr k o this)).2]
  exact this
 ·have h1:=(hold k o' (r.st k o' hs)).2
  rw [if_neg h1] at hk
  show (if k=w.heap.size then false else E.fs k)=true
  rw [if_neg h1]
  exact r.sf k o o' hk hs
structure Sub (E E':Env) (F F':Nat→Option Obj):Prop where
 t:E'.tape=E.tape
 o:E'.os=E.os
 p:E'.output=E.output
 b:E'.base=E.base
 f:∀ k,E'.fs k=true→E.fs k=true
 F:∀ k o,F k=some o→F' k=some o
theorem Sub.rel {E E':Env} {F F':Nat→Option Obj} (h:Sub E E' F F') (hbs:∀ b o,E.base b=some o→F b=some o) {nx:Nat} {ρ:Ren} {H:Nat→Option AObj} {w:World} (r:Rel E' F' nx ρ H w):Rel E F nx ρ H w:=by
 refine ⟨r.tape.trans h.t,r.os.trans h.o,r.output.trans h.p,fun k o hk=>r.fr k o (h.F k o hk),r.ob,fun i o x h1 h2=>?_,r.inj,r.new,fun g l hg=>?_,hbs,r.st,r.sd,fun k o o' hk hs=>h.f k (r.sf k o o' (h.F k o hk) hs)⟩
 ·have:=r.dj i o x h1 h2
  cases hF:F x.b with
  | none=>rfl
  | some y=>rw [h.F _ _ hF] at this;cases this
 ·have:=r.gl g l hg
  rw [h.b] at this;exact this
theorem DInv.re {t:DTab} {ops:Array Oper} {s:St} {E E':Env} {F F':Nat→Option Obj} {ρ0:Ren} {ro:Option Nat} {listed:Array Bool} {a a':Act} {w w':World} {ρ:Ren} {c:Nat} (inv:DInv t ops s E F ρ0 ro listed a w ρ c)
  (hr:Rel E' F' (t.nxs c) ρ (t.hD ops.size s.nx listed c) w') (h1:∀ i d,i < ops.size→Ls listed i→(t.oo i).dst=some d→a'.tmps[d]? = a.tmps[d]?) (h2:∀ d x,s.T.get d=some x→a'.tmps[d]? = a.tmps[d]?) (h3:a'.tmps.size=a.tmps.size) (h4:a'.defers=a.defers) :
  DInv t ops s E' F' ρ0 ro listed a' w' ρ c :=
 ⟨inv.size,inv.cand,inv.hc,inv.down,inv.le,inv.lo,inv.nn,hr,inv.unl,fun i d hi hl hd=>by rw [h1 i d hi hl hd];exact inv.tm1 i d hi hl hd,fun d x hn hd=>by rw [h2 d x hd];exact inv.tm2 d x hn hd,h3.trans inv.sz,by rw [h4];exact inv.dr,inv.rr,inv.np⟩
theorem put_ne {a:Act} {dst:Option Tmp} {v:Value} {d:Tmp} (h:dst≠some d):(a.put dst v).tmps[d]? = a.tmps[d]?:=by
 cases dst with
 | none=>rfl
 | some x =>
  have:x≠d:=fun e=>h (by rw [e])
  simp only [Act.put];rw [Array.getElem?_setIfInBounds_ne this]
theorem wpOpIn_keep {F:Fence} {n:Nat} {P:Program} {ops:Array Oper} {Q:Exit→Act→World→Prop} {i:Nat} {K:Act→World→Prop} {a:Act} {w:World} {d:Tmp} (hd:∀ o,ops[i]? = some o→o.dst≠some d)
  (h:wpOpIn F n P ops Q i K a w):wpOpIn F n P ops Q i (fun a' w'=>K a' w'∧a'.tmps[d]? = a.tmps[d]?) a w:=by
 unfold wpOpIn at *
 split
 ·exact ⟨by simpa [*] using h,rfl⟩
 ·rename_i o ho
  have hne:=hd o ho
  simp only [ho] at h
  split
  ·rename_i hw
   simp only [hw,if_true] at h
   unfold Oper.wpIn at *
   refine ⟨h.1,?_⟩
   have hh:=h.2
   generalize (o.semAt F.round a.eval).run P w=r at *
   cases r with
   | ok x w' =>
    cases x <;> simp only [Oper.uponIn] at hh ⊢ <;>
     first
      | exact ⟨hh,put_ne hne⟩
      | exact ⟨hh.1,CallsIn.mono hh.2 (fun e w'' he=>by cases e <;> first | exact ⟨he,put_ne hne⟩ | exact he)⟩
      | exact ⟨hh.1,RowsIn.mono hh.2 (fun _ _ he=>⟨he,put_ne hne⟩)⟩
      | exact ⟨hh.1,RoundIn.mono hh.2 (fun e w'' he=>by cases e <;> first | exact ⟨he,put_ne hne⟩ | exact he)⟩
   | halt x w'=>cases x <;> simp only [Oper.uponIn] at hh ⊢ <;> exact hh
  ·rename_i hw;simp only [hw] at h;exact ⟨h.1,h.2,put_ne hne⟩
theorem wanted_none {o:Oper} {y:Nat→Option Bool} (h:o.guard=none):Region.wanted o y=true:=by
 unfold Region.wanted;rw [h]
def todoG (listed:Array Bool) (l:List (Nat×TypeId×Operand×Operand)):List (Nat×TypeId×Operand×Operand):=l.filter fun q=>!listed.getD q.1 false
theorem todoG_set {listed:Array Bool} {i:Nat} (hi:i < listed.size):∀ l,todoG (listed.setIfInBounds i true) l=dropG i (todoG listed l)
 | []=>rfl
 | q :: l=>by
  have ih:=todoG_set (listed:=listed) hi l
  unfold todoG at ih ⊢
  rw [List.filter_cons,List.filter_cons,ih]
  by_cases h:i=q.1
  ·subst h
   have e:(listed.setIfInBounds q.1 true).getD q.1 false=true:=by simp [hi]
   rw [e,if_neg (by simp)]
   cases hb:listed.getD q.1 false with
   | false =>
    rw [if_pos (show (!false)=true from rfl)]
    show _=cond (Nat.beq q.1 q.1) (dropG q.1 _) _
    rw [Nat.beq_refl];rfl
   | true=>rw [if_neg (by simp)]
  ·rw [getD_set_ne false h]
   split
   ·show _=cond (Nat.beq q.1 i) (dropG i _) (q :: dropG i _)
    have:Nat.beq q.1 i=false:=by
     cases hb:Nat.beq q.1 i with
     | false=>rfl
     | true=>exact absurd (Nat.eq_of_beq_eq_true hb).symm h
    rw [this];rfl
   ·rfl
theorem todoG_out {listed:Array Bool} {i:Nat} {l:List (Nat×TypeId×Operand×Operand)} (h:∀ q∈l,q.1≠i):todoG (listed.setIfInBounds i true) l=todoG listed l:=by
 unfold todoG
 apply List.filter_congr
 intro q hq
 rw [getD_set_ne false fun e=>h q hq e.symm]
theorem todoG_none {listed:Array Bool} {l:List (Nat×TypeId×Operand×Operand)} (h:∀ q∈l,¬ Ls listed q.1):todoG listed l=l:=by
 unfold todoG
 rw [List.filter_eq_self]
 intro q hq
 have:=h q hq
 unfold Ls at this
 simpa using this
theorem todoG_all {listed:Array Bool} {l:List (Nat×TypeId×Operand×Operand)} (h:∀ q∈l,Ls listed q.1):todoG listed l=[]:=by
 unfold todoG
 rw [List.filter_eq_nil_iff]
 intro q hq
 have:=h q hq
 unfold Ls at this
 simp [this]
section
variable {t:DTab} {P:Program} {call:CallF} {R:Array Oper} {s:St} {g:Gh} {kAV vAV:AV}
variable {E:Env} {F:Nat→Option Obj} {ρ0:Ren} {ro rr:Option Nat} {Q:Exit→Act→World→Prop}
def GV (P:Program) (g:Gh) (kAV vAV:AV) (F0:Nat→Option Obj) (listed:Array Bool) (a:Act) (E:Env) (F:Nat→Option Obj):Prop :=
 ∃ b cap o cc n,F0 b=none∧E.base b=none∧E.fs b=false∧F b=some cc∧OR (ren1 b cap) ⟨b,0,cap⟩ o cc∧a.tmps[g.d]? = some (.map (some b))∧(Ls listed g.mv→a.tmps[g.e]? = some (.map (some b)))∧gOK P g kAV vAV n (todoG listed g.ins) o=true
structure GInv (t:DTab) (P:Program) (g:Gh) (kAV vAV:AV) (R:Array Oper) (s:St) (E:Env) (F:Nat→Option Obj) (ρ0:Ren) (rr:Option Nat) (listed:Array Bool) (a:Act) (w:World) (ρ:Ren) (c:Nat):Prop where
 ex:∃ E' F',Sub E E' F F'∧DInv t (ghA g R) s E' F' ρ0 rr listed a w ρ c∧(Ls listed g.j→GV P g kAV vAV F listed a E' F')
 mj:Ls listed g.mv→Ls listed g.j
 ij:∀ q∈g.ins,Ls listed q.1→Ls listed g.j
 mi:Ls listed g.mv→∀ q∈g.ins,Ls listed q.1
theorem pureG (ok:DOK t P call (ghA g R) s) {listed:Array Bool} {a:Act} {w:World} {ρ:Ren} {c i:Nat} (inv:DInv t (ghA g R) s E F ρ0 rr listed a w ρ c) (hi:i < (ghA g R).size) (hL:¬ Ls listed i)
  (hpre:∀ j,t.anc i j→Ls listed j) (hop:(t.oo i).op = .move (.const g.val)) (hgd:(t.oo i).guard=none) (hv:ofValue g.val=some vAV):(∀ o,t.k i≠.new o)∧t.k i≠.heavy∧¬ t.isPan i∧t.v i=vAV:=by
 have hko:=ok.kind i hi
 unfold DTab.kindOK at hko
 rw [hop] at hko
 have hw:evWanted (ghA g R) (t.Tin i) (t.oo i)=some true:=by unfold evWanted;rw [hgd]
 split at hko
 ·rw [hw] at hko;exact absurd hko.1 (by simp)
 ·rename_i hk
  obtain ⟨V,hV,hev⟩:=hko.2.2 c inv.cand (not_anc_of inv hL) fun q hq han=>(inv.hc q hq).1 (hpre q han)
  refine ⟨by rw [hk];simp,by rw [hk];simp,(by rintro ⟨v,H,nx,e⟩;rw [hk] at e;cases e),?_⟩
  have:evPure2 P V (opd (t.Tin i)) (.move (.const g.val))=ofValue g.val:=rfl
  rw [this,hv] at hev
  exact (Option.some.inj hev).symm
 ·have:=hko.2.2.1
  simp [evNew,sNew,evNew3] at this
 ·obtain ⟨_,_,V,_,hev⟩:=hko
  simp [evHeavy,sHeavy,evHeavy3] at hev
 ·obtain ⟨⟨p,hp,han,hpan⟩,_⟩:=hko
  exact absurd hpan (inv.np p (hpre p han))
 ·obtain ⟨_,_,_,V,_,hev⟩:=hko
  simp [evHeavy,sHeavy,evHeavy3] at hev
end
section
variable {t:DTab} {P:Program} {call:CallF} {R:Array Oper} {s:St} {g:Gh} {kAV vAV:AV}
variable {E:Env} {F:Nat→Option Obj} {ρ0:Ren} {ro rr:Option Nat} {Q:Exit→Act→World→Prop}
theorem side_iff {i:Nat}:g.side i=true↔i=g.j∨i=g.mv∨∃ q∈g.ins,q.1=i:=by
 unfold Gh.side
 cases h1:Nat.beq i g.j with
 | true=>exact ⟨fun _=>.inl (Nat.eq_of_beq_eq_true h1),fun _=>rfl⟩
 | false =>
  have n1:i≠g.j:=fun e=>by rw [e,Nat.beq_refl] at h1;cases h1
  cases h2:Nat.beq i g.mv with
  | true=>exact ⟨fun _=>.inr (.inl (Nat.eq_of_beq_eq_true h2)),fun _=>rfl⟩
  | false =>
   have n2:i≠g.mv:=fun e=>by rw [e,Nat.beq_refl] at h2;cases h2
   rw [cond_false,cond_false,inG_iff]
   exact ⟨fun h=>.inr (.inr h),fun h=>(h.resolve_left n1).resolve_left n2⟩
theorem ghOp_side {i:Nat} {o:Oper} (h:g.side i=true) (hl:i≠g.lk):(ghOp g i o).dst=none∧(ghOp g i o).op = .move (.const g.val):=by
 unfold ghOp
 have:Nat.beq i g.lk=false:=by
  cases hb:Nat.beq i g.lk with
  | false=>rfl
  | true=>exact absurd (Nat.eq_of_beq_eq_true hb) hl
 rw [this,h];exact ⟨rfl,rfl⟩
theorem ghOp_lk {o:Oper}:(ghOp g g.lk o).dst=o.dst∧(ghOp g g.lk o).op = .move (.const g.val):=by
 unfold ghOp
 rw [Nat.beq_refl];exact ⟨rfl,rfl⟩
theorem ghOp_out {i:Nat} {o:Oper} (h:g.side i=false) (hl:i≠g.lk):ghOp g i o=o:=by
 unfold ghOp
 have:Nat.beq i g.lk=false:=by
  cases hb:Nat.beq i g.lk with
  | false=>rfl
  | true=>exact absurd (Nat.eq_of_beq_eq_true hb) hl
 rw [this,h];rfl
theorem const_vr {ρ:Ren} {a:Act} (hv:ofValue g.val=some vAV):VR ρ vAV (a.eval (.const g.val)) :=
 TR.xr (T:=.leaf) (ρ:=ρ) (a:=a) (fun t a h=>by rw [Tr.get_leaf] at h;cases h) (.const g.val) vAV hv
theorem eval_tmp {a:Act} {d:Tmp} {u:Value} (h:a.tmps[d]? = some u):a.eval (.tmp d)=u:=by simp [Act.eval,h]
theorem oo_get (ok:DOK t P call (ghA g R) s) {i:Nat} {o:Oper} (ho:R[i]? = some o):i < (ghA g R).size∧t.oo i=ghOp g i o:=by
 have h1:(ghA g R)[i]? = some (ghOp g i o):=by rw [ghA_get,ho];rfl
 have hlt:i < (ghA g R).size:=(Array.getElem?_eq_some_iff.1 h1).1
 have:=ok.opa i hlt
 rw [h1] at this
 exact ⟨hlt,(Option.some.inj this).symm⟩
theorem oo_dst (ok:DOK t P call (ghA g R) s) (hg:GhOK P g R kAV vAV) {i:Nat} (hi:i < (ghA g R).size):(t.oo i).dst≠some g.d∧(t.oo i).dst≠some g.e:=by
 have hi':i < R.size:=by rw [ghA_size] at hi;exact hi
 obtain ⟨_,h2⟩:=oo_get ok (Array.getElem?_eq_getElem hi')
 obtain ⟨g1,g2⟩:=hg.gd i _ (Array.getElem?_eq_getElem hi')
 rw [h2]
 cases hs:g.side i with
 | true =>
  obtain ⟨_,_,_,_,_,hlk⟩:=hg.lk
  have hl:i≠g.lk:=fun e=>by rw [← e,hs] at hlk;cases hlk
  rw [(ghOp_side hs hl).1]
  exact ⟨by simp,by simp⟩
 | false =>
  obtain ⟨d1,d2⟩:=g2 hs
  by_cases hl:i=g.lk
  ·subst hl;rw [ghOp_lk.1];exact ⟨d1,d2⟩
  ·rw [ghOp_out hs hl];exact ⟨d1,d2⟩
theorem side_step (ok:DOK t P call (ghA g R) s) (hg:GhOK P g R kAV vAV) {listed:Array Bool} {a:Act} {w:World} {ρ:Ren} {c i:Nat} {o:Oper} (inv:DInv t (ghA g R) s E F ρ0 rr listed a w ρ c) (ho:R[i]? = some o)
  (hs:g.side i=true) (hL:¬ Ls listed i) (hpre:∀ j,t.anc i j→Ls listed j):DInv t (ghA g R) s E F ρ0 rr (listed.setIfInBounds i true) a w ρ c:=by
 obtain ⟨hi,hoo⟩:=oo_get ok ho
 obtain ⟨_,_,_,_,_,hlk⟩:=hg.lk
 have hl:i≠g.lk:=fun e=>by rw [← e,hs] at hlk;cases hlk
 obtain ⟨h1,h2⟩:=ghOp_side (o:=o) hs hl
 obtain ⟨p1,p2,p3,p4⟩:=pureG ok inv hi hL hpre (by rw [hoo];exact h2) (by rw [hoo,ghOp_guard];exact (hg.gd i o ho).1) hg.val.1
 have:=step_off ok inv hi hL hpre p1 p2 p3 (u:=a.eval (.const g.val)) (by rw [p4];exact const_vr hg.val.1)
 rw [hoo,h1] at this
 exact this
theorem ghost_step (hcall:CallOK P call) (ok:DOK t P call (ghA g R) s) (hg:GhOK P g R kAV vAV) (hbs:∀ b o,E.base b=some o→F b=some o) (hkv:t.v g.kx=kAV) (hTd:s.T.get g.d=none) (hTe:s.T.get g.e=none) (hdN:g.d < s.N) (heN:g.e < s.N)
  (hP:∀ listed a w ρ c i v H' nx',i < R.size→t.k i = .pan v H' nx'→(∀ j,t.anc i j→Ls listed j)→∀ u ρ' w',RX s.nx nx' ρ0 ρ'→Rel E F nx' ρ' H'.get w'→VR ρ' v u→DInv t (ghA g R) s E F ρ0 rr listed a w ρ c→ρ.le ρ'→Q (.panic (fresh u)) a w')
  {listed:Array Bool} {a:Act} {w:World} {ρ:Ren} {c i:Nat} (inv:GInv t P g kAV vAV R s E F ρ0 rr listed a w ρ c) {o:Oper} (ho:R[i]? = some o) (hL:¬ Ls listed i) (he:∀ e∈o.after,Region.binds .any e=true→Ls listed e.on)
  {K:Act→World→Prop} (hK:∀ ρ' c' a' w',GInv t P g kAV vAV R s E F ρ0 rr (listed.setIfInBounds i true) a' w' ρ' c'→K a' w'):wpOpIn (FW ro) 0 P R Q i K a w:=by
 obtain ⟨⟨E',F',hsub,din,hgv⟩,hmj,hij,hmi⟩:=inv
 obtain ⟨hi,hoo⟩:=oo_get ok ho
 have hR:i < R.size:=by rw [ghA_size] at hi;exact hi
 have hsz:i < listed.size:=by rw [din.size];exact hi
 have hset:=fun j=>Ls_set (listed:=listed) (j:=j) hsz
 have hpre:∀ j,t.anc i j→Ls listed j:=fun j hj=>by
  obtain ⟨hji,e,he1,hb,hor⟩:=ok.anc i j hi hj
  rw [hoo,ghOp_after] at he1
  have hle:Ls listed e.on:=he e he1 hb
  rcases hor with rfl | hor
  ·exact hle
  ·have:e.on < i:=ok.edge i e hi (by rw [hoo,ghOp_after];exact he1) hb
   exact din.down e.on j (by omega) hle hor
 have hE:∀ j,hasE o j=true→Ls listed j:=fun j h=>by
  obtain ⟨e,h1,h2,rfl⟩:=hasE_some h
  exact he e h1 h2
 obtain ⟨hgd,hdst⟩:=hg.gd i o ho
 have hwant:Region.wanted o (yielded R a.tmps)=true:=wanted_none hgd
 have hdd:=fun k (hk:k < (ghA g R).size)=>oo_dst ok hg hk
 unfold wpOpIn
 rw [ho]
 simp only [hwant,if_true]
 cases hs:g.side i with
 | true =>
  have ds:=side_step ok hg din ho hs hL hpre
  rcases side_iff.1 hs with rfl | rfl | ⟨q,hq,rfl⟩
  ·-- the map is made
   have hop:=hg.mt o ho
   obtain ⟨o1,ho1,hd1,_⟩:=hg.made
   rw [ho] at ho1;injection ho1 with ho1;subst ho1
   obtain ⟨n,o0,hn,hok⟩:=hg.ok
   rw [← hop] at hn
   obtain ⟨u,w1,cob,cap,h4,h5,h6,h7⟩:=evNew_sound (P:=P) (ρ:=⟨fun _=>none,fun _=>none⟩) (w:=w) (f:=a.eval) (fun x a h=>by cases h) (ni:=0) rfl o hn
   have h6:OR (ren1 w.heap.size cap) ⟨w.heap.size,0,cap⟩ o0 cob:=h6
   have h7:VR (ren1 w.heap.size cap) (.map 0) u:=h7
   have hu:u = .map (some w.heap.size):=by
    cases h7 with
    | map _ b hb=>obtain ⟨_,rfl⟩:=ren1_some hb;rfl
   subst hu
   have hnm:¬ Ls listed g.mv:=fun h=>hL (hmj h)
   have hni:∀ q∈g.ins,¬ Ls listed q.1:=fun q hq h=>hL (hij q hq h)
   obtain ⟨r1,r2,r3,r4⟩:=rel_gnew ds.rel (c:=cob) h5
   refine wpIn_of_yield (by rw [hop];simp) (.inl h4) (hK ρ c _ _ ⟨⟨envN E' w.heap.size,_,?_,DInv.re ds r1 (fun k d hk hl hd=>put_ne ?_) (fun d x hx=>put_ne ?_) (by rw [hd1];simp [Act.put]) (by rw [hd1];rfl),fun _=>?_⟩,fun _=>(hset _).2 (.inl rfl),fun _ _ _=>(hset _).2 (.inl rfl),fun h=>absurd (((hset _).1 h).resolve_left fun e=>(by obtain ⟨_,_,_,_,_,hne,_⟩:=hg.mv;exact hne e)) hnm⟩)
   ·exact ⟨hsub.t,hsub.o,hsub.p,hsub.b,fun k hk=>by
     have hk:(if k=w.heap.size then false else E'.fs k)=true:=hk
     split at hk
     ·cases hk
     ·exact hsub.f k hk,fun k x hk=>by
     have:=hsub.F k x hk
     have hne:k≠w.heap.size:=fun e=>by rw [e,r2] at this;cases this
     show (if k=w.heap.size then some cob else F' k)=_
     rw [if_neg hne];exact this⟩
   ·rw [hd1]
    intro e
    injection e with e
    exact (hdd k hk).1 (by rw [hd,e])
   ·rw [hd1]
    intro e
    injection e with e
    rw [← e,hTd] at hx;cases hx
   ·refine ⟨w.heap.size,cap,o0,cob,n,?_,r3,if_pos rfl,if_pos rfl,h6,?_,fun h=>?_,?_⟩
    ·cases hF:F w.heap.size with
     | none=>rfl
     | some x=>have:=hsub.F _ _ hF;rw [r2] at this;cases this
    ·rw [hd1];simp [Act.put,din.sz,hdN]
    ·rcases (hset _).1 h with e | h
     ·obtain ⟨_,_,_,_,_,hne,_⟩:=hg.mv
      exact absurd e hne
     ·exact absurd h hnm
    ·rw [todoG_out (fun q hq e=>by
      obtain ⟨_,_,_,_,_,hne,_⟩:=hg.ins q hq
      exact hne e),todoG_none hni]
     exact hok
  ·-- it is moved
   obtain ⟨o1,ho1,hd1,hop,hej,hne,hmi1⟩:=hg.mv
   rw [ho] at ho1;injection ho1 with ho1;subst ho1
   have hj:=hE _ hej
   obtain ⟨b,cap,oo,cc,n,e0,e1,e2,e3,e4,e5,e6,e7⟩:=hgv hj
   have h4:(execOp a.eval o).run P w = .ok (.value (.map (some b))) w:=by
    have:=eval_tmp e5
    obtain ⟨dst,op,type,pos,after,guard⟩:=o
    simp only at hop
    subst hop
    simp [execOp,this]
   refine wpIn_of_yield (by rw [hop];simp) (.inl h4) (hK ρ c _ _ ⟨⟨E',F',hsub,DInv.re ds ds.rel (fun k d hk hl hd=>put_ne ?_) (fun d x hx=>put_ne ?_) (by rw [hd1];simp [Act.put]) (by rw [hd1];rfl),fun _=>⟨b,cap,oo,cc,n,e0,e1,e2,e3,e4,?_,fun _=>?_,?_⟩⟩,fun _=>(hset _).2 (.inr hj),fun q hq h=>(hset _).2 (.inr hj),fun _ q hq=>(hset _).2 (.inr (hE _ (hmi1 q hq)))⟩)
   ·rw [hd1]
    intro e
    injection e with e
    exact (hdd k hk).2 (by rw [hd,e])
   ·rw [hd1]
    intro e
    injection e with e
    rw [← e,hTe] at hx;cases hx
   ·rw [put_ne (by rw [hd1];intro e;injection e with e;exact hg.de e.symm)];exact e5
   ·rw [hd1];simp [Act.put,din.sz,heN]
   ·rw [todoG_out (fun q hq e=>by
     obtain ⟨_,_,_,_,_,_,hne⟩:=hg.ins q hq
     exact hne e)]
    exact e7
  ·-- an entry
   obtain ⟨o1,ho1,hd1,hop,hej,hnj,hnm⟩:=hg.ins q hq
   rw [ho] at ho1;injection ho1 with ho1;subst ho1
   have hj:=hE _ hej
   obtain ⟨b,cap,oo,cc,n,e0,e1,e2,e3,e4,e5,e6,e7⟩:=hgv hj
   have hmem:q∈todoG listed g.ins:=by
    unfold todoG
    rw [List.mem_filter]
    refine ⟨hq,?_⟩
    unfold Ls at hL
    simpa using hL
   have hstep:∃ n' k v H' o',opd .leaf q.2.2.1=some k∧opd .leaf q.2.2.2=some v∧evMapSet P (Tr.leaf.set 0 oo) q.2.1 (.map 0) k v=some H'∧H'.get 0=some o'∧gOK P g kAV vAV n' (dropG q.1 (todoG listed g.ins)) o'=true:=by
    generalize todoG listed g.ins=td at e7 hmem
    have hne:td.isEmpty=false:=by cases td with
     | nil=>cases hmem
     | cons _ _=>rfl
    cases n with
    | zero =>
     have e7:cond td.isEmpty _ false=true:=e7
     rw [hne] at e7;cases e7
    | succ n =>
     have e7:cond td.isEmpty _ (allL _ td)=true:=e7
     rw [hne,cond_false] at e7
     have:=allL_all e7 q hmem
     cases hx:(ob (opd .leaf q.2.2.1) fun k=>ob (opd .leaf q.2.2.2) fun v=>ob (evMapSet P (Tr.leaf.set 0 oo) q.2.1 (.map 0) k v) fun H=>H.get 0) with
     | none=>rw [hx] at this;cases this
     | some o' =>
      rw [hx] at this
      obtain ⟨k,h1,hx⟩:=ob_some.1 hx
      obtain ⟨v,h2,hx⟩:=ob_some.1 hx
      obtain ⟨H',h3,hx⟩:=ob_some.1 hx
      exact ⟨n,k,v,H',o',h1,h2,h3,hx,this⟩
   obtain ⟨n',k,v,H',o',s1,s2,s3,s4,s5⟩:=hstep
   have hcb:w.heap[b]? = some cc:=din.rel.fr b cc e3
   have xr:XR (ren1 b cap) (opd .leaf) a.eval:=TR.xr (fun t a h=>by rw [Tr.get_leaf] at h;cases h)
   obtain ⟨w',h6,h7⟩:=evMapSet_sound (P:=P) (relG hcb e4) (t:=q.2.1) (m:=.map 0) (um:=.map (some b)) (.map 0 ⟨b,0,cap⟩ rfl) (xr _ _ s1) (xr _ _ s2) s3
   obtain ⟨c',hc',hor'⟩:=h7.ob 0 o' ⟨b,0,cap⟩ s4 rfl
   have hev:a.eval (.tmp g.d) = .map (some b):=eval_tmp e5
   have h4:(execOp a.eval o).run P w = .ok .skip w':=by
    obtain ⟨dst,op,type,pos,after,guard⟩:=o
    simp only at hop
    subst hop
    simp [execOp,hev,h6]
   have hput:a.put o.dst undef=a:=by rw [hd1];rfl
   refine wpIn_of_yield (by rw [hop];simp) (.inr ⟨h4,rfl⟩) (hK ρ c _ _ ?_)
   rw [hput]
   refine ⟨⟨E',_,?_,DInv.re ds (rel_gput ds.rel e3 e1 e2 h7.tape h7.os h7.output hc' fun k x hk hx=>h7.fr k x (by unfold frmG;rw [if_neg hk];exact hx)) (fun _ _ _ _ _=>rfl) (fun _ _ _=>rfl) rfl rfl,fun _=>⟨b,cap,o',c',n',e0,e1,e2,if_pos rfl,hor',e5,fun h=>e6 (((hset _).1 h).resolve_left fun e=>hnm e.symm),?_⟩⟩,fun h=>(hset _).2 (.inr hj),fun _ _ _=>(hset _).2 (.inr hj),fun h q' hq'=>(hset _).2 (.inr (hmi (((hset _).1 h).resolve_left fun e=>hnm e.symm) q' hq'))⟩
   ·refine ⟨hsub.t,hsub.o,hsub.p,hsub.b,hsub.f,fun k x hk=>?_⟩
    have:=hsub.F k x hk
    have hne:k≠b:=fun e=>by
     subst e
     rw [e0] at hk;cases hk
    show (if k=b then some c' else F' k)=_
    rw [if_neg hne];exact this
   ·rw [todoG_set hsz];exact s5
 | false =>
  obtain ⟨hd1,hd2⟩:=hdst hs
  have hnj:i≠g.j:=fun e=>by rw [side_iff.2 (.inl e)] at hs;cases hs
  have hnm:i≠g.mv:=fun e=>by rw [side_iff.2 (.inr (.inl e))] at hs;cases hs
  have hni:∀ q∈g.ins,q.1≠i:=fun q hq e=>by rw [side_iff.2 (.inr (.inr ⟨q,hq,e⟩))] at hs;cases hs
  have back:∀ j,j≠i→Ls (listed.setIfInBounds i true) j→Ls listed j:=fun j hj h=>((hset j).1 h).resolve_left hj
  have keepV:∀ {a':Act} {E1:Env} {F1:Nat→Option Obj},GV P g kAV vAV F listed a E1 F1→a'.tmps[g.d]? = a.tmps[g.d]?→a'.tmps[g.e]? = a.tmps[g.e]?→GV P g kAV vAV F (listed.setIfInBounds i true) a' E1 F1:=fun h k1 k2=>by
   obtain ⟨b,cap,oo,cc,n,e0,e1,e2,e3,e4,e5,e6,e7⟩:=h
   exact ⟨b,cap,oo,cc,n,e0,e1,e2,e3,e4,k1.trans e5,fun h=>k2.trans (e6 (back _ hnm.symm h)),by rw [todoG_out hni];exact e7⟩
  have mj:Ls (listed.setIfInBounds i true) g.mv→Ls (listed.setIfInBounds i true) g.j:=fun h=>(hset _).2 (.inr (hmj (back _ hnm.symm h)))
  have ij:∀ q∈g.ins,Ls (listed.setIfInBounds i true) q.1→Ls (listed.setIfInBounds i true) g.j:=fun q hq h=>(hset _).2 (.inr (hij q hq (back _ (hni q hq) h)))
  have mi:Ls (listed.setIfInBounds i true) g.mv→∀ q∈g.ins,Ls (listed.setIfInBounds i true) q.1:=fun h q hq=>(hset _).2 (.inr (hmi (back _ hnm.symm h) q hq))
  by_cases hlk:i=g.lk
  ·-- it is looked at
   subst hlk
   obtain ⟨o1,ho1,hop,hem,hek,_⟩:=hg.lk
   rw [ho] at ho1;injection ho1 with ho1;subst ho1
   have hm:=hE _ hem
   have hj:=hmj hm
   obtain ⟨b,cap,oo,cc,n,e0,e1,e2,e3,e4,e5,e6,e7⟩:=hgv hj
   rw [todoG_all fun q hq=>hmi hm q hq] at e7
   have e7:Option.rec (motive:=fun _=>Bool) false (fun a=>avEq a vAV) (evPure2 P (Tr.leaf.set 0 oo) (ghX g kAV) (.lookup g.lt (.tmp g.e) (.tmp g.key) false))=true:=by cases n <;> exact e7
   obtain ⟨ox,hox,hdx,hsx⟩:=hg.kx
   obtain ⟨hix,hoox⟩:=oo_get ok hox
   have hkx:g.kx≠g.lk:=fun e=>by
    obtain ⟨ed,h1,h2,h3⟩:=hasE_some hek
    have:=ok.edge g.lk ed hi (by rw [hoo,ghOp_after];exact h1) h2
    omega
   obtain ⟨uk,hk1,hk2⟩:=din.tm1 g.kx g.key hix (hE _ hek) (by rw [hoox,ghOp_out hsx hkx];exact hdx)
   rw [hkv] at hk2
   cases hev:evPure2 P (Tr.leaf.set 0 oo) (ghX g kAV) (.lookup g.lt (.tmp g.e) (.tmp g.key) false) with
   | none=>rw [hev] at e7;cases e7
   | some av =>
    rw [hev] at e7
    have hav:=avEq_eq _ _ e7
    subst hav
    have hcb:w.heap[b]? = some cc:=din.rel.fr b cc e3
    have hX:XR (ren1 b cap) (ghX g kAV) a.eval:=fun x y hx=>by
     cases x with
     | tmp d =>
      have hx:cond (Nat.beq d g.e) (some (.map 0)) (cond (Nat.beq d g.d) (some (.map 0)) (cond (Nat.beq d g.key) (some kAV) none))=some y:=hx
      cases b1:Nat.beq d g.e with
      | true =>
       rw [b1] at hx;injection hx with hx;subst hx
       rw [Nat.eq_of_beq_eq_true b1,eval_tmp (e6 hm)]
       exact .map 0 ⟨b,0,cap⟩ rfl
      | false =>
      rw [b1,cond_false] at hx
      cases b2:Nat.beq d g.d with
      | true =>
       rw [b2] at hx;injection hx with hx;subst hx
       rw [Nat.eq_of_beq_eq_true b2,eval_tmp e5]
       exact .map 0 ⟨b,0,cap⟩ rfl
      | false =>
      rw [b2,cond_false] at hx
      cases b3:Nat.beq d g.key with
      | true =>
       rw [b3] at hx;injection hx with hx;subst hx
       rw [Nat.eq_of_beq_eq_true b3,eval_tmp hk1]
       exact vr_key hg.key hk2
      | false=>rw [b3] at hx;cases hx
     | const v=>exact TR.xr (T:=.leaf) (ρ:=ren1 b cap) (a:=a) (fun t a h=>by rw [Tr.get_leaf] at h;cases h) (.const v) y hx
     | func f=>exact TR.xr (T:=.leaf) (ρ:=ren1 b cap) (a:=a) (fun t a h=>by rw [Tr.get_leaf] at h;cases h) (.func f) y hx
     | global f=>exact TR.xr (T:=.leaf) (ρ:=ren1 b cap) (a:=a) (fun t a h=>by rw [Tr.get_leaf] at h;cases h) (.global f) y hx
    rw [← hop] at hev
    obtain ⟨z,h4,h5⟩:=evPure2_sound (relG hcb e4) (HS.refl _ _) hX o hev
    obtain ⟨l1,l2⟩:=ghOp_lk (g:=g) (o:=o)
    obtain ⟨p1,p2,p3,p4⟩:=pureG ok din hi hL hpre (by rw [hoo];exact l2) (by rw [hoo,ghOp_guard];exact hgd) hg.val.1
    obtain ⟨_,k,nn,hint⟩:=hg.val
    have ds:=step_off ok din hi hL hpre p1 p2 p3 (u:=z) (by rw [p4,hint];rw [hint] at h5;exact vr_int h5)
    rw [hoo,l1] at ds
    refine wpIn_of_yield (by rw [hop];simp) (.inl h4) (hK ρ c _ _ ⟨⟨E',F',hsub,ds,fun _=>keepV (hgv hj) (put_ne hd1) (put_ne hd2)⟩,mj,ij,mi⟩)
  ·-- any other one
   have hsame:(ghA g R)[i]? = some o:=by rw [ghA_get,ho];exact congrArg some (ghOp_out hs hlk)
   have h1:=step_any (ro:=ro) (Q:=Q) hcall ok din hi hL hpre (K:=fun a' w'=>∃ ρ' c',DInv t (ghA g R) s E' F' ρ0 rr (listed.setIfInBounds i true) a' w' ρ' c') (fun ρ' c' a' w' h=>⟨ρ',c',h⟩)
    fun v H' nx' hk u ρ' w' h3 h4 h5 h6 h7=>hP listed a w ρ c i v H' nx' hR hk hpre u ρ' w' h3 (hsub.rel hbs h4) h5 (DInv.re h6 (hsub.rel hbs h6.rel) (fun _ _ _ _ _=>rfl) (fun _ _ _=>rfl) rfl rfl) h7
   have h2:=wpOpIn_keep (d:=g.d) (fun o' ho'=>by rw [hsame] at ho';injection ho' with ho';subst ho';exact hd1) h1
   have h3:=wpOpIn_keep (d:=g.e) (fun o' ho'=>by rw [hsame] at ho';injection ho' with ho';subst ho';exact hd2) h2
   unfold wpOpIn at h3
   rw [hsame] at h3
   simp only [wanted_none hgd,if_true] at h3
   refine Oper.wpIn_mono (fun a' w' h=>?_) h3
   obtain ⟨⟨⟨ρ',c',hd⟩,k1⟩,k2⟩:=h
   exact hK ρ' c' a' w' ⟨⟨E',F',hsub,hd,fun h=>keepV (hgv (back _ hnj.symm h)) k1 k2⟩,mj,ij,mi⟩
end
section
variable {t:DTab} {P:Program} {call:CallF} {R:Array Oper} {s:St} {g:Gh} {kAV vAV:AV}
variable {E:Env} {F:Nat→Option Obj} {ρ0:Ren} {ro rr:Option Nat} {Q:Exit→Act→World→Prop}
theorem ready_same {listed:Array Bool} {i:Nat}:i∈Region.ready .any (ghA g R) listed↔i∈Region.ready .any R listed:=by
 rw [mem_ready,mem_ready,ghA_get]
 constructor
 ·rintro ⟨h1,o,h2,h3⟩
  cases hr:R[i]? with
  | none=>rw [hr] at h2;cases h2
  | some o' =>
   rw [hr] at h2
   have h2:some (ghOp g i o')=some o:=h2
   injection h2 with h2;subst h2
   rw [ghOp_after] at h3
   exact ⟨h1,o',rfl,h3⟩
 ·rintro ⟨h1,o,h2,h3⟩
  exact ⟨h1,ghOp g i o,by rw [h2];rfl,by rw [ghOp_after];exact h3⟩
theorem ghost_any (hcall:CallOK P call) (ok:DOK t P call (ghA g R) s) (hg:GhOK P g R kAV vAV) (hbs:∀ b o,E.base b=some o→F b=some o) (hkv:t.v g.kx=kAV) (hTd:s.T.get g.d=none) (hTe:s.T.get g.e=none) (hdN:g.d < s.N) (heN:g.e < s.N)
  (hP:∀ listed a w ρ c i v H' nx',i < R.size→t.k i = .pan v H' nx'→(∀ j,t.anc i j→Ls listed j)→∀ u ρ' w',RX s.nx nx' ρ0 ρ'→Rel E F nx' ρ' H'.get w'→VR ρ' v u→DInv t (ghA g R) s E F ρ0 rr listed a w ρ c→ρ.le ρ'→Q (.panic (fresh u)) a w')
  (hQ:∀ listed a w ρ c,DInv t (ghA g R) s E F ρ0 rr listed a w ρ c→(∀ i,i < R.size→Ls listed i)→Q .normal a w):∀ (fuel:Nat) (listed:Array Bool) (a:Act) (w:World) (ρ:Ren) (c:Nat),
  GInv t P g kAV vAV R s E F ρ0 rr listed a w ρ c→unlisted R.size listed≤fuel→wpAnyIn (FW ro) 0 P .any R Q fuel listed a w:=by
 have fin:∀ {listed:Array Bool} {a:Act} {w:World} {ρ:Ren} {c:Nat},GInv t P g kAV vAV R s E F ρ0 rr listed a w ρ c→DInv t (ghA g R) s E F ρ0 rr listed a w ρ c:=fun inv=>by
  obtain ⟨E',F',hsub,din,_⟩:=inv.ex
  exact DInv.re din (hsub.rel hbs din.rel) (fun _ _ _ _ _=>rfl) (fun _ _ _=>rfl) rfl rfl
 intro fuel
 induction fuel with
 | zero =>
  intro listed a w ρ c inv hf
  have hall:∀ i,i < R.size→listed.getD i true=true:=fun i hi=>by
   have h0:unlisted R.size listed=0:=by omega
   unfold unlisted at h0
   rw [List.countP_eq_zero] at h0
   have:=h0 i (List.mem_range.2 hi)
   simpa using this
  refine ⟨?_,hQ listed a w ρ c (fin inv) fun i hi=>?_⟩
  ·rw [List.eq_nil_iff_forall_not_mem]
   intro i hi
   rw [mem_ready] at hi
   obtain ⟨h1,o,ho,_⟩:=hi
   have hlt:i < R.size:=(Array.getElem?_eq_some_iff.1 ho).1
   rw [hall i hlt] at h1;cases h1
  ·unfold Ls
   rw [← getD_tf (by rw [(fin inv).size,ghA_size];exact hi)]
   exact hall i hi
 | succ fuel ih =>
  intro listed a w ρ c inv hf
  have dfin:=fin inv
  refine ⟨fun h=>hQ listed a w ρ c dfin fun i hi=>all_listed ok dfin.size ?_ i (by rw [ghA_size];exact hi),fun i hi=>?_⟩
  ·rw [List.eq_nil_iff_forall_not_mem] at h ⊢
   exact fun j hj=>h j (ready_same.1 hj)
  rw [mem_ready] at hi
  obtain ⟨h1,o,ho,h2⟩:=hi
  have hlt:i < R.size:=(Array.getElem?_eq_some_iff.1 ho).1
  have hls:i < listed.size:=by rw [dfin.size,ghA_size];exact hlt
  have hL:¬ Ls listed i:=by
   unfold Ls
   rw [← getD_tf hls,h1];simp
  refine ghost_step hcall ok hg hbs hkv hTd hTe hdN heN hP inv ho hL h2 fun ρ' c' a' w' inv'=>ih _ a' w' ρ' c' inv' ?_
  have:unlisted R.size (listed.setIfInBounds i true) < unlisted R.size listed:=by
   unfold unlisted
   apply countP_lt
   ·intro x hx hp
    by_cases hxi:i=x
    ·subst hxi
     simp [hls] at hp
    ·rwa [getD_set_ne true hxi] at hp
   ·exact ⟨i,List.mem_range.2 hlt,by simp [h1],by simp [hls]⟩
  omega
theorem ghost_start (ok:DOK t P call (ghA g R) s) {a:Act} {w:World} (hs:SR E F ρ0 s a w rr):GInv t P g kAV vAV R s E F ρ0 rr (Array.replicate R.size false) a w.drew ρ0 0:=by
 have hn:∀ i,¬ Ls (Array.replicate R.size false) i:=fun i=>by
  unfold Ls
  by_cases h:i < R.size <;> simp [Array.getD,h]
 have:=draw_start ok hs
 rw [ghA_size] at this
 exact ⟨⟨E,F,⟨rfl,rfl,rfl,rfl,fun _ h=>h,fun _ _ h=>h⟩,this,fun h=>absurd h (hn _)⟩,fun h=>absurd h (hn _),fun q _ h=>absurd h (hn _),fun h=>absurd h (hn _)⟩
end
noncomputable def cDrawG (P:Program) (tb:Tbl) (ht:HTbl) (g:Gh) (kAV:AV) (ops:Array Oper) (s:St) (K:KX):Prop :=
 okP (dstat (ghA g ops)) fun AT=>fN (ghA g ops).size fun n=>fN (s.nx + n) fun nx0=>cDrun P tb ht (ghA g ops) s.N s.nx AT (fun σ=>(cChk P σ s.nx s.H∧sdA (match σ.T.get g.key with
   | some a=>avEq a kAV
   | none=>false) True) ∧
  (Option.rec (motive:=fun _=>Prop) (K .nrm ⟨s.N,σ.T,viewAll σ.news σ.hvs n s.nx σ.H,σ.nx,s.ro,s.D⟩)
   (fun q=>K (.pan q.v) ⟨s.N,cutT q.A (ghA g ops).toList 0 σ.T,q.H,q.nx,s.ro,s.D⟩) σ.pn)) (ghA g ops).toList 0 ⟨[],[],[],s.T,s.H,nx0,0,none⟩
theorem cDrawG_ok {P:Program} (hm:P.follows .mixedOrders=true) {tb:Tbl} {ht:HTbl} (htb:TbOK P tb) (hht:HtOK P ht) {g:Gh} {kAV vAV:AV} {R:Array Oper} (hg:GhOK P g R kAV vAV) {s:St} {K:KX} (hTd:s.T.get g.d=none) (hTe:s.T.get g.e=none) (hdN:g.d < s.N) (heN:g.e < s.N)
  (h:cDrawG P tb ht g kAV R s K) {id:Nat} {E:Env} {F:Nat→Option Obj} {n0:Nat} {ρ0 ρ:Ren} {a:Act} {w:World} {ro:Option Nat} {Q:Exit→Act→World→Prop} (hq:KSem E F n0 ρ0 ro K Q) (hn:n0≤s.nx) (hk:Keep n0 ρ0 ρ) (hs:SR E F ρ s a w ro) :
  (Code.region id R true).wpIn (FW ro) 0 P Q a w:=by
 obtain ⟨AT,h1,h2⟩:=okP_some h
 simp only [fN_eq] at h2
 obtain ⟨σ,h3,⟨h4,h4k⟩,h5⟩:=cDrun_sound h2
 obtain ⟨t,ok,hoo,en⟩:=drun_tab h1 h3 (cChk_sound h4)
 have hcall:=callT_ok htb hht (P:=P)
 have hkv:t.v g.kx=kAV:=by
  obtain ⟨h4k,_⟩:=sdA_iff.1 h4k
  cases hT:σ.T.get g.key with
  | none=>rw [hT] at h4k;cases h4k
  | some x =>
   rw [hT] at h4k
   have hx:=avEq_eq _ _ h4k
   subst hx
   rw [← en.T] at hT
   obtain ⟨ox,hox,hdx,hsx⟩:=hg.kx
   obtain ⟨hix,hoox⟩:=oo_get ok hox
   obtain ⟨ol,hol,_,_,hek,_⟩:=hg.lk
   obtain ⟨hil,hool⟩:=oo_get ok hol
   have hkx:g.kx≠g.lk:=fun e=>by
    obtain ⟨ed,e1,e2,e3⟩:=hasE_some hek
    have:=ok.edge g.lk ed hil (by rw [hool,ghOp_after];exact e1) e2
    omega
   have hd:(t.oo g.kx).dst=some g.key:=by rw [hoox,ghOp_out hsx hkx];exact hdx
   rcases tin_get ok _ g.key x (Nat.le_refl _) hT with ⟨k,k1,k2,k3⟩ | ⟨k1,k2⟩
   ·have:=ok.dst k g.kx g.key k1 hix k2 hd
    subst this;exact k3
   ·exact absurd hd (k1 g.kx hix)
 have hsz:=ghA_size g R
 have hbs:=hs.rel.bs
 cases hpn:σ.pn with
 | none =>
  rw [hpn] at h5
  obtain ⟨hno,hH⟩:=en.nrm hpn
  refine wpIn_region_any hm (ghost_any hcall ok hg hbs hkv hTd hTe hdN heN (E:=E) (F:=F) (ρ0:=ρ) (rr:=ro) (fun _ _ _ _ _ i v H' nx' hi hk=>absurd ⟨v,H',nx',hk⟩ (hno i (by rw [hsz];exact hi))) (fun listed a' w' ρ' c inv hall=>?_) _ _ _ _ ρ 0 (ghost_start ok hs) draw_fuel)
  have hall':∀ i,i < (ghA g R).size→Ls listed i:=fun i hi=>hall i (by rw [hsz] at hi;exact hi)
  obtain ⟨hG,hnn⟩:=G_eq' ok (cand_le inv.cand) (Nat.le_refl _) fun q hq=>by
   rw [← inv.hc q hq]
   exact ⟨fun _=>hq.1,fun _=>hall' q hq.1⟩
  have hlt:∀ q,t.hv (ghA g R).size q→q < c:=fun q hq=>(inv.hc q hq).1 (hall' q hq.1)
  have hnx:s.nx≤σ.nx:=by
   have:=inv.nn
   rw [← en.nx,← hnn];omega
  refine hq .nrm _ ρ' a' w' h5 (Nat.le_trans hn hnx) (hk.trans (Keep.of_rx ⟨inv.le,inv.lo,hnx⟩ hn)) ⟨?_,?_,inv.sz,inv.dr,inv.rr⟩
  ·show Rel E F σ.nx ρ' (viewAll σ.news σ.hvs (ghA g R).size s.nx σ.H).get w'
   rw [← en.nx,← hnn]
   refine inv.rel.less fun x o hx=>?_
   rcases hH x o hx with ⟨j,e1,e2,e3,rfl⟩ | h
   ·exact hD_new ⟨e1,hall' j e1,fun q hq _=>e3 q hq hq.1⟩ e2
   ·rw [← hG] at h
    refine hD_old h fun j o' e hp hj=>?_
    subst e
    rw [fresh_of ok inv hp hj] at h;cases h
  ·intro d b hb
   have hb:σ.T.get d=some b:=hb
   rw [← en.T] at hb
   rcases tin_get ok _ d b (Nat.le_refl _) hb with ⟨k,e1,e2,e3⟩ | ⟨e1,e2⟩
   ·subst e3;exact inv.tm1 k d e1 (hall' k e1) e2
   ·exact inv.tm2 d b (fun i hi _=>e1 i hi) e2
 | some q =>
  rw [hpn] at h5
  obtain ⟨hp,hpan,hone,hT⟩:=en.pan q hpn
  refine wpIn_region_any hm (ghost_any hcall ok hg hbs hkv hTd hTe hdN heN (E:=E) (F:=F) (ρ0:=ρ) (rr:=ro) (fun listed a' w1 ρ1 c i v' H'' nx' hi hk' hpre u ρ' w' hx hrel hv inv hle=>?_) (fun listed a' w' ρ' c inv hall=>absurd hpan (inv.np q.p (hall q.p (by rw [← hsz];exact hp)))) _ _ _ _ ρ 0 (ghost_start ok hs) draw_fuel)
  obtain ⟨rfl,rfl,rfl,rfl⟩:=hone i v' H'' nx' (by rw [hsz];exact hi) hk'
  refine hq (.pan q.v) _ ρ' a' w' h5 (Nat.le_trans hn hx.nn) (hk.trans (Keep.of_rx hx hn)) ⟨hrel,?_,inv.sz,inv.dr.mono hle,inv.rr.mono hle⟩ u hv
  intro d b hb
  obtain ⟨e1,e2⟩:=hT d b hb
  rcases tin_get ok _ d b (Nat.le_refl _) e1 with ⟨k,e3,e4,e5⟩ | ⟨e3,e4⟩
  ·subst e5
   obtain ⟨z,e6,e7⟩:=inv.tm1 k d e3 (hpre k (e2 k e3 e4)) e4
   exact ⟨z,e6,e7.mono hle⟩
  ·obtain ⟨z,e6,e7⟩:=inv.tm2 d b (fun i hi _=>e3 i hi) e4
   exact ⟨z,e6,e7.mono hle⟩
noncomputable def mkF (l:List Oper):Nat→Option (Nat×Tmp×TypeId):=List.rec (motive:=fun _=>Nat→Option (Nat×Tmp×TypeId)) (fun _=>none)
 (fun o _ ih i=>match o.op,o.dst with
  | .makeMap t none,some d=>some (i,d,t)
  | _,_=>fN (i + 1) ih) l
noncomputable def insF (d:Tmp) (l:List Oper):Nat→List (Nat×TypeId×Operand×Operand):=List.rec (motive:=fun _=>Nat→List (Nat×TypeId×Operand×Operand)) (fun _=>[])
 (fun o _ ih i=>match o.op with
  | .insert t (.tmp d') k v=>cond (Nat.beq d' d) ((i,t,k,v) :: fN (i + 1) ih) (fN (i + 1) ih)
  | _=>fN (i + 1) ih) l
noncomputable def mvF (d:Tmp) (l:List Oper):Nat→Option (Nat×Tmp):=List.rec (motive:=fun _=>Nat→Option (Nat×Tmp)) (fun _=>none)
 (fun o _ ih i=>match o.op,o.dst with
  | .move (.tmp d'),some e=>cond (Nat.beq d' d) (some (i,e)) (fN (i + 1) ih)
  | _,_=>fN (i + 1) ih) l
noncomputable def lkF (e:Tmp) (l:List Oper):Nat→Option (Nat×TypeId×Tmp):=List.rec (motive:=fun _=>Nat→Option (Nat×TypeId×Tmp)) (fun _=>none)
 (fun o _ ih i=>match o.op with
  | .lookup t (.tmp e') (.tmp k) false=>cond (Nat.beq e' e) (some (i,t,k)) (fN (i + 1) ih)
  | _=>fN (i + 1) ih) l
noncomputable def kxF (k:Tmp) (l:List Oper):Nat→Option (Nat×Op):=List.rec (motive:=fun _=>Nat→Option (Nat×Op)) (fun _=>none)
 (fun o _ ih i=>match o.dst with
  | some d=>cond (Nat.beq d k) (some (i,o.op)) (fN (i + 1) ih)
  | none=>fN (i + 1) ih) l
theorem mkF_some {j:Nat} {d:Tmp} {t:TypeId}:∀ (l:List Oper) (p:Nat),mkF l p=some (j,d,t)→∃ o,p≤j∧l[j - p]? = some o∧o.dst=some d∧o.op = .makeMap t none
 | [],p,h=>by cases h
 | o :: l,p,h=>by
  have next:fN (p + 1) (mkF l)=some (j,d,t)→∃ x,p≤j∧(o :: l)[j - p]? = some x∧x.dst=some d∧x.op = .makeMap t none:=fun h=>by
   rw [fN_eq] at h
   obtain ⟨x,h1,h2,h3⟩:=mkF_some l (p + 1) h
   exact ⟨x,by omega,by rw [show j - p=(j - (p + 1)) + 1 by omega,List.getElem?_cons_succ];exact h2,h3⟩
  have h:(match o.op,o.dst with
   | .makeMap t none,some d=>some (p,d,t)
   | _,_=>fN (p + 1) (mkF l))=some (j,d,t):=h
  split at h
  ·rename_i e1 e2
   injection h with h;injection h with h1 h;injection h with h2 h3
   subst h1;subst h2;subst h3
   exact ⟨o,Nat.le_refl _,by simp,e2,e1⟩
  ·exact next h
theorem insF_some {d:Tmp} {q:Nat×TypeId×Operand×Operand}:∀ (l:List Oper) (p:Nat),q∈insF d l p→∃ o,p≤q.1∧l[q.1 - p]? = some o∧o.op = .insert q.2.1 (.tmp d) q.2.2.1 q.2.2.2
 | [],p,h=>by cases h
 | o :: l,p,h=>by
  have next:q∈fN (p + 1) (insF d l)→∃ x,p≤q.1∧(o :: l)[q.1 - p]? = some x∧x.op = .insert q.2.1 (.tmp d) q.2.2.1 q.2.2.2:=fun h=>by
   rw [fN_eq] at h
   obtain ⟨x,h1,h2,h3⟩:=insF_some l (p + 1) h
   exact ⟨x,by omega,by rw [show q.1 - p=(q.1 - (p + 1)) + 1 by omega,List.getElem?_cons_succ];exact h2,h3⟩
  have h:q∈(match o.op with
   | .insert t (.tmp d') k v=>cond (Nat.beq d' d) ((p,t,k,v) :: fN (p + 1) (insF d l)) (fN (p + 1) (insF d l))
   | _=>fN (p + 1) (insF d l)):=h
  split at h
  ·rename_i t d' k v e1
   cases hb:Nat.beq d' d with
   | false=>rw [hb] at h;exact next h
   | true =>
    rw [hb] at h
    rcases List.mem_cons.1 h with rfl | h
    ·exact ⟨o,Nat.le_refl _,by simp,by rw [e1,Nat.eq_of_beq_eq_true hb]⟩
    ·exact next h
  ·exact next h
theorem mvF_some {j:Nat} {d e:Tmp}:∀ (l:List Oper) (p:Nat),mvF d l p=some (j,e)→∃ o,p≤j∧l[j - p]? = some o∧o.dst=some e∧o.op = .move (.tmp d)
 | [],p,h=>by cases h
 | o :: l,p,h=>by
  have next:fN (p + 1) (mvF d l)=some (j,e)→∃ x,p≤j∧(o :: l)[j - p]? = some x∧x.dst=some e∧x.op = .move (.tmp d):=fun h=>by
   rw [fN_eq] at h
   obtain ⟨x,h1,h2,h3⟩:=mvF_some l (p + 1) h
   exact ⟨x,by omega,by rw [show j - p=(j - (p + 1)) + 1 by omega,List.getElem?_cons_succ];exact h2,h3⟩
  have h:(match o.op,o.dst with
   | .move (.tmp d'),some e=>cond (Nat.beq d' d) (some (p,e)) (fN (p + 1) (mvF d l))
   | _,_=>fN (p + 1) (mvF d l))=some (j,e):=h
  split at h
  ·rename_i d' e' e1 e2
   cases hb:Nat.beq d' d with
   | false=>rw [hb] at h;exact next h
   | true =>
    rw [hb] at h
    injection h with h;injection h with h1 h2
    subst h1;subst h2
    exact ⟨o,Nat.le_refl _,by simp,e2,by rw [e1,Nat.eq_of_beq_eq_true hb]⟩
  ·exact next h
theorem lkF_some {j:Nat} {e k:Tmp} {t:TypeId}:∀ (l:List Oper) (p:Nat),lkF e l p=some (j,t,k)→∃ o,p≤j∧l[j - p]? = some o∧o.op = .lookup t (.tmp e) (.tmp k) false
 | [],p,h=>by cases h
 | o :: l,p,h=>by
  have next:fN (p + 1) (lkF e l)=some (j,t,k)→∃ x,p≤j∧(o :: l)[j - p]? = some x∧x.op = .lookup t (.tmp e) (.tmp k) false:=fun h=>by
   rw [fN_eq] at h
   obtain ⟨x,h1,h2,h3⟩:=lkF_some l (p + 1) h
   exact ⟨x,by omega,by rw [show j - p=(j - (p + 1)) + 1 by omega,List.getElem?_cons_succ];exact h2,h3⟩
  have h:(match o.op with
   | .lookup t (.tmp e') (.tmp k) false=>cond (Nat.beq e' e) (some (p,t,k)) (fN (p + 1) (lkF e l))
   | _=>fN (p + 1) (lkF e l))=some (j,t,k):=h
  split at h
  ·rename_i t' e' k' e1
   cases hb:Nat.beq e' e with
   | false=>rw [hb] at h;exact next h
   | true =>
    rw [hb] at h
    injection h with h;injection h with h1 h;injection h with h2 h3
    subst h1;subst h2;subst h3
    exact ⟨o,Nat.le_refl _,by simp,by rw [e1,Nat.eq_of_beq_eq_true hb]⟩
  ·exact next h
theorem kxF_some {j:Nat} {k:Tmp} {op:Op}:∀ (l:List Oper) (p:Nat),kxF k l p=some (j,op)→∃ o,p≤j∧l[j - p]? = some o∧o.dst=some k
 | [],p,h=>by cases h
 | o :: l,p,h=>by
  have next:fN (p + 1) (kxF k l)=some (j,op)→∃ x,p≤j∧(o :: l)[j - p]? = some x∧x.dst=some k:=fun h=>by
   rw [fN_eq] at h
   obtain ⟨x,h1,h2,h3⟩:=kxF_some l (p + 1) h
   exact ⟨x,by omega,by rw [show j - p=(j - (p + 1)) + 1 by omega,List.getElem?_cons_succ];exact h2,h3⟩
  have h:(match o.dst with
   | some d=>cond (Nat.beq d k) (some (p,o.op)) (fN (p + 1) (kxF k l))
   | none=>fN (p + 1) (kxF k l))=some (j,op):=h
  split at h
  ·rename_i d e1
   cases hb:Nat.beq d k with
   | false=>rw [hb] at h;exact next h
   | true =>
    rw [hb] at h
    injection h with h;injection h with h1 h2
    subst h1
    exact ⟨o,Nat.le_refl _,by simp,by rw [e1,Nat.eq_of_beq_eq_true hb]⟩
  ·exact next h
noncomputable def valOK (P:Program) (g:Gh) (kAV:AV):Option AV :=
 ob (ofValue g.val) fun v=>match v with
  | .int _ _=>ob (evNew P (fun _=>none) 0 (.makeMap g.t none)) fun p=>match p.1 with
   | .map 0=>cond (gOK P g kAV v g.ins.length g.ins p.2) (some v) none
   | _=>none
  | _=>none
noncomputable def valF (P:Program) (mk:Value→Gh) (kAV:AV) (l:List (Nat×TypeId×Operand×Operand)):Option (Gh×AV):=List.rec (motive:=fun _=>Option (Gh×AV)) none
 (fun q _ ih=>match q.2.2.2 with
  | .const v=>Option.rec (motive:=fun _=>Option (Gh×AV)) ih (fun a=>some (mk v,a)) (valOK P (mk v) kAV)
  | _=>ih) l
noncomputable def gdL (g:Gh) (l:List Oper):Nat→Bool:=List.rec (motive:=fun _=>Nat→Bool) (fun _=>true)
 (fun o _ ih i=>cond o.guard.isNone (cond (cond (g.side i) true (match o.dst with
  | none=>true
  | some d=>cond (Nat.beq d g.d) false (cond (Nat.beq d g.e) false true))) (fN (i + 1) ih) false) false) l
theorem gdL_all {g:Gh}:∀ (l:List Oper) (p:Nat),gdL g l p=true→∀ i o,l[i]? = some o→o.guard=none∧(g.side (p + i)=false→o.dst≠some g.d∧o.dst≠some g.e)
 | [],p,h,i,o,hi=>by simp at hi
 | x :: l,p,h,i,o,hi=>by
  have h:cond x.guard.isNone (cond (cond (g.side p) true (match x.dst with
   | none=>true
   | some d=>cond (Nat.beq d g.d) false (cond (Nat.beq d g.e) false true))) (fN (p + 1) (gdL g l)) false) false=true:=h
  obtain ⟨h1,h⟩:=cond_and h
  obtain ⟨h2,h⟩:=cond_and h
  rw [fN_eq] at h
  cases i with
  | succ i =>
   rw [List.getElem?_cons_succ] at hi
   have:=gdL_all l (p + 1) h i o hi
   rw [show p + 1 + i=p + (i + 1) by omega] at this
   exact this
  | zero =>
   have hi:some x=some o:=hi
   injection hi with hi;subst hi
   refine ⟨by simpa using h1,fun hs=>?_⟩
   have hs:g.side p=false:=hs
   rw [hs,cond_false] at h2
   cases hd:x.dst with
   | none=>exact ⟨by simp,by simp⟩
   | some d =>
    rw [hd] at h2
    have h2:cond (Nat.beq d g.d) false (cond (Nat.beq d g.e) false true)=true:=h2
    cases b1:Nat.beq d g.d with
    | true=>rw [b1] at h2;cases h2
    | false =>
    rw [b1,cond_false] at h2
    cases b2:Nat.beq d g.e with
    | true=>rw [b2] at h2;cases h2
    | false =>
     exact ⟨fun e=>(by injection e with e;rw [e,Nat.beq_refl] at b1;cases b1),fun e=>(by injection e with e;rw [e,Nat.beq_refl] at b2;cases b2)⟩
noncomputable def optB {α:Type} (o:Option α) (f:α→Bool):Bool:=Option.rec (motive:=fun _=>Bool) false f o
theorem optB_some {α:Type} {o:Option α} {f:α→Bool} (h:optB o f=true):∃ a,o=some a∧f a=true:=by
 cases o with
 | none=>cases h
 | some a=>exact ⟨a,rfl,h⟩
noncomputable def neB (a b:Nat):Bool:=not (Nat.beq a b)
theorem neB_ne {a b:Nat} (h:neB a b=true):a≠b:=fun e=>by
 unfold neB at h
 rw [e,Nat.beq_refl] at h;cases h
noncomputable def ghB (g:Gh) (kAV:AV) (ops:Array Oper) (N:Nat):Bool :=
 cond (allL (fun q=>optB ops[q.1]? fun o=>cond o.dst.isNone (cond (hasE o g.j) (cond (neB q.1 g.j) (neB q.1 g.mv) false) false) false) g.ins)
 (cond (optB ops[g.mv]? fun o=>cond (hasE o g.j) (allL (fun q=>hasE o q.1) g.ins) false)
 (cond (neB g.mv g.j)
 (cond (optB ops[g.lk]? fun o=>cond (hasE o g.mv) (hasE o g.kx) false)
 (cond (not (g.side g.lk)) (cond (not (g.side g.kx)) (cond (gdL g ops.toList 0)
 (cond (neB g.d g.e) (cond (neB g.key g.d) (cond (neB g.key g.e) (cond (gKey kAV) (cond (Nat.blt g.d N) (Nat.blt g.e N) false) false) false) false) false) false) false) false) false) false) false) false
noncomputable def findG (P:Program) (ops:Array Oper) (s:St):Option (Gh×AV×AV) :=
 ob (mkF ops.toList 0) fun m=>ob (mvF m.2.1 ops.toList 0) fun v=>ob (lkF v.2 ops.toList 0) fun l=>ob (kxF l.2.2 ops.toList 0) fun x=>ob (evPure2 P s.H (opd s.T) x.2) fun kAV =>
  ob (valF P (fun c=>⟨m.1,m.2.1,m.2.2,insF m.2.1 ops.toList 0,v.1,v.2,l.1,l.2.1,l.2.2,x.1,c⟩) kAV (insF m.2.1 ops.toList 0)) fun r=>cond (ghB r.1 kAV ops s.N) (some (r.1,kAV,r.2)) none
theorem valF_some {P:Program} {mk:Value→Gh} {kAV:AV} {g:Gh} {a:AV}:∀ {l:List (Nat×TypeId×Operand×Operand)},valF P mk kAV l=some (g,a)→∃ v,g=mk v∧valOK P (mk v) kAV=some a
 | [],h=>by cases h
 | q :: l,h=>by
  have h:(match q.2.2.2 with
   | .const v=>Option.rec (motive:=fun _=>Option (Gh×AV)) (valF P mk kAV l) (fun a=>some (mk v,a)) (valOK P (mk v) kAV)
   | _=>valF P mk kAV l)=some (g,a):=h
  split at h
  ·rename_i v _
   cases hv:valOK P (mk v) kAV with
   | none=>rw [hv] at h;exact valF_some h
   | some b =>
    rw [hv] at h
    injection h with h;injection h with h1 h2
    subst h1;subst h2
    exact ⟨v,rfl,hv⟩
  ·exact valF_some h
theorem findG_ok {P:Program} {ops:Array Oper} {s:St} {g:Gh} {kAV vAV:AV} (h:findG P ops s=some (g,kAV,vAV)):GhOK P g ops kAV vAV∧g.d < s.N∧g.e < s.N:=by
 obtain ⟨m,hm,h⟩:=ob_some.1 h
 obtain ⟨v,hv,h⟩:=ob_some.1 h
 obtain ⟨l,hl,h⟩:=ob_some.1 h
 obtain ⟨x,hx,h⟩:=ob_some.1 h
 obtain ⟨k',hk,h⟩:=ob_some.1 h
 obtain ⟨r,hr,h⟩:=ob_some.1 h
 cases hb:ghB r.1 k' ops s.N with
 | false=>rw [hb] at h;cases h
 | true =>
 rw [hb] at h
 injection h with h;injection h with h1 h;injection h with h2 h3
 subst h1;subst h2;subst h3
 obtain ⟨c,hc,hval⟩:=valF_some (g:=r.1) (a:=r.2) hr
 obtain ⟨b1,hb⟩:=cond_and hb
 obtain ⟨b2,hb⟩:=cond_and hb
 obtain ⟨b3,hb⟩:=cond_and hb
 obtain ⟨b4,hb⟩:=cond_and hb
 obtain ⟨b5,hb⟩:=cond_and hb
 obtain ⟨b6,hb⟩:=cond_and hb
 obtain ⟨b7,hb⟩:=cond_and hb
 obtain ⟨b8,hb⟩:=cond_and hb
 obtain ⟨b9,hb⟩:=cond_and hb
 obtain ⟨b10,hb⟩:=cond_and hb
 obtain ⟨b11,hb⟩:=cond_and hb
 obtain ⟨b12,b13⟩:=cond_and hb
 generalize r.1=g at *
 obtain ⟨om,m1,m2,m3,m4⟩:=mkF_some _ _ hm
 obtain ⟨ov,v1,v2,v3,v4⟩:=mvF_some _ _ hv
 obtain ⟨ol,l1,l2,l3⟩:=lkF_some _ _ hl
 obtain ⟨ox,x1,x2,x3⟩:=kxF_some _ _ hx
 rw [Nat.sub_zero,Array.getElem?_toList] at m2 v2 l2 x2
 obtain ⟨o4,q1,q2⟩:=optB_some b4
 obtain ⟨o2,q3,q4⟩:=optB_some b2
 subst hc
 rw [l2] at q1;injection q1 with q1;subst q1
 rw [v2] at q3;injection q3 with q3;subst q3
 obtain ⟨q5,q6⟩:=cond_and q2
 obtain ⟨q4,q7⟩:=cond_and q4
 obtain ⟨va,w1,hval⟩:=ob_some.1 hval
 have hgd:=gdL_all _ _ b7
 refine ⟨⟨⟨om,m2,m3,_,m4⟩,fun q hq=>?_,⟨ov,v2,v3,v4,q4,neB_ne b3,allL_all q7⟩,⟨ol,l2,l3,q5,q6,by simpa using b5⟩,⟨ox,x2,x3,by simpa using b6⟩,fun i o ho=>?_,neB_ne b8,⟨neB_ne b9,neB_ne b10⟩,b11,?_,?_,fun o ho=>?_⟩,by rwa [Nat.blt_eq] at b12,by rwa [Nat.blt_eq] at b13⟩
 ·obtain ⟨oi,i1,i2,i3⟩:=insF_some _ _ hq
  rw [Nat.sub_zero,Array.getElem?_toList] at i2
  obtain ⟨o5,p1,p2⟩:=optB_some (allL_all b1 q hq)
  rw [i2] at p1;injection p1 with p1;subst p1
  obtain ⟨p3,p2⟩:=cond_and p2
  obtain ⟨p4,p2⟩:=cond_and p2
  obtain ⟨p5,p6⟩:=cond_and p2
  exact ⟨oi,i2,by simpa using p3,i3,p4,neB_ne p5,neB_ne p6⟩
 ·have:=hgd i o (by rw [Array.getElem?_toList];exact ho)
  rwa [Nat.zero_add] at this
 ·split at hval
  ·obtain ⟨p,p1,hval⟩:=ob_some.1 hval
   split at hval
   ·rename_i k nn _ _ _
    cases hk:gOK P _ k' _ _ _ p.2 with
    | false=>rw [hk] at hval;cases hval
    | true =>
     rw [hk] at hval
     injection hval with hval
     exact ⟨by rw [w1,← hval],_,_,hval.symm⟩
   ·cases hval
  ·cases hval
 ·split at hval
  ·obtain ⟨p,p1,hval⟩:=ob_some.1 hval
   split at hval
   ·rename_i hp
    cases hk:gOK P _ k' _ _ _ p.2 with
    | false=>rw [hk] at hval;cases hval
    | true =>
     rw [hk] at hval
     injection hval with hval
     exact ⟨_,p.2,by rw [p1,← hp],by rw [← hval];exact hk⟩
   ·cases hval
  ·cases hval
 ·rw [m2] at ho;injection ho with ho;subst ho;exact m4
noncomputable def delG (g:Gh) (s:St):St:=⟨s.N,((s.T.del g.d).del g.e).del g.key,s.H,s.nx,s.ro,s.D⟩
noncomputable def cDrawB (P:Program) (tb:Tbl) (ht:HTbl) (ops:Array Oper) (s:St) (K:KX):Prop :=
 Option.rec (motive:=fun _=>Prop) (cDraw P tb ht ops s K) (fun g=>cDrawG P tb ht g.1 g.2.1 ops (delG g.1 s) K) (findG P ops s)
theorem cDrawB_ok {P:Program} (hm:P.follows .mixedOrders=true) {tb:Tbl} {ht:HTbl} (htb:TbOK P tb) (hht:HtOK P ht):DrawKOK P (cDrawB P tb ht):=by
 intro ops s K h
 unfold cDrawB at h
 cases hf:findG P ops s with
 | none=>rw [hf] at h;exact cDraw_ok hm htb hht ops s K h
 | some g =>
  rw [hf] at h
  obtain ⟨g,kAV,vAV⟩:=g
  have h:cDrawG P tb ht g kAV ops (delG g s) K:=h
  obtain ⟨hg,hd,he⟩:=findG_ok hf
  have del:∀ x y,(((s.T.del g.d).del g.e).del g.key).get x=some y→s.T.get x=some y:=fun x y hx=>by
   rw [Tr.get_del] at hx
   split at hx
   ·cases hx
   ·rw [Tr.get_del] at hx
    split at hx
    ·cases hx
    ·rw [Tr.get_del] at hx
     split at hx
     ·cases hx
     ·exact hx
  intro id E F n0 ρ0 ρ a w ro Q hq hn hk hs
  refine cDrawG_ok (s:=delG g s) hm htb hht hg ?_ ?_ hd he h hq hn hk ⟨hs.rel,fun x y hx=>hs.tr x y (del x y hx),hs.size,hs.dr,hs.rr⟩
  ·show (((s.T.del g.d).del g.e).del g.key).get g.d=none
   rw [Tr.get_del,if_neg hg.kd.1,Tr.get_del,if_neg hg.de.symm,Tr.get_del,if_pos rfl]
  ·show (((s.T.del g.d).del g.e).del g.key).get g.e=none
   rw [Tr.get_del,if_neg hg.kd.2,Tr.get_del,if_pos rfl]
noncomputable def cRun (cx:Ctx) (n:Nat):CEv:=cEvs cx (cDrawB cx.P cx.tb cx.ht) n
theorem cRun_ok {cx:Ctx} (hm:cx.P.follows .mixedOrders=true) (htb:TbOK cx.P cx.tb) (n:Nat):CallKOK cx.P (cRun cx n).call:=(cEvs_sound hm (cDrawB_ok hm htb cx.hok) htb n).2
end Go.Ev
end
section
/- The symbolic layer, part M: contracts laid together. -/
namespace Go.Ev
theorem tb_nil {P:Program}:TbOK P []:=fun _ _ h=>by cases h
theorem tb_cons {P:Program} {tb:Tbl} {g:FuncId} {ent:Tr AObj→List AV→Option Ct} (h:EntOK P g ent) (ht:TbOK P tb):TbOK P ((g,ent) :: tb):=by
 intro g' ent' hl
 have hl':cond (Nat.beq g g') (some ent) (look tb g')=some ent':=hl
 cases hb:Nat.beq g g' with
 | true =>
  rw [hb] at hl'
  injection hl' with hl'
  rw [← hl',← Nat.eq_of_beq_eq_true hb];exact h
 | false=>rw [hb] at hl';exact ht g' ent' hl'
theorem ent_of {P:Program} {g:FuncId} {ent:Tr AObj→List AV→Option Ct} {gl:List (Nat×AObj)} {ng:Nat} (hgl:∀ p∈gl,isGl p.2=true)
  (h:∀ H args ct,ent H args=some ct→(∀ p∈gl,H.get p.1=some p.2)∧vmL [] args args∧∃ pre v,ct = .need pre (.ret v) ∧
   (pre→∃ (cx:Ctx) (n:Nat),cx.P=P∧P.follows .mixedOrders=true∧TbOK P cx.tb∧(cRun cx n).call g args (mkH gl) ng (ResM P false v))):EntOK P g ent:=by
 intro H args ct hct p v hout
 obtain ⟨h1,h2,pre,v',h3,h4⟩:=h H args ct hct
 subst h3
 have ho:(open Classical in if pre then some (false,v') else none)=some (p,v):=hout
 by_cases hp:pre
 ·rw [if_pos hp] at ho
  injection ho with ho;injection ho with ho1 ho2
  obtain ⟨cx,n,e1,e2,e3,e4⟩:=h4 hp
  subst e1
  exact ent_ok (cRun_ok e2 e3 n) (ent:=fun H' args'=>open Classical in if H'=H∧args'=args then some (.ret v') else none) hgl (fun H' args' ct' hct'=>by
   classical
   by_cases hh:H'=H∧args'=args
   ·rw [if_pos hh] at hct'
    injection hct' with hct'
    obtain ⟨rfl,rfl⟩:=hh
    refine ⟨h1,h2,fun p' v'' hout'=>?_⟩
    rw [← hct'] at hout'
    injection hout' with hout'
    injection hout' with ha hb
    subst ha;subst hb;exact e4
   ·rw [if_neg hh] at hct';cases hct') H args (.ret v') (if_pos ⟨rfl,rfl⟩) p v (by rw [← ho1,← ho2];rfl)
 ·rw [if_neg hp] at ho;cases ho
end Go.Ev
namespace Go.Ev
theorem inR_i64 {n:Int}:inR .i64 n=true↔-9223372036854775808≤n∧n≤9223372036854775807:=inR_iff
theorem inR_u8 {n:Int}:inR .u8 n=true↔0≤n∧n≤255:=inR_iff
theorem inB_iff {n:Int} {l:Nat}:inB n l=true↔0≤n∧n < l:=by simp [inB]
theorem inL_iff {n:Int} {l:Nat}:inL n l=true↔0≤n∧n≤l:=by simp [inL]
theorem ilt_iff {a b:Int}:ilt a b=true↔a < b:=by simp [ilt_eq]
theorem ilt_iffn {a b:Int}:ilt a b=false↔b≤a:=by simp [ilt_eq]
theorem ieq_iffn {a b:Int}:ieq a b=false↔¬ a=b:=by simp [ieq_eq]
end Go.Ev
end
section
/- The symbolic layer, part N: a function that answers a new map: by content. -/
namespace Go.Ev
theorem ctOut_need {pre:Prop} {v w:AV} {p:Bool} (h:ctOut (.need pre (.ret v))=some (p,w)):pre∧false=p∧v=w:=by
 have ho:(open Classical in if pre then some (false,v) else none)=some (p,w):=h
 by_cases hp:pre
 ·rw [if_pos hp] at ho
  injection ho with ho;injection ho with ho1 ho2
  exact ⟨hp,ho1,ho2⟩
 ·rw [if_neg hp] at ho;cases ho
end Go.Ev
end
section
set_option linter.unusedVariables false
set_option linter.unusedSimpArgs false
section
/- The symbolic layer, part O: a contract at a call from outside: every block that is there stays as it is. -/
namespace Go.Ev
open Go.RowKit Go.ChangeShapes
def wRen (w:World):Ren:=⟨fun _=>none,fun b=>w.heap[b]?⟩
theorem ent_law {P:Program} {g:FuncId} {ent:Tr AObj→List AV→Option Ct} (hent:EntOK P g ent) {H:Tr AObj} {args:List AV} {ct:Ct} {b:Bool} (hct:ent H args=some ct)
  (hout:ctOut ct=some (false,.bool b)) {W:World} {vs:List Value} (hvs:VRL (wRen W) args vs) (hG:∀ g l,H.get g=some (.glob l)→∃ cs e fz,W.heap[g]? = some (.cells cs e fz)∧∀ ρ',VRL ρ' l cs.toList) :
  Calls P g vs.toArray W fun e w'=>e = .returned (.bool b)∧RowKit.Below W.heap.size W w':=by
 have r:Rel ⟨W.tape,W.os,W.output,fun b=>W.heap[b]?,fun _=>true⟩ (fun b=>W.heap[b]?) 0 (wRen W) (Tr.leaf:Tr AObj).get W :=
  ⟨rfl,rfl,rfl,fun b o hb=>hb,fun i o b hi=>(by rw [Tr.get_leaf] at hi;cases hi),fun i o b hi=>(by rw [Tr.get_leaf] at hi;cases hi),
   fun i j o o' b b' hi=>(by rw [Tr.get_leaf] at hi;cases hi),fun _ _=>rfl,fun i o hi=>(by rw [Tr.get_leaf] at hi;cases hi),fun _ _ h=>h,fun _ _ h=>h,fun i o b hi=>(by rw [Tr.get_leaf] at hi;cases hi),fun _ _ _ _ _=>rfl⟩
 have hcall:=hent H args ct hct false (.bool b) hout ⟨W.tape,W.os,W.output,fun b=>W.heap[b]?,fun _=>true⟩ _ _ W 0 .leaf hG r
 have hc':Calls P g vs.toArray W _:=callsIn_wide.1 (hcall.2 vs hvs)
 refine hc'.mono fun e w' hE=>?_
 obtain ⟨u,ρ',he,_,hr,hv⟩:=hE
 cases hv
 refine ⟨he,hr.os,hr.tape,hr.output,?_,fun k hk=>?_⟩
 ·by_cases h0:W.heap.size=0
  ·omega
  ·have hlt:W.heap.size - 1 < W.heap.size:=by omega
   have:=hr.fr (W.heap.size - 1) _ (Array.getElem?_eq_getElem hlt)
   have:=lt_of_heap this
   omega
 ·rw [Array.getElem?_eq_getElem hk]
  exact hr.fr k _ (Array.getElem?_eq_getElem hk)
end Go.Ev
end
section
/- The symbolic layer, part P: what a call from outside hands over, as a content. -/
namespace Go.Ev
open Go.ChangeShapes Go.WideShapes
theorem ctOut_of {p:Prop} {v:AV} (h:p):ctOut (.need p (.ret v))=some (false,v):=if_pos h
end Go.Ev
end
section
/- The symbolic layer, part Q: a contract of the kit's own as a contract of contents. -/
namespace Go.Ev
open Go.RowKit
theorem rel_below {E:Env} {F:Nat→Option Obj} {nx:Nat} {ρ:Ren} {h:Nat→Option AObj} {w w':World} (r:Rel E F nx ρ h w) (hb:RowKit.Below w.heap.size w w'):Rel E F (nx + 1) ρ h w':=by
 have hp:∀ b o,w.heap[b]? = some o→w'.heap[b]? = some o:=fun b o hbo=>by rw [hb.block b (lt_of_heap hbo)];exact hbo
 exact ⟨hb.tape.trans r.tape,hb.os.trans r.os,hb.output.trans r.output,fun b o h=>hp b o (r.fr b o h),fun i o b hi h=>let ⟨c,h1,h2⟩:=r.ob i o b hi h;⟨c,hp _ _ h1,h2⟩,r.dj,r.inj,
  fun i hi=>r.new i (Nat.le_of_succ_le hi),r.gl,r.bs,fun b o h=>hp b o (r.st b o h),r.sd,r.sf⟩
end Go.Ev
end
section
/- The symbolic layer, part R: closed contents beside one another; a contract at closed arguments; a contract out of the evaluator's word. -/
namespace Go.Ev
open Go.RowKit
end Go.Ev
end
section
/- The symbolic layer, part S: a slice of structs that a call from outside hands over, as a content. -/
namespace Go.Ev
open Go.ChangeShapes Go.WideShapes
end Go.Ev
end
section
/- The symbolic layer, part T: a contract out of a statement on calls, tables of the library in it. -/
namespace Go.Ev
open Go.RowKit
theorem ent_of_callsG {P : Program} {g : FuncId} {ent : Tr AObj → List AV → Option Ct} (hfn : ∃ fn c, P.funcs[g]? = some fn ∧ (fn.name == "runtime.NumGoroutine") = false ∧ fn.body = some c)
  (h:∀ H args ct,ent H args=some ct→∃ pre v,ct = .need pre (.ret v)∧(pre→∀ (ρ:Ren) (w:World) (vs:List Value),(∀ b o,ρ.st b=some o→w.heap[b]? = some o)→VRL ρ args vs →
   (∀ g l,H.get g=some (.glob l)→∃ cs e fz,w.heap[g]? = some (.cells cs e fz)∧∀ ρ',VRL ρ' l cs.toList) →
   Calls P g vs.toArray w fun e w'=>∃ u,e = .returned u∧VR ρ v u∧RowKit.Below w.heap.size w w')):EntOK P g ent:=by
 intro H args ct hct p v hout E F ρ w nx H' hG r
 obtain ⟨pre,v',rfl,h2⟩:=h H args ct hct
 obtain ⟨hp,rfl,rfl⟩:=ctOut_need hout
 refine ⟨hfn,fun vs hvs=>callsIn_wide.2 ((h2 hp ρ w vs r.st hvs fun g l hg=>?_).mono fun e w' ⟨u,he,hv,hb⟩=>?_)⟩
 ·obtain ⟨cs,e,fz,h3,h4⟩:=hG g l hg
  exact ⟨cs,e,fz,r.fr _ _ (r.bs _ _ h3),h4⟩
 ·exact ⟨u,ρ,he,⟨Ren.le_refl ρ,fun _ _=>rfl,Nat.le_succ _⟩,rel_below r hb,hv⟩
end Go.Ev
end
section
/- The symbolic layer, part U: slices from outside whose rows are contents in their turn; slices of which only the length is told. -/
namespace Go.Ev
end Go.Ev
end
section
/- The symbolic layer, part X: small tools for proofs about residual sentences; barriers. -/
namespace Go.Ev
noncomputable def bar (b:Bool):Bool:=@decide (b=true) (Classical.propDecidable _)
theorem bar_eq (b:Bool):bar b=b:=by unfold bar;cases b <;> simp
noncomputable def barr {α:Type} (a:α):α:=Classical.choose (⟨a,rfl⟩:∃ y,y=a)
theorem barr_eq {α:Type} (a:α):barr a=a:=Classical.choose_spec (⟨a,rfl⟩:∃ y,y=a)
theorem gl0 {q:Nat×AObj→Prop}:∀ p∈([]:List (Nat×AObj)),q p:=fun _ h=>by cases h
theorem cond_tf (b:Bool):(bif b then true else false)=b:=by cases b <;> rfl
theorem cond_cf (b c:Bool):(bif b then c else false)=(b && c):=by cases b <;> rfl
theorem nif_tf (b:Bool):(bif b then false else true) = !b:=by cases b <;> rfl
theorem rows_app {α:Type} {row:α→List AV} {d:α} {σ:List (Nat×Nat)} (hv:∀ t,vmL σ (row t) (row t)) {out:List α} {t:α} {g:Nat→List AV} (hg:g 0=row t) {e n:Nat} (hn:n=out.length + 1) :
  AllI fun i=>i * e < n * e→vmL σ (row ((out ++ [t]).getD i d)) (appF out.length (fun k=>row (out.getD k d)) g i):=⟨fun i hi=>by
 have hi:i < n:=Nat.lt_of_mul_lt_mul_right hi
 unfold appF
 by_cases h:i < out.length
 ·rw [show Nat.blt i out.length=true by simpa [Nat.blt_eq] using h,cond_true,show (out ++ [t]).getD i d=out.getD i d by simp [List.getD_eq_getElem?_getD,List.getElem?_append_left h]]
  exact hv _
 ·obtain rfl:i=out.length:=by omega
  rw [show Nat.blt out.length out.length=false by exact Bool.eq_false_iff.2 fun hb=>h (by simp [Nat.blt_eq] at hb),cond_false,Nat.sub_self,hg,show (out ++ [t]).getD out.length d=t by simp [List.getD_eq_getElem?_getD]]
  exact hv _⟩
theorem rowB_self (l:List UInt8):rowB l.length (byteRow l)=l:=by
 unfold rowB byteRow byteO
 apply List.ext_getElem
 ·simp
 ·intro i h1 h2
  simp at h1 ⊢
  simp [h1]
theorem allBR_self (l:List UInt8):allBR l.length (byteRow l)=true:=decide_eq_true fun i _=>by
 unfold byteRow isBR
 exact inR_u8.2 (by have:=(l.getD i 0).toNat_lt;omega)
theorem brP_f {K L:Prop}:brP false K L=L:=rfl
theorem brP_t {K L:Prop}:brP true K L=K:=rfl
theorem sdA_t {K:Prop}:sdA true K=K:=rfl
theorem allI_true:(AllI fun _=>True)=True:=eq_true ⟨fun _=>trivial⟩
theorem ieq_self (z:Int):ieq z z=true:=by rw [ieq_eq];simp
end Go.Ev
end
end
section
set_option linter.unusedVariables false
set_option linter.unusedSimpArgs false
/- The symbolic layer, part V: a closed call that the plain evaluator (Go.EvC) did in parts, as a contract; tables of numbers. -/
namespace Go.Ev
open Go.RowKit
noncomputable def gzT (gz:Go.EvC.GZ):List (Nat×AObj):=gz.map fun p=>(p.1,.glob (p.2.2.map fun z=>.int p.2.1 z))
noncomputable def isTab (o:Option AObj) (l:List AV):Bool:=match o with
 | some (.glob m)=>avEqL m l
 | _=>false
theorem isTab_eq {o:Option AObj} {l:List AV} (h:isTab o l=true):o=some (.glob l):=by
 unfold isTab at h
 split at h
 ·rw [avEqL_eq _ _ h]
 ·cases h
noncomputable def selG (gz:Go.EvC.GZ) (H:Tr AObj):Bool:=List.rec (motive:=fun _=>Bool) true (fun p _ ih=>cond (isTab (H.get p.1) (p.2.2.map fun z=>.int p.2.1 z)) ih false) gz
theorem selG_ok {H:Tr AObj}:∀ {gz:Go.EvC.GZ},selG gz H=true→∀ p∈gz,H.get p.1=some (.glob (p.2.2.map fun z=>.int p.2.1 z))
 | [],_,p,hp=>by cases hp
 | q :: gz,h,p,hp=>by
  obtain ⟨h1,h2⟩:=cond_and (show cond (isTab (H.get q.1) (q.2.2.map fun z=>.int q.2.1 z)) (selG gz H) false=true from h)
  rcases List.mem_cons.1 hp with rfl | hp
  ·exact isTab_eq h1
  ·exact selG_ok h2 p hp
theorem selG_gl {H:Tr AObj} {gz:Go.EvC.GZ} (h:selG gz H=true):∀ p∈gzT gz,H.get p.1=some p.2:=fun p hp=>by
 obtain ⟨q,hq,rfl⟩:=List.mem_map.1 hp
 exact selG_ok h q hq
theorem gzT_gl (gz:Go.EvC.GZ):∀ p∈gzT gz,isGl p.2=true:=fun p hp=>by
 obtain ⟨q,_,rfl⟩:=List.mem_map.1 hp
 rfl
theorem ints_valsK {ρ:Ren} {k:IntKind}:∀ (zs:List Int) {vs:List Value},VRL ρ (zs.map fun z=>.int k z) vs→vs=zs.map fun z=>.int k z
 | [],_,.nil=>rfl
 | _ :: zs,_,.cons _ _ _ _ h hs=>by
  cases h
  rw [ints_valsK zs hs];rfl
theorem ints_relK {ρ:Ren} (k:IntKind):∀ zs:List Int,VRL ρ (zs.map fun z=>.int k z) (zs.map fun z=>.int k z)
 | []=>.nil
 | z :: zs=>.cons _ _ _ _ (.int k z) (ints_relK k zs)
theorem ent_cut {P : Program} {g : FuncId} {b : Bool} (hfn : ∃ fn c, P.funcs[g]? = some fn ∧ (fn.name == "runtime.NumGoroutine") = false ∧ fn.body = some c) {gz : Go.EvC.GZ}
  (h:∀ w:World,Go.EvC.TabsIn gz w→Calls P g #[] w fun e w'=>e = .returned (.bool b)∧RowKit.Below w.heap.size w w') :
  EntOK P g (fun H args=>match args with
   | []=>cond (selG gz H) (some (.need True (.ret (.bool b)))) none
   | _=>none) :=
 ent_of_callsG hfn fun H args ct hct=>by
  split at hct
  ·cases hs:selG gz H with
   | false=>rw [hs] at hct;cases hct
   | true =>
    rw [hs] at hct
    injection hct with hct
    refine ⟨True,_,hct.symm,fun _ ρ w vs _ hvs hG=>?_⟩
    cases hvs
    refine (h w fun p hp=>?_).mono fun e w' ⟨he,hb⟩=>⟨_,he,.bool b,hb⟩
    obtain ⟨cs,e,fz,h1,h2⟩:=hG p.1 _ (selG_ok hs p hp)
    exact ⟨cs,e,fz,h1,ints_valsK _ (h2 ρ)⟩
  ·cases hct
theorem gz_law {gz:Go.EvC.GZ} {W:World} (h:Go.EvC.TabsIn gz W):∀ g l,(mkH (gzT gz)).get g=some (.glob l)→∃ cs e fz,W.heap[g]? = some (.cells cs e fz)∧∀ ρ',VRL ρ' l cs.toList:=fun g l hg=>by
 obtain ⟨p,hp,he⟩:=List.mem_map.1 (mkH_get hg)
 injection he with h1 h2
 injection h2 with h2
 obtain ⟨cs,e,fz,h3,h4⟩:=h p hp
 subst h1
 refine ⟨cs,e,fz,h3,fun ρ'=>?_⟩
 rw [h4,← h2]
 exact ints_relK _ _
end Go.Ev
end
