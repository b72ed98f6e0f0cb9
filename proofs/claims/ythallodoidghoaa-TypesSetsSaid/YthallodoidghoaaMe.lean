/- Laid by program out of its parts: SxF, SxG, SxI, SxJ, SxK, SxL, SxM, SxN. -/
import Derived.Test.YthallodoidghoaaMg
set_option linter.unusedVariables false
set_option linter.unusedSimpArgs false
section
/- The symbolic layer, part F: values and objects beside one another, over renumbering; content. -/
namespace Go.Ev
noncomputable def sg (σ:List (Nat×Nat)) (i:Nat):Option Nat :=
 List.rec (motive:=fun _=>Option Nat) none (fun p _ ih=>cond (Nat.beq p.1 i) (some p.2) ih) σ
structure AllI (R:Nat→Prop):Prop where
 h:∀ i,R i
mutual
noncomputable def vmP (σ:List (Nat×Nat)):AV→AV→Prop
 | .bool p,y=>match y with
  | .bool q=>q=p
  | _=>False
 | .int k m,y=>match y with
  | .int k' n=>ikEq k k'=true∧n=m
  | _=>False
 | .str m n,y=>match y with
  | .str m' n'=>m'=m∧n'=n
  | _=>False
 | .bs l,y=>match y with
  | .bs l'=>l'=l
  | .str m n=>bytesL m n=l
  | _=>False
 | .bv l,y=>match y with
  | .bv l'=>l'=l
  | .vec e n f=>Nat.beq e 1=true∧allBR n f=true∧rowB n f=l
  | .sl0=>l=[]
  | _=>False
 | .vec e n f,y=>match y with
  | .vec e' n' f'=>Nat.beq e e'=true∧n'=n∧AllI fun i=>i < n'→vmL σ (f i) (f' i)
  | .bv l=>Nat.beq e 1=true∧l.length=n∧AllI fun i=>i < l.length→vmL σ (f i) (byteRow l i)
  | .sl0=>n=0
  | _=>False
 | .pv l,y=>match y with
  | .pv l'=>vmL σ l l'
  | _=>False
 | .mapv has val z,y=>match y with
  | .mapv has' val' z'=>(∀ k,has' k=has k)∧(∀ k,vmP σ (val k) (val' k))∧(∀ k,has k=false→zOK z (val k))
  | _=>False
 | .ptr0,y=>match y with
  | .ptr0=>True
  | _=>False
 | .ptr i o,y=>match y with
  | .ptr j p=>sg σ i=some j∧Nat.beq o p=true
  | _=>False
 | .sl0,y=>match y with
  | .sl0=>True
  | _=>False
 | .sl i o n c,y=>match y with
  | .sl j p m d=>sg σ i=some j∧o=p∧m=n∧d=c
  | _=>False
 | .slo i o n e,y=>match y with
  | .slo j p m d=>sg σ i=some j∧o=p∧m=n∧Nat.beq e d=true
  | _=>False
 | .slg i n e,y=>match y with
  | .slg j m d=>sg σ i=some j∧m=n∧Nat.beq e d=true
  | .slo j p m d=>sg σ i=some j∧Nat.beq p 0=true∧m=n∧Nat.beq e d=true
  | .sl0=>n=0
  | _=>False
 | .map0,y=>match y with
  | .map0=>True
  | _=>False
 | .map i,y=>match y with
  | .map j=>sg σ i=some j
  | _=>False
 | .fn (.func f) a c,y=>match y with
  | .fn (.func g) b d=>Nat.beq f g=true∧vmL σ a b∧vmL σ c d
  | _=>False
 | .fn0,y=>match y with
  | .fn0=>True
  | _=>False
 | .iface t v,y=>match y with
  | .iface t' v'=>Nat.beq t t'=true∧vmP σ v v'
  | _=>False
 | .iface0,y=>match y with
  | .iface0=>True
  | _=>False
 | .agg l,y=>match y with
  | .agg l'=>vmL σ l l'
  | _=>False
 | .tup l,y=>match y with
  | .tup l'=>vmL σ l l'
  | _=>False
 | .gptr g o,y=>match y with
  | .gptr g' o'=>Nat.beq g g'=true∧Nat.beq o o'=true
  | _=>False
 | .yld i,y=>match y with
  | .yld j=>sg σ i=some j
  | _=>False
 | _,_=>False
noncomputable def vmL (σ:List (Nat×Nat)):List AV→List AV→Prop
 | [],l=>match l with
  | []=>True
  | _=>False
 | x :: l,l'=>match l' with
  | y :: m=>vmP σ x y∧vmL σ l m
  | []=>False
end
structure SgOK (σ:List (Nat×Nat)) (ρ ρ2:Ren):Prop where
 nm:∀ i j,sg σ i=some j→ρ2 i=ρ j
 st:∀ b o,ρ.st b=some o→ρ2.st b=some o
theorem bv_rows {ρ:Ren} {l:List UInt8} {v:Value} (h:VR ρ (.bv l) v):VR ρ (.vec 1 l.length (byteRow l)) v:=by
 cases h with
 | bvz _ hl base cap=>subst hl;exact .vecz _ _ _ rfl _ _
 | bv _ b o cap cs el fz hs hcap hc =>
  refine .vec 1 l.length _ b o cap cs el fz (fun i=>[.int .u8 ((l.getD i 0).toNat:Int)]) hs (by decide) hcap (fun i hi=>.cons _ _ _ _ (.int _ _) .nil) fun i hi j v hj=>?_
  match j with
  | 0=>injection hj with hj;subst hj;simpa using hc i hi
  | _ + 1=>simp at hj
theorem kOK_eq {has has':SKey→Bool} (h:∀ k,has k=has' k) {kd:TypeDesc} {k:SKey} (ho:kOK has kd k):kOK has' kd k:=by
 unfold kOK at ho ⊢
 split at ho
 ·show has' _=false;rw [← h];exact ho
 ·show has' _=true∧_;rw [← h];exact ho
 ·exact ho.elim
mutual
theorem vm_rel {σ:List (Nat×Nat)} {ρ ρ2:Ren} (hσ:SgOK σ ρ ρ2):∀ (a b:AV) (u:Value),vmP σ a b→VR ρ b u→VR ρ2 a u
 | .bool p,b,u,h,hb=>by
  cases b <;> first | (simp [vmP] at h;done) | skip
  rw [vmP] at h;subst h;cases hb;exact .bool _
 | .int k m,b,u,h,hb=>by
  cases b <;> first | (simp [vmP] at h;done) | skip
  rw [vmP] at h
  obtain ⟨h1,h2⟩:=h
  have:=ikEq_eq h1;subst this;subst h2;cases hb;exact .int _ _
 | .str m n,b,u,h,hb=>by
  cases b <;> first | (simp [vmP] at h;done) | skip
  rw [vmP] at h
  obtain ⟨rfl,rfl⟩:=h
  cases hb with
  | str _ _ hn=>exact .str _ _ hn
 | .bs l,b,u,h,hb=>by
  cases b <;> first | (simp [vmP] at h;done) | skip
  ·rw [vmP] at h;subst h;rw [strL_val hb rfl];exact .bs _
  ·rw [vmP] at h;subst h;cases hb;exact .bs _
 | .bv l,b,u,h,hb=>by
  cases b <;> first | (simp [vmP] at h;done) | skip
  ·rw [vmP] at h;subst h;cases hb;exact .bvz _ rfl _ _
  ·rw [vmP] at h;subst h
   cases hb with
   | bv _ b o cap cs el fz hs hcap hc=>exact .bv _ b o cap cs el fz (hσ.st _ _ hs) hcap hc
   | bvz _ hl base cap=>exact .bvz _ hl _ _
  ·rw [vmP] at h
   obtain ⟨h1,h2,rfl⟩:=h
   rw [Nat.beq_eq] at h1;subst h1
   cases sl_bytes hb h2 with
   | bv _ b o cap cs el fz hs hcap hc=>exact .bv _ b o cap cs el fz (hσ.st _ _ hs) hcap hc
   | bvz _ hl base cap=>exact .bvz _ hl _ _
 | .vec e n f,b,u,h,hb=>by
  have key:∀ (n':Nat) (f':Nat→List AV),VR ρ (.vec e n' f') u→n'=n→(∀ i,i < n'→vmL σ (f i) (f' i))→VR ρ2 (.vec e n f) u:=fun n' f' hb hn hf=>by
   subst hn
   cases hb with
   | vec _ _ _ b o cap cs el fz g hs he hcap hv hc=>exact .vec _ _ _ b o cap cs el fz g (hσ.st _ _ hs) he hcap (fun i hi=>vmL_rel hσ (f i) (f' i) (g i) (hf i hi) (hv i hi)) hc
   | vecz _ _ _ h0 base cap=>exact .vecz _ _ _ h0 _ _
  cases b <;> first | (simp [vmP] at h;done) | skip
  ·rw [vmP] at h;subst h;cases hb;exact .vecz _ _ _ rfl _ _
  ·rw [vmP] at h
   obtain ⟨h1,h2,h3⟩:=h
   rw [Nat.beq_eq] at h1;subst h1
   exact key _ _ (bv_rows hb) h2 h3.h
  ·rw [vmP] at h
   obtain ⟨h1,h2,h3⟩:=h
   rw [Nat.beq_eq] at h1;subst h1
   exact key _ _ hb h2 h3.h
 | .pv l,b,u,h,hb=>by
  cases b <;> first | (simp [vmP] at h;done) | skip
  rw [vmP] at h
  cases hb with
  | pv _ vs b o cs el fz hs hv hc=>exact .pv _ vs b o cs el fz (hσ.st _ _ hs) (vmL_rel hσ l _ vs h hv) hc
 | .mapv has val z,b,u,h,hb=>by
  cases b <;> first | (simp [vmP] at h;done) | skip
  rw [vmP] at h
  obtain ⟨h1,h2,h3⟩:=h
  cases hb with
  | mapv _ _ _ b es clock g hs hn hy hz hg =>
   exact .mapv _ _ _ b es clock g (hσ.st _ _ hs) (fun kd k u hk ho hf=>hn kd k u hk (kOK_eq (fun k=>(h1 k).symm) ho) (by rw [h1];exact hf)) (fun kd k u hk ho hf=>hy kd k u hk (kOK_eq (fun k=>(h1 k).symm) ho) (by rw [h1];exact hf)) h3
    fun k hk=>vm_rel hσ (val k) _ (g k) (h2 k) (hg k (by rw [h1];exact hk))
 | .ptr0,b,u,h,hb=>by
  cases b <;> first | (simp [vmP] at h;done) | skip
  cases hb;exact .ptr0
 | .ptr i o,b,u,h,hb=>by
  cases b <;> first | (simp [vmP] at h;done) | skip
  rw [vmP] at h
  obtain ⟨h1,h2⟩:=h
  rw [Nat.beq_eq] at h2;subst h2
  cases hb with
  | ptr _ _ b hb=>exact .ptr _ _ b (by rw [hσ.nm _ _ h1];exact hb)
 | .sl0,b,u,h,hb=>by
  cases b <;> first | (simp [vmP] at h;done) | skip
  cases hb;exact .sl0
 | .sl i o n c,b,u,h,hb=>by
  cases b <;> first | (simp [vmP] at h;done) | skip
  rw [vmP] at h
  obtain ⟨h1,rfl,rfl,rfl⟩:=h
  cases hb with
  | sl _ _ _ _ b hb=>exact .sl _ _ _ _ b (by rw [hσ.nm _ _ h1];exact hb)
 | .slo i o n e,b,u,h,hb=>by
  cases b <;> first | (simp [vmP] at h;done) | skip
  rw [vmP] at h
  obtain ⟨h1,rfl,rfl,h2⟩:=h
  rw [Nat.beq_eq] at h2;subst h2
  cases hb with
  | slo _ _ _ _ b hb he hl=>exact .slo _ _ _ _ b (by rw [hσ.nm _ _ h1];exact hb) he hl
 | .slg i n e,b,u,h,hb=>by
  cases b <;> first | (simp [vmP] at h;done) | skip
  ·rw [vmP] at h;subst h;cases hb;exact .slg0 _ _ _ rfl _
  ·rw [vmP] at h
   obtain ⟨h1,h0,rfl,h2⟩:=h
   rw [Nat.beq_eq] at h2 h0;subst h2;subst h0
   cases hb with
   | slo _ _ _ _ b hb he hl =>
    rw [Nat.sub_zero,Nat.add_zero]
    exact .slg _ _ _ b (by rw [hσ.nm _ _ h1];exact hb) he (by omega)
  ·rw [vmP] at h
   obtain ⟨h1,rfl,h2⟩:=h
   rw [Nat.beq_eq] at h2;subst h2
   cases hb with
   | slg _ _ _ b hb he hl=>exact .slg _ _ _ b (by rw [hσ.nm _ _ h1];exact hb) he hl
   | slg0 _ _ _ hn base=>exact .slg0 _ _ _ hn base
 | .map0,b,u,h,hb=>by
  cases b <;> first | (simp [vmP] at h;done) | skip
  cases hb;exact .map0
 | .map i,b,u,h,hb=>by
  cases b <;> first | (simp [vmP] at h;done) | skip
  rw [vmP] at h
  cases hb with
  | map _ b hb=>exact .map _ b (by rw [hσ.nm _ _ h];exact hb)
 | .fn (.func f) a c,b,u,h,hb=>by
  cases b <;> first | (simp [vmP] at h;done) | skip
  rename_i g b d
  cases g <;> first | (simp [vmP] at h;done) | skip
  rw [vmP] at h
  obtain ⟨h1,h2,h3⟩:=h
  rw [Nat.beq_eq] at h1;subst h1
  cases hb with
  | fn _ _ _ va vc ha hc=>exact .fn _ _ _ va vc (vmL_rel hσ a _ va h2 ha) (vmL_rel hσ c _ vc h3 hc)
 | .fn0,b,u,h,hb=>by
  cases b <;> first | (simp [vmP] at h;done) | skip
  cases hb;exact .fn0
 | .iface t v,b,u,h,hb=>by
  cases b <;> first | (simp [vmP] at h;done) | skip
  rw [vmP] at h
  obtain ⟨h1,h2⟩:=h
  rw [Nat.beq_eq] at h1;subst h1
  cases hb with
  | iface _ _ w hv=>exact .iface _ _ _ (vm_rel hσ v _ w h2 hv)
 | .iface0,b,u,h,hb=>by
  cases b <;> first | (simp [vmP] at h;done) | skip
  cases hb;exact .iface0
 | .agg l,b,u,h,hb=>by
  cases b <;> first | (simp [vmP] at h;done) | skip
  rw [vmP] at h
  cases hb with
  | agg _ vs hv=>exact .agg _ _ (vmL_rel hσ l _ vs h hv)
 | .tup l,b,u,h,hb=>by
  cases b <;> first | (simp [vmP] at h;done) | skip
  rw [vmP] at h
  cases hb with
  | tup _ vs hv=>exact .tup _ _ (vmL_rel hσ l _ vs h hv)
 | .gptr g o,b,u,h,hb=>by
  cases b <;> first | (simp [vmP] at h;done) | skip
  rw [vmP] at h
  obtain ⟨h1,h2⟩:=h
  rw [Nat.beq_eq] at h1 h2;subst h1;subst h2
  cases hb;exact .gptr _ _
 | .yld i,b,u,h,hb=>by
  cases b <;> first | (simp [vmP] at h;done) | skip
  rw [vmP] at h
  cases hb with
  | yld _ b hb=>exact .yld _ b (by rw [hσ.nm _ _ h];exact hb)
 | .sle _,b,u,h,hb | .chan0,b,u,h,hb | .chan _,b,u,h,hb | .pel _ _ _ _,b,u,h,hb=>by simp [vmP] at h
 | .fn (.method _) _ _,b,u,h,hb=>by simp [vmP] at h
 | .fn (.methodOf _ _) _ _,b,u,h,hb=>by simp [vmP] at h
 | .fn (.via _ _ _ _) _ _,b,u,h,hb=>by simp [vmP] at h
 | .fn (.yield _) _ _,b,u,h,hb=>by simp [vmP] at h
theorem vmL_rel {σ:List (Nat×Nat)} {ρ ρ2:Ren} (hσ:SgOK σ ρ ρ2):∀ (a b:List AV) (u:List Value),vmL σ a b→VRL ρ b u→VRL ρ2 a u
 | [],b,u,h,hb=>by
  cases b with
  | cons _ _=>simp [vmL] at h
  | nil=>cases hb;exact .nil
 | x :: l,b,u,h,hb=>by
  cases b with
  | nil=>simp [vmL] at h
  | cons y m =>
   rw [vmL] at h
   cases hb with
   | cons _ v _ vs h1 h2=>exact .cons _ _ _ _ (vm_rel hσ x y v h.1 h1) (vmL_rel hσ l m vs h.2 h2)
end
end Go.Ev
end
section
/- The symbolic layer, part G: objects and states beside one another: stations. -/
namespace Go.Ev
noncomputable def pcP (σ:List (Nat×Nat)) (c:Tr AV) (z:CB) (c':Tr AV) (z':CB) (n:Nat):Prop :=
 Nat.rec (motive:=fun _=>Prop) True (fun k ih=>ih∧(match cellOf c z k with
  | none=>True
  | some a=>match cellOf c' z' k with
   | none=>False
   | some b=>vmP σ a b)) n
noncomputable def esP (σ:List (Nat×Nat)):List AEnt→List AEnt→Prop
 | [],l=>match l with
  | []=>True
  | _=>False
 | e :: l,l'=>match l' with
  | d :: m=>(vmP σ e.key d.key∧vmP σ e.val d.val∧Nat.beq e.born d.born=true)∧esP σ l m
  | []=>False
noncomputable def trP (σ:List (Nat×Nat)) (T:Tr AV):Tr AV→Prop :=
 Tr.rec (motive:=fun _=>Tr AV→Prop) (fun _=>True) (fun v _ _ il ir T'=>Tr.rec (motive:=fun _=>Prop) False (fun v' l' r' _ _=>(match v with
  | none=>True
  | some a=>match v' with
   | none=>False
   | some b=>vmP σ a b)∧il l'∧ir r') T') T
theorem trP_gp {σ:List (Nat×Nat)}:∀ {T T':Tr AV},trP σ T T'→∀ (p:List Bool) (a:AV),Tr.gp p T=some a→∃ b,Tr.gp p T'=some b∧vmP σ a b
 | .leaf,_,_,p,a,h=>by rw [Tr.gp_leaf] at h;cases h
 | .node v l r,.leaf,h,p,a,hg=>False.elim h
 | .node v l r,.node v' l' r',h,p,a,hg=>by
  obtain ⟨h1,h2,h3⟩:=h
  cases p with
  | nil =>
   have hg':v=some a:=hg
   subst hg'
   cases v' with
   | none=>exact h1.elim
   | some b=>exact ⟨b,rfl,h1⟩
  | cons c p =>
   cases c with
   | true=>exact trP_gp h2 p a hg
   | false=>exact trP_gp h3 p a hg
noncomputable def omP (σ:List (Nat×Nat)) (a b:AObj):Prop :=
 match a with
 | .cells el c z n op=>match b with
  | .cells el' c' z' n' op'=>Nat.beq el el'=true∧(op || !op')=true∧(match z with
   | .rows e f=>match c with
    | .leaf=>match c',z' with
     | .leaf,.rows e' f'=>Nat.beq e e'=true∧n'=n∧AllI fun i=>i * e < n'→vmL σ (f i) (f' i)
     | _,_=>n'=n∧pcP σ .leaf (.rows e f) c' z' n'
    | _=>False
   | .per _=>Nat.beq n n'=true∧pcP σ c z c' z' n)
  | _=>False
 | .map es ck=>match b with
  | .map es' ck'=>Nat.beq ck ck'=true∧esP σ es es'
  | _=>False
 | .glob l=>match b with
  | .glob l'=>l'=l
  | _=>False
 | .dfr op=>match b with
  | .dfr op'=>cond op op' (!op')=true
  | _=>False
 | .loop st pend T N ps asg body d=>match st,pend,b with
  | .ready,none,.loop st' pend' T' N' ps' asg' body' d'=>match st',pend' with
   | .ready,none=>Nat.beq N N'=true∧(match sg σ d with
    | none=>False
    | some j=>Nat.beq j d'=true)∧ps=ps'∧asg=asg'∧body=body'∧trP σ T T'
   | _,_=>False
  | _,_,_=>False
 | _=>False
theorem pcP_get {σ:List (Nat×Nat)} {c:Tr AV} {z:CB} {c':Tr AV} {z':CB}:∀ {n:Nat},pcP σ c z c' z' n→∀ k a,k < n→cellOf c z k=some a→∃ b,cellOf c' z' k=some b∧vmP σ a b
 | 0,_,k,a,hk,_=>by omega
 | n + 1,h,k,a,hk,ha=>by
  have h':pcP σ c z c' z' n∧(match cellOf c z n with
   | none=>True
   | some a=>match cellOf c' z' n with
    | none=>False
    | some b=>vmP σ a b):=h
  by_cases hkn:k=n
  ·subst hkn
   have h2:=h'.2
   rw [ha] at h2
   simp only at h2
   split at h2
   ·exact h2.elim
   ·rename_i b hb;exact ⟨b,hb,h2⟩
  ·exact pcP_get h'.1 k a (by omega) ha
theorem vmL_get {σ:List (Nat×Nat)}:∀ {l m:List AV},vmL σ l m→∀ (j:Nat) (a:AV),l[j]? = some a→∃ b,m[j]? = some b∧vmP σ a b
 | [],m,h,j,a,ha=>by simp at ha
 | x :: l,m,h,j,a,ha=>by
  cases m with
  | nil=>simp [vmL] at h
  | cons y m =>
   rw [vmL] at h
   match j with
   | 0=>injection ha with ha;subst ha;exact ⟨y,rfl,h.1⟩
   | j + 1=>exact vmL_get h.2 j a ha
theorem esP_rel {σ:List (Nat×Nat)} {ρ ρ2:Ren} (hσ:SgOK σ ρ ρ2):∀ {es es':List AEnt} {l:List MapEntry},esP σ es es'→ERL ρ es' l→ERL ρ2 es l
 | [],es',l,h,hl=>by
  cases hl with
  | nil=>exact .nil
  | cons=>simp [esP] at h
 | e :: es,es',l,h,hl=>by
  cases hl with
  | nil=>simp [esP] at h
  | cons d m _ _ h1 h2 =>
   rw [esP] at h
   obtain ⟨⟨h3,h4,h5⟩,h6⟩:=h
   rw [Nat.beq_eq] at h5
   exact .cons _ _ _ _ ⟨vm_rel hσ _ _ _ h3 h1.1,vm_rel hσ _ _ _ h4 h1.2.1,h5.trans h1.2.2⟩ (esP_rel hσ h6 h2)
theorem om_rel {σ:List (Nat×Nat)} {ρ ρ2:Ren} (hσ:SgOK σ ρ ρ2) {a o:AObj} {b:Blk} {c:Obj} (h:omP σ a o) (ho:OR ρ b o c):OR ρ2 b a c:=by
 unfold omP at h
 split at h
 ·rename_i el c0 z n op
  split at h
  ·rename_i el' c' z' n' op'
   obtain ⟨h1,h2,h3⟩:=h
   rw [Nat.beq_eq] at h1;subst h1
   cases ho with
   | cells _ _ _ _ _ cs fz hsize hn hop hfz hc =>
    have hop2:∀ m,m=n'→op=false→m=b.cap:=fun m hm h=>by
     subst hm;subst h
     refine hop ?_
     cases op' <;> first | rfl | simp at h2
    cases z with
    | rows e f =>
     cases c0 with
     | node _ _ _=>exact h3.elim
     | leaf =>
      simp only at h3
      split at h3
      ·rename_i e' f'
       obtain ⟨h4,rfl,h6⟩:=h3
       rw [Nat.beq_eq] at h4;subst h4
       refine .cells _ _ _ _ _ cs fz hsize hn (hop2 _ rfl) hfz fun k a hk ha=>?_
       rw [cellOf_leaf] at ha
       have ha':(f (k / e))[k % e]? = some a:=ha
       have hlt:k / e * e < n':=Nat.lt_of_le_of_lt (Nat.div_mul_le_self k e) hk
       obtain ⟨b',hb',hm⟩:=vmL_get (h6.h _ hlt) _ _ ha'
       obtain ⟨v,hv,hr⟩:=hc k b' hk (by rw [cellOf_leaf];exact hb')
       exact ⟨v,hv,vm_rel hσ _ _ _ hm hr⟩
      ·obtain ⟨rfl,h5⟩:=h3
       refine .cells _ _ _ _ _ cs fz hsize hn (hop2 _ rfl) hfz fun k a hk ha=>?_
       obtain ⟨b',hb',hm⟩:=pcP_get h5 k a hk ha
       obtain ⟨v,hv,hr⟩:=hc k b' hk hb'
       exact ⟨v,hv,vm_rel hσ _ _ _ hm hr⟩
    | per zs =>
     simp only at h3
     obtain ⟨h4,h5⟩:=h3
     rw [Nat.beq_eq] at h4;subst h4
     refine .cells _ _ _ _ _ cs fz hsize hn (hop2 _ rfl) hfz fun k a hk ha=>?_
     obtain ⟨b',hb',hm⟩:=pcP_get h5 k a hk ha
     obtain ⟨v,hv,hr⟩:=hc k b' hk hb'
     exact ⟨v,hv,vm_rel hσ _ _ _ hm hr⟩
  ·exact h.elim
 ·split at h
  ·obtain ⟨h1,h2⟩:=h
   rw [Nat.beq_eq] at h1;subst h1
   cases ho with
   | map _ _ l hl=>exact .map _ _ l (esP_rel hσ h2 hl)
  ·exact h.elim
 ·split at h
  ·cases ho
  ·exact h.elim
 ·rename_i op
  split at h
  ·rename_i op'
   have e:op=op':=by cases op <;> cases op' <;> first | rfl | cases h
   subst e
   cases ho with
   | dfr _=>exact .dfr op
  ·exact h.elim
 ·rename_i st pend T N ps asg body d
  split at h
  ·rename_i st' pend' T' N' ps' asg' body' d'
   split at h
   ·obtain ⟨h1,h2,rfl,rfl,rfl,h6⟩:=h
    rw [Nat.beq_eq] at h1;subst h1
    split at h2
    ·exact h2.elim
    ·rename_i j hj
     rw [Nat.beq_eq] at h2;subst h2
     cases ho with
     | loop _ _ _ _ _ _ _ _ fn tmps bd hT hN hd =>
      refine .loop _ _ _ _ _ _ _ _ fn tmps bd (fun t a ha=>?_) hN ((hσ.nm _ _ hj).trans hd)
      obtain ⟨b',hb',hm⟩:=trP_gp h6 _ a ha
      obtain ⟨v,hv,hr⟩:=hT t b' hb'
      exact ⟨v,hv,vm_rel hσ _ _ _ hm hr⟩
   ·exact h.elim
  ·exact h.elim
 ·exact h.elim
mutual
noncomputable def subA (a b:AV) (σ:List (Nat×Nat)):List (Nat×Nat) :=
 match a with
 | .ptr i _=>match b with
  | .ptr j _=>addS i j σ
  | _=>σ
 | .sl i _ _ _=>match b with
  | .sl j _ _ _=>addS i j σ
  | _=>σ
 | .slo i _ _ _=>match b with
  | .slo j _ _ _=>addS i j σ
  | _=>σ
 | .slg i _ _=>match b with
  | .slg j _ _=>addS i j σ
  | .slo j _ _ _=>addS i j σ
  | _=>σ
 | .map i=>match b with
  | .map j=>addS i j σ
  | _=>σ
 | .yld i=>match b with
  | .yld j=>addS i j σ
  | _=>σ
 | .fn _ l m=>match b with
  | .fn _ l' m'=>subL m m' (subL l l' σ)
  | _=>σ
 | .agg l=>match b with
  | .agg l'=>subL l l' σ
  | _=>σ
 | .tup l=>match b with
  | .tup l'=>subL l l' σ
  | _=>σ
 | .iface _ v=>match b with
  | .iface _ v'=>subA v v' σ
  | _=>σ
 | _=>σ
noncomputable def subL (a b:List AV) (σ:List (Nat×Nat)):List (Nat×Nat) :=
 match a with
 | []=>σ
 | x :: l=>match b with
  | []=>σ
  | y :: m=>subL l m (subA x y σ)
noncomputable def addS (i j:Nat) (σ:List (Nat×Nat)):List (Nat×Nat):=Option.rec (motive:=fun _=>List (Nat×Nat)) ((i,j) :: σ) (fun _=>σ) (sg σ i)
end
noncomputable def subC (c:Tr AV) (z:CB) (c':Tr AV) (z':CB) (n:Nat) (σ:List (Nat×Nat)):List (Nat×Nat) :=
 Nat.rec (motive:=fun _=>List (Nat×Nat)) σ (fun k ih=>match cellOf c z k with
  | none=>ih
  | some a=>match cellOf c' z' k with
   | none=>ih
   | some b=>subA a b ih) n
noncomputable def subOb (a b:AObj) (σ:List (Nat×Nat)):List (Nat×Nat) :=
 match a with
 | .cells _ c z n _=>match z with
  | .rows _ _=>σ
  | .per _=>match b with
   | .cells _ c' z' _ _=>subC c z c' z' n σ
   | _=>σ
 | _=>σ
noncomputable def fL {β:Type} (l:List (Nat×Nat)):(List (Nat×Nat)→β)→β :=
 List.rec (motive:=fun _=>(List (Nat×Nat)→β)→β) (fun k=>k []) (fun p _ ih k=>fN p.1 fun a=>fN p.2 fun b=>ih fun l=>k ((a,b) :: l)) l
theorem fL_eq {β:Type}:∀ (l:List (Nat×Nat)) (k:List (Nat×Nat)→β),fL l k=k l
 | [],_=>rfl
 | p :: l,k=>by
  show (fN p.1 fun a=>fN p.2 fun b=>fL l fun l=>k ((a,b) :: l))=_
  rw [fN_eq,fN_eq,fL_eq l]
noncomputable def subT (T:Tr AV) (l:List (Nat×AV)) (σ:List (Nat×Nat)):List (Nat×Nat) :=
 List.rec (motive:=fun _=>List (Nat×Nat)→List (Nat×Nat)) (fun σ=>σ) (fun p _ ih σ=>fL (Option.rec (motive:=fun _=>List (Nat×Nat)) σ (fun b=>subA p.2 b σ) (T.get p.1)) ih) l σ
noncomputable def subH (H:Tr AObj) (l:List (Nat×AObj)) (σ:List (Nat×Nat)):List (Nat×Nat) :=
 List.rec (motive:=fun _=>List (Nat×Nat)→List (Nat×Nat)) (fun σ=>σ) (fun p _ ih σ=>fL (Option.rec (motive:=fun _=>List (Nat×Nat)) σ (fun j =>
  Option.rec (motive:=fun _=>List (Nat×Nat)) σ (fun o=>subOb p.2 o σ) (H.get j)) (sg σ p.1)) ih) l σ
noncomputable def nod (l:List Nat):Bool:=List.rec (motive:=fun _=>Bool) true (fun a l ih=>cond (l.any (Nat.beq a)) false ih) l
noncomputable def idS (n0:Nat):List (Nat×Nat):=(List.range n0).map fun i=>(i,i)
def memN (i:Nat) (l:List Nat):Bool:=l.any fun j=>Nat.beq i j
theorem memN_of {i:Nat} {l:List Nat} (h:i∈l):memN i l=true:=List.any_eq_true.2 ⟨i,h,Nat.beq_refl i⟩
noncomputable def sgWF (n0 nx:Nat) (dom:List Nat) (σ:List (Nat×Nat)):Bool :=
 cond ((List.range n0).all fun i=>Option.rec (motive:=fun _=>Bool) false (fun j=>Nat.beq j i) (sg σ i)) (cond (σ.all fun p=>Nat.blt p.1 nx) (nod ((σ.filter fun p=>memN p.1 dom).map (·.2))) false) false
noncomputable def tP (σ:List (Nat×Nat)) (T:Tr AV) (l:List (Nat×AV)):Prop :=
 List.rec (motive:=fun _=>Prop) True (fun p _ ih=>(match T.get p.1 with
  | none=>False
  | some b=>vmP σ p.2 b)∧ih) l
def isGl:AObj→Bool
 | .glob _=>true
 | _=>false
noncomputable def hP (n0:Nat) (σ:List (Nat×Nat)) (H:Tr AObj) (l:List (Nat×AObj)):Prop :=
 List.rec (motive:=fun _=>Prop) True (fun p _ ih=>(cond (isGl p.2) (Nat.blt p.1 n0) true=true∧match sg σ p.1 with
  | none=>True
  | some j=>match H.get j with
   | none=>False
   | some o=>omP σ p.2 o)∧ih) l
noncomputable def mkT (l:List (Nat×AV)):Tr AV:=List.rec (motive:=fun _=>Tr AV) .leaf (fun p _ ih=>ih.set p.1 p.2) l
noncomputable def mkH (l:List (Nat×AObj)):Tr AObj:=List.rec (motive:=fun _=>Tr AObj) .leaf (fun p _ ih=>ih.set p.1 p.2) l
theorem mkT_get:∀ {l:List (Nat×AV)} {t:Nat} {a:AV},(mkT l).get t=some a→(t,a)∈l
 | [],t,a,h=>by rw [show mkT [] = .leaf from rfl,Tr.get_leaf] at h;cases h
 | p :: l,t,a,h=>by
  have h':((mkT l).set p.1 p.2).get t=some a:=h
  rw [Tr.get_set] at h'
  split at h'
  ·rename_i e;injection h' with h';subst e;subst h';exact List.mem_cons_self ..
  ·exact List.mem_cons_of_mem _ (mkT_get h')
theorem mkH_get:∀ {l:List (Nat×AObj)} {t:Nat} {a:AObj},(mkH l).get t=some a→(t,a)∈l
 | [],t,a,h=>by rw [show mkH [] = .leaf from rfl,Tr.get_leaf] at h;cases h
 | p :: l,t,a,h=>by
  have h':((mkH l).set p.1 p.2).get t=some a:=h
  rw [Tr.get_set] at h'
  split at h'
  ·rename_i e;injection h' with h';subst e;subst h';exact List.mem_cons_self ..
  ·exact List.mem_cons_of_mem _ (mkH_get h')
theorem tP_mem {σ:List (Nat×Nat)} {T:Tr AV}:∀ {l:List (Nat×AV)},tP σ T l→∀ p∈l,∃ b,T.get p.1=some b∧vmP σ p.2 b
 | [],_,p,hp=>by cases hp
 | q :: l,h,p,hp=>by
  have h':(match T.get q.1 with
   | none=>False
   | some b=>vmP σ q.2 b)∧tP σ T l:=h
  rcases List.mem_cons.1 hp with rfl | hp
  ·have h2:=h'.1
   split at h2
   ·exact h2.elim
   ·rename_i b hb;exact ⟨b,hb,h2⟩
  ·exact tP_mem h'.2 p hp
theorem hP_mem {n0:Nat} {σ:List (Nat×Nat)} {H:Tr AObj}:∀ {l:List (Nat×AObj)},hP n0 σ H l→∀ p∈l,cond (isGl p.2) (Nat.blt p.1 n0) true=true∧∀ j,sg σ p.1=some j→∃ o,H.get j=some o∧omP σ p.2 o
 | [],_,p,hp=>by cases hp
 | q :: l,h,p,hp=>by
  have h':(cond (isGl q.2) (Nat.blt q.1 n0) true=true∧match sg σ q.1 with
   | none=>True
   | some j=>match H.get j with
    | none=>False
    | some o=>omP σ q.2 o)∧hP n0 σ H l:=h
  rcases List.mem_cons.1 hp with rfl | hp
  ·refine ⟨h'.1.1,fun j hj=>?_⟩
   have h2:=h'.1.2
   rw [hj] at h2
   simp only at h2
   split at h2
   ·exact h2.elim
   ·rename_i o ho;exact ⟨o,ho,h2⟩
  ·exact hP_mem h'.2 p hp
theorem sg_mem:∀ {σ:List (Nat×Nat)} {i j:Nat},sg σ i=some j→(i,j)∈σ
 | [],i,j,h=>by cases h
 | p :: σ,i,j,h=>by
  have h':cond (Nat.beq p.1 i) (some p.2) (sg σ i)=some j:=h
  cases hb:Nat.beq p.1 i with
  | true =>
   rw [hb] at h';rw [Nat.beq_eq] at hb
   injection h' with h';subst hb;subst h'
   exact List.mem_cons_self ..
  | false=>rw [hb] at h';exact List.mem_cons_of_mem _ (sg_mem h')
theorem nod_inj:∀ {l:List (Nat×Nat)},nod (l.map (·.2))=true→∀ p∈l,∀ q∈l,p.2=q.2→p=q
 | [],_,p,hp,_,_,_=>by cases hp
 | a :: l,h,p,hp,q,hq,e=>by
  have h':cond ((l.map (·.2)).any (Nat.beq a.2)) false (nod (l.map (·.2)))=true:=h
  cases ha:(l.map (·.2)).any (Nat.beq a.2) with
  | true=>rw [ha] at h';cases h'
  | false =>
   rw [ha,cond_false] at h'
   have hno:∀ r∈l,r.2≠a.2:=fun r hr e=>by
    have:(l.map (·.2)).any (Nat.beq a.2)=true:=List.any_eq_true.2 ⟨r.2,List.mem_map.2 ⟨r,hr,rfl⟩,by rw [Nat.beq_eq];exact e.symm⟩
    rw [ha] at this;cases this
   rcases List.mem_cons.1 hp with h1 | h1 <;> rcases List.mem_cons.1 hq with h2 | h2
   ·rw [h1,h2]
   ·rw [h1] at e;exact absurd e.symm (hno q h2)
   ·rw [h2] at e;exact absurd e (hno p h1)
   ·exact nod_inj h' p h1 q h2 e
structure Keep (n0:Nat) (ρ ρ':Ren):Prop where
 lo:∀ i,i < n0→ρ' i=ρ i
 st:∀ b o,ρ.st b=some o→ρ'.st b=some o
theorem Keep.refl (n0:Nat) (ρ:Ren):Keep n0 ρ ρ:=⟨fun _ _=>rfl,fun _ _ h=>h⟩
theorem Keep.trans {n0:Nat} {a b c:Ren} (h:Keep n0 a b) (k:Keep n0 b c):Keep n0 a c :=
 ⟨fun i hi=>(k.lo i hi).trans (h.lo i hi),fun b o hb=>k.st b o (h.st b o hb)⟩
theorem Keep.of_rx {n0 n n':Nat} {ρ ρ':Ren} (h:RX n n' ρ ρ') (hn:n0≤n):Keep n0 ρ ρ' :=
 ⟨fun i hi=>h.lo i (Nat.lt_of_lt_of_le hi hn),h.le.st⟩
noncomputable def renS (σ:List (Nat×Nat)) (ρ:Ren):Ren:=⟨fun i=>(sg σ i).bind ρ.nm,ρ.st⟩
theorem renS_ok (σ:List (Nat×Nat)) (ρ:Ren):SgOK σ ρ (renS σ ρ):=⟨fun i j h=>by show (sg σ i).bind ρ.nm=_;rw [h];rfl,fun _ _ h=>h⟩
noncomputable def stP (n0 N nx:Nat) (T:List (Nat×AV)) (H:List (Nat×AObj)) (s:St):Prop :=
 match s.D,s.ro with
 | [],none=>fL (subH s.H H (subT s.T T (idS n0))) fun σ=>cond (Nat.beq s.N N) (cond (Nat.ble n0 nx) (sgWF n0 nx (H.map (·.1)) σ) false) false=true∧tP σ s.T T∧hP n0 σ s.H H
 | _,_=>False
theorem stP_rel {n0 N nx:Nat} {T:List (Nat×AV)} {H:List (Nat×AObj)} {s:St} (h:stP n0 N nx T H s) {E:Env} {F:Nat→Option Obj} {ρ:Ren} {a:Act} {w:World} {ro:Option Nat} (hs:SR E F ρ s a w ro) :
  n0≤nx∧∃ ρ2,Keep n0 ρ ρ2∧SR E F ρ2 ⟨N,mkT T,mkH H,nx,none,[]⟩ a w ro:=by
 unfold stP at h
 split at h
 ·rename_i hD hro
  rw [fL_eq] at h
  generalize (subH s.H H (subT s.T T (idS n0)))=σ at h
  obtain ⟨hw,hT,hH⟩:=h
  obtain ⟨hN,hw⟩:=cond_and hw
  obtain ⟨hn0,hw⟩:=cond_and hw
  rw [Nat.beq_eq] at hN
  rw [Nat.ble_eq] at hn0
  refine ⟨hn0,?_⟩
  unfold sgWF at hw
  obtain ⟨hw1,hw2⟩:=cond_and hw
  obtain ⟨hw2,hw3⟩:=cond_and hw2
  have hσ:=renS_ok σ ρ
  have hnm:∀ i b,renS σ ρ i=some b→∃ j,sg σ i=some j∧ρ j=some b:=fun i b h=>by
   have h':(sg σ i).bind ρ.nm=some b:=h
   cases hsi:sg σ i with
   | none=>rw [hsi] at h';cases h'
   | some j=>rw [hsi] at h';exact ⟨j,rfl,h'⟩
  have hobj:∀ i o b,(mkH H).get i=some o→renS σ ρ i=some b→∃ j o',sg σ i=some j∧ρ j=some b∧s.H.get j=some o'∧omP σ o o':=fun i o b hi hb=>by
   obtain ⟨j,h1,h2⟩:=hnm i b hb
   obtain ⟨o',h3,h4⟩:=(hP_mem hH _ (mkH_get hi)).2 j h1
   exact ⟨j,o',h1,h2,h3,h4⟩
  have r:=hs.rel
  refine ⟨renS σ ρ,⟨fun i hi=>?_,fun _ _ h=>h⟩,⟨⟨r.tape,r.os,r.output,r.fr,fun i o b hi hb=>?_,fun i o b hi hb=>?_,fun i k o o' b b' hi hk hb hb' e=>?_,fun i hi=>?_,fun g l hg=>?_,r.bs,r.st,fun i o b hi hb=>?_,r.sf⟩,fun t v ht=>?_,hs.size.trans hN,?_,?_⟩⟩
  ·have:=List.all_eq_true.1 hw1 i (List.mem_range.2 hi)
   cases hsi:sg σ i with
   | none=>rw [hsi] at this;cases this
   | some j =>
    rw [hsi] at this
    have this:Nat.beq j i=true:=this
    rw [Nat.beq_eq] at this;subst this
    show (sg σ j).bind ρ.nm=_
    rw [hsi];rfl
  ·obtain ⟨j,o',h1,h2,h3,h4⟩:=hobj i o b hi hb
   obtain ⟨c,h5,h6⟩:=r.ob j o' b h3 h2
   exact ⟨c,h5,om_rel hσ h4 h6⟩
  ·obtain ⟨j,o',h1,h2,h3,h4⟩:=hobj i o b hi hb
   exact r.dj j o' b h3 h2
  ·obtain ⟨j,p,h1,h2,h3,h4⟩:=hobj i o b hi hb
   obtain ⟨j',p',h1',h2',h3',h4'⟩:=hobj k o' b' hk hb'
   have hj:=r.inj j j' p p' b b' h3 h3' h2 h2' e
   have:=nod_inj hw3 _ (List.mem_filter.2 ⟨sg_mem h1,memN_of (List.mem_map.2 ⟨_,mkH_get hi,rfl⟩)⟩) _ (List.mem_filter.2 ⟨sg_mem h1',memN_of (List.mem_map.2 ⟨_,mkH_get hk,rfl⟩)⟩) hj
   exact congrArg Prod.fst this
  ·show (sg σ i).bind ρ.nm=none
   cases hsi:sg σ i with
   | none=>rfl
   | some j =>
    have h1:Nat.blt i nx=true:=List.all_eq_true.1 hw2 _ (sg_mem hsi)
    rw [Nat.blt_eq] at h1
    have hi':nx≤i:=hi
    omega
  ·obtain ⟨h1,h2⟩:=hP_mem hH _ (mkH_get hg)
   have hlt:g < n0:=by
    have h1:Nat.blt g n0=true:=h1
    rwa [Nat.blt_eq] at h1
   have:=List.all_eq_true.1 hw1 g (List.mem_range.2 hlt)
   cases hsi:sg σ g with
   | none=>rw [hsi] at this;cases this
   | some j =>
    rw [hsi] at this
    have this:Nat.beq j g=true:=this
    rw [Nat.beq_eq] at this;subst this
    obtain ⟨o,h3,h4⟩:=h2 j hsi
    cases o with
    | glob l' =>
     have h4:l'=l:=h4
     subst h4;exact r.gl j l' h3
    | _=>exact h4.elim
  ·obtain ⟨j,o',h1,h2,h3,h4⟩:=hobj i o b hi hb
   exact r.sd j o' b h3 h2
  ·obtain ⟨b,h1,h2⟩:=tP_mem hT _ (mkT_get ht)
   obtain ⟨u,h3,h4⟩:=hs.tr _ b h1
   exact ⟨u,h3,vm_rel hσ _ _ _ h2 h4⟩
  ·have hdr:=hs.dr
   rw [hD] at hdr
   generalize a.defers=ds at hdr
   cases hdr;exact .nil
  ·have hrr:=hs.rr
   rw [hro] at hrr
   cases hrr;exact .none
 ·exact h.elim
end Go.Ev
end
section
/- The symbolic layer, part I: contracts, and the evaluator that leaves a sentence: definitions. -/
namespace Go.Ev
inductive Ct where
 | ret (v:AV)
 | pan (v:AV)
 | br (b:Bool) (t e:Ct)
 | need (p:Prop) (t:Ct)
abbrev Tbl:=List (FuncId×(Tr AObj→List AV→Option Ct))
noncomputable def look (tb:Tbl) (g:FuncId):Option (Tr AObj→List AV→Option Ct) :=
 List.rec (motive:=fun _=>Option (Tr AObj→List AV→Option Ct)) none (fun p _ ih=>cond (Nat.beq p.1 g) (some p.2) ih) tb
noncomputable def sdA (b:Bool) (K:Prop):Prop:=Bool.rec (motive:=fun _=>Prop) False K b
noncomputable def brP (b:Bool) (K L:Prop):Prop:=Bool.rec (motive:=fun _=>Prop) L K b
theorem sdA_iff {b:Bool} {K:Prop}:sdA b K↔b=true∧K:=by cases b <;> simp [sdA]
theorem brP_iff {b:Bool} {K L:Prop}:brP b K L↔(b=true→K)∧(b=false→L):=by cases b <;> simp [brP]
theorem brP_of {b:Bool} {K L:Prop} (h1:b=true→K) (h2:b=false→L):brP b K L:=brP_iff.2 ⟨h1,h2⟩
theorem sdA_of {b:Bool} {K:Prop} (h1:b=true) (h2:K):sdA b K:=sdA_iff.2 ⟨h1,h2⟩
noncomputable def cCt (ct:Ct) (R Pn:AV→Prop):Prop:=Ct.rec (motive:=fun _=>Prop) R Pn (fun b _ _ it ie=>brP b it ie) (fun p _ it=>p∧it) ct
open Classical in
noncomputable def ctOut (ct:Ct):Option (Bool×AV):=Ct.rec (motive:=fun _=>Option (Bool×AV)) (fun v=>some (false,v)) (fun v=>some (true,v)) (fun b _ _ it ie=>cond b it ie) (fun p _ it=>if p then it else none) ct
theorem cCt_out {R Pn:AV→Prop}:∀ {ct:Ct},cCt ct R Pn→∃ p v,ctOut ct=some (p,v)∧(if p then Pn v else R v)
 | .ret v,h=>⟨false,v,rfl,h⟩
 | .pan v,h=>⟨true,v,rfl,h⟩
 | .br b t e,h=>by
  have h':brP b (cCt t R Pn) (cCt e R Pn):=h
  cases b with
  | true=>exact cCt_out (ct:=t) h'
  | false=>exact cCt_out (ct:=e) h'
 | .need p t,h=>by
  have h':p∧cCt t R Pn:=h
  obtain ⟨q,v,h1,h2⟩:=cCt_out (ct:=t) h'.2
  exact ⟨q,v,(if_pos h'.1).trans h1,h2⟩
def outCR (p:Bool) (v:AV) (H:Tr AObj) (nx:Nat):CR:=match p with
 | false=>.mk v H nx
 | true=>.pan v H nx
inductive HCt where
 | ret (v:AV) (up:List (Nat×AObj)) (nx:Nat)
 | pan (v:AV) (up:List (Nat×AObj)) (nx:Nat)
 | br (b:Bool) (t e:HCt)
 | need (p:Prop) (t:HCt)
abbrev HEnt:=Tr AObj→Nat→List AV→Option HCt
abbrev HTbl:=List (FuncId×HEnt)
noncomputable def lookH (tb:HTbl) (g:FuncId):Option HEnt :=
 List.rec (motive:=fun _=>Option HEnt) none (fun p _ ih=>cond (Nat.beq p.1 g) (some p.2) ih) tb
noncomputable def setL (l:List (Nat×AObj)) (H:Tr AObj):Tr AObj:=List.rec (motive:=fun _=>Tr AObj) H (fun p _ ih=>ih.set p.1 p.2) l
noncomputable def cHCt (hc:HCt) (R Pn:AV→List (Nat×AObj)→Nat→Prop):Prop:=HCt.rec (motive:=fun _=>Prop) R Pn (fun b _ _ it ie=>brP b it ie) (fun p _ it=>p∧it) hc
open Classical in
noncomputable def hOut (hc:HCt):Option (Bool×AV×List (Nat×AObj)×Nat) :=
 HCt.rec (motive:=fun _=>Option (Bool×AV×List (Nat×AObj)×Nat)) (fun v up nx=>some (false,v,up,nx)) (fun v up nx=>some (true,v,up,nx)) (fun b _ _ it ie=>cond b it ie) (fun p _ it=>if p then it else none) hc
theorem cHCt_out {R Pn:AV→List (Nat×AObj)→Nat→Prop}:∀ {hc:HCt},cHCt hc R Pn→∃ p v up nx,hOut hc=some (p,v,up,nx)∧(if p then Pn v up nx else R v up nx)
 | .ret v up nx,h=>⟨false,v,up,nx,rfl,h⟩
 | .pan v up nx,h=>⟨true,v,up,nx,rfl,h⟩
 | .br b t e,h=>by
  have h':brP b (cHCt t R Pn) (cHCt e R Pn):=h
  cases b with
  | true=>exact cHCt_out (hc:=t) h'
  | false=>exact cHCt_out (hc:=e) h'
 | .need p t,h=>by
  have h':p∧cHCt t R Pn:=h
  obtain ⟨q,v,up,nx,h1,h2⟩:=cHCt_out (hc:=t) h'.2
  exact ⟨q,v,up,nx,(if_pos h'.1).trans h1,h2⟩
def HEntOK (P:Program) (g:FuncId) (ent:HEnt):Prop :=
 ∀ H nx args hc,ent H nx args=some hc→∀ p v up nx',hOut hc=some (p,v,up,nx')→∀ E F ρ w,Rel E F nx ρ H.get w→TgtOK P (.fn g args) w ρ (EndsR E F nx ρ (outCR p v (setL up H) nx'))
def HtOK (P:Program) (ht:HTbl):Prop:=∀ g ent,lookH ht g=some ent→HEntOK P g ent
theorem ht_nil (P:Program):HtOK P []:=fun _ _ h=>by cases h
theorem ht_cons {P:Program} {ht:HTbl} {g:FuncId} {ent:HEnt} (h:HEntOK P g ent) (hh:HtOK P ht):HtOK P ((g,ent) :: ht):=by
 intro g' ent' hl
 have hl':cond (Nat.beq g g') (some ent) (lookH ht g')=some ent':=hl
 cases hb:Nat.beq g g' with
 | true =>
  rw [hb] at hl'
  injection hl' with hl'
  rw [← hl',← Nat.eq_of_beq_eq_true hb];exact h
 | false=>rw [hb] at hl';exact hh g' ent' hl'
structure RCt where
 X:Type
 pre:Prop
 Q:X→Prop
 v:X→AV
abbrev REnt:=Tr AObj→List AV→Option RCt
abbrev RTbl:=List (FuncId×REnt)
noncomputable def lookR (tb:RTbl) (g:FuncId):Option REnt :=
 List.rec (motive:=fun _=>Option REnt) none (fun p _ ih=>cond (Nat.beq p.1 g) (some p.2) ih) tb
def REntOK (P:Program) (g:FuncId) (ent:REnt):Prop :=
 ∀ H args rc,ent H args=some rc→rc.pre→∀ E F ρ w nx H',(∀ g l,H.get g=some (.glob l)→∃ cs e fz,E.base g=some (.cells cs e fz)∧∀ ρ',VRL ρ' l cs.toList)→Rel E F nx ρ H'.get w →
  TgtOK P (.fn g args) w ρ (fun e w'=>∃ r:CR,(∃ x,rc.Q x∧r = .mk (rc.v x) H' (nx + 1))∧EndsR E F nx ρ r e w')
def RtOK (P:Program) (rt:RTbl):Prop:=∀ g ent,lookR rt g=some ent→REntOK P g ent
theorem rt_nil (P:Program):RtOK P []:=fun _ _ h=>by cases h
theorem rt_cons {P:Program} {rt:RTbl} {g:FuncId} {ent:REnt} (h:REntOK P g ent) (hh:RtOK P rt):RtOK P ((g,ent) :: rt):=by
 intro g' ent' hl
 have hl':cond (Nat.beq g g') (some ent) (lookR rt g')=some ent':=hl
 cases hb:Nat.beq g g' with
 | true =>
  rw [hb] at hl'
  injection hl' with hl'
  rw [← hl',← Nat.eq_of_beq_eq_true hb];exact h
 | false=>rw [hb] at hl';exact hh g' ent' hl'
structure RHCt where
 X:Type
 pre:Prop
 Q:X→Prop
 v:X→AV
 up:X→List (Nat×AObj)
 nx:Nat
abbrev RHEnt:=Tr AObj→Nat→List AV→Option RHCt
abbrev RHTbl:=List (FuncId×RHEnt)
noncomputable def lookRH (tb:RHTbl) (g:FuncId):Option RHEnt :=
 List.rec (motive:=fun _=>Option RHEnt) none (fun p _ ih=>cond (Nat.beq p.1 g) (some p.2) ih) tb
def RHEntOK (P:Program) (g:FuncId) (ent:RHEnt):Prop :=
 ∀ H nx args rc,ent H nx args=some rc→rc.pre→∀ E F ρ w,Rel E F nx ρ H.get w →
  TgtOK P (.fn g args) w ρ (fun e w'=>∃ r:CR,(∃ x,rc.Q x∧r = .mk (rc.v x) (setL (rc.up x) H) rc.nx)∧EndsR E F nx ρ r e w')
def RhOK (P:Program) (rt:RHTbl):Prop:=∀ g ent,lookRH rt g=some ent→RHEntOK P g ent
theorem rh_nil (P:Program):RhOK P []:=fun _ _ h=>by cases h
noncomputable def callT (tb:Tbl) (ht:HTbl):CallF:=fun t H nx=>match t with
 | .fn g args=>Option.rec (motive:=fun _=>Option CR) (ob (look tb g) fun ent=>ob (ent H args) fun ct=>ob (ctOut ct) fun o=>some (outCR o.1 o.2 H (nx + 1)))
   (fun ent=>ob (ent H nx args) fun hc=>ob (hOut hc) fun o=>some (outCR o.1 o.2.1 (setL o.2.2.1 H) o.2.2.2)) (lookH ht g)
 | .yld _ _=>none
structure Stn where
 X:Type
 T:St→Nat→X→List (Nat×AV)
 H:St→Nat→X→List (Nat×AObj)
 nx:St→Nat→Nat
 I:St→X→Prop
 m:X→Nat
abbrev KX:=AX→St→Prop
abbrev KC:=CR→Prop
structure Ctx where
 P:Program
 tb:Tbl
 lp:FuncId→Nat→Option Stn
 cut:FuncId→Nat→Option Stn
 ht:HTbl:=[]
 hok:HtOK P ht:=by exact ht_nil _
 rt:RTbl:=[]
 rok:RtOK P rt:=by exact rt_nil _
 rh:RHTbl:=[]
 rhok:RhOK P rh:=by exact rh_nil _
structure CEv where
 code:Nat→FuncId→Code→St→KX→Prop
 call:FuncId→List AV→Tr AObj→Nat→KC→Prop
noncomputable def okP.{u} {α:Type u} (x:Option α) (K:α→Prop):Prop:=Option.rec (motive:=fun _=>Prop) False K x
theorem okP_some.{u} {α:Type u} {x:Option α} {K:α→Prop} (h:okP x K):∃ a,x=some a∧K a:=by
 cases x with
 | none=>exact h.elim
 | some a=>exact ⟨a,rfl,h⟩
def noCall:CallF:=fun _ _ _=>none
noncomputable def cWant (ops:Array Oper) (T:Tr AV) (o:Oper) (K:Tr AV→Bool→Prop):Prop :=
 match o.guard with
 | none=>K T true
 | some (j,want)=>okP (ops[j]?) fun oj=>okP oj.dst fun d=>okP (T.get d) fun v=>match v with
  | .bool b=>brP b (K (T.set d (.bool true)) want) (K (T.set d (.bool false)) (!want))
  | _=>K T false
noncomputable def cCallee (X:Operand→Option AV) (op:Op) (C:Tgt→Prop):Prop :=
 match op with
 | .call c=>match c.callee with
  | .value f=>okP (X f) fun fv=>okP (xsL X c.args.toList) fun xs=>okP (evTarget fv xs) C
  | _=>False
 | _=>False
noncomputable def cFind (kd:TypeDesc) (k:SKey) (z:AV) (K:Bool→AV→Prop) (es:List AEnt):Prop :=
 List.rec (motive:=fun _=>Prop) (K false z) (fun e _ ih=>okP (keyS kd e.key) fun s=>okP (eqS k s) fun q=>brP q (K true e.val) ih) es
noncomputable def cLook (P:Program) (X:Operand→Option AV) (H:Tr AObj) (nx:Nat) (op:Op) (K:KC) (D:Prop):Prop :=
 match op with
 | .lookup t m k ok=>okP (X m) fun m=>okP (X k) fun k=>okP (P.underlying t) fun d=>match d with
  | .map key elem=>okP (P.underlying key) fun kd=>sdA (keyD kd) (okP (keyS kd k) fun s=>okP (zeroAV P elem) fun z=>match m with
   | .map id=>okP (H.get id) fun o=>match o with
    | .map es _=>cFind kd s z (fun has v=>K (.mk (cond ok (.tup [v,.bool has]) v) H nx)) es
    | _=>False
   | _=>False)
  | _=>False
 | _=>D
noncomputable def waysI (z:Int) (K:Nat→Prop) (n:Nat):Prop:=Nat.rec (motive:=fun _=>Prop) False (fun j ih=>brP (ieq z (j:Int)) (K j) ih) n
theorem waysI_some {z:Int} {K:Nat→Prop}:∀ {n:Nat},waysI z K n→∃ j,j < n∧z=(j:Int)∧K j
 | 0,h=>h.elim
 | n + 1,h=>by
  obtain ⟨h1,h2⟩:=brP_iff.1 (show brP (ieq z (n:Int)) (K n) (waysI z K n) from h)
  cases hb:ieq z (n:Int) with
  | true=>exact ⟨n,Nat.lt_succ_self _,by simpa [ieq_eq] using hb,h1 hb⟩
  | false =>
   obtain ⟨j,h3,h4,h5⟩:=waysI_some (h2 hb)
   exact ⟨j,Nat.lt_succ_of_lt h3,h4,h5⟩
noncomputable def cIdx (P:Program) (X:Operand→Option AV) (op:Op) (K:AV→Prop) (D:Prop):Prop :=
 match op with
 | .indexAddr t x i=>match X x,X i with
  | some (.sl id off n _),some (.int _ z)=>cond (Nat.ble n 8) (okP (P.underlying t) fun d=>match d with
   | .slice e=>okP (P.underlying e) fun _=>waysI z (fun j=>fN (off + j * P.cellsOf e) fun o=>K (.ptr id o)) n
   | _=>D) D
  | _,_=>D
 | _=>D
theorem cIdx_sound {P:Program} {H:Tr AObj} {X:Operand→Option AV} {op:Op} {K:AV→Prop} {D:Prop} (h:cIdx P X op K D):D∨∃ v,evPure3 P H X op=some v∧K v:=by
 unfold cIdx at h
 split at h
 ·rename_i t x i
  split at h
  ·rename_i id off n cap k z hx hi
   cases hb:Nat.ble n 8 with
   | false=>rw [hb] at h;exact .inl h
   | true =>
    rw [hb,cond_true] at h
    obtain ⟨d,hd,h1⟩:=okP_some h
    split at h1
    ·rename_i e
     obtain ⟨de,hde,h2⟩:=okP_some h1
     obtain ⟨j,hj,rfl,h3⟩:=waysI_some h2
     rw [fN_eq] at h3
     refine .inr ⟨_,?_,h3⟩
     have hlt:Nat.blt j n=true:=by rw [Nat.blt_eq];exact hj
     show (ob (X x) fun a=>ob (X i) fun b=>evIndexAddr P t a b)=_
     rw [hx,hi]
     show evIndexAddr P t (.sl id off n cap) (.int k (.ofNat j))=_
     simp only [evIndexAddr,hd,hde,ob,gd,hlt,cond_true,fN_eq]
    ·exact .inl h1
  ·exact .inl h
 ·exact .inl h
noncomputable def cOp (P:Program) (X:Operand→Option AV) (H:Tr AObj) (ni nx nx':Nat) (op:Op) (K:KC) (C:Tgt→Prop):Prop :=
 Option.rec (motive:=fun _=>Prop) (cIdx P X op (fun v=>K (.mk v H nx)) (Option.rec (motive:=fun _=>Prop) (Option.rec (motive:=fun _=>Prop) (Option.rec (motive:=fun _=>Prop)
  (Option.rec (motive:=fun _=>Prop) (Option.rec (motive:=fun _=>Prop) (cLook P X H nx op K (cCallee X op C)) K (evHeavy3 P noCall X H ni nx' op))
   (fun r=>sdA r.1 (K (.mk r.2.1 r.2.2 nx'))) (sHeavy P X H ni op))
  (fun p=>K (.mk p.1 (H.set ni p.2) nx')) (evNew3 P X ni op))
  (fun r=>sdA r.1 (K (.mk r.2.1 (H.set ni r.2.2) nx'))) (sNew P X ni op))
  (fun v=>K (.mk v H nx)) (evPure3 P H X op)))
  (fun r=>sdA r.1 (K (.mk r.2 H nx))) (sPure P H X op)
noncomputable def cPut (N:Nat) (T:Tr AV) (dst:Option Tmp) (v:AV) (K:Tr AV→Prop):Prop :=
 match dst with
 | none=>K T
 | some d=>sdA (Nat.blt d N) (K (T.set d v))
noncomputable def cBehind (o:Oper) (s:St) (K:KX) (ih:St→Prop) (r:CR):Prop :=
 match r with
 | .mk v H nx=>cPut s.N s.T o.dst v fun T=>ih ⟨s.N,T,H,nx,s.ro,s.D⟩
 | .pan v H nx=>K (.pan v) ⟨s.N,s.T,H,nx,s.ro,s.D⟩
 | .dfr g args H nx=>match s.ro with
  | none=>cPut s.N s.T o.dst (.tup []) fun T=>ih ⟨s.N,T,H,nx,s.ro,.call g args :: s.D⟩
  | some _=>False
noncomputable def fzFind (fz:List FZ) (id:Nat):Option FZ:=List.rec (motive:=fun _=>Option FZ) none (fun z _ ih=>cond (Nat.beq z.id id) (some z) ih) fz
noncomputable def fzS (fz:List FZ) (a:AV):Bool×AV :=
 match a with
 | .slg id n e=>Option.rec (motive:=fun _=>Bool×AV) (true,.slg id n e) (fun z=>(cond (Nat.beq e z.esz) (Nat.beq n z.n) false,z.a)) (fzFind fz id)
 | a=>(true,a)
noncomputable def fzO (fz:List FZ) (a:Option AV):Bool×Option AV:=Option.rec (motive:=fun _=>Bool×Option AV) (true,none) (fun a=>((fzS fz a).1,some (fzS fz a).2)) a
noncomputable def fzTr (fz:List FZ) (T:Tr AV):Bool×Tr AV :=
 Tr.rec (motive:=fun _=>Bool×Tr AV) (true,.leaf) (fun v _ _ il ir=>(cond (fzO fz v).1 (cond il.1 ir.1 false) false,.node (fzO fz v).2 il.2 ir.2)) T
noncomputable def fzT (fz:List FZ) (T:Tr AV):Bool×Tr AV :=
 match fz with
 | []=>(true,T)
 | fz=>fzTr fz T
def roundId:FuncId:=1000000
noncomputable def cYield (E:CEv) (id:Nat) (args:List AV) (H:Tr AObj) (nx:Nat) (K:KC):Prop :=
 okP (H.get id) fun o=>match o with
  | .loop _ _ T N ps asg body _=>okP (setPs ps.toList args N T) fun T'=>E.code nx roundId asg ⟨N,T',H,nx,some id,[]⟩ fun x s=>match x with
   | .nrm=>okP (loopSet s.H id fun st pend=>match st with
     | .ready=>some (.busy,pend)
     | _=>none) fun H1=>E.code nx roundId body ⟨s.N,s.T,H1,s.nx,s.ro,s.D⟩ fun x2 s2=>sdA x2.calm
      (okP (loopSet s2.H id fun _ _=>some (cond x2.jump.isNone .ready .done,x2.jump)) fun H2=>K (.mk (.bool x2.jump.isNone) H2 s2.nx))
   | _=>False
  | _=>False
noncomputable def cRange (E:CEv) (f:Operand) (ps:Array Tmp) (asg body:Code) (s:St) (K:KX):Prop :=
 okP (opd s.T f) fun fa=>match s.ro with
  | none=>fN (s.nx + 1) fun l=>fN (l + 1) fun nx=>okP (evTarget fa [.yld l]) fun t=>match t with
   | .fn g args=>E.call g args ((s.H.set s.nx (.dfr true)).set l (.loop .ready none s.T s.N ps asg body s.nx)) nx fun r=>match r with
    | .mk _ H nx'=>okP (H.get l) fun o=>match o with
     | .loop st pend _ _ _ _ _ _=>okP (jumpX pend) fun x=>okP (loopSet H l fun _ _=>match st with
       | .busy=>none
       | _=>some (.exhausted,pend)) fun H'=>K x ⟨s.N,s.T,H',nx',s.ro,.mark s.nx :: s.D⟩
     | _=>False
    | _=>False
   | _=>False
  | some _=>False
noncomputable def rfC (c:Code):Option (Array Tmp×Code×Code):=Code.rec (motive:=fun _=>Option (Array Tmp×Code×Code)) none (fun _ _ _=>none) (fun _ _ ia ib=>Option.rec (motive:=fun _=>Option (Array Tmp×Code×Code)) ib some ia)
 (fun _ _ _ ia ib=>Option.rec (motive:=fun _=>Option (Array Tmp×Code×Code)) ib some ia) (fun _ _ ic=>ic) (fun _ ic=>ic) (fun _ ps a b _ _=>some (ps,a,b)) (fun _=>none) (fun _ ic=>ic) (fun _=>none) (fun _=>none) none (fun _=>none) c
noncomputable def rfOf (P:Program) (f:FuncId):Option (Array Tmp×Code×Code):=(P.funcs[f]?).bind fun fn=>fn.body.bind rfC
noncomputable def rfP (P:Program) (f:FuncId):Array Tmp:=Option.rec (motive:=fun _=>Array Tmp) #[] (fun r=>r.1) (rfOf P f)
noncomputable def rfA (P:Program) (f:FuncId):Code:=Option.rec (motive:=fun _=>Code) .skip (fun r=>r.2.1) (rfOf P f)
noncomputable def rfB (P:Program) (f:FuncId):Code:=Option.rec (motive:=fun _=>Code) .skip (fun r=>r.2.2) (rfOf P f)
noncomputable def cTgt0 (cx:Ctx) (E:CEv) (o:Oper) (s:St) (nx':Nat) (K:KX) (ih:St→Prop) (t:Tgt):Prop :=
 match t with
 | .yld id args=>cYield E id args s.H nx' (cBehind o s K ih)
 | .fn g args=>Option.rec (motive:=fun _=>Prop) (Option.rec (motive:=fun _=>Prop) (E.call g args s.H nx' (cBehind o s K ih))
  (fun ent=>okP (frzL cx.P s.H args) fun r=>sdA r.1 (okP (ent s.H r.2.1) fun ct=>(fun q:Bool×Tr AV=>sdA q.1
   (cCt ct (fun v=>cBehind o ⟨s.N,q.2,delL s.H r.2.2.2,nx',s.ro,s.D⟩ K ih (.mk v (delL s.H r.2.2.2) (nx' + 1)))
    (fun v=>cBehind o ⟨s.N,q.2,delL s.H r.2.2.2,nx',s.ro,s.D⟩ K ih (.pan v (delL s.H r.2.2.2) (nx' + 1))))) (fzT r.2.2.1 s.T))) (look cx.tb g))
  (fun ent=>okP (ent s.H nx' args) fun hc=>cHCt hc (fun v up nx=>cBehind o ⟨s.N,s.T,s.H,nx',s.ro,s.D⟩ K ih (.mk v (setL up s.H) nx))
   (fun v up nx=>cBehind o ⟨s.N,s.T,s.H,nx',s.ro,s.D⟩ K ih (.pan v (setL up s.H) nx))) (lookH cx.ht g)
noncomputable def cTgt (cx:Ctx) (E:CEv) (o:Oper) (s:St) (nx':Nat) (K:KX) (ih:St→Prop) (t:Tgt):Prop :=
 match t with
 | .yld id args=>cYield E id args s.H nx' (cBehind o s K ih)
 | .fn g args=>Option.rec (motive:=fun _=>Prop) (Option.rec (motive:=fun _=>Prop) (cTgt0 cx E o s nx' K ih (.fn g args))
  (fun ent=>okP (frzL cx.P s.H args) fun r=>sdA r.1 (okP (ent s.H r.2.1) fun rc=>(fun q:Bool×Tr AV=>sdA q.1
   (rc.pre∧∀ x,rc.Q x→cBehind o ⟨s.N,q.2,delL s.H r.2.2.2,nx',s.ro,s.D⟩ K ih (.mk (rc.v x) (delL s.H r.2.2.2) (nx' + 1)))) (fzT r.2.2.1 s.T))) (lookR cx.rt g))
  (fun ent=>okP (ent s.H nx' args) fun rc=>rc.pre∧∀ x,rc.Q x→cBehind o ⟨s.N,s.T,s.H,nx',s.ro,s.D⟩ K ih (.mk (rc.v x) (setL (rc.up x) s.H) rc.nx)) (lookRH cx.rh g)
noncomputable def cSeq (cx:Ctx) (E:CEv) (ops:Array Oper) (K:KX) (l:List Oper):St→Prop :=
 List.rec (motive:=fun _=>St→Prop) (fun s=>K .nrm s)
  (fun o _ ih s=>cWant ops s.T o fun T wd=>cond wd
   (fN (s.nx + 1) fun nx'=>cOp cx.P (opd T) s.H s.nx s.nx nx' o.op (cBehind o ⟨s.N,T,s.H,s.nx,s.ro,s.D⟩ K ih) (cTgt cx E o ⟨s.N,T,s.H,s.nx,s.ro,s.D⟩ nx' K ih))
   (cPut s.N T o.dst (.tup []) fun T=>ih ⟨s.N,T,s.H,s.nx,s.ro,s.D⟩)) l
noncomputable def cCond (T:Tr AV) (c:Operand) (A B:Tr AV→Prop):Prop :=
 match c with
 | .tmp d=>okP (T.get d) fun v=>match v with
  | .bool b=>brP b (A (T.set d (.bool true))) (B (T.set d (.bool false)))
  | _=>False
 | .const (.bool b)=>brP b (A T) (B T)
 | _=>False
noncomputable def firstR (c:Code):Option Nat:=Code.rec (motive:=fun _=>Option Nat) none (fun id _ _=>some id) (fun _ _ ia ib=>Option.rec (motive:=fun _=>Option Nat) ib some ia) (fun _ _ _ _ _=>none)
 (fun _ _ ic=>ic) (fun _ ic=>ic) (fun _ _ _ _ _ _=>none) (fun _=>none) (fun _ ic=>ic) (fun _=>none) (fun _=>none) none (fun _=>none) c
noncomputable def stOf (S:Stn) (s:St) (n0:Nat) (x:S.X):St:=⟨s.N,mkT (S.T s n0 x),mkH (S.H s n0 x),S.nx s n0,none,[]⟩
noncomputable def keepT (s:St) (l:List Nat):List (Nat×AV):=List.rec (motive:=fun _=>List (Nat×AV)) [] (fun t _ ih=>Option.rec (motive:=fun _=>List (Nat×AV)) ih (fun v=>(t,v) :: ih) (s.T.get t)) l
noncomputable def keepH (s:St) (n0:Nat):List (Nat×AObj):=List.rec (motive:=fun _=>List (Nat×AObj)) [] (fun t _ ih=>Option.rec (motive:=fun _=>List (Nat×AObj)) ih (fun v=>(t,v) :: ih) (s.H.get t)) (List.range s.nx)
noncomputable def thin (X:Type) (ks:List Nat) (T:X→List (Nat×AV)) (I:St→X→Prop) (m:X→Nat):Stn:=⟨X,fun s _ x=>T x ++ keepT s ks,fun s n0 _=>keepH s n0,fun s _=>s.nx,I,m⟩
noncomputable def cLoop (E:CEv) (S:Stn) (n0:Nat) (f:FuncId) (c:Code) (s:St) (K:KX):Prop :=
 (∃ x0:S.X,S.I s x0∧stP n0 s.N (S.nx s n0) (S.T s n0 x0) (S.H s n0 x0) s) ∧
 ∀ x:S.X,S.I s x→E.code n0 f c (stOf S s n0 x) fun ax s'=>match ax with
  | .nrm=>∃ x':S.X,S.I s x'∧S.m x' < S.m x∧stP n0 s.N (S.nx s n0) (S.T s n0 x') (S.H s n0 x') s'
  | ax=>K ax s'
noncomputable def cCut (E:CEv) (S:Stn) (n0:Nat) (f:FuncId) (a b:Code) (s:St) (K:KX):Prop :=
 (E.code n0 f a s fun ax s'=>match ax with
  | .nrm=>∃ x:S.X,S.I s x∧stP n0 s.N (S.nx s n0) (S.T s n0 x) (S.H s n0 x) s'
  | ax=>K ax s') ∧
 ∀ x:S.X,S.I s x→E.code n0 f b (stOf S s n0 x) K
noncomputable def cCodeF (cx:Ctx) (E:CEv) (D:Array Oper→St→KX→Prop) (n0:Nat) (f:FuncId) (c:Code) (s:St) (K:KX):Prop :=
 match c with
 | .skip=>K .nrm s
 | .region _ ops false=>cSeq cx E ops K ops.toList s
 | .region _ ops true=>D ops s K
 | .seq a b=>Option.rec (motive:=fun _=>Prop) (E.code n0 f a s fun ax s'=>match ax with
   | .nrm=>E.code n0 f b s' K
   | ax=>K ax s') (fun S=>cCut E S n0 f a b s K) (Option.rec (motive:=fun _=>Option Stn) none (fun r=>cx.cut f r) (firstR b))
 | .cond c a b=>cCond s.T c (fun T=>E.code n0 f a ⟨s.N,T,s.H,s.nx,s.ro,s.D⟩ K) (fun T=>E.code n0 f b ⟨s.N,T,s.H,s.nx,s.ro,s.D⟩ K)
 | .block id c=>E.code n0 f c s fun ax s'=>match ax with
   | .exit id'=>cond (Nat.beq id' id) (K .nrm s') (K (.exit id') s')
   | ax=>K ax s'
 | .loop c=>Option.rec (motive:=fun _=>Prop) (E.code n0 f c s fun ax s'=>match ax with
   | .nrm=>E.code n0 f (.loop c) s' K
   | ax=>K ax s') (fun S=>cLoop E S n0 f c s K) (Option.rec (motive:=fun _=>Option Stn) none (fun r=>cx.lp f r) (firstR c))
 | .exit id=>K (.exit id) s
 | .label _=>K .nrm s
 | .goto l=>K (.goto l) s
 | .ret=>K .ret s
 | .scope c=>E.code n0 f c s fun ax s'=>match ax with
   | .goto _=>False
   | ax=>K ax s'
 | .rangeFunc g ps asg body=>cRange E g ps asg body s K
 | _=>False
noncomputable def cLeave (P:Program) (fn:Func) (K:KC) (m:MD) (s:St):Prop :=
 okP (evLeave P (evs P 30 80) s.D m s.H s.nx) fun r=>LV.rec (motive:=fun _=>Prop) (fun m H nx=>match m with
  | .ret=>okP (evResults P H s.T fn.results.toList) fun v=>K (.mk v H nx)
  | .pan v=>K (.pan v H nx)
  | .rcd _=>False) r
noncomputable def cOut (P:Program) (fn:Func) (K:KC) (ax:AX) (s:St):Prop :=
 match s.D with
 | []=>match ax with
  | .nrm=>okP (evResults P s.H s.T fn.results.toList) fun v=>K (.mk v s.H s.nx)
  | .ret=>okP (evResults P s.H s.T fn.results.toList) fun v=>K (.mk v s.H s.nx)
  | .pan v=>K (.pan v s.H s.nx)
  | _=>False
 | _=>match ax with
  | .nrm=>cLeave P fn K .ret s
  | .ret=>cLeave P fn K .ret s
  | .pan v=>cLeave P fn K (.pan v) s
  | _=>False
noncomputable def cFunc (cx:Ctx) (E:CEv) (g:FuncId) (args:List AV) (H:Tr AObj) (nx:Nat) (K:KC):Prop :=
 okP (cx.P.funcs[g]?) fun fn => sdA (!(fn.name == "runtime.NumGoroutine")) (okP fn.body fun c =>
  fN args.length fun n=>fN (n + (fn.ntmps - n)) fun N=>E.code nx g c ⟨N,setArgs args .leaf 0,H,nx,none,[]⟩ (cOut cx.P fn K))
noncomputable def cEvs (cx:Ctx) (D:Array Oper→St→KX→Prop) (n:Nat):CEv :=
 Nat.rec (motive:=fun _=>CEv) ⟨fun _ _ _ _ _=>False,fun _ _ _ _ _=>False⟩ (fun _ E=>⟨cCodeF cx E D,cFunc cx E⟩) n
end Go.Ev
end
section
/- The symbolic layer, part J: what the sentence says holds: operations, calls, regions in order. -/
namespace Go.Ev
def EndsK (E:Env) (F:Nat→Option Obj) (nx:Nat) (ρ:Ren) (K:KC) (e:Ending) (w':World):Prop:=∃ r,K r∧EndsR E F nx ρ r e w'
def CallKOK (P:Program) (call:FuncId→List AV→Tr AObj→Nat→KC→Prop):Prop :=
 ∀ g args H nx K,call g args H nx K→∀ E F ρ w,Rel E F nx ρ H.get w→TgtOK P (.fn g args) w ρ (EndsK E F nx ρ K)
def GlOK (E:Env) (H:Tr AObj):Prop:=∀ g l,H.get g=some (.glob l)→∃ cs e fz,E.base g=some (.cells cs e fz)∧∀ ρ',VRL ρ' l cs.toList
def EntOK (P:Program) (g:FuncId) (ent:Tr AObj→List AV→Option Ct):Prop :=
 ∀ H args ct,ent H args=some ct→∀ p v,ctOut ct=some (p,v)→∀ E F ρ w nx H',GlOK E H→Rel E F nx ρ H'.get w→TgtOK P (.fn g args) w ρ (EndsR E F nx ρ (outCR p v H' (nx + 1)))
def TbOK (P:Program) (tb:Tbl):Prop:=∀ g ent,look tb g=some ent→EntOK P g ent
theorem noCall_ok (P:Program):CallOK P noCall:=fun _ _ _ _ h=>by cases h
theorem callT_ok {P:Program} {tb:Tbl} {ht:HTbl} (h:TbOK P tb) (hh:HtOK P ht):CallOK P (callT tb ht):=by
 intro t H nx r hr E F ρ w rel
 cases t with
 | yld _ _=>cases hr
 | fn g args =>
  have hr':Option.rec (motive:=fun _=>Option CR) (ob (look tb g) fun ent=>ob (ent H args) fun ct=>ob (ctOut ct) fun o=>some (outCR o.1 o.2 H (nx + 1)))
   (fun ent=>ob (ent H nx args) fun hc=>ob (hOut hc) fun o=>some (outCR o.1 o.2.1 (setL o.2.2.1 H) o.2.2.2)) (lookH ht g)=some r:=hr
  clear hr
  cases hl:lookH ht g with
  | some ent =>
   rw [hl] at hr'
   obtain ⟨hc,h1,h2⟩:=ob_some.1 hr'
   obtain ⟨⟨p,v,up,n⟩,h3,h4⟩:=ob_some.1 h2
   injection h4 with h4;subst h4
   exact hh g ent hl H nx args hc h1 p v up n h3 E F ρ w rel
  | none =>
  rw [hl] at hr'
  have hr:=hr'
  obtain ⟨ent,he,h1⟩:=ob_some.1 hr
  obtain ⟨ct,hc,h2⟩:=ob_some.1 h1
  obtain ⟨⟨p,v⟩,ho,h3⟩:=ob_some.1 h2
  injection h3 with h3;subst h3
  exact h g ent he H args ct hc p v ho E F ρ w nx H rel.gl rel
theorem cFind_sound {ρ:Ren} {kd:TypeDesc} {k:SKey} {z:AV} {u zv:Value} {K:Bool→AV→Prop} (hk:KR kd k u) (hz:VR ρ z zv):∀ {es:List AEnt} {l:List MapEntry},ERL ρ es l→∀ (i:Nat),
  cFind kd k z K es→∃ has val v,K has val∧VR ρ val v∧(if has then ∃ j,Instr.findNow kd u l i=some (some (j,v)) else Instr.findNow kd u l i=some none∧v=zv)
 | _,_,.nil,i,h=>⟨false,z,zv,h,hz,by simp [Instr.findNow]⟩
 | _,_,.cons e m es l he hs,i,h=>by
  obtain ⟨s,hs1,h1⟩:=okP_some (show okP (keyS kd e.key) (fun s=>okP (eqS k s) fun q=>brP q (K true e.val) (cFind kd k z K es)) from h)
  obtain ⟨q,hq,h2⟩:=okP_some h1
  obtain ⟨h3,h4⟩:=brP_iff.1 h2
  have hn:=eqS_same hk (keyS_kr he.1 hs1) hq
  cases q with
  | true=>exact ⟨true,e.val,m.val,h3 rfl,he.2.1,by simp [Instr.findNow,hn]⟩
  | false =>
   obtain ⟨has,val,v,h5,h6,h7⟩:=cFind_sound hk hz hs (i + 1) (h4 rfl)
   exact ⟨has,val,v,h5,h6,by simpa [Instr.findNow,hn] using h7⟩
theorem cLook_sound {P:Program} {X:Operand→Option AV} {H:Tr AObj} {nx:Nat} {op:Op} {K:KC} {D:Prop} (h:cLook P X H nx op K D):D∨∃ t m k ok,op = .lookup t m k ok ∧
  ∀ (E:Env) (F:Nat→Option Obj) (n:Nat) (ρ:Ren) (w:World) (ev:Operand→Value),Rel E F n ρ H.get w→XR ρ X ev→∃ a z,K (.mk a H nx)∧(Instr.lookup t (ev m) (ev k) ok).run P w = .ok z w∧VR ρ a z:=by
 unfold cLook at h
 split at h
 ·rename_i t m k ok
  refine .inr ⟨t,m,k,ok,rfl,fun E F n ρ w ev r hX=>?_⟩
  obtain ⟨ma,hma,h1⟩:=okP_some h
  obtain ⟨ka,hka,h2⟩:=okP_some h1
  obtain ⟨d,hd,h3⟩:=okP_some h2
  have hm:=hX _ _ hma
  have hk:=hX _ _ hka
  generalize ev m=u at hm
  generalize ev k=v at hk
  clear h h1 h2
  split at h3
  ·rename_i key elem
   obtain ⟨kd,hkd,h4⟩:=okP_some h3
   obtain ⟨hkk,h5⟩:=sdA_iff.1 h4
   obtain ⟨s,hsk,h6⟩:=okP_some h5
   obtain ⟨z,hz,h7⟩:=okP_some h6
   have hkr:=keyS_kr hk hsk
   obtain ⟨zv,hzv,hzr⟩:=zeroAV_sound hz w
   have hck:=fun e=>checkKey_plain (P:=P) hkd hkk e 9999 v w
   split at h7
   ·obtain ⟨o,ho,h8⟩:=okP_some h7
    split at h8
    ·rename_i es clock
     cases hm with
     | map _ b hb =>
      obtain ⟨c,hc,hor⟩:=r.ob _ _ b ho hb
      cases hor with
      | map _ _ l hl =>
       obtain ⟨has,val,q,h9,hq,hf⟩:=cFind_sound hkr (hzr ρ) hl 0 h8
       refine ⟨_,?_,h9,?_⟩
       ·exact cond ok (.tuple #[q,.bool has]) q
       ·cases has with
        | true =>
         obtain ⟨j,hf⟩:=hf
         cases ok with
         | true =>
          refine ⟨?_,.tup _ [q,.bool true] (.cons _ _ _ _ hq (.cons _ _ _ _ (.bool true) .nil))⟩
          simp [Instr.lookup,run_underlying hd,hck,Instr.findKey,run_underlying hkd,hf,getObj,Sem.run,hc]
         | false =>
          refine ⟨?_,hq⟩
          simp [Instr.lookup,run_underlying hd,hck,Instr.findKey,run_underlying hkd,hf,getObj,Sem.run,hc]
        | false =>
         obtain ⟨hf,rfl⟩:=hf
         cases ok with
         | true =>
          refine ⟨?_,.tup _ [q,.bool false] (.cons _ _ _ _ hq (.cons _ _ _ _ (.bool false) .nil))⟩
          simp [Instr.lookup,run_underlying hd,hck,Instr.findKey,run_underlying hkd,hf,getObj,Sem.run,hc,hzv]
         | false =>
          refine ⟨?_,hq⟩
          simp [Instr.lookup,run_underlying hd,hck,Instr.findKey,run_underlying hkd,hf,getObj,Sem.run,hc,hzv]
    ·exact h8.elim
   ·exact h7.elim
  ·exact h3.elim
 ·exact .inl h
theorem cOp_sound {P:Program} {X:Operand→Option AV} {H:Tr AObj} {ni nx nx':Nat} {op:Op} {K:KC} {C:Tgt→Prop} (h:cOp P X H ni nx nx' op K C) :
  (∃ r,evOp P noCall X H ni nx nx' op=some r∧K r)∨cLook P X H nx op K (cCallee X op C):=by
 unfold cOp at h
 cases h1:sPure P H X op with
 | some r =>
  rw [h1] at h
  obtain ⟨h2,h3⟩:=sdA_iff.1 h
  obtain ⟨b,v⟩:=r
  simp only at h2;subst h2
  exact .inl ⟨_,by unfold evOp;rw [sPure_ev h1],h3⟩
 | none =>
 rw [h1] at h
 rcases cIdx_sound (H:=H) h with h | ⟨v,hv,hk⟩
 rotate_left
 ·exact .inl ⟨_,by unfold evOp;rw [pure3_ev h1 hv],hk⟩
 cases h2:evPure3 P H X op with
 | some v =>
  rw [h2] at h
  exact .inl ⟨_,by unfold evOp;rw [pure3_ev h1 h2],h⟩
 | none =>
 rw [h2] at h
 have e1:evPure2 P H X op=none:=by unfold evPure2;rw [h1];exact h2
 cases h3:sNew P X ni op with
 | some r =>
  rw [h3] at h
  obtain ⟨h4,h5⟩:=sdA_iff.1 h
  obtain ⟨b,v,o⟩:=r
  simp only at h4;subst h4
  exact .inl ⟨_,by unfold evOp;rw [e1,sNew_ev h3],h5⟩
 | none =>
 rw [h3] at h
 cases h4:evNew3 P X ni op with
 | some p =>
  rw [h4] at h
  exact .inl ⟨_,by unfold evOp;rw [e1,new3_ev h3 h4],h⟩
 | none =>
 rw [h4] at h
 have e2:evNew P X ni op=none:=by unfold evNew;rw [h3];exact h4
 cases h5:sHeavy P X H ni op with
 | some r =>
  rw [h5] at h
  obtain ⟨h6,h7⟩:=sdA_iff.1 h
  obtain ⟨b,v,H'⟩:=r
  simp only at h6;subst h6
  exact .inl ⟨_,by unfold evOp;rw [e1,e2,sHeavy_ev h5],h7⟩
 | none =>
 rw [h5] at h
 cases h6:evHeavy3 P noCall X H ni nx' op with
 | some r =>
  rw [h6] at h
  exact .inl ⟨_,by unfold evOp;rw [e1,e2,heavy3_ev h5 h6],h⟩
 | none =>
  rw [h6] at h
  exact .inr h
theorem cWant_sound {ops:Array Oper} {T:Tr AV} {o:Oper} {K:Tr AV→Bool→Prop} (h:cWant ops T o K):∃ T' wd,K T' wd∧evWanted ops T o=some wd∧∀ t,T'.get t=T.get t:=by
 unfold cWant at h
 unfold evWanted
 split at h
 ·rename_i hg
  rw [hg]
  exact ⟨T,true,h,rfl,fun _=>rfl⟩
 ·rename_i j want hg
  rw [hg]
  obtain ⟨oj,h1,h2⟩:=okP_some h
  obtain ⟨d,h3,h4⟩:=okP_some h2
  obtain ⟨v,h5,h6⟩:=okP_some h4
  simp only [h1]
  have same:∀ b,v = .bool b→∀ t,(T.set d (.bool b)).get t=T.get t:=fun b hb t=>by
   rw [Tr.get_set]
   split
   ·rename_i e;subst e;rw [h5,hb]
   ·rfl
  split at h6
  ·rename_i b
   obtain ⟨h7,h8⟩:=brP_iff.1 h6
   cases b with
   | true=>exact ⟨_,_,h7 rfl,by simp [ob,h3,h5],same true rfl⟩
   | false=>exact ⟨_,_,h8 rfl,by simp [ob,h3,h5],same false rfl⟩
  ·rename_i hnb
   refine ⟨T,false,h6,?_,fun _=>rfl⟩
   simp only [ob,h3,h5]
theorem cPut_sound {N:Nat} {T:Tr AV} {dst:Option Tmp} {v:AV} {K:Tr AV→Prop} (h:cPut N T dst v K):∃ T',evPut N T dst v=some T'∧K T':=by
 unfold cPut at h
 split at h
 ·exact ⟨T,rfl,h⟩
 ·obtain ⟨h1,h2⟩:=sdA_iff.1 h
  exact ⟨_,by unfold evPut;exact gd_some.2 ⟨h1,rfl⟩,h2⟩
theorem call_wp {P:Program} {ρ:Ren} {X:Operand→Option AV} {a:Act} {w:World} (hX:XR ρ X a.eval) {o:Oper} {c:Call} (ho:o.op = .call c) {f:Operand} (hc:c.callee = .value f) {fv:AV} (hf:X f=some fv) {xs:List AV}
  (hxs:xsL X c.args.toList=some xs) {g:FuncId} {targs:List AV} (ht:evTarget fv xs=some (.fn g targs)) {R:Ending→World→Prop} (hok:TgtOK P (.fn g targs) w ρ R) {ro:Option Nat} {next:Act→World→Prop} {Q:Exit→Act→World→Prop}
  (hR:∀ e w',R e w'→match e with
   | .returned v=>next (a.put o.dst v) w'
   | .panicked chain=>Q (.panic chain) a w'
   | .outgrown=>LetsOut Q):o.wpIn (FW ro) 0 P a w next Q:=by
 obtain ⟨dst,op,type,pos,after,guard⟩:=o
 simp only at ho
 subst ho
 obtain ⟨callee,args,argTypes⟩:=c
 simp only at hc hxs
 subst hc
 have hfr:=hX _ _ hf
 have hxr:=xsL_sound hX hxs
 rw [show args.toList.map a.eval=(args.map a.eval).toList by rw [Array.toList_map]] at hxr
 refine ⟨about_ok ro P _ w a.eval,?_⟩
 rw [Oper.semAt_eq _ _ _ (by simp)]
 unfold evTarget at ht
 split at ht
 ·rename_i g' first cap
  injection ht with ht;injection ht with ht1 ht2;subst ht1;subst ht2
  generalize hfe:a.eval f=fvv at hfr
  cases hfr with
  | fn _ _ _ va vc ha hc =>
   obtain ⟨⟨fn,c,hfn,hnm,hbd⟩,hcalls⟩:=hok
   have hc':=hcalls _ (ha.append (hxr.append hc))
   have hrun:(execOp a.eval { dst,op:=.call { callee:=.value f,args,argTypes },type,pos,after,guard }).run P w = .ok (.enter g' ((va ++ ((args.map a.eval).toList ++ vc)).toArray)) w:=by
    simp only [execOp,resolve,hfe,Deferred.ofValue,Sem.run_bind,Sem.run_pure,Result.andThen_ok,invoke,callFunc,run_program,hfn,hnm,Bool.false_eq_true,if_false,hbd,Option.isNone_some]
    congr 2
    apply Array.ext'
    simp
   rw [hrun]
   refine ⟨by simp [FW,Fence.wide],?_⟩
   have hmono:=CallsIn.mono hc' (R':=fun
    | .returned v,w''=>next (a.put dst v) w''
    | .panicked chain,w''=>Q (.panic chain) a w''
    | .outgrown,_=>LetsOut Q) (fun e w' he=>by
     have:=hR e w' he
     cases e <;> exact this)
   cases ro with
   | none=>exact hmono
   | some l=>exact hmono
 ·injection ht with ht;cases ht
 ·cases ht
theorem fzS_rel {ρ ρ1:Ren} {w:World} {H:Tr AObj} {fz:List FZ} {ids0 ids:List Nat} (hz:FzOK ρ w H fz ids0) (hi:idsOK H ids) (hsub:∀ i∈ids0,i∈ids) (hρ:ρ1=frzR ρ w ids) (hle:ρ.le ρ1) {a:AV} {v:Value}
  (hv:VR ρ a v) (h:(fzS fz a).1=true):VR ρ1 (fzS fz a).2 v:=by
 have find:∀ (l:List FZ) id z,fzFind l id=some z→z∈l∧z.id=id:=by
  intro l
  induction l with
  | nil=>intro id z h;cases h
  | cons y l ih =>
   intro id z h
   have h':cond (Nat.beq y.id id) (some y) (fzFind l id)=some z:=h
   cases hb:Nat.beq y.id id with
   | true=>rw [hb] at h';injection h' with h';subst h';rw [Nat.beq_eq] at hb;exact ⟨List.mem_cons_self ..,hb⟩
   | false=>rw [hb] at h';obtain ⟨h1,h2⟩:=ih id z h';exact ⟨List.mem_cons_of_mem _ h1,h2⟩
 unfold fzS at h ⊢
 split at h
 ·rename_i id n e
  cases hff:fzFind fz id with
  | none=>exact hv.mono hle
  | some z =>
   rw [hff] at h
   have h:(cond (Nat.beq e z.esz) (Nat.beq n z.n) false)=true:=h
   obtain ⟨h1,h2⟩:=cond_and h
   rw [Nat.beq_eq] at h1 h2
   obtain ⟨h3,h4⟩:=find fz id z hff
   subst h4;subst h1;subst h2
   obtain ⟨h5,h6⟩:=hz z h3
   rw [hρ]
   exact h6 ids hi (hsub _ h5) v hv
 ·exact hv.mono hle
theorem fzTr_get {fz:List FZ}:∀ (T:Tr AV),(fzTr fz T).1=true→∀ (p:List Bool) (b:AV),Tr.gp p (fzTr fz T).2=some b→∃ a,Tr.gp p T=some a∧(fzS fz a).1=true∧(fzS fz a).2=b
 | .leaf,_,p,b,h=>by rw [show (fzTr fz (.leaf:Tr AV)).2 = .leaf from rfl,Tr.gp_leaf] at h;cases h
 | .node v l r,h,p,b,hg=>by
  have h':cond (fzO fz v).1 (cond (fzTr fz l).1 (fzTr fz r).1 false) false=true:=h
  obtain ⟨h1,h2⟩:=cond_and h'
  obtain ⟨h2,h3⟩:=cond_and h2
  cases p with
  | nil =>
   have hg':(fzO fz v).2=some b:=hg
   cases v with
   | none=>cases hg'
   | some a=>injection hg' with hg';exact ⟨a,rfl,h1,hg'⟩
  | cons c p =>
   cases c with
   | true=>exact fzTr_get l h2 p b hg
   | false=>exact fzTr_get r h3 p b hg
theorem fzT_tr {ρ ρ1:Ren} {w:World} {H:Tr AObj} {fz:List FZ} {ids0 ids:List Nat} (hz:FzOK ρ w H fz ids0) (hi:idsOK H ids) (hsub:∀ i∈ids0,i∈ids) (hρ:ρ1=frzR ρ w ids) (hle:ρ.le ρ1) {T:Tr AV} {tmps:Array Value}
  (ht:TR ρ T tmps) (h:(fzT fz T).1=true):TR ρ1 (fzT fz T).2 tmps:=by
 unfold fzT at h ⊢
 split at h
 ·exact ht.mono hle
 ·intro t b hb
  obtain ⟨a,h1,h2,h3⟩:=fzTr_get T h _ b hb
  obtain ⟨v,h4,h5⟩:=ht t a h1
  subst h3
  exact ⟨v,h4,fzS_rel hz hi hsub hρ hle h5 h2⟩
theorem yield_wp {P:Program} {ρ:Ren} {X:Operand→Option AV} {a:Act} {w:World} (hX:XR ρ X a.eval) {o:Oper} {c:Call} (ho:o.op = .call c) {f:Operand} (hc:c.callee = .value f) {fv:AV} (hf:X f=some fv) {xs:List AV}
  (hxs:xsL X c.args.toList=some xs) {id:Nat} {targs:List AV} (ht:evTarget fv xs=some (.yld id targs)) {R:Ending→World→Prop} (hok:TgtOK P (.yld id targs) w ρ R) {ro:Option Nat} {next:Act→World→Prop} {Q:Exit→Act→World→Prop}
  (hR:∀ e w',R e w'→match e with
   | .returned v=>next (a.put o.dst v) w'
   | .panicked chain=>Q (.panic chain) a w'
   | .outgrown=>LetsOut Q):o.wpIn (FW ro) 0 P a w next Q:=by
 obtain ⟨dst,op,type,pos,after,guard⟩:=o
 simp only at ho
 subst ho
 obtain ⟨callee,args,argTypes⟩:=c
 simp only at hc hxs
 subst hc
 have hfr:=hX _ _ hf
 have hxr:=xsL_sound hX hxs
 rw [show args.toList.map a.eval=(args.map a.eval).toList by rw [Array.toList_map]] at hxr
 refine ⟨about_ok ro P _ w a.eval,?_⟩
 rw [Oper.semAt_eq _ _ _ (by simp)]
 unfold evTarget at ht
 split at ht
 ·cases ht
 ·rename_i id'
  injection ht with ht;injection ht with ht1 ht2;subst ht1;subst ht2
  generalize hfe:a.eval f=fvv at hfr
  cases hfr with
  | yld _ b hb =>
   obtain ⟨fn,tmps,asg,body,hy,hround⟩:=hok _ b hxr hb
   have hrun:(execOp a.eval { dst,op:=.call { callee:=.value f,args,argTypes },type,pos,after,guard }).run P w = .ok (.round b.b fn tmps asg body) w:=by
    rw [Array.toArray_toList] at hy
    simp only [execOp,resolve,hfe,Deferred.ofValue,Sem.run_bind,Sem.run_pure,Result.andThen_ok,invoke,Array.empty_append,hy]
   rw [hrun]
   refine ⟨by simp [FW,Fence.wide],?_⟩
   have hmono:=RoundIn.mono hround (R':=fun
    | .returned v,w''=>next (a.put dst v) w''
    | .panicked chain,w''=>Q (.panic chain) a w''
    | .outgrown,_=>LetsOut Q) (fun e w' he=>by
     have:=hR e w' he
     cases e <;> exact this)
   cases ro with
   | none=>exact hmono
   | some l=>exact hmono
 ·cases ht
def YieldKOK (P:Program) (y:Nat→List AV→Tr AObj→Nat→KC→Prop):Prop :=
 ∀ id args H nx K,y id args H nx K→∀ E F ρ w,Rel E F nx ρ H.get w→TgtOK P (.yld id args) w ρ (EndsK E F nx ρ K)
set_option maxHeartbeats 1000000 in
theorem cSeq_sound {cx:Ctx} {En:CEv} (hcall:CallKOK cx.P En.call) (hyld:YieldKOK cx.P (cYield En)) (htb:TbOK cx.P cx.tb) {ops:Array Oper} {E:Env} {F:Nat→Option Obj} {ro:Option Nat} {Q:Exit→Act→World→Prop} {n0:Nat} {ρ0:Ren} {K:KX}
  (hq:∀ x s' ρ' a' w',K x s'→n0≤s'.nx→Keep n0 ρ0 ρ'→SR E F ρ' s' a' w' ro→ExQ ρ' x fun e=>Q e a' w') :
  ∀ (l:List Oper) (i:Nat) (s:St) (ρ:Ren) (a:Act) (w:World),(∀ j o,l[j]? = some o→ops[i + j]? = some o)→cSeq cx En ops K l s→n0≤s.nx→Keep n0 ρ0 ρ→SR E F ρ s a w ro →
   OpsTo ro cx.P ops Q (List.range' i l.length) a w
 | [],i,s,ρ,a,w,_,h,hn,hk,hs=>opsTo_nil (hq .nrm s ρ a w h hn hk hs)
 | o :: l,i,s,ρ,a,w,hl,h,hn,hk,hs=>by
  obtain ⟨T,wd,h1,hwd,hTs⟩:=cWant_sound (show cWant ops s.T o (fun T wd=>cond wd
   (fN (s.nx + 1) fun nx'=>cOp cx.P (opd T) s.H s.nx s.nx nx' o.op (cBehind o ⟨s.N,T,s.H,s.nx,s.ro,s.D⟩ K (cSeq cx En ops K l)) (cTgt cx En o ⟨s.N,T,s.H,s.nx,s.ro,s.D⟩ nx' K (cSeq cx En ops K l)))
   (cPut s.N T o.dst (.tup []) fun T=>cSeq cx En ops K l ⟨s.N,T,s.H,s.nx,s.ro,s.D⟩)) from h)
  have hw:=evWanted_sound hs.tr hwd
  have htr:TR ρ T a.tmps:=fun t b hb=>hs.tr t b (by rw [← hTs];exact hb)
  have ho:ops[i]? = some o:=by have:=hl 0 o rfl;simpa using this
  have hl':∀ j o',l[j]? = some o'→ops[i + 1 + j]? = some o':=fun j o' hj=>by
   have:=hl (j + 1) o' (by simpa using hj)
   rwa [show i + (j + 1)=i + 1 + j by omega] at this
  rw [show (o :: l).length=l.length + 1 from rfl,List.range'_succ]
  have ih:=cSeq_sound (ops:=ops) hcall hyld htb hq l (i + 1)
  cases wd with
  | false =>
   rw [cond_false] at h1
   obtain ⟨T',hT',h3⟩:=cPut_sound h1
   obtain ⟨e1,e2,e3⟩:=evPut_sound (u:=undef) htr hs.size (.tup (ρ:=ρ) [] [] .nil) hT'
   exact opsTo_off ho (by rw [hw];simp) (about_ok ro _ o w a.eval) (ih _ ρ _ w hl' h3 hn hk ⟨hs.rel,e1,e2,by rw [e3];exact hs.dr,hs.rr⟩)
  | true =>
   rw [cond_true,fN_eq] at h1
   refine opsTo_step ho hw ?_
   have behind:∀ (T':Tr AV) (H':Tr AObj) (r:CR),cBehind o ⟨s.N,T',H',s.nx + 1,s.ro,s.D⟩ K (cSeq cx En ops K l) r→(∀ g args H nx,r≠.dfr g args H nx)→∀ ρ1,TR ρ1 T' a.tmps→RX s.nx (s.nx + 1) ρ ρ1 →
     match r with
     | .mk v H nx=>∀ u ρ' w',RX (s.nx + 1) nx ρ1 ρ'→Rel E F nx ρ' H.get w'→VR ρ' v u→OpsTo ro cx.P ops Q (List.range' (i + 1) l.length) (a.put o.dst u) w'
     | .pan v H nx=>∀ u ρ' w',RX (s.nx + 1) nx ρ1 ρ'→Rel E F nx ρ' H.get w'→VR ρ' v u→Q (.panic (fresh u)) a w'
     | .dfr _ _ _ _=>True:=by
    intro T' H' r hb hnd ρ1 ht1 hx1
    cases r with
    | mk v H nx =>
     intro u ρ' w' hx hrel hv
     obtain ⟨T2,hT2,h3⟩:=cPut_sound (show cPut s.N T' o.dst v (fun T=>cSeq cx En ops K l ⟨s.N,T,H,nx,s.ro,s.D⟩) from hb)
     obtain ⟨e1,e2,e3⟩:=evPut_sound (ht1.mono hx.le) hs.size hv hT2
     have hx2:=hx1.trans hx
     have hnn:=hx2.nn
     exact ih _ ρ' _ w' hl' h3 (Nat.le_trans hn hx2.nn) (hk.trans (Keep.of_rx hx2 hn)) ⟨hrel,e1,e2,by rw [e3];exact hs.dr.mono hx2.le,hs.rr.mono hx2.le⟩
    | pan v H nx =>
     intro u ρ' w' hx hrel hv
     have hx2:=hx1.trans hx
     exact hq (.pan v) ⟨s.N,T',H,nx,s.ro,s.D⟩ ρ' a w' hb (Nat.le_trans hn hx2.nn) (hk.trans (Keep.of_rx hx2 hn)) ⟨hrel,ht1.mono hx.le,hs.size,hs.dr.mono hx2.le,hs.rr.mono hx2.le⟩ u hv
    | dfr g args H nx=>trivial
   rcases cOp_sound h1 with ⟨r,hr,hb⟩ | hlc
   ·refine evOp_sound (noCall_ok cx.P) hs.rel htr.xr (hs.rel.new _ (Nat.le_refl _)) (Nat.le_succ _) (Nat.lt_succ_self _) hr ?_
    cases r with
    | mk v H nx =>
     obtain ⟨T2,hT2,h3⟩:=cPut_sound (show cPut s.N T o.dst v (fun T=>cSeq cx En ops K l ⟨s.N,T,H,nx,s.ro,s.D⟩) from hb)
     intro u ρ' w' hx hrel hv
     have hle:=hx.le
     obtain ⟨e1,e2,e3⟩:=evPut_sound (htr.mono hle) hs.size hv hT2
     exact ih _ ρ' _ w' hl' h3 (Nat.le_trans hn hx.nn) (hk.trans (Keep.of_rx hx.rx hn)) ⟨hrel,e1,e2,by rw [e3];exact hs.dr.mono hle,hs.rr.mono hle⟩
    | pan v H nx =>
     intro u ρ' w' hx hrel hv
     have hle:=hx.le
     exact hq (.pan v) ⟨s.N,T,H,nx,s.ro,s.D⟩ ρ' a w' hb (Nat.le_trans hn hx.nn) (hk.trans (Keep.of_rx hx.rx hn)) ⟨hrel,htr.mono hle,hs.size,hs.dr.mono hle,hs.rr.mono hle⟩ u hv
    | dfr g args H nx =>
     have hb':(match s.ro with
      | none=>cPut s.N T o.dst (.tup []) fun T=>cSeq cx En ops K l ⟨s.N,T,H,nx,s.ro,.call g args :: s.D⟩
      | some _=>False):=hb
     cases hro:s.ro with
     | some l0=>rw [hro] at hb';exact hb'.elim
     | none =>
      rw [hro] at hb'
      obtain ⟨T2,hT2,h4⟩:=cPut_sound hb'
      have hrr:=hs.rr
      have hro':ro=none:=by rw [hro] at hrr;cases hrr;rfl
      refine ⟨hro',fun va vc hx hrel hv=>?_⟩
      obtain ⟨e1,e2,e3⟩:=evPut_sound (u:=undef) (a:={ a with defers:={ target:=.fn (.func g) vc.toArray,args:=va.toArray } :: a.defers }) htr hs.size (.tup (ρ:=ρ) [] [] .nil) hT2
      exact ih _ ρ _ w hl' h4 (Nat.le_trans hn hx.nn) (hk.trans (Keep.of_rx hx hn)) ⟨hrel,e1,e2,by rw [e3];exact .call g args va vc _ _ hv hs.dr,by rw [← hro];exact hs.rr⟩
   ·refine (cLook_sound hlc).elim (fun hcl=>?_) (fun ⟨t,m,k,ok,hop,hlk⟩=>?_)
    rotate_left
    ·obtain ⟨v,z,hb,hrun,hv⟩:=hlk E F s.nx ρ w a.eval hs.rel htr.xr
     obtain ⟨T2,hT2,h3⟩:=cPut_sound (show cPut s.N T o.dst v (fun T=>cSeq cx En ops K l ⟨s.N,T,s.H,s.nx,s.ro,s.D⟩) from hb)
     obtain ⟨e1,e2,e3⟩:=evPut_sound htr hs.size hv hT2
     refine wpIn_of_yield (by rw [hop];simp) (.inl ?_) (ih _ ρ _ w hl' h3 hn hk ⟨hs.rel,e1,e2,by rw [e3];exact hs.dr,hs.rr⟩)
     obtain ⟨dst,op,type,pos,after,guard⟩:=o
     simp only at hop
     subst hop
     exact run_v hrun
    unfold cCallee at hcl
    split at hcl
    ·rename_i c hop
     split at hcl
     ·rename_i f hcf
      obtain ⟨fv,hfv,h2⟩:=okP_some hcl
      obtain ⟨xs,hxs,h3⟩:=okP_some h2
      obtain ⟨t,ht,h4⟩:=okP_some h3
      cases t with
      | yld id args =>
       have hok:=hyld id args s.H (s.nx + 1) _ h4 E F ρ w (hs.rel.nx_le (Nat.le_succ _))
       have hx1:RX s.nx (s.nx + 1) ρ ρ:=⟨Ren.le_refl ρ,fun _ _=>rfl,Nat.le_succ _⟩
       refine yield_wp htr.xr hop hcf hfv hxs ht hok fun e w' he=>?_
       obtain ⟨r,hr1,hr2⟩:=he
       cases r with
       | mk v H nx =>
        obtain ⟨u,ρ',rfl,hx,hrel,hv⟩:=hr2
        exact behind T s.H (.mk v H nx) hr1 (fun _ _ _ _ h=>by cases h) ρ htr hx1 u ρ' w' hx hrel hv
       | pan v H nx =>
        obtain ⟨u,ρ',rfl,hx,hrel,hv⟩:=hr2
        exact behind T s.H (.pan v H nx) hr1 (fun _ _ _ _ h=>by cases h) ρ htr hx1 u ρ' w' hx hrel hv
       | dfr g args H nx=>exact hr2.elim
      | fn g args =>
       have h40:(Option.rec (motive:=fun _=>Prop) (Option.rec (motive:=fun _=>Prop) (cTgt0 cx En o ⟨s.N,T,s.H,s.nx,s.ro,s.D⟩ (s.nx + 1) K (cSeq cx En ops K l) (.fn g args))
        (fun ent=>okP (frzL cx.P s.H args) fun r=>sdA r.1 (okP (ent s.H r.2.1) fun rc=>(fun q:Bool×Tr AV=>sdA q.1
         (rc.pre∧∀ x,rc.Q x→cBehind o ⟨s.N,q.2,delL s.H r.2.2.2,s.nx + 1,s.ro,s.D⟩ K (cSeq cx En ops K l) (.mk (rc.v x) (delL s.H r.2.2.2) (s.nx + 1 + 1)))) (fzT r.2.2.1 T))) (lookR cx.rt g))
        (fun ent=>okP (ent s.H (s.nx + 1) args) fun rc=>rc.pre∧∀ x,rc.Q x→cBehind o ⟨s.N,T,s.H,s.nx + 1,s.ro,s.D⟩ K (cSeq cx En ops K l) (.mk (rc.v x) (setL (rc.up x) s.H) rc.nx)) (lookRH cx.rh g)):=h4
       cases hrh:lookRH cx.rh g with
       | some ent =>
        rw [hrh] at h40
        obtain ⟨rc,hrc,hpre,h5⟩:=okP_some h40
        have hok:=cx.rhok g ent hrh s.H (s.nx + 1) args rc hrc hpre E F ρ w (hs.rel.nx_le (Nat.le_succ _))
        have hx1:RX s.nx (s.nx + 1) ρ ρ:=⟨Ren.le_refl ρ,fun _ _=>rfl,Nat.le_succ _⟩
        refine call_wp htr.xr hop hcf hfv hxs ht hok fun e w' he=>?_
        obtain ⟨r,⟨x,hqx,rfl⟩,he⟩:=he
        obtain ⟨u,ρ',rfl,hx,hrel,hv⟩:=he
        exact behind T s.H (.mk (rc.v x) (setL (rc.up x) s.H) rc.nx) (h5 x hqx) (fun _ _ _ _ h=>by cases h) ρ htr hx1 u ρ' w' hx hrel hv
       | none =>
       rw [hrh] at h40
       have h41:(Option.rec (motive:=fun _=>Prop) (cTgt0 cx En o ⟨s.N,T,s.H,s.nx,s.ro,s.D⟩ (s.nx + 1) K (cSeq cx En ops K l) (.fn g args))
        (fun ent=>okP (frzL cx.P s.H args) fun r=>sdA r.1 (okP (ent s.H r.2.1) fun rc=>(fun q:Bool×Tr AV=>sdA q.1
         (rc.pre∧∀ x,rc.Q x→cBehind o ⟨s.N,q.2,delL s.H r.2.2.2,s.nx + 1,s.ro,s.D⟩ K (cSeq cx En ops K l) (.mk (rc.v x) (delL s.H r.2.2.2) (s.nx + 1 + 1)))) (fzT r.2.2.1 T))) (lookR cx.rt g)):=h40
       cases hrt:lookR cx.rt g with
       | some ent =>
        rw [hrt] at h41
        obtain ⟨⟨sd,args',fz,ids⟩,hfr,h5⟩:=okP_some h41
        obtain ⟨h6,h7⟩:=sdA_iff.1 h5
        simp only at h6;subst h6
        obtain ⟨rc,hrc,h8⟩:=okP_some h7
        obtain ⟨h9,hpre,h10⟩:=sdA_iff.1 h8
        obtain ⟨hids,hfz,hargs⟩:=frzL_sound hs.rel args args' fz ids hfr
        obtain ⟨hx0,hrel0⟩:=frzR_rel hs.rel hids
        have hx1:RX s.nx (s.nx + 1) ρ (frzR ρ w ids):=⟨hx0.le,hx0.lo,Nat.le_succ _⟩
        have ht1:TR (frzR ρ w ids) (fzT fz T).2 a.tmps:=fzT_tr hfz hids (fun _ h=>h) rfl hx0.le htr h9
        have hok:=cx.rok g ent hrt s.H args' rc hrc hpre E F (frzR ρ w ids) w (s.nx + 1) (delL s.H ids) hs.rel.gl (hrel0.nx_le (Nat.le_succ _))
        have hok':=hok.2
        refine call_wp htr.xr hop hcf hfv hxs ht (R:=fun e w'=>∃ r:CR,(∃ x,rc.Q x∧r = .mk (rc.v x) (delL s.H ids) (s.nx + 1 + 1))∧EndsR E F (s.nx + 1) (frzR ρ w ids) r e w') ⟨hok.1,fun vs hvs=>hok' vs (hargs ids hids (fun _ h=>h) vs hvs)⟩ fun e w' he=>?_
        obtain ⟨r,⟨x,hqx,rfl⟩,he⟩:=he
        obtain ⟨u,ρ',rfl,hx,hrel,hv⟩:=he
        exact behind _ _ (.mk (rc.v x) (delL s.H ids) (s.nx + 1 + 1)) (h10 x hqx) (fun _ _ _ _ h=>by cases h) _ ht1 hx1 u ρ' w' hx hrel hv
       | none =>
       rw [hrt] at h41
       have h4o:(Option.rec (motive:=fun _=>Prop) (Option.rec (motive:=fun _=>Prop) (En.call g args s.H (s.nx + 1) (cBehind o ⟨s.N,T,s.H,s.nx,s.ro,s.D⟩ K (cSeq cx En ops K l)))
        (fun ent=>okP (frzL cx.P s.H args) fun r=>sdA r.1 (okP (ent s.H r.2.1) fun ct=>(fun q:Bool×Tr AV=>sdA q.1
         (cCt ct (fun v=>cBehind o ⟨s.N,q.2,delL s.H r.2.2.2,s.nx + 1,s.ro,s.D⟩ K (cSeq cx En ops K l) (.mk v (delL s.H r.2.2.2) (s.nx + 1 + 1)))
          (fun v=>cBehind o ⟨s.N,q.2,delL s.H r.2.2.2,s.nx + 1,s.ro,s.D⟩ K (cSeq cx En ops K l) (.pan v (delL s.H r.2.2.2) (s.nx + 1 + 1))))) (fzT r.2.2.1 T))) (look cx.tb g))
        (fun ent=>okP (ent s.H (s.nx + 1) args) fun hc=>cHCt hc (fun v up nx=>cBehind o ⟨s.N,T,s.H,s.nx + 1,s.ro,s.D⟩ K (cSeq cx En ops K l) (.mk v (setL up s.H) nx))
         (fun v up nx=>cBehind o ⟨s.N,T,s.H,s.nx + 1,s.ro,s.D⟩ K (cSeq cx En ops K l) (.pan v (setL up s.H) nx))) (lookH cx.ht g)):=h41
       cases hlh:lookH cx.ht g with
       | some ent =>
        rw [hlh] at h4o
        obtain ⟨hc,hhc,h5⟩:=okP_some h4o
        obtain ⟨p,v,up,n1,hout,h6⟩:=cHCt_out h5
        have hok:=cx.hok g ent hlh s.H (s.nx + 1) args hc hhc p v up n1 hout E F ρ w (hs.rel.nx_le (Nat.le_succ _))
        have hx1:RX s.nx (s.nx + 1) ρ ρ:=⟨Ren.le_refl ρ,fun _ _=>rfl,Nat.le_succ _⟩
        refine call_wp htr.xr hop hcf hfv hxs ht hok fun e w' he=>?_
        cases p with
        | false =>
         obtain ⟨u,ρ',rfl,hx,hrel,hv⟩:=he
         exact behind T s.H (.mk v (setL up s.H) n1) h6 (fun _ _ _ _ h=>by cases h) ρ htr hx1 u ρ' w' hx hrel hv
        | true =>
         obtain ⟨u,ρ',rfl,hx,hrel,hv⟩:=he
         exact behind T s.H (.pan v (setL up s.H) n1) h6 (fun _ _ _ _ h=>by cases h) ρ htr hx1 u ρ' w' hx hrel hv
       | none =>
       rw [hlh] at h4o
       have h4':(Option.rec (motive:=fun _=>Prop) (En.call g args s.H (s.nx + 1) (cBehind o ⟨s.N,T,s.H,s.nx,s.ro,s.D⟩ K (cSeq cx En ops K l)))
        (fun ent=>okP (frzL cx.P s.H args) fun r=>sdA r.1 (okP (ent s.H r.2.1) fun ct=>(fun q:Bool×Tr AV=>sdA q.1
         (cCt ct (fun v=>cBehind o ⟨s.N,q.2,delL s.H r.2.2.2,s.nx + 1,s.ro,s.D⟩ K (cSeq cx En ops K l) (.mk v (delL s.H r.2.2.2) (s.nx + 1 + 1)))
          (fun v=>cBehind o ⟨s.N,q.2,delL s.H r.2.2.2,s.nx + 1,s.ro,s.D⟩ K (cSeq cx En ops K l) (.pan v (delL s.H r.2.2.2) (s.nx + 1 + 1))))) (fzT r.2.2.1 T))) (look cx.tb g)):=h4o
       cases hlk:look cx.tb g with
       | none =>
        rw [hlk] at h4'
        have hok:=hcall g args s.H (s.nx + 1) _ h4' E F ρ w (hs.rel.nx_le (Nat.le_succ _))
        refine call_wp htr.xr hop hcf hfv hxs ht hok fun e w' he=>?_
        obtain ⟨r,hr1,hr2⟩:=he
        have hx1:RX s.nx (s.nx + 1) ρ ρ:=⟨Ren.le_refl ρ,fun _ _=>rfl,Nat.le_succ _⟩
        cases r with
        | mk v H nx =>
         obtain ⟨u,ρ',rfl,hx,hrel,hv⟩:=hr2
         exact behind T s.H (.mk v H nx) hr1 (fun _ _ _ _ h=>by cases h) ρ htr hx1 u ρ' w' hx hrel hv
        | pan v H nx =>
         obtain ⟨u,ρ',rfl,hx,hrel,hv⟩:=hr2
         exact behind T s.H (.pan v H nx) hr1 (fun _ _ _ _ h=>by cases h) ρ htr hx1 u ρ' w' hx hrel hv
        | dfr g args H nx=>exact hr2.elim
       | some ent =>
        rw [hlk] at h4'
        obtain ⟨⟨sd,args',fz,ids⟩,hfr,h5⟩:=okP_some h4'
        obtain ⟨h6,h7⟩:=sdA_iff.1 h5
        simp only at h6;subst h6
        obtain ⟨ct,hct,h8⟩:=okP_some h7
        obtain ⟨h9,h10⟩:=sdA_iff.1 h8
        obtain ⟨p,v,hout,h11⟩:=cCt_out h10
        obtain ⟨hids,hfz,hargs⟩:=frzL_sound hs.rel args args' fz ids hfr
        obtain ⟨hx0,hrel0⟩:=frzR_rel hs.rel hids
        have hx1:RX s.nx (s.nx + 1) ρ (frzR ρ w ids):=⟨hx0.le,hx0.lo,Nat.le_succ _⟩
        have ht1:TR (frzR ρ w ids) (fzT fz T).2 a.tmps:=fzT_tr hfz hids (fun _ h=>h) rfl hx0.le htr h9
        have hok:=htb g ent hlk s.H args' ct hct p v hout E F (frzR ρ w ids) w (s.nx + 1) (delL s.H ids) hs.rel.gl (hrel0.nx_le (Nat.le_succ _))
        have hok':TgtOK cx.P (.fn g args) w ρ (EndsR E F (s.nx + 1) (frzR ρ w ids) (outCR p v (delL s.H ids) (s.nx + 1 + 1))):=⟨hok.1,fun vs hvs=>hok.2 vs (hargs ids hids (fun _ h=>h) vs hvs)⟩
        refine call_wp htr.xr hop hcf hfv hxs ht hok' fun e w' he=>?_
        cases p with
        | false =>
         obtain ⟨u,ρ',rfl,hx,hrel,hv⟩:=he
         exact behind _ _ (.mk v (delL s.H ids) (s.nx + 1 + 1)) h11 (fun _ _ _ _ h=>by cases h) _ ht1 hx1 u ρ' w' hx hrel hv
        | true =>
         obtain ⟨u,ρ',rfl,hx,hrel,hv⟩:=he
         exact behind _ _ (.pan v (delL s.H ids) (s.nx + 1 + 1)) h11 (fun _ _ _ _ h=>by cases h) _ ht1 hx1 u ρ' w' hx hrel hv
     ·exact hcl.elim
    ·exact hcl.elim
end Go.Ev
end
section
/- The symbolic layer, part K: what the sentence says holds: code, loops, functions. -/
namespace Go.Ev
def LoopP (F:Fence) (n:Nat) (P:Program) (c:Code) (Q:Exit→Act→World→Prop) (a:Act) (w:World):Prop :=
 ∀ (b:Frame) (k:List Item) (cs:List Frame),b.roundOf=F.round→F.fn b.fn→F.room (cs.length + 1 + n) →
  ∃ e a' w',Q e a' w'∧ArrivesIn (Machine.fenced P F) P (lone (b.atR a (.code c :: .inLoop c :: k)) cs w) b k cs e a' w'
theorem loopP_round {F:Fence} {n:Nat} {P:Program} {c:Code} {Q:Exit→Act→World→Prop} {a:Act} {w:World} (h:c.wpIn F n P (Exit.then (LoopP F n P c Q) Q) a w):LoopP F n P c Q a w:=by
 intro b k cs hro hb hr
 obtain ⟨e,a₁,w₁,hq,harr⟩:=h b (.inLoop c :: k) cs hro hb hr
 cases e with
 | normal =>
  obtain ⟨e₂,a₂,w₂,hq₂,harr₂⟩:=hq b k cs hro hb hr
  exact ⟨e₂,a₂,w₂,hq₂,.of_steps (StepsIn.trans harr (.one (fenced_calm hb hr rfl) stepR_inLoop)) harr₂⟩
 | exit id=>exact ⟨_,a₁,w₁,hq,.pass (x:=.inLoop c) rfl (fun _ _=>.inl (by simp)) harr⟩
 | goto l=>exact ⟨_,a₁,w₁,hq,.pass (x:=.inLoop c) rfl (fun _ _=>.inl (by simp)) harr⟩
 | ret=>exact ⟨_,a₁,w₁,hq,.pass (x:=.inLoop c) rfl (fun _ _=>.inl (by simp)) harr⟩
 | panic ch=>exact ⟨_,a₁,w₁,hq,.pass (x:=.inLoop c) rfl (fun _ _=>.inl (by simp)) harr⟩
 | outgrown=>exact ⟨_,a₁,w₁,hq,.pass (x:=.inLoop c) rfl (fun _ _=>.inl (by simp)) harr⟩
theorem loopP_loop {F:Fence} {n:Nat} {P:Program} {c:Code} {Q:Exit→Act→World→Prop} {a:Act} {w:World} (h:LoopP F n P c Q a w):(Code.loop c).wpIn F n P Q a w:=by
 intro b k cs hro hb hr
 obtain ⟨e,a',w',hq,harr⟩:=h b k cs hro hb hr
 exact ⟨e,a',w',hq,.of_steps (.one (fenced_calm hb hr rfl) stepR_loop) harr⟩
def KSem (E:Env) (F:Nat→Option Obj) (n0:Nat) (ρ0:Ren) (ro:Option Nat) (K:KX) (Q:Exit→Act→World→Prop):Prop :=
 ∀ x s' ρ' a' w',K x s'→n0≤s'.nx→Keep n0 ρ0 ρ'→SR E F ρ' s' a' w' ro→ExQ ρ' x fun e=>Q e a' w'
def CodeKOK (P:Program) (code:Nat→FuncId→Code→St→KX→Prop):Prop :=
 ∀ n0 f c s K,code n0 f c s K→∀ E F ρ0 ρ a w ro Q,KSem E F n0 ρ0 ro K Q→n0≤s.nx→Keep n0 ρ0 ρ→SR E F ρ s a w ro →
  match c with
  | .loop c'=>LoopP (FW ro) 0 P c' Q a w
  | c=>c.wpIn (FW ro) 0 P Q a w
def DrawKOK (P:Program) (D:Array Oper→St→KX→Prop):Prop :=
 ∀ ops s K,D ops s K→∀ id E F n0 ρ0 ρ a w ro Q,KSem E F n0 ρ0 ro K Q→n0≤s.nx→Keep n0 ρ0 ρ→SR E F ρ s a w ro→(Code.region id ops true).wpIn (FW ro) 0 P Q a w
theorem code_wp {P:Program} {code:Nat→FuncId→Code→St→KX→Prop} (h:CodeKOK P code) {n0:Nat} {f:FuncId} {c:Code} {s:St} {K:KX} (hc:code n0 f c s K) {E:Env} {F:Nat→Option Obj} {ρ0 ρ:Ren} {a:Act} {w:World} {ro:Option Nat}
  {Q:Exit→Act→World→Prop} (hq:KSem E F n0 ρ0 ro K Q) (hn:n0≤s.nx) (hk:Keep n0 ρ0 ρ) (hs:SR E F ρ s a w ro):c.wpIn (FW ro) 0 P Q a w:=by
 have:=h n0 f c s K hc E F ρ0 ρ a w ro Q hq hn hk hs
 cases c <;> first | exact this | exact loopP_loop this
theorem cCond_sound {ρ:Ren} {T:Tr AV} {tmps:Array Value} {c:Operand} {A B:Tr AV→Prop} (h:cCond T c A B) {a:Act} (ht:TR ρ T a.tmps) :
  ∃ b T',a.eval c = .bool b∧(∀ t,T'.get t=T.get t)∧(if b then A T' else B T'):=by
 unfold cCond at h
 split at h
 ·rename_i d
  obtain ⟨v,hv,h1⟩:=okP_some h
  split at h1
  ·rename_i b
   have hr:=ht.xr (.tmp d) (.bool b) hv
   have he:a.eval (.tmp d) = .bool b:=by
    generalize a.eval (.tmp d)=u at hr
    cases hr;rfl
   obtain ⟨h2,h3⟩:=brP_iff.1 h1
   refine ⟨b,T.set d (.bool b),he,fun t=>?_,?_⟩
   ·rw [Tr.get_set];split
    ·rename_i e;subst e;exact hv.symm
    ·rfl
   ·cases b with
    | true=>exact h2 rfl
    | false=>exact h3 rfl
  ·exact h1.elim
 ·rename_i b
  obtain ⟨h2,h3⟩:=brP_iff.1 h
  refine ⟨b,T,rfl,fun _=>rfl,?_⟩
  cases b with
  | true=>exact h2 rfl
  | false=>exact h3 rfl
 ·exact h.elim
theorem cYield_sound {P:Program} {En:CEv} (hcode:CodeKOK P En.code):YieldKOK P (cYield En):=by
 intro id args H nx K h E F ρ w r vs b hvs hb
 obtain ⟨o,ho,h1⟩:=okP_some h
 clear h
 cases o with
 | loop st0 pend0 T N ps asg body d =>
  obtain ⟨T',hT',h2⟩:=okP_some h1
  clear h1
  obtain ⟨fn,tmps,bd,hheap,htr,hsz,_,_⟩:=loop_at r hb ho
  obtain ⟨e1,e2,e3⟩:=setPs_sound ps.toList args vs N T T' tmps hvs hT' htr hsz
  have hy:=run_yield (P:=P) (args:=vs.toArray) hheap (by simp [e1])
  have hfold:(ps.zip vs.toArray).foldl (fun tmps (x:Tmp×Value)=>tmps.setIfInBounds x.1 x.2) tmps=(ps.toList.zip vs).foldl (fun tmps (x:Tmp×Value)=>tmps.setIfInBounds x.1 x.2) tmps:=by
   rw [← Array.foldl_toList,Array.toList_zip]
  refine ⟨fn,_,asg,body,hy,roundIn_of_wpIn trivial ?_⟩
  rw [hfold]
  have hrx:∀ {n:Nat} {ρ':Ren},nx≤n→Keep nx ρ ρ'→RX nx n ρ ρ':=fun {n ρ'} hn hk=>⟨⟨fun i b hb=>(by
   by_cases hi:i < nx
   ·rw [hk.lo i hi];exact hb
   ·rw [r.new i (by omega)] at hb;exact absurd hb (by simp)),hk.st⟩,hk.lo,hn⟩
  refine code_wp hcode h2 (E:=E) (F:=F) (ρ0:=ρ) (ρ:=ρ) (a:={ tmps:=(ps.toList.zip vs).foldl (fun tmps (x:Tmp×Value)=>tmps.setIfInBounds x.1 x.2) tmps,defers:=[] }) (ro:=some b.b) ?_ (Nat.le_refl _) (Keep.refl _ _) ⟨r,e2,e3,.nil,.some id b hb⟩
  intro x s ρ1 a1 w1 hx hn1 hk1 hs1
  cases x with
  | nrm =>
   obtain ⟨H1,hH1,h4⟩:=okP_some hx
   obtain ⟨st1,p1,T1,N1,ps1,asg1,body1,d1,st1',p1',g1,g2,g3⟩:=loopSet_some hH1
   have hb1:=(hrx hn1 hk1).le _ _ hb
   obtain ⟨fn1,tmps1,bd1,hheap1,_,_,_,hset1⟩:=loop_at hs1.rel hb1 g1
   have hst1:st1 = .ready∧st1' = .busy∧p1'=p1:=by
    cases st1 <;> first | (cases g2;done) | (injection g2 with g2;injection g2 with g4 g5;exact ⟨rfl,g4.symm,g5.symm⟩)
   obtain ⟨rfl,rfl,rfl⟩:=hst1
   refine ⟨_,run_beginRound hheap1 rfl,?_⟩
   refine code_wp hcode h4 (E:=E) (F:=F) (ρ0:=ρ) (ρ:=ρ1) (ro:=some b.b) ?_ hn1 hk1 ⟨by rw [g3];exact hset1 .busy p1',hs1.tr,hs1.size,hs1.dr,hs1.rr⟩
   intro x2 s2 ρ2 a2 w2 hx2 hn2 hk2 hs2
   obtain ⟨hcalm,h5⟩:=sdA_iff.1 hx2
   obtain ⟨H2,hH2,h6⟩:=okP_some h5
   obtain ⟨st2,p2,T2,N2,ps2,asg2,body2,d2,st2',p2',k1,k2,k3⟩:=loopSet_some hH2
   have hb2:=(hrx hn2 hk2).le _ _ hb
   obtain ⟨fn2,tmps2,bd2,hheap2,_,_,_,hset2⟩:=loop_at hs2.rel hb2 k1
   injection k2 with k2;injection k2 with k4 k5
   refine roundPost_ex (run_endRound x2.jump hheap2) ⟨_,h6,_,ρ2,rfl,hrx hn2 hk2,?_,.bool _⟩ ρ2 hcalm
   rw [k3,← k4,← k5]
   have:=hset2 (cond x2.jump.isNone .ready .done) x2.jump
   have hc:(cond x2.jump.isNone LoopState.ready .done)=if x2.jump.isNone=true then .ready else .done:=by cases x2.jump.isNone <;> rfl
   rw [hc] at this ⊢
   exact this
  | _=>exact hx.elim
 | _=>exact h1.elim
theorem cRange_sound {P:Program} {En:CEv} (hcall:CallKOK P En.call) {f:Operand} {ps:Array Tmp} {asg body:Code} {s:St} {K:KX} (h:cRange En f ps asg body s K)
  {E:Env} {F:Nat→Option Obj} {n0:Nat} {ρ0 ρ:Ren} {a:Act} {w:World} {ro:Option Nat} {Q:Exit→Act→World→Prop} (hq0:KSem E F n0 ρ0 ro K Q) (hn:n0≤s.nx) (hk:Keep n0 ρ0 ρ) (hs:SR E F ρ s a w ro) :
  (Code.rangeFunc f ps asg body).wpIn (FW ro) 0 P Q a w:=by
 refine wpIn_rangeFunc fun fn _=>?_
 obtain ⟨fa,hfa,h1⟩:=okP_some h
 clear h
 have hfr:=hs.tr.xr _ _ hfa
 have hrr:=hs.rr
 cases hro:s.ro with
 | some l0=>rw [hro] at h1;exact h1.elim
 | none =>
  rw [hro] at h1 hrr
  cases hrr
  simp only [fN_eq] at h1
  obtain ⟨t,ht,h2⟩:=okP_some h1
  clear h1
  have hn0:=hs.rel.new s.nx (Nat.le_refl _)
  have A1:=hs.rel.alloc (nx':=s.nx + 1) hn0 (Nat.le_succ _) (Nat.lt_succ_self _) (cap:=0) (a:=.dfr true) (o:=.deferred (some [])) (.dfr true)
  obtain ⟨A1r,A1l⟩:=A1
  rw [← get_set_fun] at A1r
  have hn1:=A1r.new (s.nx + 1) (Nat.le_refl _)
  have hput0:(ρ.put s.nx ⟨w.heap.size,0,0⟩) s.nx=some ⟨w.heap.size,0,0⟩:=Ren.put_same _ _ _
  let ρ1:Ren:=ρ.put s.nx ⟨w.heap.size,0,0⟩
  let blk:Blk:=⟨(w.alloc (.deferred (some []))).heap.size,0,0⟩
  let ρ2:Ren:=ρ1.put (s.nx + 1) blk
  have hl12:ρ1.le ρ2:=Ren.le_put (ρ:=ρ1) hn1 blk
  have A2:=A1r.alloc (nx':=s.nx + 1 + 1) hn1 (Nat.le_succ _) (Nat.lt_succ_self _) (cap:=0) (a:=.loop .ready none s.T s.N ps asg body s.nx)
   (o:=.loop { state:=.ready,pending:=none,fn,tmps:=a.tmps,params:=ps,assign:=asg,body,defers:=w.heap.size })
   (.loop .ready none s.T s.N ps asg body s.nx fn a.tmps ⟨w.heap.size,0,0⟩ (hs.tr.mono (Ren.le_trans A1l hl12)) hs.size (hl12 _ _ hput0))
  obtain ⟨A2r,A2l⟩:=A2
  rw [← get_set_fun] at A2r
  have hle:ρ.le ρ2:=Ren.le_trans A1l hl12
  have hb:ρ2 (s.nx + 1)=some blk:=Ren.put_same _ _ _
  have hlt:∀ i,i < s.nx→ρ2 i=ρ i:=fun i hi=>by simp [Ren.put,ρ2,ρ1,Nat.ne_of_lt hi,Nat.ne_of_lt (Nat.lt_succ_of_lt hi)]
  have hx0:RX s.nx (s.nx + 1 + 1) ρ ρ2:=⟨hle,hlt,by omega⟩
  have hdr2:DR ρ2 (.mark s.nx :: s.D) ({ target:=.collected w.heap.size,args:=#[] } :: a.defers):=.mark s.nx ⟨w.heap.size,0,0⟩ _ _ (hl12 _ _ hput0) (hs.dr.mono hle)
  cases t with
  | yld _ _=>exact h2.elim
  | fn g args =>
   have hok:=hcall g args _ _ _ h2 E F ρ2 _ A2r
   have hfr2:=hfr.mono hle
   unfold evTarget at ht
   split at ht
   ·rename_i gi first cap
    injection ht with ht;injection ht with ht1 ht2;subst ht1;subst ht2
    generalize hfe:a.eval f=fv at hfr2
    cases hfr2 with
    | fn _ _ _ va vc ha hc =>
     obtain ⟨⟨fn',c,hfn,hnm,hbd⟩,hcalls⟩:=hok
     have hargs:VRL ρ2 [AV.yld (s.nx + 1)] [Value.func (.yield blk.b) #[] #[]]:=.cons _ _ _ _ (.yld (s.nx + 1) blk hb) .nil
     have hc':=hcalls _ (ha.append (hargs.append hc))
     have e:blk.b=w.heap.size + 1:=by simp [blk]
     refine ⟨w.heap.size + 1,[{ target:=.collected w.heap.size,args:=#[] }],((w.alloc (.deferred (some []))).alloc (.loop { state:=.ready,pending:=none,fn,tmps:=a.tmps,params:=ps,assign:=asg,body,defers:=w.heap.size })),{ target:=.fn (.func gi) vc.toArray,args:=va.toArray ++ #[.func (.yield blk.b) #[] #[]] },((w.alloc (.deferred (some []))).alloc (.loop { state:=.ready,pending:=none,fn,tmps:=a.tmps,params:=ps,assign:=asg,body,defers:=w.heap.size })),gi,(va ++ ([Value.func (.yield blk.b) #[] #[]] ++ vc)).toArray,((w.alloc (.deferred (some []))).alloc (.loop { state:=.ready,pending:=none,fn,tmps:=a.tmps,params:=ps,assign:=asg,body,defers:=w.heap.size })),run_enterLoop_outer fn a.tmps ps asg body,?_,fun _ _=>trivial,?_,by simp [FW,Fence.wide],?_⟩
     ·rw [← e]
      unfold resolve rangeCall
      have hm:Array.map a.eval #[Operand.const (Value.func (Fn.yield blk.b) #[] #[])] = #[Value.func (Fn.yield blk.b) #[] #[]]:=by simp [Act.eval]
      have hfe':Act.eval { a with defers:=[{ target:=.collected w.heap.size,args:=#[] }] ++ a.defers } f = .func (.func gi) va.toArray vc.toArray:=hfe
      first
       | (simp only [hfe,Deferred.ofValue,hm];rfl)
       | (simp only [hfe',Deferred.ofValue,hm];rfl)
     ·simp only [invoke,callFunc,Sem.run_bind,run_program,Result.andThen_ok,hfn,hnm,Bool.false_eq_true,if_false,hbd,Option.isNone_some,Sem.run_pure]
      congr 2
      apply Array.ext'
      simp
     ·rw [← e]
      refine CallsIn.mono hc' ?_
      rintro ed w' ⟨r,hr,hend⟩
      cases r with
      | pan _ _ _=>exact hr.elim
      | dfr _ _ _ _=>exact hend.elim
      | mk v H nx =>
       obtain ⟨u,ρ',rfl,hx,hrel,hv⟩:=hend
       obtain ⟨o,ho,h3⟩:=okP_some hr
       cases o with
       | loop st pend T N ps' asg' body' d =>
        obtain ⟨x1,hx1,h4⟩:=okP_some h3
        obtain ⟨H1,hH1,h5⟩:=okP_some h4
        obtain ⟨hpend,hcalm⟩:=jumpX_some hx1
        obtain ⟨st1,p1,T1,N1,ps1,asg1,body1,d1,st1',p1',g1,g2,g3⟩:=loopSet_some hH1
        rw [ho] at g1
        injection g1 with g1
        injection g1 with g1 g4 g5 g6 g7 g8 g9 g10
        subst g1;subst g4
        have hb':=hx.le _ _ hb
        obtain ⟨fn2,tmps,bd,hheap,_,_,_,hset⟩:=loop_at hrel hb' ho
        have hnb:st≠.busy∧st1' = .exhausted∧p1'=pend:=by
         cases st <;> first | (cases g2;done) | (injection g2 with g2;injection g2 with g11 g12;exact ⟨by simp,g11.symm,g12.symm⟩)
        obtain ⟨hnb1,rfl,rfl⟩:=hnb
        refine ⟨p1',_,run_endLoop hheap hnb1,?_⟩
        have hxx:=RX.trans hx0 hx
        have hsr:SR E F ρ' ⟨s.N,s.T,H1,nx,none,.mark s.nx :: s.D⟩ { a with defers:=[{ target:=.collected w.heap.size,args:=#[] }] ++ a.defers } (w'.putObj blk.b (.loop { state:=.exhausted,pending:=p1',fn:=fn2,tmps,params:=ps',assign:=asg',body:=body',defers:=bd })) none:=by
         refine ⟨?_,hs.tr.mono hxx.le,hs.size,hdr2.mono hx.le,.none⟩
         show Rel E F nx ρ' H1.get _
         rw [g3]
         subst g5;subst g6;subst g7;subst g8;subst g9;subst g10
         exact hset .exhausted p1'
        have hq':=hq0 x1 _ ρ' _ _ h5 (Nat.le_trans hn hxx.nn) (hk.trans (Keep.of_rx hxx hn)) hsr
        have:=jump_wp (P:=P) (ro:=none) (Q:=Q) (a:={ a with defers:=[{ target:=.collected w.heap.size,args:=#[] }] ++ a.defers }) x1 hcalm hq'
        rw [← hpend] at this
        exact this
       | _=>exact h3.elim
   ·cases ht
   ·cases ht
theorem cCodeF_sound {cx:Ctx} {En:CEv} {D:Array Oper→St→KX→Prop} (hD:DrawKOK cx.P D) (hcode:CodeKOK cx.P En.code) (hcall:CallKOK cx.P En.call) (htb:TbOK cx.P cx.tb):CodeKOK cx.P (cCodeF cx En D):=by
 intro n0 f c s K h E F ρ0 ρ a w ro Q hq hn hk hs
 cases c with
 | skip=>exact wpIn_skip (hq _ _ _ _ _ h hn hk hs)
 | region id ops draw =>
  cases draw with
  | false =>
   refine opsTo_region ?_
   have:=cSeq_sound hcall (cYield_sound hcode) htb (ops:=ops) (E:=E) (F:=F) (ro:=ro) (Q:=Q) (K:=K) hq ops.toList 0 s ρ a w (fun j o hj=>by simpa using hj) h hn hk hs
   rw [List.range_eq_range']
   simpa using this
  | true=>exact hD ops s K h id E F n0 ρ0 ρ a w ro Q hq hn hk hs
 | seq p q =>
  have h':(Option.rec (motive:=fun _=>Prop) (En.code n0 f p s fun ax s'=>match ax with
   | .nrm=>En.code n0 f q s' K
   | ax=>K ax s') (fun S=>cCut En S n0 f p q s K) (Option.rec (motive:=fun _=>Option Stn) none (fun r=>cx.cut f r) (firstR q))):=h
  cases hS:(Option.rec (motive:=fun _=>Option Stn) none (fun r=>cx.cut f r) (firstR q)) with
  | none =>
   rw [hS] at h'
   refine wpIn_seq (code_wp hcode h' (ρ0:=ρ0) ?_ hn hk hs)
   intro x s' ρ' a' w' hx hn' hk' hs'
   cases x with
   | nrm=>exact code_wp hcode hx hq hn' hk' hs'
   | exit id=>exact hq _ _ _ _ _ hx hn' hk' hs'
   | goto l=>exact hq _ _ _ _ _ hx hn' hk' hs'
   | ret=>exact hq _ _ _ _ _ hx hn' hk' hs'
   | pan v=>exact fun u hu=>hq (.pan v) _ _ _ _ hx hn' hk' hs' u hu
  | some S =>
   rw [hS] at h'
   obtain ⟨h1,h2⟩:=(show cCut En S n0 f p q s K from h')
   refine wpIn_seq (code_wp hcode h1 (ρ0:=ρ0) ?_ hn hk hs)
   intro x s' ρ' a' w' hx hn' hk' hs'
   cases x with
   | nrm =>
    obtain ⟨x0,hI,hst⟩:=hx
    obtain ⟨hn2,ρ2,hk2,hs2⟩:=stP_rel hst hs'
    exact code_wp hcode (h2 x0 hI) hq hn2 (hk'.trans hk2) hs2
   | exit id=>exact hq _ _ _ _ _ hx hn' hk' hs'
   | goto l=>exact hq _ _ _ _ _ hx hn' hk' hs'
   | ret=>exact hq _ _ _ _ _ hx hn' hk' hs'
   | pan v=>exact fun u hu=>hq (.pan v) _ _ _ _ hx hn' hk' hs' u hu
 | cond c p q =>
  obtain ⟨b,T',he,hT,hb⟩:=cCond_sound (tmps:=a.tmps) (show cCond s.T c (fun T=>En.code n0 f p ⟨s.N,T,s.H,s.nx,s.ro,s.D⟩ K) (fun T=>En.code n0 f q ⟨s.N,T,s.H,s.nx,s.ro,s.D⟩ K) from h) hs.tr
  have hs':SR E F ρ ⟨s.N,T',s.H,s.nx,s.ro,s.D⟩ a w ro:=⟨hs.rel,fun t b hb=>hs.tr t b (by rw [← hT];exact hb),hs.size,hs.dr,hs.rr⟩
  refine wpIn_cond he ?_
  cases b with
  | true=>exact code_wp hcode (show En.code n0 f p ⟨s.N,T',s.H,s.nx,s.ro,s.D⟩ K from hb) hq hn hk hs'
  | false=>exact code_wp hcode (show En.code n0 f q ⟨s.N,T',s.H,s.nx,s.ro,s.D⟩ K from hb) hq hn hk hs'
 | block id p =>
  refine wpIn_block (code_wp hcode (show En.code n0 f p s _ from h) (ρ0:=ρ0) ?_ hn hk hs)
  intro x s' ρ' a' w' hx hn' hk' hs'
  cases x with
  | nrm=>exact hq _ _ _ _ _ hx hn' hk' hs'
  | exit id' =>
   show if id'=id then Q .normal a' w' else Q (.exit id') a' w'
   have hx':cond (Nat.beq id' id) (K .nrm s') (K (.exit id') s'):=hx
   cases hb:Nat.beq id' id with
   | true =>
    rw [hb,cond_true] at hx'
    rw [Nat.beq_eq] at hb
    rw [if_pos hb];exact hq _ _ _ _ _ hx' hn' hk' hs'
   | false =>
    rw [hb,cond_false] at hx'
    rw [if_neg (fun e=>by rw [← Nat.beq_eq,hb] at e;cases e)];exact hq _ _ _ _ _ hx' hn' hk' hs'
  | goto l=>exact hq _ _ _ _ _ hx hn' hk' hs'
  | ret=>exact hq _ _ _ _ _ hx hn' hk' hs'
  | pan v=>exact fun u hu=>hq (.pan v) _ _ _ _ hx hn' hk' hs' u hu
 | loop p =>
  have h':(Option.rec (motive:=fun _=>Prop) (En.code n0 f p s fun ax s'=>match ax with
   | .nrm=>En.code n0 f (.loop p) s' K
   | ax=>K ax s') (fun S=>cLoop En S n0 f p s K) (Option.rec (motive:=fun _=>Option Stn) none (fun r=>cx.lp f r) (firstR p))):=h
  show LoopP (FW ro) 0 cx.P p Q a w
  cases hS:(Option.rec (motive:=fun _=>Option Stn) none (fun r=>cx.lp f r) (firstR p)) with
  | none =>
   rw [hS] at h'
   refine loopP_round (code_wp hcode h' (ρ0:=ρ0) ?_ hn hk hs)
   intro x s' ρ' a' w' hx hn' hk' hs'
   cases x with
   | nrm=>exact hcode n0 f (.loop p) s' K hx E F ρ0 ρ' a' w' ro Q hq hn' hk' hs'
   | exit id=>exact hq _ _ _ _ _ hx hn' hk' hs'
   | goto l=>exact hq _ _ _ _ _ hx hn' hk' hs'
   | ret=>exact hq _ _ _ _ _ hx hn' hk' hs'
   | pan v=>exact fun u hu=>hq (.pan v) _ _ _ _ hx hn' hk' hs' u hu
  | some S =>
   rw [hS] at h'
   obtain ⟨⟨x0,hI0,hst0⟩,hround⟩:=(show cLoop En S n0 f p s K from h')
   have key:∀ (m:Nat) (x:S.X),S.m x < m→S.I s x→∀ ρ a w,n0≤S.nx s n0→Keep n0 ρ0 ρ→SR E F ρ (stOf S s n0 x) a w ro→LoopP (FW ro) 0 cx.P p Q a w:=by
    intro m
    induction m with
    | zero=>intro x hx;omega
    | succ m ih =>
     intro x hx hI ρ a w hn1 hk1 hs1
     refine loopP_round (code_wp hcode (hround x hI) (ρ0:=ρ0) ?_ hn1 hk1 hs1)
     intro y s' ρ' a' w' hy hn' hk' hs'
     cases y with
     | nrm =>
      obtain ⟨x1,hI1,hm1,hst1⟩:=hy
      obtain ⟨hn2,ρ2,hk2,hs2⟩:=stP_rel hst1 hs'
      exact ih x1 (by omega) hI1 ρ2 a' w' hn2 (hk'.trans hk2) hs2
     | exit id=>exact hq _ _ _ _ _ hy hn' hk' hs'
     | goto l=>exact hq _ _ _ _ _ hy hn' hk' hs'
     | ret=>exact hq _ _ _ _ _ hy hn' hk' hs'
     | pan v=>exact fun u hu=>hq (.pan v) _ _ _ _ hy hn' hk' hs' u hu
   obtain ⟨hn2,ρ2,hk2,hs2⟩:=stP_rel hst0 hs
   exact key (S.m x0 + 1) x0 (Nat.lt_succ_self _) hI0 ρ2 a w hn2 (hk.trans hk2) hs2
 | rangeFunc g ps asg body=>exact cRange_sound hcall (show cRange En g ps asg body s K from h) hq hn hk hs
 | exit id=>exact wpIn_exit (hq (.exit id) _ _ _ _ h hn hk hs)
 | label l=>exact wpIn_label (hq .nrm _ _ _ _ h hn hk hs)
 | goto l=>exact wpIn_goto (hq (.goto l) _ _ _ _ h hn hk hs)
 | ret=>exact wpIn_ret (hq .ret _ _ _ _ h hn hk hs)
 | scope p =>
  refine wpIn_scope (code_wp hcode (show En.code n0 f p s _ from h) (ρ0:=ρ0) ?_ hn hk hs)
  intro x s' ρ' a' w' hx hn' hk' hs'
  cases x with
  | nrm=>exact ⟨fun _ e=>(by cases e),hq .nrm _ _ _ _ hx hn' hk' hs'⟩
  | exit id=>exact ⟨fun _ e=>(by cases e),hq (.exit id) _ _ _ _ hx hn' hk' hs'⟩
  | goto l=>exact hx.elim
  | ret=>exact ⟨fun _ e=>(by cases e),hq .ret _ _ _ _ hx hn' hk' hs'⟩
  | pan v=>exact fun u hu=>⟨fun _ e=>(by cases e),hq (.pan v) _ _ _ _ hx hn' hk' hs' u hu⟩
 | refuse _=>exact h.elim
theorem cFunc_sound {cx:Ctx} (hm:cx.P.follows .mixedOrders=true) {En:CEv} (hcode:CodeKOK cx.P En.code):CallKOK cx.P (cFunc cx En):=by
 intro g args H nx K h E F ρ w r
 obtain ⟨fn,hfn,h1⟩:=okP_some h
 obtain ⟨hnm,h2⟩:=sdA_iff.1 h1
 obtain ⟨c,hc,h3⟩:=okP_some h2
 simp only [fN_eq] at h3
 refine ⟨⟨fn,c,hfn,by simpa using hnm,hc⟩,fun vs hvs=>?_⟩
 refine callsIn_of_wp_marks hfn hc trivial ?_
 have hlen:=hvs.length
 refine code_wp hcode h3 (E:=E) (F:=F) (ρ0:=ρ) (ρ:=ρ) (ro:=none) (fun x s ρ' a' w' hx hn hk hs'=>?_) (Nat.le_refl _) (Keep.refl _ _) ⟨r,setArgs_tr hvs _,by simp [hlen],.nil,.none⟩
 have hrx:RX nx s.nx ρ ρ':=⟨⟨fun i b hb=>(by
  by_cases hi:i < nx
  ·rw [hk.lo i hi];exact hb
  ·rw [r.new i (by omega)] at hb;exact absurd hb (by simp)),hk.st⟩,hk.lo,hn⟩
 unfold cOut at hx
 split at hx
 ·rename_i hD
  have hdr:=hs'.dr
  rw [hD] at hdr
  have hdf:a'.defers=[]:=by generalize a'.defers=ds at hdr;cases hdr;rfl
  have lv:∀ u R,u≠FrameMode.run→LeavesIn (FW none) 0 cx.P fn a'.tmps R [] u w'→LeavesInM (FW none) 0 cx.P fn a'.tmps R a'.defers u w':=fun u R hu h=>by rw [hdf];exact h
  split at hx
  ·obtain ⟨v1,hv1,h8⟩:=okP_some hx
   obtain ⟨u1,hu,hur⟩:=evResults_sound (P:=cx.P) hs'.rel hs'.tr hv1
   exact lv _ _ (by simp) ⟨u1,hu,_,h8,u1,ρ',rfl,hrx,hs'.rel,hur⟩
  ·obtain ⟨v1,hv1,h8⟩:=okP_some hx
   obtain ⟨u1,hu,hur⟩:=evResults_sound (P:=cx.P) hs'.rel hs'.tr hv1
   exact lv _ _ (by simp) ⟨u1,hu,_,h8,u1,ρ',rfl,hrx,hs'.rel,hur⟩
  ·intro u hu
   exact lv _ _ (by simp) ⟨_,hx,u,ρ',rfl,hrx,hs'.rel,hu⟩
  ·exact hx.elim
 ·have hd:=(evs_sound (drawOK hm) 30 80).2.2
  have leave:∀ (m:MD) (u:FrameMode),MR ρ' m u→cLeave cx.P fn K m s→LeavesInM (FW none) 0 cx.P fn a'.tmps (EndsK E F nx ρ K) a'.defers u w':=fun m u hmu hL=>by
   obtain ⟨⟨m1,H1,nx1⟩,hlv,h6⟩:=okP_some hL
   refine evLeave_sound hd s.D a'.defers m s.H s.nx ρ' u w' hs'.dr hmu hlv hs'.rel fun ρ'' u'' w'' hle' hrel hm''=>?_
   have hrx2:=hrx.trans hle'
   cases m1 with
   | ret =>
    obtain ⟨v1,hv1,h8⟩:=okP_some h6
    cases hm''
    obtain ⟨u1,hu,hur⟩:=evResults_sound (P:=cx.P) hrel (hs'.tr.mono hle'.le) hv1
    exact ⟨u1,hu,_,h8,u1,ρ'',rfl,hrx2,hrel,hur⟩
   | pan v =>
    cases hm''
    rename_i u1 hu
    exact ⟨_,h6,u1,ρ'',rfl,hrx2,hrel,hu⟩
   | rcd v=>exact h6.elim
  split at hx
  ·exact leave .ret .returning .ret hx
  ·exact leave .ret .returning .ret hx
  ·intro u hu
   exact leave (.pan _) _ (.pan _ u hu) hx
  ·exact hx.elim
theorem cEvs_sound {cx:Ctx} (hm:cx.P.follows .mixedOrders=true) {D:Array Oper→St→KX→Prop} (hD:DrawKOK cx.P D) (htb:TbOK cx.P cx.tb):∀ n,CodeKOK cx.P (cEvs cx D n).code∧CallKOK cx.P (cEvs cx D n).call
 | 0=>⟨fun _ _ _ _ _ h=>h.elim,fun _ _ _ _ _ h=>h.elim⟩
 | n + 1=>by
  obtain ⟨h1,h2⟩:=cEvs_sound hm hD htb n
  exact ⟨cCodeF_sound hD h1 h2 htb,cFunc_sound hm h1⟩
noncomputable def ResM (P:Program) (p:Bool) (c:AV) (r:CR):Prop :=
 match p,r with
 | false,.mk v H _=>okP (frz P H v) fun q=>sdA q.1 (vmP [] c q.2.1)
 | true,.pan v H _=>okP (frz P H v) fun q=>sdA q.1 (vmP [] c q.2.1)
 | _,_=>False
theorem vm_free {ρ ρ2:Ren} (h:∀ b o,ρ.st b=some o→ρ2.st b=some o):SgOK [] ρ ρ2:=⟨fun i j hij=>(by cases hij),h⟩
theorem lift_end {P:Program} {E:Env} {F:Nat→Option Obj} {nx:Nat} {ρ:Ren} {H:Tr AObj} {w:World} (r:Rel E F nx ρ H.get w) {n1:Nat} {ρ1:Ren} {H1:Tr AObj} {w':World} {v' c:AV} {u:Value}
  (hst:∀ b o,ρ.st b=some o→ρ1.st b=some o) (r1:Rel (guardE E ρ) (fun b=>w.heap[b]?) n1 ρ1 H1.get w') (hv:VR ρ1 v' u) (hc:okP (frz P H1 v') fun q=>sdA q.1 (vmP [] c q.2.1)) :
  ∃ ρ',RX nx (nx + 1) ρ ρ'∧Rel E F (nx + 1) ρ' H.get w'∧VR ρ' c u:=by
 obtain ⟨⟨s,c',fz,ids⟩,hfr,h1⟩:=okP_some hc
 obtain ⟨h2,h3⟩:=sdA_iff.1 h1
 simp only at h2;subst h2
 obtain ⟨hids,_,hval⟩:=frz_sound r1 v' c' fz ids hfr
 obtain ⟨hx,r2⟩:=frzR_rel r1 hids
 have hv2:=hval ids hids (fun _ h=>h) u hv
 generalize frzR ρ1 w' ids=ρ2 at hx r2 hv2
 have hst2:∀ b o,ρ.st b=some o→ρ2.st b=some o:=fun b o h=>hx.le.st b o (hst b o h)
 have hle:ρ.le ⟨ρ.nm,ρ2.st⟩:=⟨fun _ _ h=>h,hst2⟩
 have hheap:∀ b o,w.heap[b]? = some o→w'.heap[b]? = some o:=r2.fr
 have hfs:∀ b o o',w.heap[b]? = some o→ρ2.st b=some o'→ρ.st b≠none:=fun b o o' h1 h2=>by
  have:=r2.sf b o o' h1 h2
  simpa [guardE] using this
 refine ⟨⟨ρ.nm,ρ2.st⟩,⟨hle,fun _ _=>rfl,Nat.le_succ _⟩,⟨r2.tape,r2.os,r2.output,fun b o hb=>hheap b o (r.fr b o hb),fun i o b hi hb=>?_,r.dj,r.inj,fun i hi=>r.new i (Nat.le_of_succ_le hi),r.gl,r.bs,r2.st,fun i o b hi hb=>?_,fun b o o' hF hs=>?_⟩,vm_rel (ρ:=ρ2) (ρ2:=⟨ρ.nm,ρ2.st⟩) (vm_free fun _ _ h=>h) c c' u h3 hv2⟩
 ·obtain ⟨oc,h4,h5⟩:=r.ob i o b hi hb
  exact ⟨oc,hheap _ _ h4,h5.mono hle⟩
 ·obtain ⟨oc,h4,h5⟩:=r.ob i o b hi hb
  cases hs:ρ2.st b.b with
  | none=>rfl
  | some o'=>exact absurd (r.sd i o b hi hb) (hfs b.b oc o' h4 hs)
 ·have:=hfs b o o' (r.fr b o hF) hs
  cases hs':ρ.st b with
  | none=>exact absurd hs' this
  | some o''=>exact r.sf b o o'' hF hs'
theorem ent_ok {P:Program} {call:FuncId→List AV→Tr AObj→Nat→KC→Prop} (hcall:CallKOK P call) {g:FuncId} {ent:Tr AObj→List AV→Option Ct} {gl:List (Nat×AObj)} {ng:Nat}
  (hgl:∀ p∈gl,isGl p.2=true)
  (hrun:∀ H args ct,ent H args=some ct→(∀ p∈gl,H.get p.1=some p.2)∧vmL [] args args∧∀ p v,ctOut ct=some (p,v)→call g args (mkH gl) ng (ResM P p v)):EntOK P g ent:=by
 intro H args ct hct p v hout E F ρ w nx H' hG r
 obtain ⟨hH,hargs,hcl⟩:=hrun H args ct hct
 have r0:Rel (guardE E ρ) (fun b=>w.heap[b]?) ng ⟨fun _=>none,ρ.st⟩ (mkH gl).get w :=
  ⟨r.tape,r.os,r.output,fun _ _ h=>h,fun _ _ _ _ h=>(by cases h),fun _ _ _ _ h=>(by cases h),fun _ _ _ _ _ _ _ _ h=>(by cases h),fun _ _=>rfl,
   fun g l hg=>hG g l (hH _ (mkH_get hg)),fun b o hb=>r.fr b o (r.bs b o hb),r.st,fun _ _ _ _ h=>(by cases h),fun b o o' _ hs=>(by simp [guardE];exact fun e=>by rw [show ρ.st b=some o' from hs] at e;cases e)⟩
 have hok:=hcall g args (mkH gl) ng _ (hcl p v hout) _ _ _ w r0
 refine ⟨hok.1,fun vs hvs=>CallsIn.mono (hok.2 vs (vmL_rel (ρ:=ρ) (ρ2:=⟨fun _=>none,ρ.st⟩) (vm_free fun _ _ h=>h) args args vs hargs hvs)) fun e w' he=>?_⟩
 obtain ⟨res,hres,hend⟩:=he
 cases p with
 | false =>
  cases res with
  | mk v' H1 n1 =>
   obtain ⟨u,ρ1,rfl,hx,r1,hv⟩:=hend
   obtain ⟨ρ',h1,h2,h3⟩:=lift_end r hx.le.st r1 hv hres
   exact ⟨u,ρ',rfl,h1,h2,h3⟩
  | pan _ _ _=>exact hres.elim
  | dfr _ _ _ _=>exact hres.elim
 | true =>
  cases res with
  | pan v' H1 n1 =>
   obtain ⟨u,ρ1,rfl,hx,r1,hv⟩:=hend
   obtain ⟨ρ',h1,h2,h3⟩:=lift_end r hx.le.st r1 hv hres
   exact ⟨u,ρ',rfl,h1,h2,h3⟩
  | mk _ _ _=>exact hres.elim
  | dfr _ _ _ _=>exact hres.elim
end Go.Ev
end
section
/- The symbolic layer, part L: regions that draw their order. -/
namespace Go.Ev
theorem Tr.set_self {α:Type} {x:α}:∀ (p:List Bool) (t:Tr α),Tr.gp p t=some x→Tr.sp (some x) p t=t
 | [],.leaf,h=>by cases h
 | [],.node v l r,h=>by
  have h':v=some x:=h
  subst h';rfl
 | b :: p,.leaf,h=>by rw [Tr.gp_leaf] at h;cases h
 | b :: p,.node v l r,h=>by
  cases b with
  | true =>
   have h':Tr.gp p l=some x:=h
   show Tr.node v (Tr.sp (some x) p l) r=_
   rw [set_self p l h']
  | false =>
   have h':Tr.gp p r=some x:=h
   show Tr.node v l (Tr.sp (some x) p r)=_
   rw [set_self p r h']
theorem Tr.set_get {α:Type} {x:α} {t:Tr α} {n:Nat} (h:t.get n=some x):t.set n x=t:=set_self (path n) t h
theorem cWant_same {ops:Array Oper} {T:Tr AV} {o:Oper} {K:Tr AV→Bool→Prop} (h:cWant ops T o K):∃ wd,K T wd∧evWanted ops T o=some wd:=by
 unfold cWant at h
 unfold evWanted
 split at h
 ·rename_i hg
  rw [hg]
  exact ⟨true,h,rfl⟩
 ·rename_i j want hg
  rw [hg]
  obtain ⟨oj,h1,h2⟩:=okP_some h
  obtain ⟨d,h3,h4⟩:=okP_some h2
  obtain ⟨v,h5,h6⟩:=okP_some h4
  simp only [h1]
  split at h6
  ·rename_i b
   obtain ⟨h7,h8⟩:=brP_iff.1 h6
   cases b with
   | true=>exact ⟨_,by have:=h7 rfl;rwa [Tr.set_get h5] at this,by simp [ob,h3,h5]⟩
   | false=>exact ⟨_,by have:=h8 rfl;rwa [Tr.set_get h5] at this,by simp [ob,h3,h5]⟩
  ·refine ⟨false,h6,?_⟩
   simp only [ob,h3,h5]
noncomputable def tgtOf (X:Operand→Option AV) (op:Op):Option Tgt :=
 match op with
 | .call c=>match c.callee with
  | .value f=>ob (X f) fun f=>ob (xsL X c.args.toList) fun xs=>evTarget f xs
  | _=>none
 | _=>none
theorem heavy3_target {P:Program} {call:CallF} {X:Operand→Option AV} {H:Tr AObj} {ni nx:Nat} {op:Op} (h:∀ t,tgtOf X op=some t→call t H nx=none):evHeavy3 P call X H ni nx op=evHeavy3 P noCall X H ni nx op:=by
 cases op <;> try rfl
 rename_i c
 obtain ⟨callee,args,ts⟩:=c
 cases callee with
 | builtin b=>cases b <;> rfl
 | invoke _ _=>rfl
 | value f =>
  simp only [evHeavy3]
  simp only [tgtOf] at h
  cases hf:X f with
  | none=>rfl
  | some fv =>
   rw [hf] at h
   cases hx:xsL X args.toList with
   | none=>rfl
   | some xs =>
    rw [hx] at h
    cases ht:evTarget fv xs with
    | none=>simp [ob,ht]
    | some t =>
     have:=h t (by simp [ob,ht])
     simp [ob,ht,this,noCall]
theorem heavy3_call {P:Program} {call:CallF} {X:Operand→Option AV} {H:Tr AObj} {ni nx:Nat} {op:Op} {t:Tgt} {r:CR} (ht:tgtOf X op=some t) (hr:call t H nx=some r):evHeavy3 P call X H ni nx op=some r:=by
 cases op <;> first | (cases ht;done) | skip
 rename_i c
 obtain ⟨callee,args,ts⟩:=c
 cases callee with
 | builtin b=>cases ht
 | invoke _ _=>cases ht
 | value f =>
  obtain ⟨fv,hf,h1⟩:=ob_some.1 (show (ob (X f) fun f=>ob (xsL X args.toList) fun xs=>evTarget f xs)=some t from ht)
  obtain ⟨xs,hx,h2⟩:=ob_some.1 h1
  simp [evHeavy3,ob,hf,hx,h2,hr]
noncomputable def cDput (N p:Nat) (o:Oper) (A:Nat) (σ:DS) (k:DK) (v:AV) (H:Tr AObj) (nx cc:Nat) (K:DS→Prop):Prop :=
 cPut N σ.T o.dst v fun T=>K (match k with
  | .off=>⟨σ.reads,σ.news,σ.hvs,T,H,nx,cc,σ.pn⟩
  | .pure=>cond (readsH o.op) ⟨⟨p,o,A,σ.T,.pure,v,H,cc⟩ :: σ.reads,σ.news,σ.hvs,T,H,nx,cc,σ.pn⟩ ⟨σ.reads,σ.news,σ.hvs,T,H,nx,cc,σ.pn⟩
  | .new b=>⟨σ.reads,⟨p,o,A,σ.T,.new b,v,H,cc⟩ :: σ.news,σ.hvs,T,H,nx,cc,σ.pn⟩
  | .heavy=>⟨σ.reads,σ.news,⟨p,o,A,σ.T,.heavy,v,H,cc⟩ :: σ.hvs,T,H,nx,cc,σ.pn⟩
  | .dead=>⟨σ.reads,σ.news,σ.hvs,T,H,nx,cc,σ.pn⟩
  | .pan v' H' nx'=>⟨σ.reads,σ.news,σ.hvs,T,H,nx,cc,some ⟨p,A,v',H',nx'⟩⟩)
theorem cDput_sound {N p:Nat} {o:Oper} {A:Nat} {σ:DS} {k:DK} {v:AV} {H:Tr AObj} {nx cc:Nat} {K:DS→Prop} (h:cDput N p o A σ k v H nx cc K):∃ σ',dput N p o A σ k v H nx cc=some σ'∧K σ':=by
 obtain ⟨T,h1,h2⟩:=cPut_sound h
 exact ⟨_,by unfold dput;rw [h1];rfl,h2⟩
noncomputable def cDres (N p:Nat) (o:Oper) (A:Nat) (σ:DS) (K:DS→Prop) (r:CR):Prop :=
 match r with
 | .mk v H nx=>fN (p + 1) fun cc=>cDput N p o A σ .heavy v H nx cc K
 | .pan v H nx=>cDput N p o A σ (.pan v H nx) (.tup []) σ.H σ.nx σ.cc K
 | .dfr _ _ _ _=>False
noncomputable def cDcall (tb:Tbl) (ht:HTbl) (Hv:Tr AObj) (nx:Nat) (K:CR→Prop) (g:FuncId) (args:List AV) (L:Prop):Prop :=
 Option.rec (motive:=fun _=>Prop) (Option.rec (motive:=fun _=>Prop) L (fun ent=>okP (ent Hv args) fun ct=>cCt ct (fun v=>K (.mk v Hv (nx + 1))) (fun v=>K (.pan v Hv (nx + 1)))) (look tb g))
  (fun ent=>okP (ent Hv nx args) fun hc=>cHCt hc (fun v up n=>K (.mk v (setL up Hv) n)) (fun v up n=>K (.pan v (setL up Hv) n))) (lookH ht g)
noncomputable def cDheavy (P:Program) (tb:Tbl) (ht:HTbl) (X:Operand→Option AV) (Hv:Tr AObj) (ni nx:Nat) (op:Op) (K:CR→Prop):Prop :=
 Option.rec (motive:=fun _=>Prop)
  (Option.rec (motive:=fun _=>Prop) (okP (evHeavy3 P noCall X Hv ni nx op) K)
   (fun t=>match t with
    | .fn g args=>cDcall tb ht Hv nx K g args (okP (evHeavy3 P noCall X Hv ni nx op) K)
    | .yld _ _=>False) (tgtOf X op))
  (fun r=>sdA r.1 (K (.mk r.2.1 r.2.2 nx))) (sHeavy P X Hv ni op)
theorem cDheavy_sound {P:Program} {tb:Tbl} {ht:HTbl} {X:Operand→Option AV} {Hv:Tr AObj} {ni nx:Nat} {op:Op} {K:CR→Prop} (h:cDheavy P tb ht X Hv ni nx op K):∃ r,evHeavy P (callT tb ht) X Hv ni nx op=some r∧K r:=by
 unfold cDheavy at h
 cases h1:sHeavy P X Hv ni op with
 | some r =>
  rw [h1] at h
  obtain ⟨h2,h3⟩:=sdA_iff.1 h
  obtain ⟨b,v,H'⟩:=r
  simp only at h2;subst h2
  exact ⟨_,sHeavy_ev h1,h3⟩
 | none =>
  rw [h1] at h
  cases h2:tgtOf X op with
  | none =>
   rw [h2] at h
   obtain ⟨r,h3,h4⟩:=okP_some h
   exact ⟨r,heavy3_ev h1 (by rw [heavy3_target (fun t ht=>by rw [h2] at ht;cases ht)];exact h3),h4⟩
  | some t =>
   rw [h2] at h
   cases t with
   | yld _ _=>exact h.elim
   | fn g args =>
    have h':cDcall tb ht Hv nx K g args (okP (evHeavy3 P noCall X Hv ni nx op) K):=h
    unfold cDcall at h'
    cases hlh:lookH ht g with
    | some ent =>
     rw [hlh] at h'
     obtain ⟨hc,h4,h5⟩:=okP_some h'
     obtain ⟨p,v,up,n,h6,h7⟩:=cHCt_out h5
     have hcl:callT tb ht (.fn g args) Hv nx=some (outCR p v (setL up Hv) n):=by
      show Option.rec (motive:=fun _=>Option CR) (ob (look tb g) fun ent=>ob (ent Hv args) fun ct=>ob (ctOut ct) fun o=>some (outCR o.1 o.2 Hv (nx + 1)))
       (fun ent=>ob (ent Hv nx args) fun hc=>ob (hOut hc) fun o=>some (outCR o.1 o.2.1 (setL o.2.2.1 Hv) o.2.2.2)) (lookH ht g)=_
      rw [hlh]
      show (ob (ent Hv nx args) fun hc=>ob (hOut hc) fun o=>some (outCR o.1 o.2.1 (setL o.2.2.1 Hv) o.2.2.2))=_
      rw [h4]
      show (ob (hOut hc) fun o=>some (outCR o.1 o.2.1 (setL o.2.2.1 Hv) o.2.2.2))=_
      rw [h6];rfl
     refine ⟨_,heavy3_ev h1 (heavy3_call h2 hcl),?_⟩
     cases p with
     | false=>exact h7
     | true=>exact h7
    | none =>
    rw [hlh] at h'
    have hnone:callT tb ht (.fn g args) Hv nx=(ob (look tb g) fun ent=>ob (ent Hv args) fun ct=>ob (ctOut ct) fun o=>some (outCR o.1 o.2 Hv (nx + 1))):=by
     show Option.rec (motive:=fun _=>Option CR) (ob (look tb g) fun ent=>ob (ent Hv args) fun ct=>ob (ctOut ct) fun o=>some (outCR o.1 o.2 Hv (nx + 1)))
      (fun ent=>ob (ent Hv nx args) fun hc=>ob (hOut hc) fun o=>some (outCR o.1 o.2.1 (setL o.2.2.1 Hv) o.2.2.2)) (lookH ht g)=_
     rw [hlh]
    cases h3:look tb g with
    | none =>
     rw [h3] at h'
     obtain ⟨r,h4,h5⟩:=okP_some h'
     exact ⟨r,heavy3_ev h1 (by
      rw [heavy3_target (fun t ht'=>by
       rw [h2] at ht';injection ht' with ht';subst ht'
       rw [hnone,h3];rfl)]
      exact h4),h5⟩
    | some ent =>
     rw [h3] at h'
     obtain ⟨ct,h4,h5⟩:=okP_some h'
     obtain ⟨p,v,h6,h7⟩:=cCt_out h5
     have hc:callT tb ht (.fn g args) Hv nx=some (outCR p v Hv (nx + 1)):=by
      rw [hnone,h3]
      show (ob (ent Hv args) fun ct=>ob (ctOut ct) fun o=>some (outCR o.1 o.2 Hv (nx + 1)))=_
      rw [h4]
      show (ob (ctOut ct) fun o=>some (outCR o.1 o.2 Hv (nx + 1)))=_
      rw [h6];rfl
     refine ⟨_,heavy3_ev h1 (heavy3_call h2 hc),?_⟩
     cases p with
     | false=>exact h7
     | true=>exact h7
noncomputable def cDstep (P:Program) (tb:Tbl) (ht:HTbl) (ops:Array Oper) (N r0:Nat) (AT:Tr Nat) (p:Nat) (o:Oper) (σ:DS) (K:DS→Prop):Prop :=
 okP (AT.get p) fun A=>cond (isDead σ.pn A) (cDput N p o A σ .dead (.tup []) σ.H σ.nx σ.cc K) (cWant ops σ.T o fun T wd=>(fun σ:DS=>cond wd
  (Option.rec (motive:=fun _=>Prop) (cIdx P (opd σ.T) o.op (fun v=>cDput N p o A σ .pure v σ.H σ.nx σ.cc K) (Option.rec (motive:=fun _=>Prop)
   (fN (r0 + p) fun ni=>Option.rec (motive:=fun _=>Prop) (Option.rec (motive:=fun _=>Prop)
    (sdA (allL (fun h=>Go.Ev.tb A h.i) σ.hvs) (sdA σ.pn.isNone (cDheavy P tb ht (opd σ.T) (viewF σ.news σ.hvs A p r0 σ.H) ni σ.nx o.op (cDres N p o A σ K))))
    (fun q=>cDput N p o A σ (.new q.2) q.1 σ.H σ.nx σ.cc K) (evNew3 P (opd σ.T) ni o.op))
    (fun q=>sdA q.1 (cDput N p o A σ (.new q.2.2) q.2.1 σ.H σ.nx σ.cc K)) (sNew P (opd σ.T) ni o.op))
   (fun v=>cDput N p o A σ .pure v σ.H σ.nx σ.cc K) (evPure3 P (viewF σ.news σ.hvs A p r0 σ.H) (opd σ.T) o.op)))
   (fun r=>sdA r.1 (cDput N p o A σ .pure r.2 σ.H σ.nx σ.cc K)) (sPure P (viewF σ.news σ.hvs A p r0 σ.H) (opd σ.T) o.op))
  (cDput N p o A σ .off (.tup []) σ.H σ.nx σ.cc K)) ⟨σ.reads,σ.news,σ.hvs,T,σ.H,σ.nx,σ.cc,σ.pn⟩)
theorem cDstep_sound {P:Program} {tb:Tbl} {ht:HTbl} {ops:Array Oper} {N r0:Nat} {AT:Tr Nat} {p:Nat} {o:Oper} {σ:DS} {K:DS→Prop} (h:cDstep P tb ht ops N r0 AT p o σ K):∃ σ',dstep P (callT tb ht) ops N r0 AT p o σ=some σ'∧K σ':=by
 obtain ⟨A,hA,h1⟩:=okP_some h
 unfold dstep
 rw [hA]
 show ∃ σ',(cond (isDead σ.pn A) (dput N p o A σ .dead (.tup []) σ.H σ.nx σ.cc) <| ob (evWanted ops σ.T o) fun wd=>cond wd _ _)=some σ'∧K σ'
 cases hd:isDead σ.pn A with
 | true =>
  rw [hd,cond_true] at h1
  obtain ⟨σ',h2,h3⟩:=cDput_sound h1
  exact ⟨σ',h2,h3⟩
 | false =>
  rw [hd,cond_false] at h1
  obtain ⟨wd,h2,hw⟩:=cWant_same h1
  rw [cond_false,hw]
  cases wd with
  | false =>
   have h2:cDput N p o A σ .off (.tup []) σ.H σ.nx σ.cc K:=h2
   obtain ⟨σ',h3,h4⟩:=cDput_sound h2
   refine ⟨σ',?_,h4⟩
   show dput N p o A σ .off (.tup []) σ.H σ.nx σ.cc=some σ'
   exact h3
  | true =>
   have h2:(Option.rec (motive:=fun _=>Prop) (cIdx P (opd σ.T) o.op (fun v=>cDput N p o A σ .pure v σ.H σ.nx σ.cc K) (Option.rec (motive:=fun _=>Prop)
    (fN (r0 + p) fun ni=>Option.rec (motive:=fun _=>Prop) (Option.rec (motive:=fun _=>Prop)
     (sdA (allL (fun h=>Go.Ev.tb A h.i) σ.hvs) (sdA σ.pn.isNone (cDheavy P tb ht (opd σ.T) (viewF σ.news σ.hvs A p r0 σ.H) ni σ.nx o.op (cDres N p o A σ K))))
     (fun q=>cDput N p o A σ (.new q.2) q.1 σ.H σ.nx σ.cc K) (evNew3 P (opd σ.T) ni o.op))
     (fun q=>sdA q.1 (cDput N p o A σ (.new q.2.2) q.2.1 σ.H σ.nx σ.cc K)) (sNew P (opd σ.T) ni o.op))
    (fun v=>cDput N p o A σ .pure v σ.H σ.nx σ.cc K) (evPure3 P (viewF σ.news σ.hvs A p r0 σ.H) (opd σ.T) o.op)))
    (fun r=>sdA r.1 (cDput N p o A σ .pure r.2 σ.H σ.nx σ.cc K)) (sPure P (viewF σ.news σ.hvs A p r0 σ.H) (opd σ.T) o.op)):=h2
   show ∃ σ',(Option.rec (motive:=fun _=>Option DS)
    (fN (r0 + p) fun ni=>Option.rec (motive:=fun _=>Option DS)
     (gd (allL (fun h=>Go.Ev.tb A h.i) σ.hvs) (gd σ.pn.isNone <| ob (evHeavy P (callT tb ht) (opd σ.T) (viewF σ.news σ.hvs A p r0 σ.H) ni σ.nx o.op) fun r =>
      CR.rec (motive:=fun _=>Option DS) (fun v H nx=>fN (p + 1) fun cc=>dput N p o A σ .heavy v H nx cc) (fun v H nx=>dput N p o A σ (.pan v H nx) (.tup []) σ.H σ.nx σ.cc) (fun _ _ _ _=>none) r))
     (fun q=>dput N p o A σ (.new q.2) q.1 σ.H σ.nx σ.cc) (evNew P (opd σ.T) ni o.op))
    (fun v=>dput N p o A σ .pure v σ.H σ.nx σ.cc) (evPure2 P (viewF σ.news σ.hvs A p r0 σ.H) (opd σ.T) o.op))=some σ'∧K σ'
   cases h3:sPure P (viewF σ.news σ.hvs A p r0 σ.H) (opd σ.T) o.op with
   | some r =>
    rw [h3] at h2
    obtain ⟨h4,h5⟩:=sdA_iff.1 h2
    obtain ⟨b,v⟩:=r
    simp only at h4;subst h4
    rw [sPure_ev h3]
    obtain ⟨σ',h6,h7⟩:=cDput_sound h5
    exact ⟨σ',h6,h7⟩
   | none =>
   rw [h3] at h2
   rcases cIdx_sound (H:=viewF σ.news σ.hvs A p r0 σ.H) h2 with h2 | ⟨v,hv,hk⟩
   rotate_left
   ·rw [pure3_ev h3 hv]
    obtain ⟨σ',h6,h7⟩:=cDput_sound hk
    exact ⟨σ',h6,h7⟩
   cases h4:evPure3 P (viewF σ.news σ.hvs A p r0 σ.H) (opd σ.T) o.op with
   | some v =>
    rw [h4] at h2
    rw [pure3_ev h3 h4]
    obtain ⟨σ',h6,h7⟩:=cDput_sound h2
    exact ⟨σ',h6,h7⟩
   | none =>
   rw [h4] at h2
   have e1:evPure2 P (viewF σ.news σ.hvs A p r0 σ.H) (opd σ.T) o.op=none:=by unfold evPure2;rw [h3];exact h4
   rw [e1]
   simp only [fN_eq] at h2 ⊢
   cases h5:sNew P (opd σ.T) (r0 + p) o.op with
   | some r =>
    rw [h5] at h2
    obtain ⟨h6,h7⟩:=sdA_iff.1 h2
    obtain ⟨b,v,ob'⟩:=r
    simp only at h6;subst h6
    rw [sNew_ev h5]
    obtain ⟨σ',h6,h7⟩:=cDput_sound h7
    exact ⟨σ',h6,h7⟩
   | none =>
   rw [h5] at h2
   cases h6:evNew3 P (opd σ.T) (r0 + p) o.op with
   | some q =>
    rw [h6] at h2
    rw [new3_ev h5 h6]
    obtain ⟨σ',h6,h7⟩:=cDput_sound h2
    exact ⟨σ',h6,h7⟩
   | none =>
   rw [h6] at h2
   have e2:evNew P (opd σ.T) (r0 + p) o.op=none:=by unfold evNew;rw [h5];exact h6
   rw [e2]
   obtain ⟨h7,h8⟩:=sdA_iff.1 h2
   obtain ⟨h9,h10⟩:=sdA_iff.1 h8
   obtain ⟨r,h11,h12⟩:=cDheavy_sound h10
   simp only [h7,h9,h11,gd,cond_true,ob]
   cases r with
   | mk v H nx =>
    have h12:fN (p + 1) (fun cc=>cDput N p o A σ .heavy v H nx cc K):=h12
    rw [fN_eq] at h12
    obtain ⟨σ',h6,h7⟩:=cDput_sound h12
    exact ⟨σ',h6,h7⟩
   | pan v H nx =>
    obtain ⟨σ',h6,h7⟩:=cDput_sound (show cDput N p o A σ (.pan v H nx) (.tup []) σ.H σ.nx σ.cc K from h12)
    exact ⟨σ',h6,h7⟩
   | dfr _ _ _ _=>exact h12.elim
noncomputable def cDrun (P:Program) (tb:Tbl) (ht:HTbl) (ops:Array Oper) (N r0:Nat) (AT:Tr Nat) (K:DS→Prop) (l:List Oper):Nat→DS→Prop :=
 List.rec (motive:=fun _=>Nat→DS→Prop) (fun _ σ=>K σ)
  (fun o _ ih p σ=>cDstep P tb ht ops N r0 AT p o σ fun σ'=>fN (p + 1) fun q=>ih q σ') l
theorem cDrun_sound {P:Program} {tb:Tbl} {ht:HTbl} {ops:Array Oper} {N r0:Nat} {AT:Tr Nat} {K:DS→Prop}:∀ {l:List Oper} {p:Nat} {σ:DS},cDrun P tb ht ops N r0 AT K l p σ→∃ σ',drun P (callT tb ht) ops N r0 AT l p σ=some σ'∧K σ'
 | [],p,σ,h=>⟨σ,rfl,h⟩
 | o :: l,p,σ,h=>by
  obtain ⟨σ1,h1,h2⟩:=cDstep_sound (show cDstep P tb ht ops N r0 AT p o σ (fun σ'=>fN (p + 1) fun q=>cDrun P tb ht ops N r0 AT K l q σ') from h)
  rw [fN_eq] at h2
  obtain ⟨σ',h3,h4⟩:=cDrun_sound h2
  refine ⟨σ',?_,h4⟩
  show (ob (dstep P (callT tb ht) ops N r0 AT p o σ) fun σ'=>fN (p + 1) fun q=>drun P (callT tb ht) ops N r0 AT l q σ')=_
  rw [h1]
  show fN (p + 1) (fun q=>drun P (callT tb ht) ops N r0 AT l q σ1)=_
  rw [fN_eq];exact h3
noncomputable def cPureP (P:Program) (H:Tr AObj) (X:Operand→Option AV) (op:Op) (K:AV→Prop):Prop :=
 Option.rec (motive:=fun _=>Prop) (okP (evPure3 P H X op) K) (fun r=>sdA r.1 (K r.2)) (sPure P H X op)
theorem cPureP_sound {P:Program} {H:Tr AObj} {X:Operand→Option AV} {op:Op} {K:AV→Prop} (h:cPureP P H X op K):∃ v,evPure2 P H X op=some v∧K v:=by
 unfold cPureP at h
 cases h1:sPure P H X op with
 | some r =>
  rw [h1] at h
  obtain ⟨h2,h3⟩:=sdA_iff.1 h
  obtain ⟨b,v⟩:=r
  simp only at h2;subst h2
  exact ⟨v,sPure_ev h1,h3⟩
 | none =>
  rw [h1] at h
  obtain ⟨v,h2,h3⟩:=okP_some h
  exact ⟨v,pure3_ev h1 h2,h3⟩
noncomputable def cRead (P:Program) (σ:DS) (r0:Nat) (r:DRec) (c:Nat) (H:Tr AObj):Prop :=
 cond (Nat.beq c r.cc) True (cond (lateB σ.hvs c r.i) (cond (allL (fun h=>cond (tb r.A h.i) (Nat.blt h.i c) true) σ.hvs)
  (cPureP P (viewF σ.news σ.hvs r.A c r0 H) (opd r.T) r.o.op fun v=>v=r.v) True) True)
theorem cRead_sound {P:Program} {σ:DS} {r0:Nat} {r:DRec} {c:Nat} {H:Tr AObj} (h:cRead P σ r0 r c H):readOK P σ r0 r c H=true:=by
 unfold cRead at h
 unfold readOK
 cases h1:Nat.beq c r.cc with
 | true=>rfl
 | false =>
  rw [h1,cond_false] at h
  rw [cond_false]
  cases h2:lateB σ.hvs c r.i with
  | false=>rfl
  | true =>
   rw [h2,cond_true] at h
   rw [cond_true]
   cases h3:allL (fun h=>cond (tb r.A h.i) (Nat.blt h.i c) true) σ.hvs with
   | false=>rfl
   | true =>
    rw [h3,cond_true] at h
    rw [cond_true]
    obtain ⟨v,h4,h5⟩:=cPureP_sound h
    rw [h4]
    exact sameAV_eq.2 h5
noncomputable def allP {α:Type} (f:α→Prop) (l:List α):Prop:=List.rec (motive:=fun _=>Prop) True (fun a _ ih=>f a∧ih) l
theorem allP_allL {α:Type} {f:α→Prop} {g:α→Bool} (hfg:∀ a,f a→g a=true):∀ {l:List α},allP f l→allL g l=true
 | [],_=>rfl
 | a :: l,h=>by
  have h':f a∧allP f l:=h
  show cond (g a) (allL g l) false=true
  rw [hfg a h'.1];exact allP_allL hfg h'.2
noncomputable def cCand (P:Program) (σ:DS) (r0:Nat) (c:Nat) (H:Tr AObj):Prop:=allP (fun r=>cRead P σ r0 r c H) σ.reads∧sdA (allL (fun r=>newOK σ r0 r c H) σ.news) True
theorem cCand_sound {P:Program} {σ:DS} {r0:Nat} {c:Nat} {H:Tr AObj} (h:cCand P σ r0 c H):candOK P σ r0 c H=true:=by
 unfold candOK
 rw [allP_allL (fun r hr=>cRead_sound hr) h.1]
 exact (sdA_iff.1 h.2).1
noncomputable def cChk (P:Program) (σ:DS) (r0:Nat) (H0:Tr AObj):Prop:=cCand P σ r0 0 H0∧allP (fun h=>cCand P σ r0 h.cc h.H) σ.hvs
theorem cChk_sound {P:Program} {σ:DS} {r0:Nat} {H0:Tr AObj} (h:cChk P σ r0 H0):dchk P σ r0 H0=true:=by
 unfold dchk
 rw [cCand_sound h.1]
 exact allP_allL (fun r hr=>cCand_sound hr) h.2
noncomputable def cDraw (P:Program) (tb:Tbl) (ht:HTbl) (ops:Array Oper) (s:St) (K:KX):Prop :=
 okP (dstat ops) fun AT=>fN ops.size fun n=>fN (s.nx + n) fun nx0=>cDrun P tb ht ops s.N s.nx AT (fun σ=>cChk P σ s.nx s.H ∧
  (Option.rec (motive:=fun _=>Prop) (K .nrm ⟨s.N,σ.T,viewAll σ.news σ.hvs n s.nx σ.H,σ.nx,s.ro,s.D⟩)
   (fun q=>K (.pan q.v) ⟨s.N,cutT q.A ops.toList 0 σ.T,q.H,q.nx,s.ro,s.D⟩) σ.pn)) ops.toList 0 ⟨[],[],[],s.T,s.H,nx0,0,none⟩
theorem cDraw_sound {P:Program} {tb:Tbl} {ht:HTbl} {ops:Array Oper} {s:St} {K:KX} (h:cDraw P tb ht ops s K):∃ x s',evDraw P (callT tb ht) ops s=some (.mk x s')∧K x s':=by
 obtain ⟨AT,h1,h2⟩:=okP_some h
 simp only [fN_eq] at h2
 obtain ⟨σ,h3,h4,h5⟩:=cDrun_sound h2
 unfold evDraw
 simp only [h1,h3,fN_eq,cChk_sound h4,ob,gd,cond_true]
 cases hp:σ.pn with
 | none=>rw [hp] at h5;exact ⟨_,_,rfl,h5⟩
 | some q=>rw [hp] at h5;exact ⟨_,_,rfl,h5⟩
theorem cDraw_ok {P:Program} (hm:P.follows .mixedOrders=true) {tb:Tbl} {ht:HTbl} (htb:TbOK P tb) (hht:HtOK P ht):DrawKOK P (cDraw P tb ht):=by
 intro ops s K h id E F n0 ρ0 ρ a w ro Q hq hn hk hs
 obtain ⟨x,s',h1,h2⟩:=cDraw_sound h
 exact drawOK hm (callT tb ht) ops s x s' (callT_ok htb hht) h1 id E F ρ a w ro Q hs fun ρ' a' w' hx hs'=>hq x s' ρ' a' w' h2 (Nat.le_trans hn hx.nn) (hk.trans (Keep.of_rx hx hn)) hs'
noncomputable def cRun (cx:Ctx) (n:Nat):CEv:=cEvs cx (cDraw cx.P cx.tb cx.ht) n
theorem cRun_ok {cx:Ctx} (hm:cx.P.follows .mixedOrders=true) (htb:TbOK cx.P cx.tb) (n:Nat):CallKOK cx.P (cRun cx n).call:=(cEvs_sound hm (cDraw_ok hm htb cx.hok) htb n).2
end Go.Ev
end
section
/- The symbolic layer, part M: contracts laid together. -/
namespace Go.Ev
theorem tb_nil {P:Program}:TbOK P []:=fun _ _ h=>by cases h
theorem tb_cons {P:Program} {tb:Tbl} {g:FuncId} {ent:Tr AObj→List AV→Option Ct} (h:EntOK P g ent) (ht:TbOK P tb):TbOK P ((g,ent) :: tb):=by
 intro g' ent' hl
 have hl':cond (Nat.beq g g') (some ent) (look tb g')=some ent':=hl
 cases hb:Nat.beq g g' with
 | true =>
  rw [hb] at hl'
  injection hl' with hl'
  rw [← hl',← Nat.eq_of_beq_eq_true hb];exact h
 | false=>rw [hb] at hl';exact ht g' ent' hl'
theorem ent_of {P:Program} {g:FuncId} {ent:Tr AObj→List AV→Option Ct} {gl:List (Nat×AObj)} {ng:Nat} (hgl:∀ p∈gl,isGl p.2=true)
  (h:∀ H args ct,ent H args=some ct→(∀ p∈gl,H.get p.1=some p.2)∧vmL [] args args∧∃ pre v,ct = .need pre (.ret v) ∧
   (pre→∃ (cx:Ctx) (n:Nat),cx.P=P∧P.follows .mixedOrders=true∧TbOK P cx.tb∧(cRun cx n).call g args (mkH gl) ng (ResM P false v))):EntOK P g ent:=by
 intro H args ct hct p v hout
 obtain ⟨h1,h2,pre,v',h3,h4⟩:=h H args ct hct
 subst h3
 have ho:(open Classical in if pre then some (false,v') else none)=some (p,v):=hout
 by_cases hp:pre
 ·rw [if_pos hp] at ho
  injection ho with ho;injection ho with ho1 ho2
  obtain ⟨cx,n,e1,e2,e3,e4⟩:=h4 hp
  subst e1
  exact ent_ok (cRun_ok e2 e3 n) (ent:=fun H' args'=>open Classical in if H'=H∧args'=args then some (.ret v') else none) hgl (fun H' args' ct' hct'=>by
   classical
   by_cases hh:H'=H∧args'=args
   ·rw [if_pos hh] at hct'
    injection hct' with hct'
    obtain ⟨rfl,rfl⟩:=hh
    refine ⟨h1,h2,fun p' v'' hout'=>?_⟩
    rw [← hct'] at hout'
    injection hout' with hout'
    injection hout' with ha hb
    subst ha;subst hb;exact e4
   ·rw [if_neg hh] at hct';cases hct') H args (.ret v') (if_pos ⟨rfl,rfl⟩) p v (by rw [← ho1,← ho2];rfl)
 ·rw [if_neg hp] at ho;cases ho
theorem rent_of {P:Program} {g:FuncId} {ent:REnt} {gl:List (Nat×AObj)} {ng:Nat} (hgl:∀ p∈gl,isGl p.2=true)
  (h:∀ H args rc,ent H args=some rc→rc.pre→(∀ p∈gl,H.get p.1=some p.2)∧vmL [] args args ∧
   ∃ (cx:Ctx) (n:Nat),cx.P=P∧P.follows .mixedOrders=true∧TbOK P cx.tb∧(cRun cx n).call g args (mkH gl) ng (fun r=>∃ x,rc.Q x∧ResM P false (rc.v x) r)):REntOK P g ent:=by
 intro H args rc hrc hpre E F ρ w nx H' hG r
 obtain ⟨hH,hargs,cx,n,e1,e2,e3,e4⟩:=h H args rc hrc hpre
 subst e1
 have r0:Rel (guardE E ρ) (fun b=>w.heap[b]?) ng ⟨fun _=>none,ρ.st⟩ (mkH gl).get w :=
  ⟨r.tape,r.os,r.output,fun _ _ h=>h,fun _ _ _ _ h=>(by cases h),fun _ _ _ _ h=>(by cases h),fun _ _ _ _ _ _ _ _ h=>(by cases h),fun _ _=>rfl,
   fun g l hg=>hG g l (hH _ (mkH_get hg)),fun b o hb=>r.fr b o (r.bs b o hb),r.st,fun _ _ _ _ h=>(by cases h),fun b o o' _ hs=>(by simp [guardE];exact fun e=>by rw [show ρ.st b=some o' from hs] at e;cases e)⟩
 have hok:=cRun_ok e2 e3 n g args (mkH gl) ng _ e4 _ _ _ w r0
 refine ⟨hok.1,fun vs hvs=>CallsIn.mono (hok.2 vs (vmL_rel (ρ:=ρ) (ρ2:=⟨fun _=>none,ρ.st⟩) (vm_free fun _ _ h=>h) args args vs hargs hvs)) fun e w' he=>?_⟩
 obtain ⟨res,⟨x,hq,hres⟩,hend⟩:=he
 cases res with
 | mk v' H1 n1 =>
  obtain ⟨u,ρ1,rfl,hx,r1,hv⟩:=hend
  obtain ⟨ρ',h1,h2,h3⟩:=lift_end r hx.le.st r1 hv hres
  exact ⟨_,⟨x,hq,rfl⟩,u,ρ',rfl,h1,h2,h3⟩
 | pan _ _ _=>exact hres.elim
 | dfr _ _ _ _=>exact hres.elim
end Go.Ev
namespace Go.Ev
theorem inR_i64 {n:Int}:inR .i64 n=true↔-9223372036854775808≤n∧n≤9223372036854775807:=inR_iff
theorem inR_u8 {n:Int}:inR .u8 n=true↔0≤n∧n≤255:=inR_iff
theorem inB_iff {n:Int} {l:Nat}:inB n l=true↔0≤n∧n < l:=by simp [inB]
theorem ilt_iff {a b:Int}:ilt a b=true↔a < b:=by simp [ilt_eq]
theorem ilt_iffn {a b:Int}:ilt a b=false↔b≤a:=by simp [ilt_eq]
theorem ieq_iff {a b:Int}:ieq a b=true↔a=b:=by simp [ieq_eq]
theorem ieq_iffn {a b:Int}:ieq a b=false↔¬ a=b:=by simp [ieq_eq]
end Go.Ev
end
section
/- The symbolic layer, part N: a function that answers a new map: by content. -/
namespace Go.Ev
theorem ctOut_need {pre:Prop} {v w:AV} {p:Bool} (h:ctOut (.need pre (.ret v))=some (p,w)):pre∧false=p∧v=w:=by
 have ho:(open Classical in if pre then some (false,v) else none)=some (p,w):=h
 by_cases hp:pre
 ·rw [if_pos hp] at ho
  injection ho with ho;injection ho with ho1 ho2
  exact ⟨hp,ho1,ho2⟩
 ·rw [if_neg hp] at ho;cases ho
theorem frz_end {E:Env} {F:Nat→Option Obj} {nx:Nat} {ρ:Ren} {H:Tr AObj} {w:World} (r:Rel E F nx ρ H.get w) {n1:Nat} {ρ1:Ren} {H1:Tr AObj} {w':World} {c:AV} {u:Value}
  (hst:∀ b o,ρ.st b=some o→ρ1.st b=some o) (r1:Rel (guardE E ρ) (fun b=>w.heap[b]?) n1 ρ1 H1.get w') {ids:List Nat} (hids:idsOK H1 ids) (hv:VR (frzR ρ1 w' ids) c u) (hc:vmP [] c c) :
  ∃ ρ',RX nx (nx + 1) ρ ρ'∧Rel E F (nx + 1) ρ' H.get w'∧VR ρ' c u:=by
 obtain ⟨hx,r2⟩:=frzR_rel r1 hids
 generalize frzR ρ1 w' ids=ρ2 at hx r2 hv
 have hst2:∀ b o,ρ.st b=some o→ρ2.st b=some o:=fun b o h=>hx.le.st b o (hst b o h)
 have hle:ρ.le ⟨ρ.nm,ρ2.st⟩:=⟨fun _ _ h=>h,hst2⟩
 have hheap:∀ b o,w.heap[b]? = some o→w'.heap[b]? = some o:=r2.fr
 have hfs:∀ b o o',w.heap[b]? = some o→ρ2.st b=some o'→ρ.st b≠none:=fun b o o' h1 h2=>by
  have:=r2.sf b o o' h1 h2
  simpa [guardE] using this
 refine ⟨⟨ρ.nm,ρ2.st⟩,⟨hle,fun _ _=>rfl,Nat.le_succ _⟩,⟨r2.tape,r2.os,r2.output,fun b o hb=>hheap b o (r.fr b o hb),fun i o b hi hb=>?_,r.dj,r.inj,fun i hi=>r.new i (Nat.le_of_succ_le hi),r.gl,r.bs,r2.st,fun i o b hi hb=>?_,fun b o o' hF hs=>?_⟩,
  vm_rel (ρ:=ρ2) (ρ2:=⟨ρ.nm,ρ2.st⟩) (vm_free fun _ _ h=>h) c c u hc hv⟩
 ·obtain ⟨oc,h4,h5⟩:=r.ob i o b hi hb
  exact ⟨oc,hheap _ _ h4,h5.mono hle⟩
 ·obtain ⟨oc,h4,h5⟩:=r.ob i o b hi hb
  cases hs:ρ2.st b.b with
  | none=>rfl
  | some o'=>exact absurd (r.sd i o b hi hb) (hfs b.b oc o' h4 hs)
 ·have:=hfs b o o' (r.fr b o hF) hs
  cases hs':ρ.st b with
  | none=>exact absurd hs' this
  | some o''=>exact r.sf b o o'' hF hs'
end Go.Ev
end
