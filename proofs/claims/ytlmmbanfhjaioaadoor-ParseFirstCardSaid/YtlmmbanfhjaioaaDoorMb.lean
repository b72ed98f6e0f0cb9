/- Laid by program out of its parts: SxA, SxB, SxC, SxD, EvH, EvI. -/
import Derived.Test.YtlmmbanfhjaioaaDoorMa
import Derived.Laws.Append
set_option linter.unusedVariables false
set_option linter.unusedSimpArgs false
section
/- The symbolic layer, part A: operations that read at most, over content values: a side condition, and the value. -/
namespace Go.Ev
def lowR:IntKind→Int
 | .i8=>-128 | .i16=>-32768 | .i32=>-2147483648 | .i64=>-9223372036854775808 | _=>0
def topR:IntKind→Int
 | .i8=>127 | .i16=>32767 | .i32=>2147483647 | .i64=>9223372036854775807 | .u8=>255 | .u16=>65535 | .u32=>4294967295 | .u64=>18446744073709551615
def inR (k:IntKind) (n:Int):Bool:=cond (ilt n (lowR k)) false (!(ilt (topR k) n))
theorem Zac {k:IntKind} {n:Int}:inR k n=true↔lowR k≤n∧n≤topR k:=by
 unfold inR
 rw [YL,YL]
 by_cases h:n < lowR k
 ·rw [decide_eq_true h];simp;omega
 ·rw [decide_eq_false h];simp;omega
def inB (n:Int) (len:Nat):Bool:=decide (0≤n∧n < (len:Int))
def inL (n:Int) (len:Nat):Bool:=decide (0≤n∧n≤(len:Int))
theorem Vl {k:IntKind} {n:Int} (h:inR k n=true):k.wrap n=n:=by
 rw [Zac] at h
 cases k <;> simp only [lowR,topR] at h <;> simp only [IntKind.wrap,IntKind.bits,IntKind.signed] <;> simp <;> omega
abbrev SV:=Option (Bool×AV)
noncomputable def sInt (op:BinOp) (k:IntKind) (a b:Int):SV :=
 match op with
 | .add=>some (inR k (a + b),.int k (a + b))
 | .sub=>some (inR k (a - b),.int k (a - b))
 | .mul=>some (inR k (a * b),.int k (a * b))
 | .quo=>some (cond (ieq b 0) false (inR k (a.tdiv b)),.int k (a.tdiv b))
 | .rem=>some (!ieq b 0,.int k (a.tmod b))
 | .and=>some (true,.int k (k.wrap (BitVec.ofInt k.bits a &&& BitVec.ofInt k.bits b).toNat))
 | .or=>some (true,.int k (k.wrap (BitVec.ofInt k.bits a ||| BitVec.ofInt k.bits b).toNat))
 | .xor=>some (true,.int k (k.wrap (BitVec.ofInt k.bits a ^^^ BitVec.ofInt k.bits b).toNat))
 | .andNot=>some (true,.int k (k.wrap (BitVec.ofInt k.bits a &&& ~~~(BitVec.ofInt k.bits b)).toNat))
 | _=>none
theorem sInt_ev {op:BinOp} {k:IntKind} {a b:Int} {r:AV} (h:sInt op k a b=some (true,r)):evInt op k a b=some r∧op≠.shl∧op≠.shr:=by
 cases op <;> simp only [sInt] at h <;> first | (cases h;done) | skip
 all_goals
  injection h with h;injection h with h1 h2;subst h2
  refine ⟨?_,by simp,by simp⟩
  unfold evInt
  simp only [Jq,Zh3]
 ·rw [Vl h1]
 ·rw [Vl h1]
 ·rw [Vl h1]
 ·cases hb:ieq b 0 with
  | true=>rw [hb] at h1;cases h1
  | false =>
   rw [hb,cond_false] at h1
   rw [Vl h1];rfl
 ·rw [h1];rfl
noncomputable def sShift (op:BinOp) (k:IntKind) (a b:Int):SV :=
 match op with
 | .shl=>some (cond (ilt b 0) false (inR k (a * 2 ^ (min b.toNat k.bits))),.int k (a * 2 ^ (min b.toNat k.bits)))
 | .shr=>some (!ilt b 0,.int k (a.fdiv (2 ^ (min b.toNat k.bits))))
 | _=>none
theorem Zdj {op:BinOp} {k:IntKind} {a b:Int} {r:AV} (h:sShift op k a b=some (true,r)):evShift op k a b=some r:=by
 cases op <;> simp only [sShift] at h <;> first | (cases h;done) | skip
 all_goals
  injection h with h;injection h with h1 h2;subst h2
  unfold evShift
  simp only [Jq]
 ·cases hb:ilt b 0 with
  | true=>rw [hb] at h1;cases h1
  | false =>
   rw [hb,cond_false] at h1
   rw [Vl h1];rfl
 ·rw [h1];rfl
noncomputable def strL (a:AV):Option (List UInt8) :=
 match a with
 | .bs l=>some l
 | .str len n=>some (bytesL len n)
 | _=>none
theorem Xi {ρ:Ren} {a:AV} {l:List UInt8} {v:Value} (h:VR ρ a v) (hl:strL a=some l):v = .string ⟨l.toArray⟩:=by
 cases h <;> first | (cases hl;done) | skip
 ·injection hl with hl;subst hl;rfl
 ·injection hl with hl;subst hl;rfl
noncomputable def sStr (op:BinOp) (l l':List UInt8):SV :=
 match op with
 | .add=>some (decide (l.length + l'.length≤9223372036854775807),.bs (l ++ l'))
 | .eql=>some (true,.bool (decide (l=l')))
 | .neq=>some (true,.bool (!decide (l=l')))
 | .lss=>some (true,.bool (Op.bytesLess l l'))
 | .leq=>some (true,.bool (Op.bytesLess l l' || decide (l=l')))
 | .gtr=>some (true,.bool (!(Op.bytesLess l l' || decide (l=l'))))
 | .geq=>some (true,.bool (!Op.bytesLess l l'))
 | _=>none
theorem Ji (l:List UInt8):(ByteArray.mk l.toArray).toList=l:=by
 rw [ByteArray.toList_eq]
theorem Zb5 {P:Program} {ρ:Ren} {op:BinOp} {t:TypeId} {l l':List UInt8} {r:AV} (h:sStr op l l'=some (true,r)) (w:World) :
  ∃ u,(binOp op t (.string ⟨l.toArray⟩) (.string ⟨l'.toArray⟩)).run P w = .ok u w∧VR ρ r u:=by
 have hb:(l == l')=decide (l=l'):=by
  by_cases h:l=l' <;> simp [h]
 cases op <;> simp only [sStr] at h <;> first | (cases h;done) | skip
 all_goals
  injection h with h;injection h with h1 h2;subst h2
 ·simp only [decide_eq_true_eq] at h1
  refine ⟨.string ⟨(l ++ l').toArray⟩,?_,.bs _⟩
  have:¬ (((ByteArray.mk l.toArray).size + (ByteArray.mk l'.toArray).size:Nat):Int) > IntKind.i64.max:=by
   show ¬ ((l.toArray.size + l'.toArray.size:Nat):Int) > 9223372036854775807
   simp;omega
  have e:ByteArray.mk l.toArray ++ ByteArray.mk l'.toArray=⟨(l ++ l').toArray⟩:=by
   apply ByteArray.ext
   simp
  simp only [binOp,Op.stringOp,this,if_false,e,Sem.run_pure]
 all_goals
  refine ⟨_,?_,.bool _⟩
  simp only [binOp,Op.stringOp,Ji,hb,Sem.run_pure]
noncomputable def sEqF (P:Program) (eq:TypeId→AV→AV→Option Bool) (xs ys:List AV) (fs:List Field):Option Bool :=
 List.rec (motive:=fun _=>Option Bool) (some true)
  (fun f _ ih => cond (decide (f.name = "_")) ih (ob (evPart P f.type xs f.offset) fun a => ob (evPart P f.type ys f.offset) fun b => ob (eq f.type a b) fun r => ob ih fun q => some (r && q))) fs
theorem Zfp {P:Program} {eq:TypeId→AV→AV→Option Bool} {xs ys:List AV}:∀ {fs:List Field} {b:Bool},sEqF P eq xs ys fs=some b→evEqF P eq xs ys fs=some b
 | [],b,h=>h
 | f :: fs,b,h=>by
  have h' : (cond (decide (f.name = "_")) (sEqF P eq xs ys fs) (ob (evPart P f.type xs f.offset) fun a => ob (evPart P f.type ys f.offset) fun b => ob (eq f.type a b) fun r => ob (sEqF P eq xs ys fs) fun q => some (r && q))) = some b := h
  show (cond (decide (f.name = "_")) (evEqF P eq xs ys fs) (ob (evPart P f.type xs f.offset) fun a => ob (evPart P f.type ys f.offset) fun b => ob (eq f.type a b) fun r => cond r (evEqF P eq xs ys fs) (some false))) = some b
  cases hn : decide (f.name = "_") with
  | true=>rw [hn] at h';exact Zfp h'
  | false =>
   rw [hn,cond_false] at h'
   obtain ⟨a,ha,h1⟩:=Za.1 h'
   obtain ⟨a',ha',h2⟩:=Za.1 h1
   obtain ⟨r,hr,h3⟩:=Za.1 h2
   obtain ⟨q,hq,h4⟩:=Za.1 h3
   injection h4 with h4;subst h4
   rw [cond_false]
   refine Za.2 ⟨a,ha,Za.2 ⟨a',ha',Za.2 ⟨r,hr,?_⟩⟩⟩
   cases r with
   | true=>rw [cond_true,Zfp hq];rfl
   | false=>rfl
noncomputable def sEq (P:Program) (f:Nat):TypeId→AV→AV→Option Bool :=
 Nat.rec (motive:=fun _=>TypeId→AV→AV→Option Bool) (fun _ _ _=>none)
  (fun _ ih t x y=>ob (P.underlying t) fun d =>
   match d,x,y with
   | .bool,.bool a,.bool b=>some (cond a b (!b))
   | .int _,.int k a,.int k' b=>gd (ikEq k k') (some (ieq a b))
   | .string,x,y=>ob (strL x) fun l=>ob (strL y) fun l'=>some (decide (l=l'))
   | .pointer _,.ptr0,.ptr0=>some true
   | .pointer _,.ptr0,.ptr _ _=>some false
   | .pointer _,.ptr _ _,.ptr0=>some false
   | .pointer _,.ptr0,.pv _=>some false
   | .pointer _,.pv _,.ptr0=>some false
   | .pointer _,.ptr0,.pel _ _ _ _=>some false
   | .pointer _,.pel _ _ _ _,.ptr0=>some false
   | .map _ _,.map0,.mapv _ _ _=>some false
   | .map _ _,.mapv _ _ _,.map0=>some false
   | .struct fs,.agg xs,.agg ys=>gd (!P.stoodInHeld t) (sEqF P ih xs ys fs.toList)
   | _,_,_=>none) f
theorem Zm6 {P:Program} {ρ:Ren} {w:World}:∀ (f D:Nat),f≤D→∀ (t:TypeId) (x y:AV) (b:Bool) (u v:Value),sEq P f t x y=some b →
  VR ρ x u→VR ρ y v→(Op.equalIn D t u v).run P w = .ok b w:=by
 intro f
 induction f with
 | zero=>intro D _ t x y b u v h;cases h
 | succ f ih =>
  intro D hD t x y b u v h hx hy
  obtain ⟨D',rfl⟩:∃ D',D=D' + 1:=⟨D - 1,by omega⟩
  obtain ⟨d,hd,h1⟩:=Za.1 (show (ob (P.underlying t) fun d=>_)=some b from h)
  clear h
  have one:∀ r:Bool,evEq P 1 t x y=some r→(Op.equalIn (D' + 1) t u v).run P w = .ok r w:=fun r hr=>JA 1 (D' + 1) (by omega) t x y r u v hr hx hy
  split at h1
  ·exact one b (by show (ob (P.underlying t) fun d=>_)=_;rw [hd];exact h1)
  ·exact one b (by show (ob (P.underlying t) fun d=>_)=_;rw [hd];exact h1)
  ·obtain ⟨l,hl,h2⟩:=Za.1 h1
   obtain ⟨l',hl',h3⟩:=Za.1 h2
   injection h3 with h3;subst h3
   rw [Xi hx hl,Xi hy hl']
   have hb:(l == l')=decide (l=l'):=by by_cases h:l=l' <;> simp [h]
   simp [Op.equalIn,run_underlying hd,beq_toListBytes,Ji,hb]
  ·exact one b (by show (ob (P.underlying t) fun d=>_)=_;rw [hd];exact h1)
  ·exact one b (by show (ob (P.underlying t) fun d=>_)=_;rw [hd];exact h1)
  ·exact one b (by show (ob (P.underlying t) fun d=>_)=_;rw [hd];exact h1)
  all_goals first
   | (injection h1 with h1;subst h1;cases hx;cases hy;simp [Op.equalIn,run_underlying hd];done)
   | skip
  ·obtain ⟨hs,h2⟩:=Zb.1 h1
   cases hx with
   | agg _ us hus=>cases hy with
    | agg _ vs hvs =>
     have hs':P.stoodInHeld t=false:=by simpa using hs
     have hfs:=Gv hd
     rw [run_equalIn_struct w D' t us.toArray vs.toArray (by rw [hfs];exact hd) hs',hfs]
     exact Qx (fun t x y b u v h1 h2 h3=>ih D' (by omega) t x y b u v h1 h2 h3) hus hvs _ _ (Zfp h2)
  ·cases h1
noncomputable def sNilS (P:Program) (t:TypeId) (n:Nat) (neg:Bool):SV:=ob (P.underlying t) fun d=>match d with
 | .slice _=>some (Nat.blt 0 n,.bool neg)
 | _=>none
noncomputable def sNilB (P:Program) (t:TypeId) (neg:Bool) (a b:AV):SV :=
 match a,b with
 | .sl0,.vec _ n _=>sNilS P t n neg
 | .vec _ n _,.sl0=>sNilS P t n neg
 | .sl0,.bv l=>sNilS P t l.length neg
 | .bv l,.sl0=>sNilS P t l.length neg
 | .sl0,.slg _ n _=>sNilS P t n neg
 | .slg _ n _,.sl0=>sNilS P t n neg
 | a,b=>ob (sEq P 8 t a b) fun r=>some (true,.bool (cond neg (!r) r))
theorem GK {P:Program} {ρ:Ren} {t:TypeId} {neg:Bool} {a b r:AV} {u v:Value} (hx:VR ρ a u) (hy:VR ρ b v) (h:sNilB P t neg a b=some (true,r)) (w:World) :
  ∃ q,(Op.equal t u v).run P w = .ok q w∧r = .bool (cond neg (!q) q):=by
 have hnil:∀ n,sNilS P t n neg=some (true,r)→(∃ e,P.underlying t=some (.slice e))∧0 < n∧r = .bool neg:=fun n hn=>by
  obtain ⟨d,hd,h1⟩:=Za.1 hn
  cases d <;> first | (cases h1;done) | skip
  injection h1 with h1;injection h1 with h1 h2
  exact ⟨⟨_,hd⟩,by rwa [Nat.blt_eq] at h1,h2.symm⟩
 have key:∀ (base:Addr) (n c:Nat) e,P.underlying t=some (.slice e)→(Op.equal t (.slice none 0 0) (.slice (some base) n c)).run P w = .ok false w∧(Op.equal t (.slice (some base) n c) (.slice none 0 0)).run P w = .ok false w:=fun base n c e hd=>by
  have h2:∀ D,(Op.equalIn (D + 1) t (.slice none 0 0) (.slice (some base) n c)).run P w = .ok false w∧(Op.equalIn (D + 1) t (.slice (some base) n c) (.slice none 0 0)).run P w = .ok false w:=fun D=>by
   constructor <;> simp [Op.equalIn,run_underlying hd]
  exact h2 (Op.maxDepth - 1)
 unfold sNilB at h
 split at h
 ·obtain ⟨⟨e,he⟩,hn,rfl⟩:=hnil _ h
  cases hx
  cases hy with
  | vec=>exact ⟨false,(key _ _ _ e he).1,by cases neg <;> rfl⟩
  | vecz=>omega
 ·obtain ⟨⟨e,he⟩,hn,rfl⟩:=hnil _ h
  cases hy
  cases hx with
  | vec=>exact ⟨false,(key _ _ _ e he).2,by cases neg <;> rfl⟩
  | vecz=>omega
 ·obtain ⟨⟨e,he⟩,hn,rfl⟩:=hnil _ h
  cases hx
  cases hy with
  | bv=>exact ⟨false,(key _ _ _ e he).1,by cases neg <;> rfl⟩
  | bvz _ h0=>subst h0;simp at hn
 ·obtain ⟨⟨e,he⟩,hn,rfl⟩:=hnil _ h
  cases hy
  cases hx with
  | bv=>exact ⟨false,(key _ _ _ e he).2,by cases neg <;> rfl⟩
  | bvz _ h0=>subst h0;simp at hn
 ·obtain ⟨⟨e,he⟩,hn,rfl⟩:=hnil _ h
  cases hx
  cases hy with
  | slg=>exact ⟨false,(key _ _ _ e he).1,by cases neg <;> rfl⟩
  | slg0=>omega
 ·obtain ⟨⟨e,he⟩,hn,rfl⟩:=hnil _ h
  cases hy
  cases hx with
  | slg=>exact ⟨false,(key _ _ _ e he).2,by cases neg <;> rfl⟩
  | slg0=>omega
 ·obtain ⟨q,hq,h1⟩:=Za.1 h
  injection h1 with h1;injection h1 with _ h2
  exact ⟨q,Zm6 8 Op.maxDepth (by decide) t _ _ q u v hq hx hy,h2.symm⟩
noncomputable def sBin (P:Program) (op:BinOp) (t:TypeId) (cx cy:Bool) (a b:AV):SV :=
 gd (evGuard P op t cx cy a b) (match a,b with
  | .int k m,.int k' n=>match op with
   | .shl=>sShift .shl k m n
   | .shr=>sShift .shr k m n
   | op=>gd (ikEq k k') (sInt op k m n)
  | .str _ _,.str _ _=>none
  | .bs l,b=>ob (strL b) fun l'=>sStr op l l'
  | a,.bs l'=>ob (strL a) fun l=>sStr op l l'
  | a,b=>match op with
   | .eql=>sNilB P t false a b
   | .neq=>sNilB P t true a b
   | _=>none)
theorem Zj4 {P:Program} {ρ:Ren} {op:BinOp} {t:TypeId} {x y:Operand} {a b r:AV} {u v:Value} (hx:VR ρ a u) (hy:VR ρ b v)
  (h:sBin P op t (isConstO x) (isConstO y) a b=some (true,r)) (w:World) :
  ∃ z,(do eqGuard op t x y u v;binOp op t u v:Sem Value).run P w = .ok z w∧VR ρ r z:=by
 obtain ⟨hg,h1⟩:=Zb.1 h
 have hgr:=Jt hx hy hg w
 suffices hs:∃ z,(binOp op t u v).run P w = .ok z w∧VR ρ r z by
  obtain ⟨z,h2,h3⟩:=hs
  exact ⟨z,by simp only [Sem.run_bind,hgr,Result.andThen_ok,h2],h3⟩
 clear h hgr
 split at h1
 ·split at h1
  ·cases hx;cases hy
   exact Wz (Zdj h1) w
  ·cases hx;cases hy
   exact Wz (Zdj h1) w
  ·obtain ⟨hk,h2⟩:=Zb.1 h1
   have:=VD hk;subst this
   cases hx;cases hy
   obtain ⟨h3,h4,h5⟩:=sInt_ev h2
   exact Qw h4 h5 h3 w
 ·cases h1
 ·obtain ⟨l',hl',h2⟩:=Za.1 h1
  rw [Xi hy hl']
  cases hx
  exact Zb5 h2 w
 ·obtain ⟨l,hl,h2⟩:=Za.1 h1
  rw [Xi hx hl]
  cases hy
  exact Zb5 h2 w
 ·have hpl:plain a b=true:=by
   unfold plain
   split <;> simp_all <;> (rename_i hh;exact hh _ _ _ _ rfl rfl rfl rfl)
  split at h1
  ·obtain ⟨q,h2,rfl⟩:=GK hx hy h1 w
   refine ⟨.bool q,?_,.bool _⟩
   rw [Zdi hx hy hpl]
   simp only [Sem.run_bind,h2,Result.andThen_ok,Sem.run_pure]
  ·obtain ⟨q,h2,rfl⟩:=GK hx hy h1 w
   refine ⟨.bool (!q),?_,.bool _⟩
   rw [Zde hx hy hpl]
   simp only [Sem.run_bind,h2,Result.andThen_ok,Sem.run_pure]
  ·cases h1
end Go.Ev
end
section
/- The symbolic layer, part B: memory that is read, by content. -/
namespace Go.Ev
def elemsA (a:AV):Option (Nat×Nat×(Nat→List AV)) :=
 match a with
 | .bv l=>some (1,l.length,fun i=>[.int .u8 ((l.getD i 0).toNat:Int)])
 | .vec esz n f=>some (esz,n,f)
 | _=>none
theorem Vx {ρ:Ren} {a:AV} {u:Value} (hx:VR ρ a u) {esz n:Nat} {f:Nat→List AV} (h:elemsA a=some (esz,n,f)) :
  (∃ base cap,u = .slice base n cap∧n≤cap)∧∀ i,i < n→∃ b o cap cs el fz vs,u = .slice (some ⟨b,o,none⟩) n cap∧ρ.st b=some (.cells cs el fz)∧VRL ρ (f i) vs∧∀ j v,vs[j]? = some v→cs[o + i * esz + j]? = some v:=by
 cases hx <;> first | (cases h;done) | skip
 case bv l b o cap cs el fz hs hcap hc =>
  injection h with h;injection h with h1 h2;injection h2 with h2 h3;subst h1;subst h2;subst h3
  refine ⟨⟨_,_,rfl,hcap⟩,fun i hi=>⟨b,o,cap,cs,el,fz,[.int .u8 ((l.getD i 0).toNat:Int)],rfl,hs,.cons _ _ _ _ (.int _ _) .nil,fun j v hj=>?_⟩⟩
  match j with
  | 0 =>
   injection hj with hj;subst hj
   have:=hc i hi
   simpa using this
  | _ + 1=>simp at hj
 case bvz l hl base cap =>
  injection h with h;injection h with h1 h2;injection h2 with h2 h3;subst h2;subst hl
  exact ⟨⟨base,cap,rfl,Nat.zero_le _⟩,fun i hi=>by simp at hi⟩
 case vec b o cap cs el fz g hs he hcap hv hc =>
  injection h with h;injection h with h1 h2;injection h2 with h2 h3;subst h1;subst h2;subst h3
  exact ⟨⟨_,_,rfl,hcap⟩,fun i hi=>⟨b,o,cap,cs,el,fz,g i,rfl,hs,hv i hi,hc i hi⟩⟩
 case vecz hn base cap =>
  injection h with h;injection h with h1 h2;injection h2 with h2 h3;subst h2;subst hn
  exact ⟨⟨base,cap,rfl,Nat.zero_le _⟩,fun i hi=>by omega⟩
theorem Zae {E:Env} {F:Nat→Option Obj} {nx:Nat} {ρ:Ren} {h:Nat→Option AObj} {w:World} (r:Rel E F nx ρ h w) {b:Nat} {cs:Array Value} {el:Nat} {fz:Nat×Nat} (hs:ρ.st b=some (.cells cs el fz))
  {k:Nat} {v:Value} (hk:cs[k]? = some v):w.cell? ⟨b,k,none⟩=some v:=by
 have:=r.st _ _ hs
 simp [World.cell?,this,hk]
noncomputable def sLen (P:Program) (t:TypeId) (x:AV):SV :=
 ob (P.underlying t) fun d=>match d,x with
  | .string,.bs l=>some (true,natI l.length)
  | .slice _,.bv l=>some (true,natI l.length)
  | .slice _,.vec _ n _=>some (true,natI n)
  | .slice _,.slg _ n _=>some (true,natI n)
  | _,_=>none
theorem Zi2 {P:Program} {ρ:Ren} {w:World} {t:TypeId} {x a:AV} {u:Value} (hx:VR ρ x u) (hev:sLen P t x=some (true,a)) (ts us:Array _) (ty:TypeId) (ht:ts[0]? = some t) (hu:us[0]? = some u) :
  ∃ z,(Builtin.len_ ts ty us).run P w = .ok z w∧VR ρ a z:=by
 obtain ⟨d,hd,h1⟩:=Za.1 hev
 clear hev
 split at h1
 ·injection h1 with h1;injection h1 with _ h1;subst h1;cases hx
  exact ⟨_,by simp [Builtin.len_,ht,hu,run_underlying hd,goInt];rfl,.int _ _⟩
 ·injection h1 with h1;injection h1 with _ h1;subst h1
  obtain ⟨⟨base,cap,rfl,_⟩,_⟩:=Vx hx rfl
  exact ⟨_,by simp [Builtin.len_,ht,hu,run_underlying hd,goInt],.int _ _⟩
 ·injection h1 with h1;injection h1 with _ h1;subst h1
  obtain ⟨⟨base,cap,rfl,_⟩,_⟩:=Vx hx rfl
  exact ⟨_,by simp [Builtin.len_,ht,hu,run_underlying hd,goInt],.int _ _⟩
 ·injection h1 with h1;injection h1 with _ h1;subst h1
  cases hx with
  | slg=>exact ⟨_,by simp [Builtin.len_,ht,hu,run_underlying hd,goInt],.int _ _⟩
  | slg0 _ _ _ hn _=>subst hn;exact ⟨_,by simp [Builtin.len_,ht,hu,run_underlying hd,goInt],.int _ _⟩
 ·cases h1
noncomputable def sIndex (P:Program) (t:TypeId) (x ix:AV):SV :=
 match ix with
 | .int _ n=>ob (P.underlying t) fun d=>match d with
  | .string=>ob (strL x) fun l=>some (inB n l.length,.int .u8 ((l.getD n.toNat 0).toNat:Int))
  | _=>none
 | _=>none
theorem Zeu {P:Program} {ρ:Ren} {t:TypeId} {x ix r:AV} {u v:Value} (hx:VR ρ x u) (hi:VR ρ ix v) (h:sIndex P t x ix=some (true,r)) (w:World) :
  ∃ z,(Instr.index t u v).run P w = .ok z w∧VR ρ r z:=by
 unfold sIndex at h
 split at h
 ·rename_i k n
  cases hi
  obtain ⟨d,hd,h1⟩:=Za.1 h
  clear h
  split at h1
  ·obtain ⟨l,hl,h2⟩:=Za.1 h1
   injection h2 with h2;injection h2 with h2 h3;subst h3
   simp only [inB,decide_eq_true_eq] at h2
   rw [Xi hx hl]
   refine ⟨_,?_,.int _ _⟩
   have hlt:n.toNat < l.length:=by omega
   have hg:(ByteArray.mk l.toArray)[n.toNat]? = some (l.getD n.toNat 0):=by
    have e1:(ByteArray.mk l.toArray).size=l.length:=by show l.toArray.size=_;simp
    rw [getElem?_pos (ByteArray.mk l.toArray) n.toNat (by rw [e1];exact hlt)]
    simp only [List.getD,List.getElem?_eq_getElem hlt,Option.getD_some]
    rfl
   simp [Instr.index,asIntOf,run_underlying hd,h2.1,hg]
  ·cases h1
 ·cases h
noncomputable def sIndexAddr (P:Program) (t:TypeId) (x ix:AV):SV :=
 match ix with
 | .int _ n=>ob (P.underlying t) fun d=>match d with
  | .slice e=>ob (P.underlying e) fun _=>match x with
   | .slg id len esz=>gd (Nat.beq (P.cellsOf e) esz) (some (inB n len,.pel id esz n.toNat 0))
   | x=>ob (elemsA x) fun p=>gd (Nat.beq (P.cellsOf e) p.1) (some (inB n p.2.1,.pv (p.2.2 n.toNat)))
  | .array len e=>ob (P.underlying e) fun _=>match x with
   | .pv cs=>some (inB n len,.pv (cs.drop (n.toNat * P.cellsOf e)))
   | _=>none
  | _=>none
 | _=>none
theorem KZ {P:Program} {ρ:Ren} {t:TypeId} {x ix r:AV} {u v:Value} (hx:VR ρ x u) (hi:VR ρ ix v) (h:sIndexAddr P t x ix=some (true,r)) (w:World) :
  ∃ z,(Instr.indexAt t u v).run P w = .ok z w∧VR ρ r z:=by
 unfold sIndexAddr at h
 split at h
 ·rename_i k n
  cases hi
  obtain ⟨d,hd,h1⟩:=Za.1 h
  clear h
  split at h1
  ·obtain ⟨de,hde,h2⟩:=Za.1 h1
   clear h1
   split at h2
   ·obtain ⟨hz,h3⟩:=Zb.1 h2
    injection h3 with h3;injection h3 with h3 h4;subst h4
    simp only [inB,decide_eq_true_eq] at h3
    rw [Nat.beq_eq] at hz;subst hz
    cases hx with
    | slg id _ _ b hb he hl =>
     refine ⟨_,?_,.pel _ _ _ _ b hb⟩
     simp [Instr.indexAt,asIntOf,run_underlying hd,Zk hde,h3,Zq]
    | slg0 _ _ _ hn _=>omega
   ·obtain ⟨⟨esz,len,f⟩,hp,h3⟩:=Za.1 h2
    obtain ⟨hz,h4⟩:=Zb.1 h3
    injection h4 with h4;injection h4 with h4 h5;subst h5
    simp only [inB,decide_eq_true_eq] at h4
    rw [Nat.beq_eq] at hz
    simp only at hz
    subst hz
    obtain ⟨b,o,cap,cs,el,fz,vs,rfl,hs,hv,hc⟩:=(Vx hx hp).2 n.toNat (by omega)
    refine ⟨_,?_,.pv _ vs b (o + n.toNat * P.cellsOf _) cs el fz hs hv hc⟩
    simp [Instr.indexAt,asIntOf,run_underlying hd,Zk hde,h4,Zq]
  ·obtain ⟨de,hde,h2⟩:=Za.1 h1
   clear h1
   rename_i ln ea
   split at h2
   ·injection h2 with h2;injection h2 with h3 h4;subst h4
    simp only [inB,decide_eq_true_eq] at h3
    cases hx with
    | pv _ vs b o cs el fz hst hv hc =>
     refine ⟨_,?_,.pv _ (vs.drop _) b (o + n.toNat * P.cellsOf ea) cs el fz hst (hv.drop _) fun j v hj=>?_⟩
     ·simp [Instr.indexAt,Instr.sureAddr,asIntOf,run_underlying hd,Zk hde,h3]
      first | rfl | simp [Zq]
     ·rw [List.getElem?_drop] at hj
      rw [Nat.add_assoc];exact hc _ _ hj
   ·cases h2
  ·cases h1
 ·cases h
noncomputable def sPart (P:Program) (t:TypeId) (cs:List AV):SV :=
 ob (P.underlying t) fun d=>cond (isAggD d) (some (Nat.ble (P.cellsOf t) cs.length,.agg (cs.take (P.cellsOf t)))) (ob cs.head? fun a=>some (true,a))
noncomputable def sLoad (P:Program) (H:Tr AObj) (t:TypeId) (x:AV):SV :=
 match x with
 | .pv cs=>sPart P t cs
 | .pel id esz i j=>ob (H.get id) fun o=>match o with
  | .cells _ c z N _=>match c,z with
   | .leaf,.rows esz' f=>gd (Nat.beq esz esz') (gd (Nat.ble (j + P.cellsOf t) esz && Nat.blt 0 (P.cellsOf t)) (ob (sPart P t ((f i).drop j)) fun r=>some (cond (Nat.ble (i * esz + j + P.cellsOf t) N) r.1 false,r.2)))
   | _,_=>none
  | _=>none
 | _=>none
theorem GD {P:Program} {ρ:Ren} {t:TypeId} {cs:List AV} {a:AV} {vs:List Value} {w:World} {ad:Addr} (hv:VRL ρ cs vs) (hc:∀ j v,j < P.cellsOf t∨j=0→vs[j]? = some v→w.cell? (ad.add j)=some v)
  (h:sPart P t cs=some (true,a)):∃ v,(Instr.loadAt t (.pointer (some ad))).run P w = .ok v w∧VR ρ a v:=by
 obtain ⟨d,hd,h1⟩:=Za.1 h
 cases hag:isAggD d with
 | true =>
  rw [hag,cond_true] at h1
  injection h1 with h1;injection h1 with h1 h2;subst h2
  rw [Nat.ble_eq] at h1
  have hlen:=hv.length
  refine ⟨.agg (vs.take (P.cellsOf t)).toArray,?_,.agg _ _ (hv.take _)⟩
  have hld:=run_loadCells_list (P:=P) (w:=w) ad (vs.take (P.cellsOf t)) (fun j v hj=>by
   rw [List.getElem?_take] at hj
   split at hj
   ·exact hc j v (.inl ‹_›) hj
   ·cases hj)
  rw [show (vs.take (P.cellsOf t)).length=P.cellsOf t by simp;omega] at hld
  simp [Instr.loadAt,Instr.sureAddr,loadVar,Wl hd,hag,Zk hd,hld]
 | false =>
  rw [hag,cond_false] at h1
  obtain ⟨a',ha,h2⟩:=Za.1 h1
  injection h2 with h2;injection h2 with _ h2;subst h2
  cases cs with
  | nil=>cases ha
  | cons c l =>
   injection ha with ha;subst ha
   cases hv with
   | cons _ v _ vs' hr hs =>
    have h0:=hc 0 v (.inr rfl) rfl
    have e:ad.add 0=ad:=by cases ad;rfl
    rw [e] at h0
    exact ⟨v,by simp [Instr.loadAt,Instr.sureAddr,loadVar,Wl hd,hag,h0],hr⟩
theorem Qi {f:Nat→List AV} {esz i j:Nat} (hj:j < esz) (k:Nat) (hk:k=i * esz + j):CB.at (.rows esz f) k=(f i)[j]?:=by
 subst hk
 show (f ((i * esz + j) / esz))[(i * esz + j) % esz]? = _
 have h1:(i * esz + j) / esz=i:=by
  rw [Nat.mul_comm,Nat.mul_add_div (by omega),Nat.div_eq_of_lt hj,Nat.add_zero]
 have h2:(i * esz + j) % esz=j:=by
  rw [Nat.mul_comm,Nat.mul_add_mod,Nat.mod_eq_of_lt hj]
 rw [h1,h2]
theorem Zx (z:CB) (k:Nat):cellOf .leaf z k=z.at k:=by unfold cellOf;rw [Tr.get_leaf]
theorem Zgo {P:Program} {E:Env} {F:Nat→Option Obj} {nx:Nat} {ρ:Ren} {h:Nat→Option AObj} {w:World} {H:Tr AObj} (r:Rel E F nx ρ h w) (hs:HS ρ H h)
  {t:TypeId} {x a:AV} {u:Value} (hx:VR ρ x u) (hev:sLoad P H t x=some (true,a)):∃ v,(Instr.loadAt t u).run P w = .ok v w∧VR ρ a v:=by
 unfold sLoad at hev
 split at hev
 ·cases hx with
  | pv _ vs b o cs el fz hst hv hc =>
   exact GD hv (fun j v _ hj=>by rw [Zq];exact Zae r hst (hc j v hj)) hev
 ·rename_i id esz i j
  cases hx with
  | pel _ _ _ _ b hb =>
   obtain ⟨o,ho,h1⟩:=Za.1 hev
   clear hev
   split at h1
   ·rename_i elem c z N op
    split at h1
    ·rename_i esz' f
     obtain ⟨h2,h3⟩:=Zb.1 h1
     obtain ⟨h4,h5⟩:=Zb.1 h3
     obtain ⟨⟨sd,a'⟩,h6,h7⟩:=Za.1 h5
     injection h7 with h7;injection h7 with h7 h8;subst h8
     rw [Nat.beq_eq] at h2;subst h2
     simp only [Bool.and_eq_true,Nat.ble_eq,Nat.blt_eq] at h4
     cases hle:Nat.ble (i * esz + j + P.cellsOf t) N with
     | false=>rw [hle] at h7;cases h7
     | true =>
      rw [hle,cond_true] at h7
      simp only at h7
      subst h7
      rw [Nat.ble_eq] at hle
      obtain ⟨vs,hv,hvs⟩:=VRL.of_get (l:=((f i).drop j).take (P.cellsOf t)) (ρ:=ρ) (fun q v=>w.cell? ⟨b.b,b.ob + (i * esz + j + q),none⟩=some v) (fun q a hq=>by
       rw [List.getElem?_take] at hq
       split at hq
       ·rename_i hlt
        have hq2:(f i)[j + q]? = some a:=by rw [List.getElem?_drop] at hq;exact hq
        exact JM r (hs _ _ ho (.inl ⟨b,hb⟩)) hb (k:=i * esz + j + q) (by omega) (by rw [Zx,Qi (i:=i) (j:=j + q) (by omega) _ (by omega)];exact hq2)
       ·cases hq)
      have hpart:sPart P t (((f i).drop j).take (P.cellsOf t))=some (true,a'):=by
       obtain ⟨d,hd,h9⟩:=Za.1 h6
       refine Za.2 ⟨d,hd,?_⟩
       cases hag:isAggD d with
       | true =>
        rw [hag,cond_true] at h9
        injection h9 with h9;injection h9 with h9 h10
        rw [Nat.ble_eq] at h9
        rw [cond_true]
        have e1:Nat.ble (P.cellsOf t) (((f i).drop j).take (P.cellsOf t)).length=true:=by rw [Nat.ble_eq,List.length_take];omega
        rw [e1,List.take_take,Nat.min_self,h10]
       | false =>
        rw [hag,cond_false] at h9
        rw [cond_false]
        obtain ⟨a2,ha2,h10⟩:=Za.1 h9
        refine Za.2 ⟨a2,?_,h10⟩
        cases hdl:(f i).drop j with
        | nil=>rw [hdl] at ha2;cases ha2
        | cons c l =>
         rw [hdl] at ha2
         obtain ⟨m,hm⟩:∃ m,P.cellsOf t=m + 1:=⟨P.cellsOf t - 1,by omega⟩
         rw [hm];exact ha2
      refine GD hv (fun q v _ hq=>?_) hpart
      have:=hvs q v hq
      rw [Zq,Nat.add_assoc]
      exact this
    ·cases h1
   ·cases h1
 ·cases hev
noncomputable def sFieldAddr (P:Program) (t:TypeId) (x:AV) (f:Nat):SV :=
 ob (P.underlying t) fun d=>match d with
  | .struct fs=>ob (fs[f]?) fun fd=>ob (P.underlying fd.type) fun _=>gd (!Nat.beq (P.cellsOf fd.type) 0) (match x with
   | .pv cs=>some (true,.pv (cs.drop fd.offset))
   | .pel id esz i j=>fN (j + fd.offset) fun j'=>some (true,.pel id esz i j')
   | _=>none)
  | _=>none
theorem Ge {P:Program} {ρ:Ren} {t:TypeId} {x r:AV} {f:Nat} {u:Value} (hx:VR ρ x u) (h:sFieldAddr P t x f=some (true,r)) (w:World) :
  ∃ v,(Instr.fieldAt t u f).run P w = .ok v w∧VR ρ r v:=by
 obtain ⟨d,hd,h1⟩:=Za.1 h
 clear h
 split at h1
 ·obtain ⟨fd,hf,h2⟩:=Za.1 h1
  obtain ⟨d',hd',h3⟩:=Za.1 h2
  obtain ⟨hz,h4⟩:=Zb.1 h3
  clear h1 h2 h3
  have hz':P.cellsOf fd.type≠0:=fun hh=>by rw [hh] at hz;simp at hz
  split at h4
  ·injection h4 with h4;injection h4 with _ h4;subst h4
   cases hx with
   | pv _ vs b o cs el fz hst hv hc =>
    refine ⟨_,?_,.pv _ (vs.drop fd.offset) b (o + fd.offset) cs el fz hst (hv.drop _) fun j v hj=>?_⟩
    ·simp [Instr.fieldAt,run_underlying hd,hf,Instr.sureAddr,fieldPlace,Zk hd',hz',Zq]
    ·rw [List.getElem?_drop] at hj
     rw [Nat.add_assoc];exact hc _ _ hj
  ·rw [Zt] at h4
   injection h4 with h4;injection h4 with _ h4;subst h4
   cases hx with
   | pel _ _ _ _ b hb =>
    refine ⟨_,?_,.pel _ _ _ _ b hb⟩
    simp [Instr.fieldAt,run_underlying hd,hf,Instr.sureAddr,fieldPlace,Zk hd',hz',Zq,Nat.add_assoc]
  ·cases h4
 ·cases h1
noncomputable def sBd (X:Operand→Option AV) (x:Option Operand) (dflt lim:Nat):Option (Bool×Nat) :=
 match x with
 | none=>some (true,dflt)
 | some o=>ob (X o) fun a=>match a with
  | .int _ n=>some (inL n lim,n.toNat)
  | _=>none
theorem KN {P:Program} {ρ:Ren} {X:Operand→Option AV} {f:Operand→Value} (hX:XR ρ X f) {o:Operand} {d lim i:Nat} (h:sBd X (some o) d lim=some (true,i)) (w:World)
  (y:Nat) (hy:lim≤y) (code:BoundsCode):(Instr.sliceBound (f o) y code).run P w = .ok i w∧i≤lim:=by
 obtain ⟨a,ha,h1⟩:=Za.1 (show (ob (X o) fun a=>match a with
  | .int _ n=>some (inL n lim,n.toNat)
  | _=>none)=some (true,i) from h)
 have hr:=hX _ _ ha
 split at h1
 ·rename_i k n
  injection h1 with h1;injection h1 with h1 h2;subst h2
  simp only [inL,decide_eq_true_eq] at h1
  generalize f o=v at hr
  cases hr
  have:0≤n∧n≤(y:Int):=by omega
  exact ⟨by simp [Instr.sliceBound,asIntOf,this],by omega⟩
 ·cases h1
theorem XJ {P:Program} {ρ:Ren} {X:Operand→Option AV} {f:Operand→Value} (hX:XR ρ X f) {lo hi:Option Operand} {len cap l h:Nat} (isS:Bool) (hlc:len≤cap)
  (hhi:sBd X hi len len=some (true,h)) (hlo:sBd X lo 0 h=some (true,l)) (w:World) :
  (Instr.sliceBounds isS len cap (lo.map f) (hi.map f) none).run P w = .ok (l,h,cap) w∧h≤len∧l≤h:=by
 unfold Instr.sliceBounds
 cases hi with
 | none =>
  injection hhi with hhi;injection hhi with _ hhi;subst hhi
  cases lo with
  | none=>injection hlo with hlo;injection hlo with _ hlo;subst hlo;exact ⟨by simp,Nat.le_refl _,Nat.zero_le _⟩
  | some o =>
   have e2:=fun c=>KN (P:=P) hX hlo w _ (Nat.le_refl _) c
   exact ⟨by simp [(e2 _).1],Nat.le_refl _,(e2 .sliceB).2⟩
 | some oh =>
  have e1:=fun c=>KN (P:=P) hX hhi w cap hlc c
  have hh:=(e1 .sliceB).2
  cases lo with
  | none=>injection hlo with hlo;injection hlo with _ hlo;subst hlo;exact ⟨by simp [(e1 _).1],hh,Nat.zero_le _⟩
  | some o =>
   have e2:=fun c=>KN (P:=P) hX hlo w _ (Nat.le_refl _) c
   exact ⟨by simp [(e1 _).1,(e2 _).1],hh,(e2 .sliceB).2⟩
def takeO {α:Type} (hi:Option Operand) (h:Nat) (l:List α):List α:=match hi with
 | none=>l
 | some _=>l.take h
def dropO {α:Type} (lo:Option Operand) (k:Nat) (l:List α):List α:=match lo with
 | none=>l
 | some _=>l.drop k
def subO (lo:Option Operand) (h l:Nat):Nat:=match lo with
 | none=>h
 | some _=>h - l
def fromO (lo:Option Operand) (l:Nat) (f:Nat→List AV):Nat→List AV:=match lo with
 | none=>f
 | some _=>fun i=>f (l + i)
noncomputable def sSlice (P:Program) (X:Operand→Option AV) (t:TypeId) (x:AV) (lo hi mx:Option Operand):SV :=
 ob (P.underlying t) fun d=>gd (!mx.isSome) (match d,x with
  | .string,.bs L=>ob (sBd X hi L.length L.length) fun h=>ob (sBd X lo 0 h.2) fun l=>some (cond h.1 l.1 false,.bs (dropO lo l.2 (takeO hi h.2 L)))
  | .slice e,.bv L=>ob (P.underlying e) fun _=>gd (Nat.beq (P.cellsOf e) 1) (ob (sBd X hi L.length L.length) fun h=>ob (sBd X lo 0 h.2) fun l=>some (cond h.1 l.1 false,.bv (dropO lo l.2 (takeO hi h.2 L))))
  | .slice e,.vec esz n f=>ob (P.underlying e) fun _=>gd (Nat.beq (P.cellsOf e) esz) (ob (sBd X hi n n) fun h=>ob (sBd X lo 0 h.2) fun l=>some (cond h.1 l.1 false,.vec esz (subO lo h.2 l.2) (fromO lo l.2 f)))
  | .slice e,.slg id n esz=>ob (P.underlying e) fun _=>gd (Nat.beq (P.cellsOf e) esz && !lo.isSome) (ob (sBd X hi n n) fun h=>some (h.1,.slg id h.2 esz))
  | _,_=>none)
theorem JY {X:Operand→Option AV} {x:Option Operand} {d lim i:Nat} {s:Bool} (hx:x=none) (h:sBd X x d lim=some (s,i)):i=d:=by
 subst hx;injection h with h;injection h with _ h;exact h.symm
theorem Zhy {α:Type} {X:Operand→Option AV} {hi:Option Operand} {h lim:Nat} {s:Bool} {L:List α} (hb:sBd X hi L.length lim=some (s,h)):takeO hi h L=L.take h:=by
 cases hi with
 | none=>rw [JY rfl hb];simp [takeO]
 | some _=>rfl
theorem Zib {α:Type} {X:Operand→Option AV} {lo:Option Operand} {l lim:Nat} {s:Bool} {L:List α} (hb:sBd X lo 0 lim=some (s,l)):dropO lo l L=L.drop l:=by
 cases lo with
 | none=>rw [JY rfl hb];simp [dropO]
 | some _=>rfl
theorem subO_eq {X:Operand→Option AV} {lo:Option Operand} {l h lim:Nat} {s:Bool} (hb:sBd X lo 0 lim=some (s,l)):subO lo h l=h - l:=by
 cases lo with
 | none=>rw [JY rfl hb];simp [subO]
 | some _=>rfl
theorem fromO_eq {X:Operand→Option AV} {lo:Option Operand} {l lim:Nat} {s:Bool} {f:Nat→List AV} (hb:sBd X lo 0 lim=some (s,l)) (i:Nat):fromO lo l f i=f (l + i):=by
 cases lo with
 | none=>rw [JY rfl hb];simp [fromO]
 | some _=>rfl
theorem YM {a b:Bool} {α:Type} {x y:α} (h:some (cond a b false,x)=some (true,y)):a=true∧b=true∧x=y:=by
 injection h with h;injection h with h1 h2
 cases a <;> cases b <;> first | (cases h1;done) | exact ⟨rfl,rfl,h2⟩
set_option maxHeartbeats 1000000 in
theorem Zfe {P:Program} {ρ:Ren} {X:Operand→Option AV} {f:Operand→Value} (hX:XR ρ X f) {t:TypeId} {x r:AV} {lo hi mx:Option Operand} {u:Value} (hx:VR ρ x u)
  (h:sSlice P X t x lo hi mx=some (true,r)) (w:World):∃ z,(Instr.sliceAt t u (lo.map f) (hi.map f) (mx.map f)).run P w = .ok z w∧VR ρ r z:=by
 obtain ⟨d,hd,h1⟩:=Za.1 h
 clear h
 obtain ⟨hmx,h2⟩:=Zb.1 h1
 clear h1
 cases mx with
 | some _=>simp at hmx
 | none =>
 simp only [Option.map_none]
 split at h2
 ·rename_i L
  obtain ⟨⟨sh,ih⟩,hih,h3⟩:=Za.1 h2
  obtain ⟨⟨sl,il⟩,hil,h4⟩:=Za.1 h3
  obtain ⟨e1,e2,rfl⟩:=YM h4
  simp only at e1 e2 hih hil
  subst e1;subst e2
  cases hx
  obtain ⟨hb,h5,h6⟩:=XJ (P:=P) hX (len:=L.length) (cap:=L.length) false (Nat.le_refl _) hih hil w
  rw [Zhy hih,Zib hil]
  refine ⟨_,?_,.bs _⟩
  have e1:(ByteArray.mk L.toArray).size=L.length:=by show L.toArray.size=_;simp
  have e2:(ByteArray.mk L.toArray).extract il ih=⟨((L.take ih).drop il).toArray⟩:=by
   apply ByteArray.ext
   apply Array.ext'
   simp [ByteArray.data_extract,List.drop_take]
  have hb':(Instr.sliceBounds false (ByteArray.mk L.toArray).size (ByteArray.mk L.toArray).size (lo.map f) (hi.map f) none).run P w = .ok (il,ih,L.length) w:=by
   rw [e1];exact hb
  simp [Instr.sliceAt,Instr.slice,run_underlying hd,hb',e2]
 ·rename_i e L
  obtain ⟨de,hde,h3⟩:=Za.1 h2
  obtain ⟨hez,h4⟩:=Zb.1 h3
  obtain ⟨⟨sh,ih⟩,hih,h5⟩:=Za.1 h4
  obtain ⟨⟨sl,il⟩,hil,h6⟩:=Za.1 h5
  obtain ⟨e1,e2,rfl⟩:=YM h6
  simp only at e1 e2 hih hil
  subst e1;subst e2
  rw [Nat.beq_eq] at hez
  rw [Zhy hih,Zib hil]
  clear h2 h3 h4 h5 h6
  cases hx with
  | bv _ b o cap cs el fz hs hcap hc =>
   obtain ⟨hb,h7,h8⟩:=XJ (P:=P) hX (len:=L.length) (cap:=cap) true hcap hih hil w
   refine ⟨.slice (some (if cap=il then ⟨b,o,none⟩ else ⟨b,o + il,none⟩)) (ih - il) (cap - il),?_,?_⟩
   ·simp [Instr.sliceAt,Instr.slice,run_underlying hd,hb,Zk hde,hez,Zq]
    split <;> simp
   ·have hl:((L.take ih).drop il).length=ih - il:=by simp;omega
    by_cases h0:ih - il=0
    ·rw [h0];exact .bvz _ (List.eq_nil_of_length_eq_zero (by omega)) _ _
    ·rw [if_neg (by omega),← hl]
     refine .bv _ b (o + il) (cap - il) cs el fz hs (by omega) fun i hi=>?_
     have:=hc (il + i) (by omega)
     rw [Nat.add_assoc,this]
     congr 3
     simp only [List.getD,List.getElem?_drop,List.getElem?_take]
     rw [if_pos (by omega)]
  | bvz _ hl base cap =>
   subst hl
   obtain ⟨hb,h7,h8⟩:=XJ (P:=P) hX (len:=0) (cap:=cap) true (Nat.zero_le _) hih hil w
   simp only [List.length_nil,Nat.le_zero] at h7
   subst h7
   simp only [Nat.le_zero] at h8
   subst h8
   refine ⟨.slice (if cap=0 then base else base.map (·.add 0)) 0 cap,?_,.bvz _ (by simp) _ _⟩
   simp [Instr.sliceAt,Instr.slice,run_underlying hd,hb,Zk hde,hez]
 ·rename_i e esz n g
  obtain ⟨de,hde,h3⟩:=Za.1 h2
  obtain ⟨hez,h4⟩:=Zb.1 h3
  obtain ⟨⟨sh,ih⟩,hih,h5⟩:=Za.1 h4
  obtain ⟨⟨sl,il⟩,hil,h6⟩:=Za.1 h5
  obtain ⟨e1,e2,rfl⟩:=YM h6
  simp only at e1 e2 hih hil
  subst e1;subst e2
  rw [Nat.beq_eq] at hez
  rw [subO_eq hil]
  clear h2 h3 h4 h5 h6
  cases hx with
  | vec _ _ _ b o cap cs el fz q hs he hcap hv hc =>
   obtain ⟨hb,h7,h8⟩:=XJ (P:=P) hX (len:=n) (cap:=cap) true hcap hih hil w
   refine ⟨.slice (some (if cap=il then ⟨b,o,none⟩ else ⟨b,o + il * esz,none⟩)) (ih - il) (cap - il),?_,?_⟩
   ·simp [Instr.sliceAt,Instr.slice,run_underlying hd,hb,Zk hde,hez,Zq]
    split <;> simp
   ·by_cases h0:ih - il=0
    ·rw [h0];exact .vecz _ _ _ rfl _ _
    ·rw [if_neg (by omega)]
     refine .vec _ _ _ b (o + il * esz) (cap - il) cs el fz (fun i=>q (il + i)) hs he (by omega) (fun i hi=>by rw [fromO_eq hil];exact hv _ (by omega)) fun i hi j v hj=>?_
     have:=hc (il + i) (by omega) j v hj
     rw [show o + il * esz + i * esz + j=o + (il + i) * esz + j by rw [Nat.add_mul];omega]
     exact this
  | vecz _ _ _ hn base cap =>
   subst hn
   obtain ⟨hb,h7,h8⟩:=XJ (P:=P) hX (len:=0) (cap:=cap) true (Nat.zero_le _) hih hil w
   simp only [Nat.le_zero] at h7
   subst h7
   simp only [Nat.le_zero] at h8
   subst h8
   refine ⟨.slice (if cap=0 then base else base.map (·.add 0)) 0 cap,?_,.vecz _ _ _ rfl _ _⟩
   simp [Instr.sliceAt,Instr.slice,run_underlying hd,hb,Zk hde,hez]
 ·rename_i e id n esz
  obtain ⟨de,hde,h3⟩:=Za.1 h2
  obtain ⟨hez,h4⟩:=Zb.1 h3
  obtain ⟨⟨sh,ih⟩,hih,h5⟩:=Za.1 h4
  injection h5 with h5;injection h5 with h5 h6;subst h6
  simp only at h5 hih
  subst h5
  simp only [Bool.and_eq_true] at hez
  obtain ⟨hez,hlo⟩:=hez
  rw [Nat.beq_eq] at hez
  cases lo with
  | some _=>simp at hlo
  | none =>
  clear h2 h3 h4
  cases hx with
  | slg _ _ _ b hb he hl =>
   have hcap:n≤b.cap / esz:=by rw [Nat.le_div_iff_mul_le he];exact hl
   obtain ⟨hbs,h7,h8⟩:=XJ (P:=P) hX (lo:=none) (hi:=hi) (len:=n) (cap:=b.cap / esz) true hcap hih rfl w
   refine ⟨.slice (some ⟨b.b,b.ob,none⟩) ih (b.cap / esz),?_,.slg _ _ _ b hb he (Nat.le_trans (Nat.mul_le_mul_right _ h7) hl)⟩
   simp only [Option.map_none] at hbs
   simp [Instr.sliceAt,Instr.slice,run_underlying hd,hbs,Zk hde,hez,Zq]
  | slg0 _ _ _ hn base =>
   subst hn
   obtain ⟨hbs,h7,h8⟩:=XJ (P:=P) hX (lo:=none) (hi:=hi) (len:=0) (cap:=0) true (Nat.zero_le _) hih rfl w
   simp only [Nat.le_zero] at h7
   subst h7
   simp only [Option.map_none] at hbs
   cases base with
   | none =>
    refine ⟨.slice none 0 0,?_,.slg0 _ _ _ rfl _⟩
    simp [Instr.sliceAt,Instr.slice,run_underlying hd,hbs,Zk hde]
   | some ad =>
    refine ⟨.slice (some ad) 0 0,?_,.slg0 _ _ _ rfl _⟩
    simp [Instr.sliceAt,Instr.slice,run_underlying hd,hbs,Zk hde,Zq]
 ·cases h2
end Go.Ev
end
section
/- The symbolic layer, part C: conversions, maps, calls of the library without a text; all operations that read at most. -/
namespace Go.Ev
def bsE:List UInt8→List UInt8→Bool
 | [],[]=>true
 | a :: l,b :: m=>cond (Nat.beq a.toNat b.toNat) (bsE l m) false
 | _,_=>false
mutual
def avEq:AV→AV→Bool
 | .bool a,.bool b=>cond a b (!b)
 | .int k a,.int k' b=>cond (ikEq k k') (ieq a b) false
 | .str l n,.str l' n'=>cond (Nat.beq l l') (Nat.beq n n') false
 | .ptr0,.ptr0=>true
 | .ptr i o,.ptr j p=>cond (Nat.beq i j) (Nat.beq o p) false
 | .sl0,.sl0=>true
 | .sl i o n c,.sl j p m d=>cond (Nat.beq i j) (cond (Nat.beq o p) (cond (Nat.beq n m) (Nat.beq c d) false) false) false
 | .slo i o n c,.slo j p m d=>cond (Nat.beq i j) (cond (Nat.beq o p) (cond (Nat.beq n m) (Nat.beq c d) false) false) false
 | .sle i,.sle j=>Nat.beq i j
 | .map0,.map0=>true
 | .map i,.map j=>Nat.beq i j
 | .fn0,.fn0=>true
 | .yld i,.yld j=>Nat.beq i j
 | .fn (.func f) a c,.fn (.func g) b d=>cond (Nat.beq f g) (cond (avEqL a b) (avEqL c d) false) false
 | .iface t v,.iface u x=>cond (Nat.beq t u) (avEq v x) false
 | .iface0,.iface0=>true
 | .agg l,.agg m=>avEqL l m
 | .tup l,.tup m=>avEqL l m
 | .slg i n e,.slg j m d=>cond (Nat.beq i j) (cond (Nat.beq n m) (Nat.beq e d) false) false
 | .gptr i n,.gptr j m=>cond (Nat.beq i j) (Nat.beq n m) false
 | .pv l,.pv m=>avEqL l m
 | .bs l,.bs m=>bsE l m
 | .bv l,.bv m=>bsE l m
 | _,_=>false
def avEqL:List AV→List AV→Bool
 | [],[]=>true
 | a :: l,b :: m=>cond (avEq a b) (avEqL l m) false
 | _,_=>false
end
theorem Ze {a b:Bool} (h:cond a b false=true):a=true∧b=true:=by
 cases a <;> cases b <;> first | exact ⟨rfl,rfl⟩ | cases h
theorem Zki:∀ (a b:List UInt8),bsE a b=true→a=b
 | [],b,h=>by cases b <;> first | rfl | (simp [bsE] at h;done)
 | x :: l,b,h=>by
  cases b with
  | nil=>simp [bsE] at h
  | cons y m =>
   rw [bsE] at h
   obtain ⟨h1,h2⟩:=Ze h
   rw [Nat.beq_eq] at h1
   rw [UInt8.toNat_inj.1 h1,Zki l m h2]
mutual
theorem Jf:∀ (a b:AV),avEq a b=true→a=b
 | .bool a,b,h=>by
  cases b <;> first | (simp [avEq] at h;done) | skip
  rename_i b;cases a <;> cases b <;> first | rfl | (simp [avEq] at h;done)
 | .int k a,b,h=>by
  cases b <;> first | (simp [avEq] at h;done) | skip
  rw [avEq] at h
  obtain ⟨h1,h2⟩:=Ze h
  rw [Yc] at h2
  rw [VD h1,eq_of_beq h2]
 | .str l n,b,h=>by
  cases b <;> first | (simp [avEq] at h;done) | skip
  rw [avEq] at h
  obtain ⟨h1,h2⟩:=Ze h
  rw [Nat.beq_eq] at h1 h2
  rw [h1,h2]
 | .ptr0,b,h=>by cases b <;> first | rfl | (simp [avEq] at h;done)
 | .ptr i o,b,h=>by
  cases b <;> first | (simp [avEq] at h;done) | skip
  rw [avEq] at h
  obtain ⟨h1,h2⟩:=Ze h
  rw [Nat.beq_eq] at h1 h2
  rw [h1,h2]
 | .sl0,b,h=>by cases b <;> first | rfl | (simp [avEq] at h;done)
 | .sl i o n c,b,h=>by
  cases b <;> first | (simp [avEq] at h;done) | skip
  rw [avEq] at h
  obtain ⟨h1,h2⟩:=Ze h
  obtain ⟨h2,h3⟩:=Ze h2
  obtain ⟨h3,h4⟩:=Ze h3
  rw [Nat.beq_eq] at h1 h2 h3 h4
  rw [h1,h2,h3,h4]
 | .slo i o n c,b,h=>by
  cases b <;> first | (simp [avEq] at h;done) | skip
  rw [avEq] at h
  obtain ⟨h1,h2⟩:=Ze h
  obtain ⟨h2,h3⟩:=Ze h2
  obtain ⟨h3,h4⟩:=Ze h3
  rw [Nat.beq_eq] at h1 h2 h3 h4
  rw [h1,h2,h3,h4]
 | .sle i,b,h=>by
  cases b <;> first | (simp [avEq] at h;done) | skip
  rw [avEq,Nat.beq_eq] at h;rw [h]
 | .map0,b,h=>by cases b <;> first | rfl | (simp [avEq] at h;done)
 | .map i,b,h=>by
  cases b <;> first | (simp [avEq] at h;done) | skip
  rw [avEq,Nat.beq_eq] at h;rw [h]
 | .fn0,b,h=>by cases b <;> first | rfl | (simp [avEq] at h;done)
 | .yld i,b,h=>by
  cases b <;> first | (simp [avEq] at h;done) | skip
  rw [avEq,Nat.beq_eq] at h;rw [h]
 | .fn f a c,b,h=>by
  cases b <;> first | (cases f <;> simp [avEq] at h;done) | skip
  rename_i g b d
  cases f <;> cases g <;> first | (simp [avEq] at h;done) | skip
  rw [avEq] at h
  obtain ⟨h1,h2⟩:=Ze h
  obtain ⟨h2,h3⟩:=Ze h2
  rw [Nat.beq_eq] at h1
  rw [h1,WE a b h2,WE c d h3]
 | .iface t v,b,h=>by
  cases b <;> first | (simp [avEq] at h;done) | skip
  rw [avEq] at h
  obtain ⟨h1,h2⟩:=Ze h
  rw [Nat.beq_eq] at h1
  rw [h1,Jf v _ h2]
 | .iface0,b,h=>by cases b <;> first | rfl | (simp [avEq] at h;done)
 | .agg l,b,h=>by
  cases b <;> first | (simp [avEq] at h;done) | skip
  rw [avEq] at h
  rw [WE l _ h]
 | .tup l,b,h=>by
  cases b <;> first | (simp [avEq] at h;done) | skip
  rw [avEq] at h
  rw [WE l _ h]
 | .slg i n e,b,h=>by
  cases b <;> first | (simp [avEq] at h;done) | skip
  rw [avEq] at h
  obtain ⟨h1,h2⟩:=Ze h
  obtain ⟨h2,h3⟩:=Ze h2
  rw [Nat.beq_eq] at h1 h2 h3
  rw [h1,h2,h3]
 | .gptr i n,b,h=>by
  cases b <;> first | (simp [avEq] at h;done) | skip
  rw [avEq] at h
  obtain ⟨h1,h2⟩:=Ze h
  rw [Nat.beq_eq] at h1 h2
  rw [h1,h2]
 | .pv l,b,h=>by
  cases b <;> first | (simp [avEq] at h;done) | skip
  rw [avEq] at h
  rw [WE l _ h]
 | .bs l,b,h=>by
  cases b <;> first | (simp [avEq] at h;done) | skip
  rw [avEq] at h
  rw [Zki l _ h]
 | .bv l,b,h=>by
  cases b <;> first | (simp [avEq] at h;done) | skip
  rw [avEq] at h
  rw [Zki l _ h]
theorem WE:∀ (a b:List AV),avEqL a b=true→a=b
 | [],b,h=>by cases b <;> first | rfl | (simp [avEqL] at h;done)
 | a :: l,b,h=>by
  cases b with
  | nil=>simp [avEqL] at h
  | cons b m =>
   rw [avEqL] at h
   obtain ⟨h1,h2⟩:=Ze h
   rw [Jf a b h1,WE l m h2]
end
def byteO (l:List AV):UInt8:=match l with
 | [.int _ n]=>UInt8.ofNat n.toNat
 | _=>0
def isB (l:List AV):Bool:=match l with
 | [.int .u8 _]=>true
 | _=>false
def rowB (n:Nat) (f:Nat→List AV):List UInt8:=(List.range n).map fun i=>byteO (f i)
def allB (n:Nat) (f:Nat→List AV):Bool:=decide (∀ i,i < n→isB (f i)=true)
def BytesIn (w:World) (u:Value) (l:List UInt8):Prop :=
 (∃ base c,u = .slice base 0 c∧l=[])∨∃ (ad:Addr) (c:Nat) (ns:List Int),u = .slice (some ad) l.length c∧l=ns.map (fun n=>UInt8.ofNat n.toNat)∧∀ j v,(ns.map (Value.int .u8))[j]? = some v→w.cell? (ad.add j)=some v
noncomputable def bytesA (H:Tr AObj) (x:AV):Option (Bool×List UInt8) :=
 match x with
 | .bv l=>some (true,l)
 | .vec esz n f=>gd (Nat.beq esz 1) (some (allB n f,rowB n f))
 | .slg id n esz=>gd (Nat.beq esz 1) (ob (H.get id) fun o=>match o with
  | .cells _ c z N _=>match c,z with
   | .leaf,.rows e f=>gd (Nat.beq e 1) (some (cond (Nat.ble n N) (allB n f) false,rowB n f))
   | _,_=>none
  | _=>none)
 | .sl0=>some (true,[])
 | .sle _=>some (true,[])
 | .sl id off n _=>ob (evCells H id off n) fun l=>gd (l.all fun a=>isB [a]) (some (true,l.map fun a=>byteO [a]))
 | .slo id off n _=>ob (evCells H id off n) fun l=>gd (l.all fun a=>isB [a]) (some (true,l.map fun a=>byteO [a]))
 | _=>none
theorem Zet {ρ:Ren} {l:List AV} {vs:List Value} (h:isB l=true) (hv:VRL ρ l vs):∃ n,vs=[.int .u8 n]∧byteO l=UInt8.ofNat n.toNat:=by
 unfold isB at h
 split at h
 ·cases hv with
  | cons _ _ _ _ h1 h2=>cases h1;cases h2;exact ⟨_,rfl,rfl⟩
 ·cases h
theorem VS {ρ:Ren}:∀ {l:List AV} {vs:List Value},VRL ρ l vs→(l.all fun a=>isB [a])=true→∃ ns:List Int,vs=ns.map (Value.int .u8)∧(l.map fun a=>byteO [a])=ns.map fun n=>UInt8.ofNat n.toNat
 | _,_,.nil,_=>⟨[],rfl,rfl⟩
 | _,_,.cons a v l vs h hs,hb=>by
  simp only [List.all_cons,Bool.and_eq_true] at hb
  obtain ⟨n,h1,h2⟩:=Zet hb.1 (.cons _ _ _ _ h .nil)
  injection h1 with h1
  obtain ⟨ns,h3,h4⟩:=VS hs hb.2
  exact ⟨n :: ns,by simp [h1,h3],by simp [h2,h4]⟩
theorem Zdk {w:World} {n:Nat} {f:Nat→List AV} {ad:Addr} (hb:allB n f=true) (h:∀ i,i < n→∃ v,(∃ m,v=Value.int .u8 m∧byteO (f i)=UInt8.ofNat m.toNat)∧w.cell? (ad.add i)=some v) :
  ∃ ns:List Int,ns.length=n∧rowB n f=ns.map (fun n=>UInt8.ofNat n.toNat)∧∀ j v,(ns.map (Value.int .u8))[j]? = some v→w.cell? (ad.add j)=some v:=by
 classical
 have hm:∀ i,∃ m:Int,i < n→byteO (f i)=UInt8.ofNat m.toNat∧w.cell? (ad.add i)=some (.int .u8 m):=fun i=>by
  by_cases hi:i < n
  ·obtain ⟨v,⟨m,rfl,h2⟩,h3⟩:=h i hi
   exact ⟨m,fun _=>⟨h2,h3⟩⟩
  ·exact ⟨0,fun h=>absurd h hi⟩
 refine ⟨(List.range n).map fun i=>Classical.choose (hm i),by simp,?_,fun j v hj=>?_⟩
 ·unfold rowB
  rw [List.map_map]
  apply List.map_congr_left
  intro i hi
  rw [List.mem_range] at hi
  exact (Classical.choose_spec (hm i) hi).1
 ·rw [List.map_map,List.getElem?_map] at hj
  cases hr:(List.range n)[j]? with
  | none=>rw [hr] at hj;cases hj
  | some i =>
   rw [hr] at hj
   obtain ⟨hlt,rfl⟩:=List.getElem?_eq_some_iff.1 hr
   injection hj with hj;subst hj
   simp only [List.length_range] at hlt
   have:=(Classical.choose_spec (hm j) hlt).2
   simpa using this
theorem KB {E:Env} {F:Nat→Option Obj} {nx:Nat} {ρ:Ren} {h:Nat→Option AObj} {w:World} {H:Tr AObj} (r:Rel E F nx ρ h w) (hs:HS ρ H h)
  {x:AV} {u:Value} {l:List UInt8} (hx:VR ρ x u) (hev:bytesA H x=some (true,l)):BytesIn w u l:=by
 unfold bytesA at hev
 split at hev
 ·rename_i L
  injection hev with hev;injection hev with _ hev;subst hev
  cases hx with
  | bv _ b o cap cs el fz hst hcap hc =>
   refine .inr ⟨⟨b,o,none⟩,cap,L.map (fun b=>(b.toNat:Int)),rfl,?_,fun j v hj=>?_⟩
   ·rw [List.map_map]
    conv=>lhs;rw [← List.map_id L]
    apply List.map_congr_left
    intro b _
    simp
   ·rw [List.map_map,List.getElem?_map] at hj
    cases hr:L[j]? with
    | none=>rw [hr] at hj;cases hj
    | some b' =>
     rw [hr] at hj
     injection hj with hj;subst hj
     obtain ⟨hlt,rfl⟩:=List.getElem?_eq_some_iff.1 hr
     have:=hc j hlt
     rw [show L.getD j 0=L[j] by simp [List.getD,hlt]] at this
     rw [Zq]
     exact Zae r hst this
  | bvz _ hl base cap=>exact .inl ⟨base,cap,rfl,hl⟩
 ·rename_i esz n f
  obtain ⟨he,h1⟩:=Zb.1 hev
  rw [Nat.beq_eq] at he;subst he
  injection h1 with h1;injection h1 with h1 h2;subst h2
  have hall:=h1
  unfold allB at h1
  simp only [decide_eq_true_eq] at h1
  cases hx with
  | vec _ _ _ b o cap cs el fz g hst he hcap hv hc =>
   obtain ⟨ns,h2,h3,h4⟩:=Zdk (w:=w) (ad:=⟨b,o,none⟩) hall fun i hi=>by
    obtain ⟨m,h5,h6⟩:=Zet (h1 i hi) (hv i hi)
    refine ⟨.int .u8 m,⟨m,rfl,h6⟩,?_⟩
    have:=hc i hi 0 (.int .u8 m) (by rw [h5];rfl)
    rw [Zq]
    exact Zae r hst (by simpa using this)
   have hl:(rowB n f).length=n:=by simp [rowB]
   exact .inr ⟨⟨b,o,none⟩,cap,ns,by rw [hl],h3,h4⟩
  | vecz _ _ _ hn base cap=>subst hn;exact .inl ⟨base,cap,rfl,rfl⟩
 ·rename_i id n esz
  obtain ⟨he,h1⟩:=Zb.1 hev
  rw [Nat.beq_eq] at he;subst he
  obtain ⟨o,ho,h2⟩:=Za.1 h1
  clear hev h1
  split at h2
  ·rename_i elem c z N op
   split at h2
   ·rename_i e f
    obtain ⟨he,h3⟩:=Zb.1 h2
    rw [Nat.beq_eq] at he;subst he
    obtain ⟨e1,e2,rfl⟩:=YM h3
    rw [Nat.ble_eq] at e1
    have hall:=e2
    unfold allB at e2
    simp only [decide_eq_true_eq] at e2
    cases hx with
    | slg _ _ _ b hb _ hl =>
     obtain ⟨ns,h4,h5,h6⟩:=Zdk (w:=w) (ad:=⟨b.b,b.ob,none⟩) hall fun i hi=>by
      have h7:=e2 i hi
      obtain ⟨x,hfx⟩:∃ x,f i=[x]:=by
       unfold isB at h7
       split at h7
       ·rename_i hfi;exact ⟨_,hfi⟩
       ·cases h7
      have h8:cellOf .leaf (.rows 1 f) i=some x:=by
       rw [Zx,Qi (i:=i) (j:=0) (by decide) i (by omega),hfx];rfl
      obtain ⟨v,hv,hvr⟩:=JM r (hs _ _ ho (.inl ⟨b,hb⟩)) hb (k:=i) (by omega) h8
      rw [hfx] at h7
      obtain ⟨m,h9,h10⟩:=Zet h7 (.cons _ _ _ _ hvr .nil)
      injection h9 with h9
      refine ⟨v,⟨m,h9,by rw [hfx];exact h10⟩,?_⟩
      rw [Zq];exact hv
     have hl2:(rowB n f).length=n:=by simp [rowB]
     exact .inr ⟨⟨b.b,b.ob,none⟩,_,ns,by rw [hl2],h5,h6⟩
    | slg0 _ _ _ hn _=>subst hn;exact .inl ⟨_,_,rfl,rfl⟩
   ·cases h2
  ·cases h2
 ·injection hev with hev;injection hev with _ hev;subst hev;cases hx;exact .inl ⟨_,_,rfl,rfl⟩
 ·injection hev with hev;injection hev with _ hev;subst hev;cases hx;exact .inl ⟨_,_,rfl,rfl⟩
 ·obtain ⟨l',hl,h1⟩:=Za.1 hev
  obtain ⟨hall,h2⟩:=Zb.1 h1
  injection h2 with h2;injection h2 with _ h2;subst h2
  cases hx with
  | sl _ _ n _ b hb =>
   obtain ⟨vs,h3,h4,h5⟩:=Zw r hs hb hl
   obtain ⟨ns,h6,h7⟩:=VS h3 hall
   subst h6
   exact .inr ⟨_,_,ns,by rw [List.length_map,h3.length,h4],h7,h5⟩
 ·obtain ⟨l',hl,h1⟩:=Za.1 hev
  obtain ⟨hall,h2⟩:=Zb.1 h1
  injection h2 with h2;injection h2 with _ h2;subst h2
  cases hx with
  | slo _ _ n _ b hb _ _ =>
   obtain ⟨vs,h3,h4,h5⟩:=Zw r hs hb hl
   obtain ⟨ns,h6,h7⟩:=VS h3 hall
   subst h6
   exact .inr ⟨_,_,ns,by rw [List.length_map,h3.length,h4],h7,h5⟩
 ·cases hev
theorem Zf5 {P:Program} {w:World} {u:Value} {l:List UInt8} (h:BytesIn w u l) {src dst e:TypeId} (hsl:P.underlying src=some (.slice e)) (hst:P.underlying dst=some .string) (he:P.underlying e=some (.int .u8)) :
  (convert src dst u).run P w = .ok (.string ⟨l.toArray⟩) w:=by
 rcases h with ⟨base,c,rfl,rfl⟩ | ⟨ad,c,ns,rfl,h1,h2⟩
 ·rw [run_convert_bytes_string w src dst e base 0 c hsl he hst]
  cases base with
  | none=>simp [Conv.bytesToString];rfl
  | some ad =>
   have hld:=run_loadCells_list (P:=P) (w:=w) ad [] (fun j v hj=>by simp at hj)
   rw [run_bytesToString w ad 0 c [] hld]
   rfl
 ·rw [run_convert_bytes_string w src dst e (some ad) l.length c hsl he hst]
  have hld:=run_loadCells_list (P:=P) w ad _ h2
  have hlen:(ns.map (Value.int .u8)).length=l.length:=by rw [h1];simp
  rw [hlen] at hld
  rw [run_bytesToString w ad l.length c ns hld,KS,← h1]
  have he0:ByteArray.empty.data = #[]:=rfl
  rw [he0,Array.empty_append]
theorem bytes_of {P:Program} {w:World} {u:Value} {l:List UInt8} (h:BytesIn w u l):(Extern.Bytes.bytesOf u).run P w = .ok ⟨l.toArray⟩ w:=by
 rcases h with ⟨base,c,rfl,rfl⟩ | ⟨ad,c,ns,rfl,h1,h2⟩
 ·cases base with
  | none=>rfl
  | some ad =>
   have:=Wy (P:=P) w [] ad .empty (fun j v hj=>by simp at hj)
   simpa [Extern.Bytes.bytesOf] using this
 ·have:=Wy (P:=P) w ns ad .empty h2
  have hlen:ns.length=l.length:=by rw [h1];simp
  rw [hlen,← h1] at this
  simp only [Extern.Bytes.bytesOf]
  rw [this]
  congr 1
  show (⟨#[] ++ l.toArray⟩:ByteArray)=_
  rw [Array.empty_append]
noncomputable def sConv (P:Program) (H:Tr AObj) (src dst:TypeId) (x:AV):SV :=
 ob (P.underlying src) fun ds=>ob (P.underlying dst) fun d=>match d,x with
  | .int k,.int _ n=>some (inR k n,.int k n)
  | .string,.bs l=>some (true,.bs l)
  | .string,x=>match ds with
   | .slice e=>ob (P.underlying e) fun de=>match de with
    | .int .u8=>ob (bytesA H x) fun p=>some (p.1,.bs p.2)
    | _=>none
   | _=>none
  | _,_=>none
theorem Zgk {P:Program} {E:Env} {F:Nat→Option Obj} {nx:Nat} {ρ:Ren} {h:Nat→Option AObj} {w:World} {H:Tr AObj} (r:Rel E F nx ρ h w) (hs:HS ρ H h)
  {src dst:TypeId} {x a:AV} {u:Value} (hx:VR ρ x u) (hev:sConv P H src dst x=some (true,a)):∃ z,(convert src dst u).run P w = .ok z w∧VR ρ a z:=by
 obtain ⟨ds,hds,h1⟩:=Za.1 hev
 obtain ⟨dd,hdd,h2⟩:=Za.1 h1
 clear hev h1
 split at h2
 ·injection h2 with h2;injection h2 with h2 h3;subst h3
  cases hx
  exact ⟨_,by simp [convert,run_underlying hds,run_underlying hdd,Conv.intToInt];rfl,by rw [Vl h2];exact .int _ _⟩
 ·injection h2 with h2;injection h2 with _ h3;subst h3
  cases hx
  exact ⟨_,by simp [convert,run_underlying hds,run_underlying hdd],.bs _⟩
 ·split at h2
  ·obtain ⟨de,hde,h3⟩:=Za.1 h2
   split at h3
   ·obtain ⟨⟨sd,l⟩,hl,h4⟩:=Za.1 h3
    injection h4 with h4;injection h4 with h4 h5;subst h5
    simp only at h4;subst h4
    exact ⟨_,Zf5 (KB r hs hx hl) hds hdd hde,.bs _⟩
   ·cases h3
  ·cases h2
 ·cases h2
mutual
noncomputable def sMerge (b:Bool):AV→AV→Option AV
 | .int k m,y=>match y with
  | .int k' n=>gd (ikEq k k') (some (.int k (cond b m n)))
  | _=>none
 | .bool p,y=>match y with
  | .bool q=>some (.bool (cond b p q))
  | _=>none
 | .bs l,y=>ob (strL y) fun l'=>some (.bs (cond b l l'))
 | .str m n,y=>ob (strL y) fun l'=>some (.bs (cond b (bytesL m n) l'))
 | .agg l,y=>match y with
  | .agg l'=>ob (sMergeL b l l') fun r=>some (.agg r)
  | _=>none
 | .tup l,y=>match y with
  | .tup l'=>ob (sMergeL b l l') fun r=>some (.tup r)
  | _=>none
 | _,_=>none
noncomputable def sMergeL (b:Bool):List AV→List AV→Option (List AV)
 | [],l'=>match l' with
  | []=>some []
  | _=>none
 | x :: l,l'=>match l' with
  | y :: m=>ob (sMerge b x y) fun a=>ob (sMergeL b l m) fun r=>some (a :: r)
  | []=>none
end
mutual
theorem Vu {ρ:Ren} (b:Bool):∀ (x y r:AV) (v:Value),sMerge b x y=some r→(b=true→VR ρ x v)→(b=false→VR ρ y v)→VR ρ r v
 | .int k m,y,r,v,h,hx,hy=>by
  cases y <;> first | (simp [sMerge] at h;done) | skip
  ·rw [sMerge] at h
   obtain ⟨hk,h1⟩:=Zb.1 h
   have:=VD hk;subst this
   injection h1 with h1;subst h1
   cases b with
   | true=>exact hx rfl
   | false=>exact hy rfl
 | .bool p,y,r,v,h,hx,hy=>by
  cases y <;> first | (simp [sMerge] at h;done) | skip
  ·rw [sMerge] at h
   injection h with h;subst h
   cases b with
   | true=>exact hx rfl
   | false=>exact hy rfl
 | .bs l,y,r,v,h,hx,hy=>by
  rw [sMerge] at h
  obtain ⟨l',hl,h1⟩:=Za.1 h
  injection h1 with h1;subst h1
  cases b with
  | true=>exact hx rfl
  | false=>rw [Xi (hy rfl) hl];exact .bs _
 | .str m n,y,r,v,h,hx,hy=>by
  rw [sMerge] at h
  obtain ⟨l',hl,h1⟩:=Za.1 h
  injection h1 with h1;subst h1
  cases b with
  | true=>rw [Xi (hx rfl) rfl];exact .bs _
  | false=>rw [Xi (hy rfl) hl];exact .bs _
 | .agg l,y,r,v,h,hx,hy=>by
  cases y <;> first | (simp [sMerge] at h;done) | skip
  ·rename_i l'
   rw [sMerge] at h
   obtain ⟨q,hq,h1⟩:=Za.1 h
   injection h1 with h1;subst h1
   obtain ⟨vs,rfl⟩:∃ vs:List Value,v = .agg vs.toArray:=by
    cases b with
    | true=>cases hx rfl with | agg _ vs _=>exact ⟨vs,rfl⟩
    | false=>cases hy rfl with | agg _ vs _=>exact ⟨vs,rfl⟩
   refine .agg _ _ (QH b l l' q vs hq (fun hb=>?_) fun hb=>?_)
   ·have:=hx hb
    generalize hv:Value.agg vs.toArray=v at this
    cases this with | agg _ vs' h2=>injection hv with hv;rw [show vs=vs' by simpa using hv];exact h2
   ·have:=hy hb
    generalize hv:Value.agg vs.toArray=v at this
    cases this with | agg _ vs' h2=>injection hv with hv;rw [show vs=vs' by simpa using hv];exact h2
 | .tup l,y,r,v,h,hx,hy=>by
  cases y <;> first | (simp [sMerge] at h;done) | skip
  ·rename_i l'
   rw [sMerge] at h
   obtain ⟨q,hq,h1⟩:=Za.1 h
   injection h1 with h1;subst h1
   obtain ⟨vs,rfl⟩:∃ vs:List Value,v = .tuple vs.toArray:=by
    cases b with
    | true=>cases hx rfl with | tup _ vs _=>exact ⟨vs,rfl⟩
    | false=>cases hy rfl with | tup _ vs _=>exact ⟨vs,rfl⟩
   refine .tup _ _ (QH b l l' q vs hq (fun hb=>?_) fun hb=>?_)
   ·have:=hx hb
    generalize hv:Value.tuple vs.toArray=v at this
    cases this with | tup _ vs' h2=>injection hv with hv;rw [show vs=vs' by simpa using hv];exact h2
   ·have:=hy hb
    generalize hv:Value.tuple vs.toArray=v at this
    cases this with | tup _ vs' h2=>injection hv with hv;rw [show vs=vs' by simpa using hv];exact h2
 | .ptr0,_,_,_,h,_,_ | .ptr _ _,_,_,_,h,_,_ | .sl0,_,_,_,h,_,_ | .sl _ _ _ _,_,_,_,h,_,_ | .slo _ _ _ _,_,_,_,h,_,_ | .sle _,_,_,_,h,_,_ | .map0,_,_,_,h,_,_
 | .map _,_,_,_,h,_,_ | .fn _ _ _,_,_,_,h,_,_ | .fn0,_,_,_,h,_,_ | .yld _,_,_,_,h,_,_ | .iface _ _,_,_,_,h,_,_ | .iface0,_,_,_,h,_,_ | .gptr _ _,_,_,_,h,_,_
 | .chan0,_,_,_,h,_,_ | .chan _,_,_,_,h,_,_ | .bv _,_,_,_,h,_,_ | .vec _ _ _,_,_,_,h,_,_ | .pv _,_,_,_,h,_,_ | .pel _ _ _ _,_,_,_,h,_,_ | .slg _ _ _,_,_,_,h,_,_
 | .mapv _ _ _,_,_,_,h,_,_=>by simp [sMerge] at h
theorem QH {ρ:Ren} (b:Bool):∀ (x y r:List AV) (v:List Value),sMergeL b x y=some r→(b=true→VRL ρ x v)→(b=false→VRL ρ y v)→VRL ρ r v
 | [],y,r,v,h,hx,hy=>by
  cases y with
  | cons _ _=>simp [sMergeL] at h
  | nil =>
   rw [sMergeL] at h
   injection h with h;subst h
   cases b with
   | true=>exact hx rfl
   | false=>exact hy rfl
 | x :: l,y,r,v,h,hx,hy=>by
  cases y with
  | nil=>simp [sMergeL] at h
  | cons y m =>
   rw [sMergeL] at h
   obtain ⟨a,ha,h1⟩:=Za.1 h
   obtain ⟨q,hq,h2⟩:=Za.1 h1
   injection h2 with h2;subst h2
   obtain ⟨u,vs,rfl⟩:∃ u vs,v=u :: vs:=by
    cases b with
    | true=>cases hx rfl with | cons _ u _ vs _ _=>exact ⟨u,vs,rfl⟩
    | false=>cases hy rfl with | cons _ u _ vs _ _=>exact ⟨u,vs,rfl⟩
   refine .cons _ _ _ _ (Vu b x y a u ha (fun hb=>?_) fun hb=>?_) (QH b l m q vs hq (fun hb=>?_) fun hb=>?_)
   ·cases hx hb;assumption
   ·cases hy hb;assumption
   ·cases hx hb;assumption
   ·cases hy hb;assumption
end
noncomputable def keyS (kd:TypeDesc) (k:AV):Option SKey :=
 match kd,k with
 | .string,k=>ob (strL k) fun l=>some (.str l)
 | .int q,.int q' n=>gd (ikEq q q') (some (.int n))
 | _,_=>none
theorem Zal {ρ:Ren} {kd:TypeDesc} {k:AV} {s:SKey} {u:Value} (hk:VR ρ k u) (h:keyS kd k=some s):KR kd s u:=by
 unfold keyS at h
 split at h
 ·obtain ⟨l,hl,h1⟩:=Za.1 h
  injection h1 with h1;subst h1
  rw [Xi hk hl];exact .str _
 ·obtain ⟨hq,h1⟩:=Zb.1 h
  have:=VD hq;subst this
  injection h1 with h1;subst h1
  cases hk;exact .int _ _
 ·cases h
def eqS (a b:SKey):Option Bool:=match a,b with
 | .str l,.str l'=>some (decide (l=l'))
 | .int n,.int m=>some (ieq n m)
 | _,_=>none
theorem Zij {kd:TypeDesc} {a b:SKey} {u v:Value} {q:Bool} (ha:KR kd a u) (hb:KR kd b v) (h:eqS a b=some q):Instr.sameNow kd u v=some q:=by
 cases ha <;> cases hb
 ·injection h with h;subst h
  rename_i l l'
  have:((⟨l.toArray⟩:ByteArray) == ⟨l'.toArray⟩)=decide (l=l'):=by
   rw [beq_toListBytes,Ji,Ji];by_cases h:l=l' <;> simp [h]
  simp [Instr.sameNow,this]
 ·injection h with h;subst h
  simp [Instr.sameNow,Yc]
noncomputable def sFind (kd:TypeDesc) (k:SKey) (z:AV) (es:List AEnt):Option (Bool×AV) :=
 List.rec (motive:=fun _=>Option (Bool×AV)) (some (false,z))
  (fun e _ ih=>ob (keyS kd e.key) fun s=>ob (eqS k s) fun q=>ob ih fun p=>ob (sMerge q e.val p.2) fun m=>some (cond q true p.1,m)) es
theorem QS {ρ:Ren} {kd:TypeDesc} {k:SKey} {z:AV} {u zv:Value} (hk:KR kd k u) (hz:VR ρ z zv):∀ {es:List AEnt} {l:List MapEntry},ERL ρ es l→∀ (i:Nat) (p:Bool×AV),
  sFind kd k z es=some p→∃ v,VR ρ p.2 v∧(if p.1 then ∃ j,Instr.findNow kd u l i=some (some (j,v)) else Instr.findNow kd u l i=some none∧v=zv)
 | _,_,.nil,i,p,h=>by injection h with h;subst h;exact ⟨zv,hz,by simp [Instr.findNow]⟩
 | _,_,.cons e m es l he hs,i,p,h=>by
  obtain ⟨s,hs1,h1⟩:=Za.1 (show (ob (keyS kd e.key) fun s=>ob (eqS k s) fun q=>ob (sFind kd k z es) fun p=>ob (sMerge q e.val p.2) fun m=>some (cond q true p.1,m))=some p from h)
  obtain ⟨q,hq,h2⟩:=Za.1 h1
  obtain ⟨p',hp',h3⟩:=Za.1 h2
  obtain ⟨a,ha,h4⟩:=Za.1 h3
  injection h4 with h4;subst h4
  have hn:=Zij hk (Zal he.1 hs1) hq
  obtain ⟨v,h5,h6⟩:=QS hk hz hs (i + 1) p' hp'
  cases q with
  | true =>
   refine ⟨m.val,Vu true _ _ _ _ ha (fun _=>he.2.1) (fun h=>by cases h),?_⟩
   simp [Instr.findNow,hn]
  | false =>
   refine ⟨v,Vu false _ _ _ _ ha (fun h=>by cases h) (fun _=>h5),?_⟩
   simp only [cond_false]
   simpa [Instr.findNow,hn] using h6
def kcB (has:SKey→Bool) (kd:TypeDesc) (k:SKey):Bool:=match kd,k with
 | .string,.str _=>!has (.int sentN)
 | .int q,.int n=>cond (has (.int (sentK q))) (ilt n sentN) false
 | _,_=>false
theorem kcB_ok {has:SKey→Bool} {kd:TypeDesc} {k:SKey} (h:kcB has kd k=true):kOK has kd k:=by
 unfold kcB at h
 unfold kOK
 split at h
 ·simpa using h
 ·rename_i n
  obtain ⟨h1,h2⟩:=Ze h
  rw [YL] at h2
  exact ⟨h1,by simpa using h2⟩
 ·cases h
noncomputable def sLookup (P:Program) (H:Tr AObj) (t:TypeId) (m k:AV) (ok:Bool):SV :=
 match m,k with
 | .map _,.str _ _=>none
 | m,k=>ob (P.underlying t) fun d=>match d with
  | .map key elem=>ob (P.underlying key) fun kd=>gd (keyD kd) (ob (keyS kd k) fun s=>ob (zeroAV P elem) fun z=>match m with
   | .mapv has val z'=>gd (avEq z z') (some (kcB has kd s,cond ok (.tup [val s,.bool (has s)]) (val s)))
   | .map id=>ob (H.get id) fun o=>match o with
    | .map es _=>ob (sFind kd s z es) fun p=>some (true,cond ok (.tup [p.2,.bool p.1]) p.2)
    | _=>none
   | _=>none)
  | _=>none
theorem Zc3 {P:Program} {E:Env} {F:Nat→Option Obj} {nx:Nat} {ρ:Ren} {h:Nat→Option AObj} {w:World} {H:Tr AObj} (r:Rel E F nx ρ h w) (hs:HS ρ H h)
  {t:TypeId} {m k a:AV} {ok:Bool} {u v:Value} (hm:VR ρ m u) (hk:VR ρ k v) (hev:sLookup P H t m k ok=some (true,a)):∃ z,(Instr.lookup t u v ok).run P w = .ok z w∧VR ρ a z:=by
 unfold sLookup at hev
 split at hev
 ·cases hev
 obtain ⟨d,hd,h1⟩:=Za.1 hev
 clear hev
 split at h1
 ·rename_i key elem
  obtain ⟨kd,hkd,h2⟩:=Za.1 h1
  obtain ⟨hkk,h3⟩:=Zb.1 h2
  obtain ⟨s,hsk,h4⟩:=Za.1 h3
  obtain ⟨z,hz,h5⟩:=Za.1 h4
  clear h1 h2 h3 h4
  have hkr:=Zal hk hsk
  obtain ⟨zv,hzv,hzr⟩:=YU hz w
  have hck:=fun e=>XV (P:=P) hkd hkk e 9999 v w
  have fin:∀ (b:Nat) (es:Array MapEntry) (clock:Nat) (has:Bool) (val:AV),w.heap[b]? = some (.map es clock) →
    (∃ q,VR ρ val q∧(if has then ∃ j,Instr.findNow kd v es.toList 0=some (some (j,q)) else Instr.findNow kd v es.toList 0=some none∧q=zv)) →
    ∃ z,(Instr.lookup t (.map (some b)) v ok).run P w = .ok z w∧VR ρ (cond ok (.tup [val,.bool has]) val) z:=by
   intro b es clock has val hb ⟨q,hq,hf⟩
   cases has with
   | true =>
    obtain ⟨j,hf⟩:=hf
    cases ok with
    | true =>
     refine ⟨.tuple #[q,.bool true],?_,.tup _ [q,.bool true] (.cons _ _ _ _ hq (.cons _ _ _ _ (.bool true) .nil))⟩
     simp [Instr.lookup,run_underlying hd,hck,Instr.findKey,run_underlying hkd,hf,getObj,Sem.run,hb]
    | false =>
     refine ⟨q,?_,hq⟩
     simp [Instr.lookup,run_underlying hd,hck,Instr.findKey,run_underlying hkd,hf,getObj,Sem.run,hb]
   | false =>
    obtain ⟨hf,rfl⟩:=hf
    cases ok with
    | true =>
     refine ⟨.tuple #[q,.bool false],?_,.tup _ [q,.bool false] (.cons _ _ _ _ hq (.cons _ _ _ _ (.bool false) .nil))⟩
     simp [Instr.lookup,run_underlying hd,hck,Instr.findKey,run_underlying hkd,hf,getObj,Sem.run,hb,hzv]
    | false =>
     refine ⟨q,?_,hq⟩
     simp [Instr.lookup,run_underlying hd,hck,Instr.findKey,run_underlying hkd,hf,getObj,Sem.run,hb,hzv]
  split at h5
  ·rename_i has val z' _
   obtain ⟨hzz,h6⟩:=Zb.1 h5
   have:=Jf _ _ hzz;subst this
   injection h6 with h6;injection h6 with h7 h6;subst h6
   have hkc:=kcB_ok h7
   cases hm with
   | mapv _ _ _ b es clock g hst hn hy hz' hg =>
    refine fin b es clock (has s) (val s) (r.st _ _ hst) ?_
    cases hhs:has s with
    | true =>
     obtain ⟨j,hj⟩:=hy kd s v hkr hkc hhs
     exact ⟨g s,hg s hhs,by simpa using ⟨j,hj⟩⟩
    | false=>exact ⟨zv,zOK_vr (hz' s hhs) (hzr ρ),by simpa using hn kd s v hkr hkc hhs⟩
  ·obtain ⟨o,ho,h6⟩:=Za.1 h5
   split at h6
   ·rename_i es clock
    obtain ⟨p,hp,h7⟩:=Za.1 h6
    injection h7 with h7;injection h7 with _ h7;subst h7
    cases hm with
    | map _ b hb =>
     obtain ⟨c,hc,hor⟩:=r.ob _ _ b (hs _ _ ho (.inl ⟨b,hb⟩)) hb
     cases hor with
     | map _ _ l hl =>
      obtain ⟨q,h8,h9⟩:=QS hkr (hzr ρ) hl 0 p hp
      exact fin b.b _ _ p.1 p.2 hc ⟨q,h8,h9⟩
   ·cases h6
  ·cases h5
 ·cases h1
noncomputable def textA (H:Tr AObj) (x:AV):Option (Bool×List UInt8) :=
 match x with
 | .str m n=>some (true,bytesL m n)
 | .bs l=>some (true,l)
 | x=>bytesA H x
noncomputable def sExt (P:Program) (H:Tr AObj) (f:AV) (xs:List AV):SV :=
 match f with
 | .fn (.func g) [] [] => ob (P.funcs[g]?) fun fn => gd fn.body.isNone (gd (fn.origin == "") (match xs with
  | [b,.int .u8 c]=>ob (textA H b) fun p=>fN (extK fn.name) fun k=>cond (Nat.beq k 1) (some (cond p.1 (inR .u8 c) false,natI (Lib.countByte p.2 (UInt8.ofNat c.toNat))))
    (gd (Nat.beq k 2) (some (cond p.1 (inR .u8 c) false,.int .i64 (Lib.indexByte p.2 (UInt8.ofNat c.toNat)))))
  | _=>none))
 | _=>none
theorem Zjq {P:Program} {E:Env} {F:Nat→Option Obj} {nx:Nat} {ρ:Ren} {h:Nat→Option AObj} {w:World} {H:Tr AObj} (r:Rel E F nx ρ h w) (hs:HS ρ H h)
  {f:AV} {xs:List AV} {a:AV} {us:List Value} (hx:VRL ρ xs us) (hev:sExt P H f xs=some (true,a)):∃ g,f = .fn (.func g) [] []∧∃ v,(callFunc g us.toArray).run P w = .ok (.value v) w∧VR ρ a v:=by
 unfold sExt at hev
 split at hev
 ·rename_i g
  obtain ⟨fn,hfn,h1⟩:=Za.1 hev
  obtain ⟨hb,h2⟩:=Zb.1 h1
  obtain ⟨ho,h3⟩:=Zb.1 h2
  have ho' : fn.origin = "" := by simpa using ho
  refine ⟨g,rfl,?_⟩
  split at h3
  ·rename_i b c
   obtain ⟨⟨sd,l⟩,hbs,h5⟩:=Za.1 h3
   simp only [Zt] at h5
   cases hx with
   | cons _ u1 _ us1 hu1 hus1=>cases hus1 with
    | cons _ u2 _ us2 hu2 hus2 =>
     cases hus2
     cases hu2
     have hby:sd=true→(Extern.Bytes.bytesOf u1).run P w = .ok ⟨l.toArray⟩ w:=fun hsd=>by
      subst hsd
      unfold textA at hbs
      split at hbs
      ·injection hbs with hbs;injection hbs with _ hbs;subst hbs;cases hu1;rfl
      ·injection hbs with hbs;injection hbs with _ hbs;subst hbs;cases hu1;rfl
      ·exact bytes_of (KB r hs hu1 hbs)
     have hst:(Extern.Bytes.bytesOf (.string ⟨l.toArray⟩)).run P w = .ok ⟨l.toArray⟩ w:=rfl
     have hu8:∀ c:Int,c.toNat.toUInt8=UInt8.ofNat c.toNat:=fun _=>rfl
     cases hk:Nat.beq (extK fn.name) 1 with
     | true =>
      rw [hk,cond_true] at h5
      obtain ⟨e0,_,rfl⟩:=YM h5
      have hby:=hby e0
      obtain ⟨e1,e2,e3⟩:=Zgg ho' (Nat.eq_of_beq_eq_true hk)
      refine ⟨_,?_,.int _ _⟩
      rw [run_callFunc_extern hfn e3 hb e1 e2]
      have hs0:=Lib.run_countString (P:=P) ⟨l.toArray⟩ c w
      have hrun:(Extern.BytealgCount.count #[u1,.int .u8 c]).run P w=(Extern.BytealgCount.count #[.string ⟨l.toArray⟩,.int .u8 c]).run P w:=by
       change Sem.run P (do
        let b ← Extern.Bytes.bytesOf u1
        let c' ← Extern.Bytes.asByte (.int .u8 c)
        pure (goInt (b.foldl (fun n x=>if x == c' then n + 1 else n) (0:Nat)))) w=Sem.run P (do
        let b ← Extern.Bytes.bytesOf (.string ⟨l.toArray⟩)
        let c' ← Extern.Bytes.asByte (.int .u8 c)
        pure (goInt (b.foldl (fun n x=>if x == c' then n + 1 else n) (0:Nat)))) w
       simp only [Sem.run_bind,hby,hst]
      rw [show [u1,Value.int .u8 c].toArray = #[u1,.int .u8 c] from rfl,hrun,hs0]
      rfl
     | false =>
      rw [hk,cond_false] at h5
      obtain ⟨hk2,h6⟩:=Zb.1 h5
      obtain ⟨e0,_,rfl⟩:=YM h6
      have hby:=hby e0
      obtain ⟨e1,e2,e3⟩:=Zin ho' (Nat.eq_of_beq_eq_true hk2)
      refine ⟨_,?_,.int _ _⟩
      rw [run_callFunc_extern hfn e3 hb e1 e2]
      have hs0:=Lib.run_indexByteString (P:=P) ⟨l.toArray⟩ c w
      have hrun:(Extern.BytealgIndexByte.indexByte #[u1,.int .u8 c]).run P w=(Extern.BytealgIndexByte.indexByte #[.string ⟨l.toArray⟩,.int .u8 c]).run P w:=by
       change Sem.run P (do
        let b ← Extern.Bytes.bytesOf u1
        let c' ← Extern.Bytes.asByte (.int .u8 c)
        match (List.range b.size).find? fun i=>b[i]! == c' with
        | some i=>pure (goInt i)
        | none=>pure (goInt (-1))) w=Sem.run P (do
        let b ← Extern.Bytes.bytesOf (.string ⟨l.toArray⟩)
        let c' ← Extern.Bytes.asByte (.int .u8 c)
        match (List.range b.size).find? fun i=>b[i]! == c' with
        | some i=>pure (goInt i)
        | none=>pure (goInt (-1))) w
       simp only [Sem.run_bind,hby,hst]
      rw [show [u1,Value.int .u8 c].toArray = #[u1,.int .u8 c] from rfl,hrun,hs0]
      rfl
  ·cases h3
 ·cases hev
end Go.Ev
end
section
/- The symbolic layer, part D: all operations that read at most; new blocks. -/
namespace Go.Ev
noncomputable def sNil (x:AV):SV:=match x with
 | .pv cs=>some (true,.pv cs)
 | .pel id esz i j=>some (true,.pel id esz i j)
 | _=>none
noncomputable def sUn (op:UnOp) (x:AV):SV:=match op,x with
 | .neg,.int k n=>some (inR k (0 - n),.int k (0 - n))
 | _,_=>none
noncomputable def sBi (P:Program) (b:Builtin) (ts:List TypeId) (xs:List AV):SV :=
 match b with
 | .len=>ob (ts[0]?) fun t=>ob (xs[0]?) fun x=>sLen P t x
 | _=>none
noncomputable def sPure (P:Program) (H:Tr AObj) (X:Operand→Option AV) (op:Op):SV :=
 match op with
 | .pick c a b=>ob (X c) fun v=>match v with
  | .bool t=>ob (X a) fun x=>ob (X b) fun y=>ob (sMerge t x y) fun m=>some (true,m)
  | _=>none
 | .load t a=>ob (X a) fun x=>sLoad P H t x
 | .nilCheck x=>ob (X x) sNil
 | .binOp op t x y _=>ob (X x) fun a=>ob (X y) fun b=>sBin P op t (isConstO x) (isConstO y) a b
 | .unOp op _ x=>ob (X x) fun a=>sUn op a
 | .convert s d x=>ob (X x) fun a=>sConv P H s d a
 | .slice t x lo hi mx=>ob (X x) fun a=>sSlice P X t a lo hi mx
 | .fieldAddr t x f=>ob (X x) fun a=>sFieldAddr P t a f
 | .indexAddr t x i=>ob (X x) fun a=>ob (X i) fun b=>sIndexAddr P t a b
 | .index t x i=>ob (X x) fun a=>ob (X i) fun b=>sIndex P t a b
 | .lookup t x i ok=>ob (X x) fun a=>ob (X i) fun b=>sLookup P H t a b ok
 | .call c=>match c.callee with
  | .builtin b=>ob (xsL X c.args.toList) fun xs=>sBi P b c.argTypes.toList xs
  | .value f=>ob (X f) fun fv=>ob (xsL X c.args.toList) fun xs=>sExt P H fv xs
  | _=>none
 | _=>none
noncomputable def evPure2 (P:Program) (H:Tr AObj) (X:Operand→Option AV) (op:Op):Option AV :=
 Option.rec (motive:=fun _=>Option AV) (evPure3 P H X op) (fun r=>cond r.1 (some r.2) (evPure3 P H X op)) (sPure P H X op)
theorem Zbi {P:Program} {H:Tr AObj} {X:Operand→Option AV} {op:Op} {a:AV} (h:sPure P H X op=some (true,a)):evPure2 P H X op=some a:=by
 unfold evPure2;rw [h];rfl
theorem QI {P:Program} {H:Tr AObj} {X:Operand→Option AV} {op:Op} {a:AV} (h:sPure P H X op=none) (h3:evPure3 P H X op=some a):evPure2 P H X op=some a:=by
 unfold evPure2;rw [h];exact h3
theorem Zip {P:Program} {E:Env} {F:Nat→Option Obj} {nx:Nat} {ρ:Ren} {h:Nat→Option AObj} {w:World} {H:Tr AObj} (r:Rel E F nx ρ h w) (hs:HS ρ H h)
  {X:Operand→Option AV} {f:Operand→Value} (hX:XR ρ X f) (o:Oper) {a:AV} (hev:sPure P H X o.op=some (true,a)) :
  ∃ v,(execOp f o).run P w = .ok (.value v) w∧VR ρ a v:=by
 obtain ⟨dst,op,type,pos,after,guard⟩:=o
 simp only at hev
 cases op <;> simp only [sPure] at hev <;> first | (cases hev;done) | skip
 case pick c x y =>
  obtain ⟨v,hv,h1⟩:=Za.1 hev
  have hc:=hX _ _ hv
  split at h1
  ·rename_i t
   obtain ⟨xa,hxa,h2⟩:=Za.1 h1
   obtain ⟨ya,hya,h3⟩:=Za.1 h2
   obtain ⟨m,hm,h4⟩:=Za.1 h3
   injection h4 with h4;injection h4 with _ h4;subst h4
   generalize hfc:f c=u at hc
   cases hc
   cases t
   ·exact ⟨f y,by simp [execOp,hfc,asBool],Vu false _ _ _ _ hm (fun h=>by cases h) fun _=>hX _ _ hya⟩
   ·exact ⟨f x,by simp [execOp,hfc,asBool],Vu true _ _ _ _ hm (fun _=>hX _ _ hxa) fun h=>by cases h⟩
  ·cases h1
 case load t x =>
  obtain ⟨v,hv,h1⟩:=Za.1 hev
  obtain ⟨z,h2,h3⟩:=Zgo (P:=P) r hs (hX _ _ hv) h1
  exact ⟨z,ZU h2,h3⟩
 case nilCheck x =>
  obtain ⟨v,hv,h1⟩:=Za.1 hev
  have hc:=hX _ _ hv
  unfold sNil at h1
  split at h1
  ·injection h1 with h1;injection h1 with _ h1;subst h1
   refine ⟨f x,?_,hc⟩
   generalize hfx:f x=u at hc
   cases hc
   simp [execOp,hfx]
  ·injection h1 with h1;injection h1 with _ h1;subst h1
   refine ⟨f x,?_,hc⟩
   generalize hfx:f x=u at hc
   cases hc
   simp [execOp,hfx]
  ·cases h1
 case binOp op t x y yt =>
  obtain ⟨v,hv,h1⟩:=Za.1 hev
  obtain ⟨v',hv',h2⟩:=Za.1 h1
  obtain ⟨z,h3,h4⟩:=Zj4 (P:=P) (hX _ _ hv) (hX _ _ hv') h2 w
  exact ⟨z,ZU h3,h4⟩
 case unOp op t x =>
  obtain ⟨v,hv,h1⟩:=Za.1 hev
  have hc:=hX _ _ hv
  unfold sUn at h1
  split at h1
  ·rename_i k n
   injection h1 with h1;injection h1 with h1 h2;subst h2
   obtain ⟨z,h3,h4⟩:=Zcg (P:=P) (op:=.neg) (x:=.int k n) (r:=.int k (0 - n)) (by simp only [evUn,Jq,Zh3];rw [Vl h1]) hc w
   exact ⟨z,ZU h3,h4⟩
  ·cases h1
 case convert s d x =>
  obtain ⟨v,hv,h1⟩:=Za.1 hev
  obtain ⟨z,h3,h4⟩:=Zgk (P:=P) r hs (hX _ _ hv) h1
  exact ⟨z,ZU h3,h4⟩
 case slice t x lo hi mx =>
  obtain ⟨v,hv,h1⟩:=Za.1 hev
  obtain ⟨z,h3,h4⟩:=Zfe (P:=P) hX (hX _ _ hv) h1 w
  exact ⟨z,ZU h3,h4⟩
 case fieldAddr t x i =>
  obtain ⟨v,hv,h1⟩:=Za.1 hev
  obtain ⟨z,h3,h4⟩:=Ge (P:=P) (hX _ _ hv) h1 w
  exact ⟨z,ZU h3,h4⟩
 case indexAddr t x i =>
  obtain ⟨v,hv,h1⟩:=Za.1 hev
  obtain ⟨v',hv',h2⟩:=Za.1 h1
  obtain ⟨z,h3,h4⟩:=KZ (P:=P) (hX _ _ hv) (hX _ _ hv') h2 w
  exact ⟨z,ZU h3,h4⟩
 case index t x i =>
  obtain ⟨v,hv,h1⟩:=Za.1 hev
  obtain ⟨v',hv',h2⟩:=Za.1 h1
  obtain ⟨z,h3,h4⟩:=Zeu (P:=P) (hX _ _ hv) (hX _ _ hv') h2 w
  exact ⟨z,ZU h3,h4⟩
 case lookup t x i ok =>
  obtain ⟨v,hv,h1⟩:=Za.1 hev
  obtain ⟨v',hv',h2⟩:=Za.1 h1
  obtain ⟨z,h3,h4⟩:=Zc3 (P:=P) r hs (hX _ _ hv) (hX _ _ hv') h2
  exact ⟨z,ZU h3,h4⟩
 case call c =>
  obtain ⟨callee,args,argTypes⟩:=c
  simp only at hev
  split at hev
  ·rename_i b
   obtain ⟨xs,hxs,h1⟩:=Za.1 hev
   have hxr:=ZX hX hxs
   unfold sBi at h1
   split at h1
   ·obtain ⟨t,ht,h2⟩:=Za.1 h1
    obtain ⟨x,hx,h3⟩:=Za.1 h2
    obtain ⟨u,hu,hur⟩:=hxr.get _ _ hx
    obtain ⟨z,h4,h5⟩:=Zi2 (P:=P) (w:=w) hur h3 argTypes (args.map f) type (by rw [← Array.getElem?_toList];exact ht) (by rw [← Array.getElem?_toList,Array.toList_map];exact hu)
    refine ⟨z,?_,h5⟩
    simp only [execOp,resolve,Sem.run_bind,Sem.run_pure,Result.andThen_ok,invoke]
    exact ZU h4
   ·cases h1
  ·rename_i g
   obtain ⟨fv,hfv,h0⟩:=Za.1 hev
   obtain ⟨xs,hxs,h1⟩:=Za.1 h0
   obtain ⟨k,hk,v,h2,h3⟩:=Zjq (P:=P) r hs (ZX hX hxs) h1
   subst hk
   refine ⟨v,?_,h3⟩
   have hfx:f g = .func (.func k) #[] #[]:=by
    have:=hX _ _ hfv
    generalize f g=u at this
    cases this with
    | fn _ _ _ va vc ha hc=>cases ha;cases hc;rfl
   have hargs:(args.toList.map f).toArray=args.map f:=by rw [Yy]
   rw [hargs] at h2
   simp only [execOp,resolve,hfx,Deferred.ofValue,Sem.run_bind,Sem.run_pure,Result.andThen_ok,invoke,Array.append_empty,Array.empty_append]
   exact h2
  ·cases hev
theorem Ua {P:Program} {E:Env} {F:Nat→Option Obj} {nx:Nat} {ρ:Ren} {h:Nat→Option AObj} {w:World} {H:Tr AObj} (r:Rel E F nx ρ h w) (hs:HS ρ H h)
  {X:Operand→Option AV} {f:Operand→Value} (hX:XR ρ X f) (o:Oper) {a:AV} (hev:evPure2 P H X o.op=some a) :
  ∃ v,(execOp f o).run P w = .ok (.value v) w∧VR ρ a v:=by
 cases hsp:sPure P H X o.op with
 | none =>
  have h1:evPure2 P H X o.op=evPure3 P H X o.op:=by unfold evPure2;rw [hsp]
  rw [h1] at hev
  exact Jw r hs hX o hev
 | some p =>
  obtain ⟨b,a'⟩:=p
  have h1:evPure2 P H X o.op=cond b (some a') (evPure3 P H X o.op):=by unfold evPure2;rw [hsp]
  rw [h1] at hev
  cases b with
  | true =>
   injection hev with hev;subst hev
   exact Zip r hs hX o hsp
  | false=>exact Jw r hs hX o hev
def byteRow (l:List UInt8):Nat→List AV:=fun i=>[.int .u8 ((l.getD i 0).toNat:Int)]
noncomputable def sNew (P:Program) (X:Operand→Option AV) (ni:Nat) (op:Op):Option (Bool×AV×AObj) :=
 match op with
 | .makeSlice t l c=>ob (X l) fun l=>ob (X c) fun c=>match l,c with
  | .int _ n,.int _ m=>ob (P.underlying t) fun d=>match d with
   | .slice el=>ob (P.info? el) fun i=>ob (zeroCs P el) fun cs=>gd (Nat.blt 0 cs.length && Nat.beq cs.length i.size)
     (some (decide (0≤n∧n≤m∧m≤9223372036854775807∧i.bytes * m≤281474976710656),.slg ni n.toNat i.size,.cells el .leaf (.rows i.size fun _=>cs) (n.toNat * i.size) true))
   | _=>none
  | _,_=>none
 | .convert s t x=>ob (X x) fun v=>match v with
  | .bs l=>ob (P.underlying s) fun _=>ob (P.underlying t) fun d=>match d with
   | .slice el=>ob (P.underlying el) fun de=>match de with
    | .int .u8=>some (decide (l.length≤140737488355328),.slg ni l.length 1,.cells el .leaf (.rows 1 (byteRow l)) l.length true)
    | _=>none
   | _=>none
  | _=>none
 | _=>none
noncomputable def evNew (P:Program) (X:Operand→Option AV) (ni:Nat) (op:Op):Option (AV×AObj) :=
 Option.rec (motive:=fun _=>Option (AV×AObj)) (evNew3 P X ni op) (fun r=>cond r.1 (some r.2) (evNew3 P X ni op)) (sNew P X ni op)
theorem Zlk {P:Program} {X:Operand→Option AV} {ni:Nat} {op:Op} {a:AV×AObj} (h:sNew P X ni op=some (true,a)):evNew P X ni op=some a:=by
 unfold evNew;rw [h];rfl
theorem Zl5 {P:Program} {X:Operand→Option AV} {ni:Nat} {op:Op} {a:AV×AObj} (h:sNew P X ni op=none) (h3:evNew3 P X ni op=some a):evNew P X ni op=some a:=by
 unfold evNew;rw [h];exact h3
theorem Zjj {P:Program} {ρ:Ren} {w:World} {X:Operand→Option AV} {f:Operand→Value} (hX:XR ρ X f) {ni:Nat}
  (o:Oper) {a:AV} {ob':AObj} (hev:sNew P X ni o.op=some (true,a,ob')):Makes P w ρ ni (execOp f o) a ob':=by
 obtain ⟨dst,op,type,pos,after,guard⟩:=o
 simp only at hev
 cases op <;> simp only [sNew] at hev <;> first | (cases hev;done) | skip
 case makeSlice t l c =>
  obtain ⟨lv,hlv,h1⟩:=Za.1 hev
  obtain ⟨cv,hcv,h2⟩:=Za.1 h1
  clear hev h1
  have rl:=hX _ _ hlv
  have rc:=hX _ _ hcv
  split at h2
  ·rename_i kl n km m
   obtain ⟨d,hd,h5⟩:=Za.1 h2
   clear h2
   generalize hfl:f l=vl at rl
   generalize hfc:f c=vc at rc
   cases rl;cases rc
   cases d with
   | slice el =>
    obtain ⟨i,hi,h6⟩:=Za.1 h5
    obtain ⟨cs,hcs,h8⟩:=Za.1 h6
    obtain ⟨hz,h9⟩:=Zb.1 h8
    clear h5 h6 h8
    injection h9 with h9;injection h9 with hb h10;injection h10 with h10 h11;subst h10;subst h11
    simp only [decide_eq_true_eq] at hb
    obtain ⟨hb1,hb2,hb3,hb4⟩:=hb
    rw [Bool.and_eq_true,Nat.blt_eq,Nat.beq_eq] at hz
    obtain ⟨z,hzr,hr⟩:=Vb (P:=P) hcs (w:World)
    have hsz:z.cells.size=i.size:=by have:=(hr ρ).length;simp at this;omega
    obtain ⟨ln,rfl⟩:∃ q:Nat,n=q:=⟨n.toNat,by omega⟩
    obtain ⟨cn,rfl⟩:∃ q:Nat,m=q:=⟨m.toNat,by omega⟩
    rw [Int.toNat_natCast]
    have hle:ln * i.size≤cn * i.size:=Nat.mul_le_mul_right _ (by omega)
    refine ⟨.slice (some ⟨w.heap.size,0,none⟩) ln cn,w,.cells ((Array.range (cn * i.size)).map (fun j=>z.cells[j % z.cells.size]!)) el,cn * i.size,?_,.inl rfl,?_,?_⟩
    ·refine ZU ?_
     have e1:IntKind.i64.wrap (ln:Int)=ln:=Uh (by omega) (by omega)
     have e2:IntKind.i64.wrap (cn:Int)=cn:=Uh (by omega) (by omega)
     have e3:¬ ((i.bytes:Int) * (cn:Int) > 281474976710656):=by omega
     have e4:¬ ((ln:Int) > (cn:Int)):=by omega
     have hcz:P.cellsOf el=i.size:=by simp [Program.cellsOf,hi]
     have e5:¬ ((cn:Int) < 0∨(ln:Int) < 0):=by omega
     by_cases hn:cn * i.size=0
     ·have hr0:∀ g:Nat→Value,(Array.range (cn * i.size)).map g = #[]:=fun g=>by rw [hn];simp
      rw [hr0]
      have hr1:∀ g:Nat→Value,(Array.range 0).map g = #[]:=fun g=>by simp
      simp [Instr.makeSlice,run_underlying hd,hfl,hfc,asInt,asIntOf,run_typeInfo w hi,e1,e2,e3,e4,e5,run_sizeOf w hi,hcz,hn,newRow,hr1]
     ·simp [Instr.makeSlice,run_underlying hd,hfl,hfc,asInt,asIntOf,run_typeInfo w hi,e1,e2,e3,e4,e5,run_sizeOf w hi,hcz,hn,hzr,newRow]
    ·have hor:=OR.ofZero (b:=w.heap.size) (hr (ρ.put ni ⟨w.heap.size,0,cn * i.size⟩)) el (cn * i.size) (.inr hz.1)
     generalize hco:Obj.cells ((Array.range (cn * i.size)).map (fun j=>z.cells[j % z.cells.size]!)) el=co at hor
     cases hor with
     | cells _ _ _ _ _ cs' fz h1 h2 h3 h4 h5 =>
      refine .cells el .leaf (.rows i.size fun _=>cs) _ true cs' fz h1 hle (by simp) h4 fun k a hk ha=>h5 k a (by omega) ?_
      rw [Zx] at ha ⊢
      show cs[k % cs.length]? = some a
      rw [hz.2];exact ha
    ·have:=VR.slg (ρ:=ρ.put ni ⟨w.heap.size,0,cn * i.size⟩) ni ln i.size ⟨w.heap.size,0,cn * i.size⟩ (Ren.put_same _ _ _) (by omega) hle
     simp only [Nat.mul_div_cancel cn (show 0 < i.size by omega)] at this
     exact this
   | _=>cases h5
  ·cases h2
 case convert s t x =>
  obtain ⟨v,hv,h1⟩:=Za.1 hev
  clear hev
  have hc:=hX _ _ hv
  split at h1
  ·rename_i l
   obtain ⟨ds,hds,h2⟩:=Za.1 h1
   obtain ⟨dt,hdt,h3⟩:=Za.1 h2
   clear h1 h2
   split at h3
   ·rename_i el
    obtain ⟨de,hde,h4⟩:=Za.1 h3
    split at h4
    ·injection h4 with h4;injection h4 with hb h5;injection h5 with h5 h6;subst h5;subst h6
     simp only [decide_eq_true_eq] at hb
     generalize hfx:f x=vx at hc
     cases hc
     let cap:=Question.cut (.appendCap l.length 0 el) (w.tape w.drawn (.appendCap l.length 0 el))
     have hcap:l.length≤cap:=by show l.length≤l.length + _;omega
     let arr:Array Value:=(l.toArray.map fun b=>Value.int .u8 b.toNat) ++ Array.replicate (cap - l.length) (.int .u8 0)
     have hsize:arr.size=cap:=by simp [arr];omega
     refine ⟨.slice (some ⟨w.heap.size,0,none⟩) l.length cap,w.drew,.cells arr el (arr.size,arr.size + 1),cap,?_,.inr rfl,?_,?_⟩
     ·refine ZU ?_
      have hsz:(ByteArray.mk l.toArray).size=l.length:=by show l.toArray.size=_;simp
      have hch:(choose (.appendCap l.length 0 el)).run P w = .ok cap w.drew:=by
       simp [Question.forced,cap]
      have hfr:=JU w.drew arr el
      have hrun:(Conv.stringToBytes el ⟨l.toArray⟩).run P w = .ok (.slice (some ⟨w.heap.size,0,none⟩) l.length cap) (w.drew.alloc (.cells arr el (arr.size,arr.size + 1))):=by
       rw [← hfr]
       unfold Conv.stringToBytes
       rw [hsz]
       simp only [Sem.run_bind,hch,Result.andThen_ok]
       have hsh:=GP w.drew arr el
       simp only [newRow,Sem.run_bind,run_newObj,Result.andThen_ok,Sem.run_pure,markStringish,run_shape]
       have hsh':World.shape? { w.drew with heap:=w.drew.heap.push (.cells arr el) } w.drew.heap.size=some (el,arr.size):=hsh
       rw [hsh']
       rfl
      rw [hfx]
      simp only [convert,Sem.run_bind,run_underlying hds,run_underlying hdt,Result.andThen_ok,run_underlying hde]
      cases ds <;> simp [hrun]
     ·refine .cells el .leaf (.rows 1 (byteRow l)) l.length true arr (arr.size,arr.size + 1) (by simp [hsize]) hcap (by simp) (.inr (Nat.le_refl _)) fun k a hk ha=>?_
      rw [Zx,Qi (i:=k) (j:=0) (by decide) k (by omega)] at ha
      injection ha with ha;subst ha
      refine ⟨_,?_,.int _ _⟩
      simp only [Nat.zero_add]
      show ((l.toArray.map fun b=>Value.int .u8 b.toNat) ++ Array.replicate (cap - l.length) (.int .u8 0))[k]? = _
      rw [Array.getElem?_append,if_pos (by simpa using hk)]
      simp [List.getD,hk]
     ·have:=VR.slg (ρ:=ρ.put ni ⟨w.heap.size,0,cap⟩) ni l.length 1 ⟨w.heap.size,0,cap⟩ (Ren.put_same _ _ _) (by decide) (by simpa using hcap)
      simpa using this
    ·cases h4
   ·cases h3
  ·cases h1
theorem Qp {P:Program} {ρ:Ren} {w:World} {X:Operand→Option AV} {f:Operand→Value} (hX:XR ρ X f) {ni:Nat} (hni:ρ ni=none)
  (o:Oper) {a:AV} {ob':AObj} (hev:evNew P X ni o.op=some (a,ob')):Makes P w ρ ni (execOp f o) a ob':=by
 cases hsp:sNew P X ni o.op with
 | none =>
  have h1:evNew P X ni o.op=evNew3 P X ni o.op:=by unfold evNew;rw [hsp]
  rw [h1] at hev
  exact KA hX hni o hev
 | some p =>
  obtain ⟨b,a'⟩:=p
  have h1:evNew P X ni o.op=cond b (some a') (evNew3 P X ni o.op):=by unfold evNew;rw [hsp]
  rw [h1] at hev
  cases b with
  | true =>
   injection hev with hev;subst hev
   exact Zjj hX o hsp
  | false=>exact KA hX hni o hev
end Go.Ev
end
section
/- The evaluator, part H: operations that write: stores, entries of maps, append, copy, delete. -/
namespace Go.Ev
def Yield (P:Program) (s:Sem Next) (w:World) (v:Value) (w':World):Prop :=
 s.run P w = .ok (.value v) w'∨(s.run P w = .ok .skip w'∧v=undef)
def World.putB (w:World) (b:Nat) (o:Obj):World:={ w with heap:=w.heap.setIfInBounds b o }
theorem YY (w:World) (b:Nat) (o o0:Obj) (h:w.heap[b]? = some o0) (k:Nat):(World.putB w b o).heap[k]? = if k=b then some o else w.heap[k]?:=by
 have hb:=YJ h
 unfold World.putB
 by_cases hk:k=b
 ·subst hk;rw [if_pos rfl];simp [hb]
 ·rw [if_neg hk]
  show (w.heap.setIfInBounds b o)[k]? = _
  rw [Array.getElem?_setIfInBounds_ne (fun e=>hk e.symm)]
theorem Ze3 (w:World) (b off:Nat) (v:Value) (cs:Array Value) (el:TypeId) (fz:Nat×Nat) (h:w.heap[b]? = some (.cells cs el fz)) :
  w.setCell ⟨b,off,none⟩ v=World.putB w b (.cells (cs.setIfInBounds off v) el fz):=by
 unfold World.setCell World.putB
 congr 1
 apply Array.ext_getElem?
 intro i
 have hb:=YJ h
 rw [Array.getElem?_modify]
 by_cases hi:b=i
 ·subst hi;rw [if_pos rfl,h];simp [hb]
 ·rw [if_neg hi,Array.getElem?_setIfInBounds_ne hi]
theorem Zm3 (w:World) (b:Nat) (o o':Obj):World.putB (World.putB w b o) b o'=World.putB w b o':=by
 unfold World.putB;simp
theorem Xj {P:Program} (b o:Nat) (el:TypeId) (fz:Nat×Nat):∀ (vs:List Value) (i:Nat) (cs:Array Value) (w:World),w.heap[b]? = some (.cells cs el fz)→fzOk cs fz →
  o + i + vs.length≤cs.size→(∀ v∈vs,v.oneCell'=true)→∃ cs',(storeCells ⟨b,o,none⟩ vs i).run P w = .ok () (World.putB w b (.cells cs' el fz))∧cs'.size=cs.size ∧
   ∀ j,cs'[j]? = if o + i≤j∧j < o + i + vs.length then vs[j - (o + i)]? else cs[j]?
 | [],i,cs,w,h,_,_,_=>by
  refine ⟨cs,?_,rfl,fun j=>by rw [if_neg (by simp)]⟩
  have:World.putB w b (.cells cs el fz)=w:=by
   unfold World.putB
   congr 1
   apply Array.ext_getElem?
   intro k
   by_cases hk:b=k
   ·subst hk;rw [h];simp [YJ h]
   ·rw [Array.getElem?_setIfInBounds_ne hk]
  simp [storeCells,this]
 | v :: vs,i,cs,w,h,hfz,hb,h1=>by
  simp only [List.length_cons] at hb
  have hv:=h1 v (by simp)
  have hcell:w.cell? ⟨b,o + i,none⟩=some cs[o + i]:=by
   have:cs[o + i]? = some cs[o + i]:=Array.getElem?_eq_getElem (by omega)
   simp [World.cell?,h,this]
  have hfr:w.frozen? ⟨b,o + i,none⟩=false:=by
   simp only [World.frozen?,h]
   rcases hfz with hz | hz
   ·subst hz;simp
   ·simp;omega
  have hst:(store ⟨b,o + i,none⟩ v).run P w = .ok () (World.putB w b (.cells (cs.setIfInBounds (o + i) v) el fz)):=by
   rw [run_store P w _ v .plain hv,hcell]
   simp only [hfr,Bool.false_eq_true,if_false]
   rw [Ze3 w b (o + i) v cs el fz h]
  have h2:=YY w b (.cells (cs.setIfInBounds (o + i) v) el fz) _ h b
  rw [if_pos rfl] at h2
  obtain ⟨cs',e1,e2,e3⟩:=Xj (P:=P) b o el fz vs (i + 1) (cs.setIfInBounds (o + i) v) _ h2
   (by rcases hfz with hz | hz;exact .inl hz;exact .inr (by simpa using hz)) (by simp;omega) (fun u hu=>h1 u (by simp [hu]))
  refine ⟨cs',?_,by simpa using e2,fun j=>?_⟩
  ·simp only [storeCells,Zq,Sem.run_bind,hst,Result.andThen_ok,e1,Zm3]
  ·rw [e3 j]
   simp only [List.length_cons]
   by_cases h4:o + (i + 1)≤j∧j < o + (i + 1) + vs.length
   ·rw [if_pos h4,if_pos (by omega),show j - (o + i)=(j - (o + (i + 1))) + 1 by omega];simp
   ·rw [if_neg h4]
    by_cases h5:j=o + i
    ·subst h5
     rw [if_pos (by omega),Nat.sub_self,Array.getElem?_setIfInBounds_self_of_lt (by omega)]
     rfl
    ·rw [if_neg (by omega),Array.getElem?_setIfInBounds_ne (by omega)]
noncomputable def writeL (l:List AV):Tr AV→Nat→Tr AV :=
 List.rec (motive:=fun _=>Tr AV→Nat→Tr AV) (fun c _=>c) (fun a _ ih c k=>fN (k + 1) fun k'=>ih (c.set k a) k') l
theorem Zbx (z:CB):∀ (l:List AV) (c:Tr AV) (k j:Nat),cellOf (writeL l c k) z j=if k≤j∧j < k + l.length then l[j - k]? else cellOf c z j
 | [],c,k,j=>by rw [if_neg (by simp)];rfl
 | a :: l,c,k,j=>by
  show cellOf (fN (k + 1) fun k'=>writeL l (c.set k a) k') z j=_
  rw [Zt,Zbx z l (c.set k a) (k + 1) j]
  simp only [List.length_cons]
  by_cases h4:k + 1≤j∧j < k + 1 + l.length
  ·rw [if_pos h4,if_pos (by omega),show j - k=(j - (k + 1)) + 1 by omega];simp
  ·rw [if_neg h4]
   by_cases h5:j=k
   ·subst h5
    rw [if_pos (by omega),Nat.sub_self,GT];rfl
   ·rw [if_neg (by omega),Zc8 _ _ (fun e=>h5 e.symm)]
noncomputable def evWrite (H:Tr AObj) (id off:Nat) (l:List AV):Option (Tr AObj) :=
 ob (H.get id) fun o=>match o with
  | .cells el c z n op=>gd (Nat.ble (off + l.length) n && l.all AV.one) (some (H.set id (.cells el (writeL l c off) z n op)))
  | _=>none
theorem ZH (H:Tr AObj) (i:Nat) (o:AObj):(H.set i o).get=fun j=>if j=i then some o else H.get j:=by
 funext j
 rw [Tr.get_set]
 by_cases h:i=j
 ·subst h;simp
 ·rw [if_neg h,if_neg (fun e=>h e.symm)]
theorem Ud {P:Program} {E:Env} {F:Nat→Option Obj} {nx:Nat} {ρ:Ren} {w:World} {H H':Tr AObj} (r:Rel E F nx ρ H.get w)
  {id off:Nat} {l:List AV} {vs:List Value} {b:Blk} (hb:ρ id=some b) (hl:VRL ρ l vs) (hev:evWrite H id off l=some H') :
  ∃ w',(storeCells ⟨b.b,b.ob + off,none⟩ vs).run P w = .ok () w'∧Rel E F nx ρ H'.get w':=by
 obtain ⟨o,ho,h1⟩:=Za.1 hev
 clear hev
 cases o with
 | cells el c z n op =>
  obtain ⟨hc,h2⟩:=Zb.1 h1
  injection h2 with h2;subst h2
  rw [Bool.and_eq_true,Nat.ble_eq,List.all_eq_true] at hc
  obtain ⟨hc1,hc2⟩:=hc
  obtain ⟨oc,hoc,hor⟩:=r.ob _ _ b ho hb
  have hlen:=hl.length
  cases hor with
  | cells _ _ _ _ _ cs fz hsize hn hop hfz hcell =>
   have h1:∀ v∈vs,v.oneCell'=true:=by
    intro v hv
    obtain ⟨i,hi,rfl⟩:=List.getElem_of_mem hv
    have hil:i < l.length:=by omega
    have:=hl.get2 (List.getElem?_eq_getElem hil) (List.getElem?_eq_getElem hi)
    rw [this.one]
    exact hc2 _ (List.getElem_mem hil)
   obtain ⟨cs',e1,e2,e3⟩:=Xj (P:=P) b.b (b.ob + off) el fz vs 0 cs w hoc hfz (by omega) h1
   refine ⟨_,e1,?_⟩
   have hor':OR ρ b (.cells el (writeL l c off) z n op) (.cells cs' el fz):=by
    refine .cells el _ z n op cs' fz (by omega) hn hop (by rcases hfz with hz | hz;exact .inl hz;exact .inr (by omega)) fun k a hk ha=>?_
    rw [Zbx] at ha
    by_cases hko:off≤k∧k < off + l.length
    ·rw [if_pos hko] at ha
     obtain ⟨v,hv,hr⟩:=hl.get _ a ha
     refine ⟨v,?_,hr⟩
     rw [e3,if_pos (by omega),← hv]
     congr 1;omega
    ·rw [if_neg hko] at ha
     obtain ⟨v,hv,hr⟩:=hcell k a hk ha
     exact ⟨v,by rw [e3,if_neg (by omega)];exact hv,hr⟩
   have:=r.put (w':=World.putB w b.b (.cells cs' el fz)) ho hb hor' (YY w b.b _ _ hoc) rfl rfl rfl
   rw [ZH]
   exact this
 | _=>cases h1
noncomputable def evStore (P:Program) (H:Tr AObj) (t:TypeId) (x v:AV):Option (Tr AObj) :=
 match x with
 | .ptr id off=>ob (P.info? t) fun i=>gd (Nat.beq v.cells.length i.size) (evWrite H id off v.cells)
 | _=>none
theorem Zc2 {P:Program} {E:Env} {F:Nat→Option Obj} {nx:Nat} {ρ:Ren} {w:World} {H H':Tr AObj} (r:Rel E F nx ρ H.get w)
  {t:TypeId} {x v:AV} {u z:Value} (hx:VR ρ x u) (hv:VR ρ v z) (hev:evStore P H t x v=some H') :
  ∃ w',(Instr.storeAt t u z).run P w = .ok () w'∧Rel E F nx ρ H'.get w':=by
 unfold evStore at hev
 split at hev
 ·obtain ⟨i,hi,h1⟩:=Za.1 hev
  obtain ⟨hs,h2⟩:=Zb.1 h1
  rw [Nat.beq_eq] at hs
  cases hx with
  | ptr _ _ b hb =>
   have hcl:=hv.cells
   obtain ⟨w',h3,h4⟩:=Ud (P:=P) r hb hcl h2
   refine ⟨w',?_,h4⟩
   have hsz:z.cells.size=P.cellsOf t:=by
    have:=hcl.length
    simp [Program.cellsOf,hi] at this ⊢;omega
   simp [Instr.storeAt,Instr.sureAddr,storeVar,run_sizeOf w hi,hsz,h3]
 ·cases hev
theorem ERL.append {ρ:Ren}:∀ {l l':List AEnt} {es es':List MapEntry},ERL ρ l es→ERL ρ l' es'→ERL ρ (l ++ l') (es ++ es')
 | _,_,_,_,.nil,h'=>h'
 | _,_,_,_,.cons a e l es h hs,h'=>.cons _ _ _ _ h (hs.append h')
theorem ERL.modify {ρ:Ren} {f:AEnt→AEnt} {g:MapEntry→MapEntry} (hf:∀ a e,ER ρ a e→ER ρ (f a) (g e)):∀ {l:List AEnt} {es:List MapEntry} (i:Nat),ERL ρ l es →
  ERL ρ (l.modify i f) (es.modify i g)
 | _,_,_,.nil=>by simp;exact .nil
 | _,_,0,.cons a e l es h hs=>by simp;exact .cons _ _ _ _ (hf _ _ h) hs
 | _,_,i + 1,.cons a e l es h hs=>by simp;exact .cons _ _ _ _ h (ERL.modify hf i hs)
theorem GR {kd:TypeDesc} {u v:Value} (h:Instr.sameNow kd u v=some true):Instr.sameBits 10000 v u=true:=by
 unfold Instr.sameNow at h
 split at h
 ·split at h
  ·rename_i hk
   subst hk
   simp at h
   simp [Instr.sameBits,h]
  ·cases h
 ·rename_i a b
  have h':(a == b)=true:=by simpa using h
  rw [beq_toListBytes,beq_iff_eq] at h'
  show (b == a)=true
  rw [beq_toListBytes,beq_iff_eq];exact h'.symm
 ·simp at h;simp [Instr.sameBits,h]
 ·cases h
theorem JV {kd:TypeDesc} {u:Value}:∀ (l:List MapEntry) (i j:Nat) (v:Value),Instr.findNow kd u l i=some (some (j,v)) →
  i≤j∧∃ e,l[j - i]? = some e∧Instr.sameNow kd u e.key=some true
 | [],i,j,v,h=>by simp [Instr.findNow] at h
 | e :: es,i,j,v,h=>by
  simp only [Instr.findNow] at h
  split at h
  ·rename_i hs
   injection h with h;injection h with h;injection h with h1 h2
   subst h1
   exact ⟨Nat.le_refl _,e,by simp,hs⟩
  ·obtain ⟨h1,e',h2,h3⟩:=JV es (i + 1) j v h
   refine ⟨by omega,e',?_,h3⟩
   rw [show j - i=(j - (i + 1)) + 1 by omega];simpa using h2
  ·cases h
noncomputable def evMapSet (P:Program) (H:Tr AObj) (t:TypeId) (m k v:AV):Option (Tr AObj) :=
 ob (P.underlying t) fun d=>match d,m with
  | .map key _,.map id=>ob (P.underlying key) fun kd=>gd (keyD kd) (ob (H.get id) fun o=>match o with
   | .map es clock=>ob (findK kd k es 0) fun r=>match r with
    | some p=>some (H.set id (.map (es.modify p.1 fun e=>{ e with key:=k,val:=v }) clock))
    | none=>fN (clock + 1) fun c'=>some (H.set id (.map (es ++ [⟨k,v,clock⟩]) c'))
   | _=>none)
  | _,_=>none
theorem Vq {P:Program} {E:Env} {F:Nat→Option Obj} {nx:Nat} {ρ:Ren} {w:World} {H H':Tr AObj} (r:Rel E F nx ρ H.get w)
  {t:TypeId} {m k v:AV} {um uk uv:Value} (hm:VR ρ m um) (hk:VR ρ k uk) (hv:VR ρ v uv) (hev:evMapSet P H t m k v=some H') :
  ∃ w',(Instr.mapUpdate t um uk uv).run P w = .ok () w'∧Rel E F nx ρ H'.get w':=by
 obtain ⟨d,hd,h1⟩:=Za.1 hev
 clear hev
 split at h1
 ·rename_i key el id
  obtain ⟨kd,hkd,h2⟩:=Za.1 h1
  obtain ⟨hkk,h3⟩:=Zb.1 h2
  obtain ⟨o,ho,h4⟩:=Za.1 h3
  clear h1 h2 h3
  cases o with
  | map es clock =>
   obtain ⟨fr,hfr,h5⟩:=Za.1 h4
   clear h4
   cases hm with
   | map _ b hb =>
    obtain ⟨oc,hoc,hor⟩:=r.ob _ _ b ho hb
    cases hor with
    | map _ _ l hl =>
     obtain ⟨r',hfn,hr'⟩:=Qz hk hl 0 fr hfr
     have hck:=XV (P:=P) hkd hkk false 9999 uk w
     cases fr with
     | some p =>
      obtain ⟨j,val⟩:=p
      injection h5 with h5;subst h5
      obtain ⟨z,hz,_⟩:=hr'
      subst hz
      obtain ⟨_,e0,he0,hsame⟩:=JV l 0 j z hfn
      rw [Nat.sub_zero] at he0
      have hstay:(Instr.keyThatStays (((l.toArray[j]?).map (·.key)).getD uk) uk).run P w = .ok uk w:=by
       simp [he0,Instr.keyThatStays,GR hsame]
      refine ⟨World.putB w b.b (.map (l.toArray.modify j fun e=>{ e with key:=uk,val:=uv }) clock),?_,?_⟩
      ·simp only [Instr.mapUpdate,Sem.run_bind,run_underlying hd,Result.andThen_ok]
       simp only [getObj,Sem.run,hoc,Result.andThen_ok,Sem.run_bind,hck,Instr.findKey,run_underlying hkd,hfn,Sem.run_pure,hstay]
       simp [setObj,Sem.run,hoc,World.putB]
      ·have hor':OR ρ b (.map (es.modify j fun e=>{ e with key:=k,val:=v }) clock) (.map (l.toArray.modify j fun e=>{ e with key:=uk,val:=uv }) clock):=by
        have:=OR.map (ρ:=ρ) (b:=b) _ clock _ (hl.modify (f:=fun e=>{ e with key:=k,val:=v }) (g:=fun e=>{ e with key:=uk,val:=uv }) (fun a e h=>⟨hk,hv,h.2.2⟩) j)
        simpa using this
       have:=r.put (w':=World.putB w b.b (.map (l.toArray.modify j fun e=>{ e with key:=uk,val:=uv }) clock)) ho hb hor' (YY w b.b _ _ hoc) rfl rfl rfl
       rw [ZH];exact this
     | none =>
      have h6:(fN (clock + 1) fun c'=>some (H.set id (.map (es ++ [⟨k,v,clock⟩]) c')))=some H':=h5
      rw [Zt] at h6
      injection h6 with h6;subst h6
      have hr0:r'=none:=hr'
      subst hr0
      refine ⟨World.putB w b.b (.map (l.toArray.push { key:=uk,val:=uv,born:=clock }) (clock + 1)),?_,?_⟩
      ·simp only [Instr.mapUpdate,Sem.run_bind,run_underlying hd,Result.andThen_ok]
       simp only [getObj,Sem.run,hoc,Result.andThen_ok,Sem.run_bind,hck,Instr.findKey,run_underlying hkd,hfn,Sem.run_pure]
       simp [setObj,Sem.run,hoc,World.putB]
      ·have hor':OR ρ b (.map (es ++ [⟨k,v,clock⟩]) (clock + 1)) (.map (l.toArray.push { key:=uk,val:=uv,born:=clock }) (clock + 1)):=by
        have:=OR.map (ρ:=ρ) (b:=b) _ (clock + 1) _ (hl.append (.cons ⟨k,v,clock⟩ { key:=uk,val:=uv,born:=clock } [] [] ⟨hk,hv,rfl⟩ .nil))
        simpa using this
       have:=r.put (w':=World.putB w b.b (.map (l.toArray.push { key:=uk,val:=uv,born:=clock }) (clock + 1))) ho hb hor' (YY w b.b _ _ hoc) rfl rfl rfl
       rw [ZH];exact this
  | _=>cases h4
 ·cases h1
end Go.Ev
end
section
/- The evaluator, part I: append and copy; all operations that write. -/
namespace Go.Ev
noncomputable def evSrc (H:Tr AObj) (size:Nat) (x:AV):Option (Nat×List AV) :=
 match x with
 | .sl0=>some (0,[])
 | .sl id off n _=>ob (evCells H id off (n * size)) fun l=>some (n,l)
 | .slo id off n _=>ob (evCells H id off (n * size)) fun l=>some (n,l)
 | .sle _=>some (0,[])
 | .str l n=>gd (Nat.beq size 1) (some (l,(List.range l).map fun i=>.int .u8 (.ofNat (n / 256 ^ i % 256))))
 | _=>none
theorem GA {P:Program} {E:Env} {F:Nat→Option Obj} {nx:Nat} {ρ:Ren} {h:Nat→Option AObj} {w:World} {H:Tr AObj} (r:Rel E F nx ρ h w) (hs:HS ρ H h)
  {size n:Nat} {x:AV} {u:Value} {l:List AV} (hx:VR ρ x u) (hev:evSrc H size x=some (n,l)) :
  ∃ vs:List Value,VRL ρ l vs∧vs.length=n * size∧∀ w':World,(∀ a,w'.cell? a=w.cell? a)→(Builtin.lenOf u).run P w' = .ok n w'∧(Builtin.firstCells size n u).run P w' = .ok vs.toArray w':=by
 unfold evSrc at hev
 split at hev
 ·injection hev with hev;injection hev with h1 h2;subst h1;subst h2
  cases hx
  exact ⟨[],.nil,by simp,fun w' _=>⟨by simp [Builtin.lenOf],by simp [Builtin.firstCells]⟩⟩
 ·obtain ⟨l',hl,h1⟩:=Za.1 hev
  injection h1 with h1;injection h1 with h1 h2;subst h1;subst h2
  cases hx with
  | sl _ _ _ _ b hb =>
   obtain ⟨vs,h1,h2,h3⟩:=Zw r hs hb hl
   refine ⟨vs,h1,h2,fun w' hw=>⟨by simp [Builtin.lenOf],?_⟩⟩
   have:=run_loadCells_list (P:=P) w' ⟨b.b,b.ob + _,none⟩ vs (fun j v hj=>by rw [hw];exact h3 j v hj)
   rw [h2] at this
   simp [Builtin.firstCells,this]
 ·obtain ⟨l',hl,h1⟩:=Za.1 hev
  injection h1 with h1;injection h1 with h1 h2;subst h1;subst h2
  cases hx with
  | slo _ _ _ _ b hb he hle =>
   obtain ⟨vs,h1,h2,h3⟩:=Zw r hs hb hl
   refine ⟨vs,h1,h2,fun w' hw=>⟨by simp [Builtin.lenOf],?_⟩⟩
   have:=run_loadCells_list (P:=P) w' ⟨b.b,b.ob + _,none⟩ vs (fun j v hj=>by rw [hw];exact h3 j v hj)
   rw [h2] at this
   simp [Builtin.firstCells,this]
 ·injection hev with hev;injection hev with h1 h2;subst h1;subst h2
  cases hx with
  | sle _ b o c hb =>
   refine ⟨[],.nil,by simp,fun w' hw=>⟨by simp [Builtin.lenOf],?_⟩⟩
   have:=run_loadCells_list (P:=P) w' ⟨b.b,o,none⟩ [] (fun j v hj=>by simp at hj)
   simpa [Builtin.firstCells] using this
 ·obtain ⟨hz,h1⟩:=Zb.1 hev
  rw [Nat.beq_eq] at hz;subst hz
  injection h1 with h1;injection h1 with h1 h2;subst h1;subst h2
  rename_i n m
  cases hx with
  | str _ _ hn =>
   refine ⟨_,Zdr _ _,by simp [Yl],fun w' _=>⟨by simp [Builtin.lenOf,YZ],?_⟩⟩
   simp only [Builtin.firstCells,Sem.run_pure]
   congr 1
   apply Array.ext'
   rw [Array.toList_map]
   have:((bstr n m).extract 0 n).data.toList=bytesL n m:=by
    rw [Lib.extract_data,Wm]
    simp [List.take_of_length_le,Yl]
   rw [this]
 ·cases hev
def srcD:TypeDesc→Bool
 | .slice _=>true
 | .string=>true
 | _=>false
noncomputable def appNew (ni:Nat) (el size need:Nat) (cs:List AV) (H:Tr AObj):Option (AV×Tr AObj) :=
 fN need fun need=>fN (need * size) fun n=>some (.slo ni 0 need size,H.set ni (.cells el .leaf (.per cs) n true))
noncomputable def elemIs (H:Tr AObj) (id el:Nat):Bool :=
 match H.get id with
 | some (.cells e _ _ _ _)=>Nat.beq e el
 | _=>false
noncomputable def evAppend (P:Program) (H:Tr AObj) (ni:Nat) (ts:List TypeId) (xs:List AV):Option (AV×Tr AObj) :=
 match ts,xs with
 | [t,tx],[s,x]=>ob (P.underlying t) fun d=>match d with
  | .slice el=>ob (P.underlying tx) fun dx=>gd (srcD dx) (ob (P.info? el) fun i=>ob i.zero fun z=>gd (Nat.blt 0 i.size && Nat.beq z.cells.size i.size) (ob (evSrc H i.size x) fun src =>
    match s with
    | .sl0=>cond (Nat.beq src.1 0) (some (.sl0,H))
      (gd (src.2.all AV.one && Nat.ble src.1 9223372036854775807 && Nat.ble (src.1 * i.bytes) 140737488355328) (appNew ni el i.size src.1 src.2 H))
    | .sl id off len cap=>cond (Nat.ble (len + src.1) cap) (ob (evWrite H id (off + len * i.size) src.2) fun H'=>fN (len + src.1) fun need=>some (.sl id off need cap,H'))
      (gd (src.2.all AV.one && Nat.ble (len + src.1) 9223372036854775807 && Nat.ble ((len + src.1) * i.bytes) 140737488355328)
       (ob (evCells H id off (len * i.size)) fun old=>appNew ni el i.size (len + src.1) (old ++ src.2) H))
    | .slo id off len esz=>gd (Nat.beq esz i.size) (cond (Nat.beq src.1 0) (some (.slo id off len esz,H))
      (gd (src.2.all AV.one && Nat.ble (len + src.1) 9223372036854775807 && Nat.ble ((len + src.1) * i.bytes) 140737488355328)
       (gd (elemIs H id el) (ob (evCells H id off (len * i.size)) fun old=>appNew ni el i.size (len + src.1) (old ++ src.2) (H.del id)))))
    | _=>none))
  | _=>none
 | _,_=>none
set_option maxHeartbeats 1000000 in
theorem XL {P:Program} {t tx ty el:TypeId} {dx:TypeDesc} {i:TypeInfo} (ht:P.underlying t=some (.slice el)) (htx:P.underlying tx=some dx) (hsd:srcD dx=true) (hi:P.info? el=some i)
  {base:Option Addr} {len cap n:Nat} {u:Value} {vs:List Value} {w w':World} (hl:(Builtin.lenOf u).run P w = .ok n w) (hc:(Builtin.firstCells i.size n u).run P w = .ok vs.toArray w)
  (hroom:len + n≤cap) (hst:match base with | none=>w'=w | some a=>(storeCells (a.add (len * i.size)) vs).run P w = .ok () w') :
  (Builtin.append_ #[t,tx] ty #[.slice base len cap,u]).run P w = .ok (.slice base (len + n) cap) w':=by
 cases base with
 | none =>
  simp only at hst;subst hst
  cases dx <;> first
   | (cases hsd;done)
   | simp [Builtin.append_,run_underlying ht,run_underlying htx,sizeOf,typeInfo,hi,hl,hc,hroom]
 | some a =>
  simp only at hst
  cases dx <;> first
   | (cases hsd;done)
   | simp [Builtin.append_,run_underlying ht,run_underlying htx,sizeOf,typeInfo,hi,hl,hc,hroom,hst]
set_option maxHeartbeats 1000000 in
theorem XQ {P:Program} {t tx ty el:TypeId} {dx:TypeDesc} {i:TypeInfo} {z:Value} (ht:P.underlying t=some (.slice el)) (htx:P.underlying tx=some dx) (hsd:srcD dx=true)
  (hi:P.info? el=some i) (hz:i.zero=some z) {base:Option Addr} {len cap n:Nat} {u:Value} {olds vs:List Value} {w:World} (hl:(Builtin.lenOf u).run P w = .ok n w)
  (ho:(Builtin.firstCells i.size len (.slice base len cap)).run P w.drew = .ok olds.toArray w.drew) (hc:(Builtin.firstCells i.size n u).run P w.drew = .ok vs.toArray w.drew)
  (hroom:cap < len + n) (h63:len + n≤9223372036854775807) (hb:(len + n) * i.bytes≤140737488355328) :
  (Builtin.append_ #[t,tx] ty #[.slice base len cap,u]).run P w = .ok (.slice (some ⟨w.heap.size,0,none⟩) (len + n) (grownCap w (len + n) cap el))
   (w.drew.alloc (.cells ((olds ++ vs).toArray ++ Builtin.zeroCells z.cells (grownCap w (len + n) cap el - (len + n))) el)):=by
 have hn:¬ (len + n≤cap):=by omega
 have h63':¬ (9223372036854775807 < ((len:Int) + (n:Int))):=by omega
 have h48:=growslice_fits hroom hb
 have h48':¬ (281474976710656 < Builtin.nextslicecap (len + n) cap * i.bytes):=by omega
 cases dx <;> first
  | (cases hsd;done)
  | skip
 all_goals
  simp [Builtin.append_,run_underlying ht,run_underlying htx,sizeOf,typeInfo,zeroValue,hi,hz,hl,hn,h63',h48',Question.forced,ho,hc,newRow,grownCap]
  congr 2
  apply Array.ext'
  simp [List.append_assoc]
theorem Ql (z:Array Value) (n:Nat):(Builtin.zeroCells z n).size=n * z.size:=by simp [Builtin.zeroCells]
theorem UP {E:Env} {F:Nat→Option Obj} {nx nx':Nat} {ρ:Ren} {h:Nat→Option AObj} {w:World} (r:Rel E F nx ρ h w)
  {ni:Nat} (hni:ρ ni=none) (hnx:nx≤nx') (hni':ni < nx') {el size need:Nat} {cs:List AV} {vs:List Value} {H0 H':Tr AObj} {a:AV} (hsz:0 < size) (hcs:VRL ρ cs vs) (hlen:cs.length=need * size)
  (hH:∀ i o,H0.get i=some o→h i=some o) (hev:appNew ni el size need cs H0=some (a,H')) {cap:Nat} (hcap:need≤cap) (zs:Array Value) (hzs:zs.size=(cap - need) * size) :
  ∃ ρ',Rel E F nx' ρ' H'.get (w.drew.alloc (.cells (vs.toArray ++ zs) el))∧(ρ.le ρ'∧∀ x,x≠ni→ρ' x=ρ x)∧VR ρ' a (.slice (some ⟨w.heap.size,0,none⟩) need cap):=by
 simp only [appNew,Zt] at hev
 injection hev with hev;injection hev with h1 h2;subst h1;subst h2
 have hlv:=hcs.length
 have hmul:(cap - need) * size=cap * size - need * size:=Nat.sub_mul _ _ _
 have hle:need * size≤cap * size:=Nat.mul_le_mul_right _ hcap
 have hor:OR (ρ.put ni ⟨w.heap.size,0,cap * size⟩) ⟨w.heap.size,0,cap * size⟩ (.cells el .leaf (.per cs) (need * size) true) (.cells (vs.toArray ++ zs) el (0,0)):=by
  refine .cells el .leaf (.per cs) (need * size) true _ (0,0) (by simp [hzs];omega) hle (by simp) (.inl rfl) fun k b hk hb=>?_
  unfold cellOf at hb
  rw [Tr.get_leaf] at hb
  have hb':cs[k]? = some b:=by
   have:cs[k % cs.length]? = some b:=hb
   rwa [Nat.mod_eq_of_lt (by omega)] at this
  obtain ⟨v,hv,hr⟩:=(hcs.mono (Ren.le_put hni ⟨w.heap.size,0,cap * size⟩)).get k b hb'
  refine ⟨v,?_,hr⟩
  simp only [Nat.zero_add]
  rw [Array.getElem?_append,if_pos (by simp;omega)]
  simpa using hv
 obtain ⟨h1,h2⟩:=(r.drew.less (h':=H0.get) hH).alloc hni hnx hni' hor
 refine ⟨ρ.put ni ⟨w.heap.size,0,cap * size⟩,?_,⟨Ren.le_put hni _,fun x hx=>Ren.put_ne hx _⟩,?_⟩
 ·rw [ZH];exact h1
 ·have:=VR.slo (ρ:=ρ.put ni ⟨w.heap.size,0,cap * size⟩) ni 0 need size ⟨w.heap.size,0,cap * size⟩ (Ren.put_same _ _ _) hsz (by simpa using hle)
  simpa [Nat.mul_div_cancel _ hsz] using this
theorem Vv (H:Tr AObj) (i:Nat):∀ j o,(H.del i).get j=some o→H.get j=some o:=fun j o h=>by
 rw [Tr.get_del] at h
 split at h
 ·cases h
 ·exact h
theorem Rel.rename {E:Env} {F:Nat→Option Obj} {nx nx':Nat} {ρ:Ren} {H:Tr AObj} {w w':World} (r:Rel E F nx ρ H.get w)
  {id ni:Nat} {o a:AObj} {b b':Blk} {c:Obj} (hid:H.get id=some o) (hb:ρ id=some b) (hni:ρ ni=none) (hnx:nx≤nx') (hni':ni < nx') (hbb:b'.b=b.b)
  (hor:OR (ρ.put ni b') b' a c) (hw:∀ k,w'.heap[k]? = if k=b.b then some c else w.heap[k]?) (ht:w'.tape=w.tape) (hos:w'.os=w.os) (hout:w'.output=w.output) :
  Rel E F nx' (ρ.put ni b') ((H.del id).set ni a).get w':=by
 have hle:=Ren.le_put (ρ:=ρ) hni b'
 have hne:id≠ni:=fun e=>by subst e;rw [hni] at hb;cases hb
 have hF:=r.dj id o b hid hb
 have hget:∀ j x,((H.del id).set ni a).get j=some x→(j=ni∧x=a)∨(j≠ni∧j≠id∧H.get j=some x):=fun j x hj=>by
  rw [Tr.get_set] at hj
  by_cases h1:ni=j
  ·rw [if_pos h1] at hj;injection hj with hj;exact .inl ⟨h1.symm,hj.symm⟩
  ·rw [if_neg h1,Tr.get_del] at hj
   by_cases h2:id=j
   ·rw [if_pos h2] at hj;cases hj
   ·rw [if_neg h2] at hj;exact .inr ⟨fun e=>h1 e.symm,fun e=>h2 e.symm,hj⟩
 have hput:∀ j,j≠ni→(ρ.put ni b') j=ρ j:=fun j hj=>by simp [Ren.put,hj]
 refine ⟨ht.trans r.tape,hos.trans r.os,hout.trans r.output,?_,?_,?_,?_,?_,fun g l hg=>?_,r.bs,fun k x hk=>?_,fun j x bj hj hbj=>?_,r.sf⟩
 rotate_right
 rotate_right
 rotate_right
 ·rcases hget g _ hg with ⟨rfl,rfl⟩ | ⟨_,_,h3⟩
  ·cases hor
  ·exact r.gl g l h3
 ·have hS:=r.sd id o b hid hb
  rw [hw,if_neg (fun e=>by subst e;rw [show ρ.st b.b=some x from hk] at hS;cases hS)]
  exact r.st k x hk
 ·rcases hget j x hj with ⟨rfl,rfl⟩ | ⟨h1,h2,h3⟩
  ·rw [Ren.put_same] at hbj;cases hbj;rw [hbb];exact r.sd id o b hid hb
  ·rw [hput j h1] at hbj;exact r.sd j x bj h3 hbj
 ·intro k x hk
  rw [hw,if_neg (fun e=>by subst e;rw [hF] at hk;cases hk)]
  exact r.fr k x hk
 ·intro j x bj hj hbj
  rcases hget j x hj with ⟨rfl,rfl⟩ | ⟨h1,h2,h3⟩
  ·rw [Ren.put_same] at hbj;cases hbj
   exact ⟨c,by rw [hw,if_pos hbb],hor⟩
  ·rw [hput j h1] at hbj
   obtain ⟨cj,hcj,hrj⟩:=r.ob j x bj h3 hbj
   refine ⟨cj,?_,hrj.mono hle⟩
   rw [hw,if_neg (fun e=>h2 (r.inj j id x o bj b h3 hid hbj hb e))]
   exact hcj
 ·intro j x bj hj hbj
  rcases hget j x hj with ⟨rfl,rfl⟩ | ⟨h1,h2,h3⟩
  ·rw [Ren.put_same] at hbj;cases hbj;rw [hbb];exact hF
  ·rw [hput j h1] at hbj;exact r.dj j x bj h3 hbj
 ·intro j k x y bj bk hj hk hbj hbk he
  rcases hget j x hj with ⟨rfl,rfl⟩ | ⟨h1,h2,h3⟩ <;> rcases hget k y hk with ⟨rfl,rfl⟩ | ⟨h4,h5,h6⟩
  ·rfl
  ·rw [Ren.put_same] at hbj;cases hbj
   rw [hput k h4] at hbk
   exact absurd (r.inj k id y o bk b h6 hid hbk hb (by rw [← he,hbb])) h5
  ·rw [Ren.put_same] at hbk;cases hbk
   rw [hput j h1] at hbj
   exact absurd (r.inj j id x o bj b h3 hid hbj hb (by rw [he,hbb])) h2
  ·rw [hput j h1] at hbj;rw [hput k h4] at hbk
   exact r.inj j k x y bj bk h3 h6 hbj hbk he
 ·intro j hj
  rw [hput j (by omega)]
  exact r.new j (Nat.le_trans hnx hj)
theorem Kv {ρ:Ren} {l:List AV} {vs:List Value} (h:VRL ρ l vs) (ha:l.all AV.one=true):∀ v∈vs,v.oneCell'=true:=by
 intro v hv
 obtain ⟨i,hi,rfl⟩:=List.getElem_of_mem hv
 have hil:i < l.length:=by rw [h.length];exact hi
 rw [(h.get2 (List.getElem?_eq_getElem hil) (List.getElem?_eq_getElem hi)).one]
 exact List.all_eq_true.1 ha _ (List.getElem_mem hil)
theorem Zb3 {P:Program} {E:Env} {F:Nat→Option Obj} {nx nx':Nat} {ρ:Ren} {w:World} {H H':Tr AObj} (r:Rel E F nx ρ H.get w)
  {ni:Nat} (hni:ρ ni=none) (hnx:nx≤nx') (hni':ni < nx') {ts:List TypeId} {xs:List AV} {us:List Value} {a:AV} (hx:VRL ρ xs us) (hev:evAppend P H ni ts xs=some (a,H')) (ty:TypeId) :
  ∃ v w' ρ',(Builtin.append_ ts.toArray ty us.toArray).run P w = .ok v w'∧Rel E F nx' ρ' H'.get w'∧(ρ.le ρ'∧∀ x,x≠ni→ρ' x=ρ x)∧VR ρ' a v:=by
 unfold evAppend at hev
 split at hev
 ·rename_i t tx s x
  cases hx with
  | cons _ us0 _ _ hs0 hxs=>cases hxs with
   | cons _ ux _ _ hsx hnil =>
    cases hnil
    obtain ⟨d,hd,h1⟩:=Za.1 hev
    clear hev
    cases d with
    | slice el =>
     obtain ⟨dx,hdx,h2⟩:=Za.1 h1
     obtain ⟨hsd,h3⟩:=Zb.1 h2
     obtain ⟨i,hi,h4⟩:=Za.1 h3
     obtain ⟨z,hz,h5⟩:=Za.1 h4
     obtain ⟨hsz,h6⟩:=Zb.1 h5
     obtain ⟨⟨n,l⟩,hsrc,h7⟩:=Za.1 h6
     clear h1 h2 h3 h4 h5 h6
     rw [Bool.and_eq_true,Nat.blt_eq,Nat.beq_eq] at hsz
     obtain ⟨hsz,hzs⟩:=hsz
     obtain ⟨vs,hv1,hv2,hv3⟩:=GA (P:=P) r (HS.refl ρ H) hsx hsrc
     obtain ⟨hl0,hc0⟩:=hv3 w (fun _=>rfl)
     obtain ⟨_,hcd⟩:=hv3 w.drew (fun _=>rfl)
     have hzc:∀ m,(Builtin.zeroCells z.cells m).size=m * i.size:=fun m=>by rw [Ql,hzs]
     cases s with
     | sl0 =>
      cases hs0
      cases hn0:Nat.beq n 0 with
      | true =>
       simp only [hn0,cond_true] at h7
       injection h7 with h7;injection h7 with h7 h8;subst h7;subst h8
       rw [Nat.beq_eq] at hn0
       subst hn0
       refine ⟨_,w,ρ,XL (base:=none) (len:=0) (cap:=0) (ty:=ty) hd hdx hsd hi hl0 hc0 (by omega) rfl,r.nx_le hnx,⟨Ren.le_refl ρ,fun _ _=>rfl⟩,.sl0⟩
      | false =>
       simp only [hn0,cond_false] at h7
       obtain ⟨hg,h8⟩:=Zb.1 h7
       simp only [Bool.and_eq_true,Nat.ble_eq] at hg
       obtain ⟨⟨_,hg2⟩,hg3⟩:=hg
       have hpos:n≠0:=fun e=>by rw [← Nat.beq_eq,hn0] at e;cases e
       have hrun:=XQ (base:=none) (len:=0) (cap:=0) (ty:=ty) (olds:=[]) hd hdx hsd hi hz hl0 (by simp [Builtin.firstCells]) hcd (by omega) (by omega) (by simpa using hg3)
       simp only [Nat.zero_add,List.nil_append] at hrun
       obtain ⟨ρ',h9,h10,h11⟩:=UP r hni hnx hni' hsz hv1 (by rw [hv1.length,hv2]) (fun _ _ h=>h) h8 (cap:=grownCap w n 0 el) (by simp [grownCap,Question.cut]) (Builtin.zeroCells z.cells (grownCap w n 0 el - n)) (hzc _)
       exact ⟨_,_,ρ',hrun,h9,h10,h11⟩
     | sl id off len cap =>
      cases hs0 with
      | sl _ _ _ _ b hb =>
       cases hroom:Nat.ble (len + n) cap with
       | true =>
        simp only [hroom,cond_true] at h7
        obtain ⟨H1,hH1,h8⟩:=Za.1 h7
        rw [Zt] at h8
        injection h8 with h8;injection h8 with h8 h9;subst h8;subst h9
        rw [Nat.ble_eq] at hroom
        obtain ⟨w',hw1,hw2⟩:=Ud (P:=P) r hb hv1 hH1
        refine ⟨_,w',ρ,XL (base:=some ⟨b.b,b.ob + off,none⟩) (ty:=ty) hd hdx hsd hi hl0 hc0 hroom ?_,hw2.nx_le hnx,⟨Ren.le_refl ρ,fun _ _=>rfl⟩,.sl _ _ _ _ b hb⟩
        simp only [Zq,Nat.add_assoc];exact hw1
       | false =>
        simp only [hroom,cond_false] at h7
        obtain ⟨hg,h8⟩:=Zb.1 h7
        obtain ⟨old,hold,h9⟩:=Za.1 h8
        simp only [Bool.and_eq_true,Nat.ble_eq] at hg
        obtain ⟨⟨_,hg2⟩,hg3⟩:=hg
        have hlt:cap < len + n:=by
         rcases Nat.lt_or_ge cap (len + n) with h | h
         ·exact h
         ·have h':Nat.ble (len + n) cap=true:=by rw [Nat.ble_eq];exact h
          rw [h'] at hroom;cases hroom
        obtain ⟨os,ho1,ho2,ho3⟩:=Zw r (HS.refl ρ H) hb hold
        have hof:(Builtin.firstCells i.size len (.slice (some ⟨b.b,b.ob + off,none⟩) len cap)).run P w.drew = .ok os.toArray w.drew:=by
         have:=run_loadCells_list (P:=P) w.drew ⟨b.b,b.ob + off,none⟩ os (fun j v hj=>ho3 j v hj)
         rw [ho2] at this
         simp [Builtin.firstCells,this]
        have hrun:=XQ (base:=some ⟨b.b,b.ob + off,none⟩) (ty:=ty) hd hdx hsd hi hz hl0 hof hcd hlt hg2 hg3
        obtain ⟨ρ',h10,h11,h12⟩:=UP r hni hnx hni' hsz (ho1.append hv1) (by rw [(ho1.append hv1).length,List.length_append,ho2,hv2,Nat.add_mul]) (fun _ _ h=>h) h9 (cap:=grownCap w (len + n) cap el) (by simp [grownCap,Question.cut]) (Builtin.zeroCells z.cells (grownCap w (len + n) cap el - (len + n))) (hzc _)
        exact ⟨_,_,ρ',hrun,h10,h11,h12⟩
     | slo id off len esz =>
      obtain ⟨hez,h8⟩:=Zb.1 h7
      clear h7
      rw [Nat.beq_eq] at hez
      subst hez
      cases hs0 with
      | slo _ _ _ _ b hb he hle =>
       have hcapl:len≤(b.cap - off) / i.size:=by rw [Nat.le_div_iff_mul_le he];omega
       cases hn0:Nat.beq n 0 with
       | true =>
        simp only [hn0,cond_true] at h8
        injection h8 with h8;injection h8 with h8 h9;subst h8;subst h9
        rw [Nat.beq_eq] at hn0
        subst hn0
        have hvs:vs=[]:=List.eq_nil_of_length_eq_zero (by omega)
        subst hvs
        refine ⟨_,w,ρ,XL (base:=some ⟨b.b,b.ob + off,none⟩) (ty:=ty) hd hdx hsd hi hl0 hc0 (by omega) ?_,r.nx_le hnx,⟨Ren.le_refl ρ,fun _ _=>rfl⟩,.slo _ _ _ _ b hb he hle⟩
        simp [storeCells]
       | false =>
        simp only [hn0,cond_false] at h8
        obtain ⟨hg,h9'⟩:=Zb.1 h8
        obtain ⟨hel,h9⟩:=Zb.1 h9'
        obtain ⟨old,hold,h10⟩:=Za.1 h9
        simp only [Bool.and_eq_true,Nat.ble_eq] at hg
        obtain ⟨⟨hg1,hg2⟩,hg3⟩:=hg
        obtain ⟨os,ho1,ho2,ho3⟩:=Zw r (HS.refl ρ H) hb hold
        have hlen2:(old ++ l).length=(len + n) * i.size:=by rw [(ho1.append hv1).length,List.length_append,ho2,hv2,Nat.add_mul]
        rcases Nat.lt_or_ge ((b.cap - off) / i.size) (len + n) with hlt | hge
        ·have hof:(Builtin.firstCells i.size len (.slice (some ⟨b.b,b.ob + off,none⟩) len ((b.cap - off) / i.size))).run P w.drew = .ok os.toArray w.drew:=by
          have:=run_loadCells_list (P:=P) w.drew ⟨b.b,b.ob + off,none⟩ os (fun j v hj=>ho3 j v hj)
          rw [ho2] at this
          simp [Builtin.firstCells,this]
         have hrun:=XQ (base:=some ⟨b.b,b.ob + off,none⟩) (ty:=ty) hd hdx hsd hi hz hl0 hof hcd hlt hg2 hg3
         obtain ⟨ρ',h11,h12,h13⟩:=UP r hni hnx hni' hsz (ho1.append hv1) hlen2 (Vv H id) h10 (cap:=grownCap w (len + n) ((b.cap - off) / i.size) el) (by simp [grownCap,Question.cut]) (Builtin.zeroCells z.cells (grownCap w (len + n) ((b.cap - off) / i.size) el - (len + n))) (hzc _)
         exact ⟨_,_,ρ',hrun,h11,h12,h13⟩
        ·have hbnd:(len + n) * i.size≤b.cap - off:=(Nat.le_div_iff_mul_le he).1 hge
         have hvl:=hv1.length
         have hadd:(len + n) * i.size=len * i.size + n * i.size:=Nat.add_mul _ _ _
         obtain ⟨ob0,hob0,hh⟩:=Za.1 hold
         cases ob0 with
         | cells el0 c z0 n0 op0 =>
          obtain ⟨oc,hoc,hor⟩:=r.ob _ _ b hob0 hb
          cases hor with
          | cells _ _ _ _ _ cs fz hsize hn hop hfz hcell =>
           obtain ⟨cs',e1,e2,e3⟩:=Xj (P:=P) b.b (b.ob + (off + len * i.size)) el0 fz vs 0 cs w hoc hfz (by omega) (Kv hv1 hg1)
           simp only [appNew,Zt] at h10
           injection h10 with h10;injection h10 with h10 h11;subst h10;subst h11
           let b':Blk:=⟨b.b,b.ob + off,b.cap - off⟩
           have hlep:=Ren.le_put (ρ:=ρ) hni b'
           have hor':OR (ρ.put ni b') b' (.cells el .leaf (.per (old ++ l)) ((len + n) * i.size) true) (.cells cs' el0 fz):=by
            have hel':el0=el:=by
             unfold elemIs at hel
             rw [hob0] at hel
             exact Nat.beq_eq ▸ hel
            subst hel'
            have hol:=ho1.length
            refine .cells el0 .leaf _ _ true cs' fz (by show _=b.ob + off + (b.cap - off);omega) hbnd (by simp) (by rcases hfz with hz | hz;exact .inl hz;exact .inr (by omega)) fun k a hk ha=>?_
            unfold cellOf at ha
            rw [Tr.get_leaf] at ha
            have ha':(old ++ l)[k]? = some a:=by
             have:(old ++ l)[k % (old ++ l).length]? = some a:=ha
             rwa [Nat.mod_eq_of_lt (by omega)] at this
            show ∃ v,cs'[b.ob + off + k]? = some v∧VR (ρ.put ni b') a v
            rw [List.getElem?_append] at ha'
            split at ha'
            ·rename_i hko
             obtain ⟨v,hv,hr⟩:=ho1.get k a ha'
             refine ⟨v,?_,hr.mono hlep⟩
             rw [e3,if_neg (by omega)]
             have:=ho3 k v hv
             rw [Zq] at this
             simpa [World.cell?,hoc] using this
            ·rename_i hko
             obtain ⟨v,hv,hr⟩:=hv1.get _ a ha'
             refine ⟨v,?_,hr.mono hlep⟩
             rw [e3,if_pos (by omega),← hv]
             congr 1;omega
           refine ⟨.slice (some ⟨b.b,b.ob + off,none⟩) (len + n) ((b.cap - off) / i.size),World.putB w b.b (.cells cs' el0 fz),ρ.put ni b',?_,?_,⟨hlep,fun x hx=>Ren.put_ne hx _⟩,?_⟩
           ·refine XL (base:=some ⟨b.b,b.ob + off,none⟩) (ty:=ty) hd hdx hsd hi hl0 hc0 hge ?_
            simp only [Zq,Nat.add_assoc];exact e1
           ·exact r.rename hob0 hb hni hnx hni' rfl hor' (YY w b.b _ _ hoc) rfl rfl rfl
           ·have:=VR.slo (ρ:=ρ.put ni b') ni 0 (len + n) i.size b' (Ren.put_same _ _ _) he (by simpa using hbnd)
            simpa [b'] using this
         | _=>cases hh
     | _=>cases h7
    | _=>cases h1
 ·cases hev
end Go.Ev
end
