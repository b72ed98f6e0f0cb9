/- Laid by program out of its parts: SxA, SxB, SxC, SxD, EvH, EvI. -/
import Derived.Test.YthallodoidghoaaGreatMa
import Derived.Laws.Append
noncomputable section
set_option linter.unusedVariables false
set_option linter.unusedSimpArgs false
section
namespace Go.Ev
def eB:IntKind->Int
 |.i8=>-128|.i16=>-32768|.i32=>-2147483648|.i64=>-9223372036854775808|_=>0
def w7:IntKind->Int
 |.i8=>127|.i16=>32767|.i32=>2147483647|.i64=>9223372036854775807|.u8=>255|.u16=>65535|.u32=>4294967295|.u64=>18446744073709551615
def Bf (k:IntKind) (n:Int):Bool:=cond (AP n (eB k)) false (!(AP (w7 k) n))
theorem dh {k:IntKind} {n:Int}:Bf k n=true↔eB k<=n/\n<=w7 k:=by
 unfold Bf;rw[EX,EX];by_cases h:n<eB k
 ·rw[BF h];simp;omega
 ·rw[E7 h];simp;omega
def AO (n:Int) (len:Nat):Bool:=decide (0<=n/\n<(len:Int))
def C0 (n:Int) (len:Nat):Bool:=decide (0<=n/\n<=(len:Int))
theorem Tj {k:IntKind} {n:Int} (h:Bf k n=true):k.wrap n=n:=by rw[dh]at h;cases k<;>simp only[eB,w7]at h<;>simp only[IntKind.wrap,IntKind.bits,IntKind.signed]<;>simp<;>omega
abbrev SV:=Option (Bool×AV)
def vu (op:BinOp) (k:IntKind) (a b:Int):SV:=
 match op with
 |.add=>some (Bf k (a+b),.int k (a+b))
 |.sub=>some (Bf k (a-b),.int k (a-b))
 |.mul=>some (Bf k (a*b),.int k (a*b))
 |.quo=>some (cond (Au b 0) false (Bf k (a.tdiv b)),.int k (a.tdiv b))
 |.rem=>some (!Au b 0,.int k (a.tmod b))
 |.and=>some (true,.int k (k.wrap (BitVec.ofInt k.bits a&&& BitVec.ofInt k.bits b).toNat))
 |.or=>some (true,.int k (k.wrap (BitVec.ofInt k.bits a|||BitVec.ofInt k.bits b).toNat))
 |.xor=>some (true,.int k (k.wrap (BitVec.ofInt k.bits a^^^BitVec.ofInt k.bits b).toNat))
 |.andNot=>some (true,.int k (k.wrap (BitVec.ofInt k.bits a&&& ~~~(BitVec.ofInt k.bits b)).toNat))
 |_=>none
theorem Apx {op:BinOp} {k:IntKind} {a b:Int} {r:AV} (h:vu op k a b=some (true,r)):Um op k a b=some r/\op≠.shl/\op≠.shr:=by
 cases op<;>simp only[vu]at h<;>first|(cases h;done)|skip
 all_goals
  injection h with h;injection h with x y;subst y;refine⟨?_,by simp,by simp⟩;unfold Um;simp only[Nb,Y4]
 ·rw[Tj x]
 ·rw[Tj x]
 ·rw[Tj x]
 ·cases hb:Au b 0 with
  |true=>rw[hb]at x;cases x
  |false=>rw[hb,cond_false]at x;rw[Tj x];rfl
 ·rw[x];rfl
def hY (op:BinOp) (k:IntKind) (a b:Int):SV:=
 match op with
 |.shl=>some (cond (AP b 0) false (Bf k (a*2^(min b.toNat k.bits))),.int k (a*2^(min b.toNat k.bits)))
 |.shr=>some (!AP b 0,.int k (a.fdiv (2^(min b.toNat k.bits))))
 |_=>none
theorem Aee {op:BinOp} {k:IntKind} {a b:Int} {r:AV} (h:hY op k a b=some (true,r)):Up op k a b=some r:=by
 cases op<;>simp only[hY]at h<;>first|(cases h;done)|skip
 all_goals
  injection h with h;injection h with x y;subst y;unfold Up;simp only[Nb]
 ·cases hb:AP b 0 with
  |true=>rw[hb]at x;cases x
  |false=>rw[hb,cond_false]at x;rw[Tj x];rfl
 ·rw[x];rfl
def Pd (a:AV):Option Aj:=
 match a with
 |.bs l=>some l
 |.str len n=>some (BO len n)
 |_=>none
theorem ML {ρ:Ak} {a:AV} {l:Aj} {v:Value} (h:VR ρ a v) (hl:Pd a=some l):v=.string ⟨l.toArray⟩:=by
 cases h<;>first|(cases hl;done)|skip
 ·injection hl with hl;subst hl;rfl
 ·injection hl with hl;subst hl;rfl
def hZ (op:BinOp) (l r:Aj):SV:=
 match op with
 |.add=>some (decide (l.length+r.length<=9223372036854775807),.bs (l++r))
 |.eql=>some (true,.bool (decide (l=r)))
 |.neq=>some (true,.bool (!decide (l=r)))
 |.lss=>some (true,.bool (Op.bytesLess l r))
 |.leq=>some (true,.bool (Op.bytesLess l r||decide (l=r)))
 |.gtr=>some (true,.bool (!(Op.bytesLess l r||decide (l=r))))
 |.geq=>some (true,.bool (!Op.bytesLess l r))
 |_=>none
theorem toList_mk (l:Aj):(ByteArray.mk l.toArray).toList=l:=by rw[ByteArray.toList_eq]
theorem Aeh {P:Program} {ρ:Ak} {op:BinOp} {t:TypeId} {l x:Aj} {r:AV} (h:hZ op l x=some (true,r)) (w:World): ∃u,(binOp op t (.string ⟨l.toArray⟩) (.string ⟨x.toArray⟩)).run P w=.ok u w/\VR ρ r u:=by
 have hb:(l==x)=decide (l=x):=by by_cases h:l=x<;>simp[h]
 cases op<;>simp only[hZ]at h<;>first|(cases h;done)|skip
 all_goals
  injection h with h;injection h with z y;subst y
 ·simp only[Bn]at z;refine⟨.string ⟨(l++x).toArray⟩,?_,.bs _⟩;have:¬(((ByteArray.mk l.toArray).size+(ByteArray.mk x.toArray).size:Nat):Int)>IntKind.i64.max:=by show¬((l.toArray.size+x.toArray.size:Nat):Int)>9223372036854775807;simp;omega
  have e:ByteArray.mk l.toArray++ByteArray.mk x.toArray=⟨(l++x).toArray⟩:=by apply ByteArray.ext;simp
  simp only[binOp,Op.stringOp,this,if_false,e,Sem.run_pure]
 all_goals
  refine⟨_,?_,.bool _⟩;simp only[binOp,Op.stringOp,toList_mk,hb,Sem.run_pure]
def gx (P:Program) (eq:TypeId->AV->AV->Option Bool) (xs ys:Al) (fs:List Field):Option Bool:=List.rec (motive:=λ_=>Option Bool) (some true)
  (fun f _ ih => cond (decide (f.name = "_")) ih (ob (Kt P f.type xs f.offset) fun a => ob (Kt P f.type ys f.offset) fun b => ob (eq f.type a b) fun r => ob ih fun q => some (r && q))) fs
theorem vo {P:Program} {eq:TypeId->AV->AV->Option Bool} {xs ys:Al}:∀ {fs:List Field} {b:Bool},gx P eq xs ys fs=some b->RB P eq xs ys fs=some b
 | [],b,h=>h
 |f::fs,b,h=>by
  have h' : (cond (decide (f.name = "_")) (gx P eq xs ys fs) (ob (Kt P f.type xs f.offset) fun a => ob (Kt P f.type ys f.offset) fun b => ob (eq f.type a b) fun r => ob (gx P eq xs ys fs) fun q => some (r && q))) = some b := h
  show (cond (decide (f.name = "_")) (RB P eq xs ys fs) (ob (Kt P f.type xs f.offset) fun a => ob (Kt P f.type ys f.offset) fun b => ob (eq f.type a b) fun r => cond r (RB P eq xs ys fs) (some false))) = some b
  cases hn : decide (f.name = "_") with
  |true=>rw[hn]at h';exact vo h'
  |false=>
   rw[hn,cond_false]at h';obtain⟨a,ha,h1⟩:=Ai.1 h';obtain⟨a',ha',h2⟩:=Ai.1 h1;obtain⟨r,hr,h3⟩:=Ai.1 h2;obtain⟨q,hq,h4⟩:=Ai.1 h3;injection h4 with h4;subst h4;rw[cond_false];refine Ai.2 ⟨a,ha,Ai.2 ⟨a',ha',Ai.2 ⟨r,hr,?_⟩⟩⟩;cases r with
   |true=>rw[cond_true,vo hq];rfl
   |false=>rfl
def sEq (P:Program) (f:Nat):TypeId->AV->AV->Option Bool:=Nat.rec (motive:=λ_=>TypeId->AV->AV->Option Bool) (λ_ _ _=>none) (λ_ K t x y=>ob (P.underlying t) λd=>
   match d,x,y with
   |.bool,.bool a,.bool b=>some (cond a b (!b))
   |.int _,.int k a,.int J b=>gd (Ni k J) (some (Au a b))
   |.string,x,y=>ob (Pd x) λl=>ob (Pd y) λB=>some (decide (l=B))
   |.pointer _,.Ei,.Ei=>some true
   |.pointer _,.Ei,.ptr _ _=>some false
   |.pointer _,.ptr _ _,.Ei=>some false
   |.pointer _,.Ei,.pv _=>some false
   |.pointer _,.pv _,.Ei=>some false
   |.pointer _,.Ei,.Gr _ _ _ _=>some false
   |.pointer _,.Gr _ _ _ _,.Ei=>some false
   |.map _ _,.EY,.Fb _ _ _=>some false
   |.map _ _,.Fb _ _ _,.EY=>some false
   |.struct fs,.agg z,.agg r=>gd (!P.stoodInHeld t) (gx P K z r fs.toList)
   |_,_,_=>none) f
theorem Apo {P:Program} {ρ:Ak} {w:World}:∀(f D:Nat),f<=D->∀(t:TypeId) (x y:AV) (b:Bool) (u v:Value),sEq P f t x y=some b-> VR ρ x u->VR ρ y v->(Op.equalIn D t u v).run P w=.ok b w:=by
 intro f
 induction f with
 |zero=>intro D _ t x y b u v h;cases h
 |succ f Z=>
  intro D hD t x y b u v h R hy;obtain⟨B,rfl⟩:∃B,D=B+1:=⟨D-1,by omega⟩;obtain⟨d,hd,z⟩:=Ai.1 (show(ob (P.underlying t) λd=>_)=some b from h);clear h;have one:∀r:Bool,dA P 1 t x y=some r->(Op.equalIn (B+1) t u v).run P w=.ok r w:=λr hr=>rZ 1 (B+1) (by omega) t x y r u v hr R hy;split at z
  ·exact one b (by show(ob (P.underlying t) λd=>_)=_;rw[hd];exact z)
  ·exact one b (by show(ob (P.underlying t) λd=>_)=_;rw[hd];exact z)
  ·obtain⟨l,hl,K⟩:=Ai.1 z;obtain⟨S,W,J⟩:=Ai.1 K;injection J with J;subst J;rw[ML R hl,ML hy W];have hb:(l==S)=decide (l=S):=by by_cases h:l=S<;>simp[h]
   simp[Op.equalIn,run_underlying hd,beq_toListBytes,toList_mk,hb]
  ·exact one b (by show(ob (P.underlying t) λd=>_)=_;rw[hd];exact z)
  ·exact one b (by show(ob (P.underlying t) λd=>_)=_;rw[hd];exact z)
  ·exact one b (by show(ob (P.underlying t) λd=>_)=_;rw[hd];exact z)
  all_goals first
   |(injection z with z;subst z;cases R;cases hy;simp[Op.equalIn,run_underlying hd];done)
   |skip
  ·obtain⟨hs,K⟩:=AQ.1 z;cases R with
   |agg _ Y U=>cases hy with
    |agg _ vs Az=>
     have V:P.stoodInHeld t=false:=by simpa using hs
     have L:=AaL hd;rw[run_equalIn_struct w B t Y.toArray vs.toArray (by rw[L];exact hd) V,L];exact zy (λt x y b u v z K J=>Z B (by omega) t x y b u v z K J) U Az _ _ (vo K)
  ·cases z
def S4 (P:Program) (t:TypeId) (n:Nat) (r:Bool):SV:=ob (P.underlying t) λd=>match d with
 |.slice _=>some (Nat.blt 0 n,.bool r)
 |_=>none
def gz (P:Program) (t:TypeId) (x:Bool) (a b:AV):SV:=
 match a,b with
 |.AW,.vec _ n _=>S4 P t n x
 |.vec _ n _,.AW=>S4 P t n x
 |.AW,.bv l=>S4 P t l.length x
 |.bv l,.AW=>S4 P t l.length x
 |.AW,.AR _ n _=>S4 P t n x
 |.AR _ n _,.AW=>S4 P t n x
 |a,b=>ob (sEq P 8 t a b) λr=>some (true,.bool (cond x (!r) r))
theorem Aea {P:Program} {ρ:Ak} {t:TypeId} {x:Bool} {a b r:AV} {u v:Value} (J:VR ρ a u) (hy:VR ρ b v) (h:gz P t x a b=some (true,r)) (w:World): ∃q,(Op.equal t u v).run P w=.ok q w/\r=.bool (cond x (!q) q):=by
 have y:∀n,S4 P t n x=some (true,r)->(∃e,P.underlying t=some (.slice e))/\0<n/\r=.bool x:=λn hn=>by
  obtain⟨d,hd,B⟩:=Ai.1 hn;cases d<;>first|(cases B;done)|skip
  injection B with B;injection B with B K;exact⟨⟨_,hd⟩,by rwa[CE]at B,K.symm⟩
 have key:∀(base:Addr) (n c:Nat) e,P.underlying t=some (.slice e)->(Op.equal t (.slice none 0 0) (.slice (some base) n c)).run P w=.ok false w/\(Op.equal t (.slice (some base) n c) (.slice none 0 0)).run P w=.ok false w:=λbase n c e hd=>by
  have K:∀D,(Op.equalIn (D+1) t (.slice none 0 0) (.slice (some base) n c)).run P w=.ok false w/\(Op.equalIn (D+1) t (.slice (some base) n c) (.slice none 0 0)).run P w=.ok false w:=λD=>by constructor<;>simp[Op.equalIn,run_underlying hd]
  exact K (Op.maxDepth-1)
 unfold gz at h;split at h
 ·obtain⟨⟨e,z⟩,hn,rfl⟩:=y _ h;cases J;cases hy with
  |vec=>exact⟨false,(key _ _ _ e z).1,by cases x<;>rfl⟩
  |GR=>omega
 ·obtain⟨⟨e,z⟩,hn,rfl⟩:=y _ h;cases hy;cases J with
  |vec=>exact⟨false,(key _ _ _ e z).2,by cases x<;>rfl⟩
  |GR=>omega
 ·obtain⟨⟨e,z⟩,hn,rfl⟩:=y _ h;cases J;cases hy with
  |bv=>exact⟨false,(key _ _ _ e z).1,by cases x<;>rfl⟩
  |Hr _ L=>subst L;simp at hn
 ·obtain⟨⟨e,z⟩,hn,rfl⟩:=y _ h;cases hy;cases J with
  |bv=>exact⟨false,(key _ _ _ e z).2,by cases x<;>rfl⟩
  |Hr _ L=>subst L;simp at hn
 ·obtain⟨⟨e,z⟩,hn,rfl⟩:=y _ h;cases J;cases hy with
  |AR=>exact⟨false,(key _ _ _ e z).1,by cases x<;>rfl⟩
  |GQ=>omega
 ·obtain⟨⟨e,z⟩,hn,rfl⟩:=y _ h;cases hy;cases J with
  |AR=>exact⟨false,(key _ _ _ e z).2,by cases x<;>rfl⟩
  |GQ=>omega
 ·obtain⟨q,R,B⟩:=Ai.1 h;injection B with B;injection B with _ K;exact⟨q,Apo 8 Op.maxDepth (by decide) t _ _ q u v R J hy,K.symm⟩
def AdY (P:Program) (op:BinOp) (t:TypeId) (z y:Bool) (a b:AV):SV:=gd (RC P op t z y a b) (match a,b with
  |.int k m,.int x n=>match op with
   |.shl=>hY .shl k m n
   |.shr=>hY .shr k m n
   |op=>gd (Ni k x) (vu op k m n)
  |.str _ _,.str _ _=>none
  |.bs l,b=>ob (Pd b) λr=>hZ op l r
  |a,.bs r=>ob (Pd a) λl=>hZ op l r
  |a,b=>match op with
   |.eql=>gz P t false a b
   |.neq=>gz P t true a b
   |_=>none)
theorem Apm {P:Program} {ρ:Ak} {op:BinOp} {t:TypeId} {x y:Operand} {a b r:AV} {u v:Value} (K:VR ρ a u) (hy:VR ρ b v) (h:AdY P op t (Ld x) (Ld y) a b=some (true,r)) (w:World): ∃z,(do eqGuard op t x y u v;binOp op t u v:Sem Value).run P w=.ok z w/\VR ρ r z:=by
 obtain⟨Z,B⟩:=AQ.1 h;have R:=Aan K hy Z w;suffices V:∃z,(binOp op t u v).run P w=.ok z w/\VR ρ r z by obtain⟨z,J,S⟩:=V;exact⟨z,by simp only[Sem.run_bind,R,Result.andThen_ok,J],S⟩
 clear h R;split at B
 ·split at B
  ·cases K;cases hy;exact dC (Aee B) w
  ·cases K;cases hy;exact dC (Aee B) w
  ·obtain⟨W,J⟩:=AQ.1 B;have:=PW W;subst this;cases K;cases hy;obtain⟨S,h4,h5⟩:=Apx J;exact ra h4 h5 S w
 ·cases B
 ·obtain⟨l',U,J⟩:=Ai.1 B;rw[ML hy U];cases K;exact Aeh J w
 ·obtain⟨l,hl,J⟩:=Ai.1 B;rw[ML K hl];cases hy;exact Aeh J w
 ·have L:plain a b=true:=by unfold plain;split<;>simp_all<;>(rename_i Y;exact Y _ _ _ _ rfl rfl rfl rfl)
  split at B
  ·obtain⟨q,J,rfl⟩:=Aea K hy B w;refine⟨.bool q,?_,.bool _⟩;rw[binOp_eql K hy L];simp only[Sem.run_bind,J,Result.andThen_ok,Sem.run_pure]
  ·obtain⟨q,J,rfl⟩:=Aea K hy B w;refine⟨.bool (!q),?_,.bool _⟩;rw[binOp_neq K hy L];simp only[Sem.run_bind,J,Result.andThen_ok,Sem.run_pure]
  ·cases B
end Go.Ev
end
section
namespace Go.Ev
def rJ (a:AV):Option (Nat×Nat×(Nat->Al)):=
 match a with
 |.bv l=>some (1,l.length,λi=>[.int .u8 ((l.getD i 0).toNat:Int)])
 |.vec Ax n f=>some (Ax,n,f)
 |_=>none
theorem cu {ρ:Ak} {a:AV} {u:Value} (K:VR ρ a u) {Ax n:Nat} {f:Nat->Al} (h:rJ a=some (Ax,n,f)): (∃base cap,u=.slice base n cap/\n<=cap)/\∀i,i<n->∃b o cap cs el fz vs,u=.slice (some ⟨b,o,none⟩) n cap/\ρ.st b=some (.cells cs el fz)/\AL ρ (f i) vs/\∀j v,vs[j]? =some v->cs[o+i*Ax+j]? =some v:=by
 cases K<;>first|(cases h;done)|skip
 case bv l b o cap cs el fz J x hc=>
  injection h with h;injection h with z r;injection r with r y;subst z;subst r;subst y;refine⟨⟨_,_,rfl,x⟩,λi hi=>⟨b,o,cap,cs,el,fz,[.int .u8 ((l.getD i 0).toNat:Int)],rfl,J,.cons _ _ _ _ (.int _ _) .nil,λj v B=>?_⟩⟩
  match j with
  |0=>injection B with B;subst B;have:=hc i hi;simpa using this
  |_+1=>simp at B
 case Hr l hl base cap=>
  injection h with h;injection h with z r;injection r with r y;subst r;subst hl;exact⟨⟨base,cap,rfl,BL _⟩,λi hi=>by simp at hi⟩
 case vec b o cap cs el fz g J he x hv hc=>
  injection h with h;injection h with z r;injection r with r y;subst z;subst r;subst y;exact⟨⟨_,_,rfl,x⟩,λi hi=>⟨b,o,cap,cs,el,fz,g i,rfl,J,hv i hi,hc i hi⟩⟩
 case GR hn base cap=>
  injection h with h;injection h with z r;injection r with r y;subst r;subst hn;exact⟨⟨base,cap,rfl,BL _⟩,λi hi=>by omega⟩
theorem iM {E:Env} {F:Nat->Option Obj} {nx:Nat} {ρ:Ak} {h:Nat->Option Ah} {w:World} (r:Rel E F nx ρ h w) {b:Nat} {cs:Array Value} {el:Nat} {fz:Nat×Nat} (x:ρ.st b=some (.cells cs el fz)) {k:Nat} {v:Value} (y:cs[k]? =some v):w.cell? ⟨b,k,none⟩=some v:=by have:=r.st _ _ x;simp[World.cell?,this,y]
def Ad7 (P:Program) (t:TypeId) (x:AV):SV:=ob (P.underlying t) λd=>match d,x with
  |.string,.bs l=>some (true,Jk l.length)
  |.slice _,.bv l=>some (true,Jk l.length)
  |.slice _,.vec _ n _=>some (true,Jk n)
  |.slice _,.AR _ n _=>some (true,Jk n)
  |_,_=>none
theorem Apy {P:Program} {ρ:Ak} {w:World} {t:TypeId} {x a:AV} {u:Value} (B:VR ρ x u) (y:Ad7 P t x=some (true,a)) (K J:Array _) (ty:TypeId) (ht:K[0]? =some t) (hu:J[0]? =some u): ∃z,(Builtin.len_ K ty J).run P w=.ok z w/\VR ρ a z:=by
 obtain⟨d,hd,r⟩:=Ai.1 y;clear y;split at r
 ·injection r with r;injection r with _ r;subst r;cases B;exact⟨_,by simp[Builtin.len_,ht,hu,run_underlying hd,goInt];rfl,.int _ _⟩
 ·injection r with r;injection r with _ r;subst r;obtain⟨⟨base,cap,rfl,_⟩,_⟩:=cu B rfl;exact⟨_,by simp[Builtin.len_,ht,hu,run_underlying hd,goInt],.int _ _⟩
 ·injection r with r;injection r with _ r;subst r;obtain⟨⟨base,cap,rfl,_⟩,_⟩:=cu B rfl;exact⟨_,by simp[Builtin.len_,ht,hu,run_underlying hd,goInt],.int _ _⟩
 ·injection r with r;injection r with _ r;subst r;cases B with
  |AR=>exact⟨_,by simp[Builtin.len_,ht,hu,run_underlying hd,goInt],.int _ _⟩
  |GQ _ _ _ hn _=>subst hn;exact⟨_,by simp[Builtin.len_,ht,hu,run_underlying hd,goInt],.int _ _⟩
 ·cases r
def vr (P:Program) (t:TypeId) (x r:AV):SV:=
 match r with
 |.int _ n=>ob (P.underlying t) λd=>match d with
  |.string=>ob (Pd x) λl=>some (AO n l.length,.int .u8 ((l.getD n.toNat 0).toNat:Int))
  |_=>none
 |_=>none
theorem Apw {P:Program} {ρ:Ak} {t:TypeId} {x K r:AV} {u v:Value} (L:VR ρ x u) (hi:VR ρ K v) (h:vr P t x K=some (true,r)) (w:World): ∃z,(Instr.index t u v).run P w=.ok z w/\VR ρ r z:=by
 unfold vr at h;split at h
 ·rename_i k n;cases hi;obtain⟨d,hd,J⟩:=Ai.1 h;clear h;split at J
  ·obtain⟨l,hl,y⟩:=Ai.1 J;injection y with y;injection y with y S;subst S;simp only[AO,Bn]at y;rw[ML L hl];refine⟨_,?_,.int _ _⟩;have B:n.toNat<l.length:=by omega
   have R:(ByteArray.mk l.toArray)[n.toNat]? =some (l.getD n.toNat 0):=by
    have U:(ByteArray.mk l.toArray).size=l.length:=by show l.toArray.size=_;simp
    rw[getElem?_pos (ByteArray.mk l.toArray) n.toNat (by rw[U];exact B)];simp only[List.getD,Ce B,Option.getD_some];rfl
   simp[Instr.index,asIntOf,run_underlying hd,y.1,R]
  ·cases J
 ·cases h
def vt (P:Program) (t:TypeId) (x r:AV):SV:=
 match r with
 |.int _ n=>ob (P.underlying t) λd=>match d with
  |.slice e=>ob (P.underlying e) λ_=>match x with
   |.AR id len Ax=>gd (Nat.beq (P.cellsOf e) Ax) (some (AO n len,.Gr id Ax n.toNat 0))
   |x=>ob (rJ x) λp=>gd (Nat.beq (P.cellsOf e) p.1) (some (AO n p.2.1,.pv (p.2.2 n.toNat)))
  |.array len e=>ob (P.underlying e) λ_=>match x with
   |.pv cs=>some (AO n len,.pv (cs.drop (n.toNat*P.cellsOf e)))
   |_=>none
  |_=>none
 |_=>none
theorem Apv {P:Program} {ρ:Ak} {t:TypeId} {x U r:AV} {u v:Value} (R:VR ρ x u) (hi:VR ρ U v) (h:vt P t x U=some (true,r)) (w:World): ∃z,(Instr.indexAt t u v).run P w=.ok z w/\VR ρ r z:=by
 unfold vt at h;split at h
 ·rename_i k n;cases hi;obtain⟨d,hd,L⟩:=Ai.1 h;clear h;split at L
  ·obtain⟨de,K,J⟩:=Ai.1 L;clear L;split at J
   ·obtain⟨hz,y⟩:=AQ.1 J;injection y with y;injection y with y B;subst B;simp only[AO,Bn]at y;rw[A0]at hz;subst hz;cases R with
    |AR id _ _ b hb he hl=>refine⟨_,?_,.Gr _ _ _ _ b hb⟩;simp[Instr.indexAt,asIntOf,run_underlying hd,Ee K,y,Dd]
    |GQ _ _ _ hn _=>omega
   ·obtain⟨⟨Ax,len,f⟩,Y,y⟩:=Ai.1 J;obtain⟨hz,B⟩:=AQ.1 y;injection B with B;injection B with B Z;subst Z;simp only[AO,Bn]at B;rw[A0]at hz;simp only at hz;subst hz;obtain⟨b,o,cap,cs,el,fz,vs,rfl,W,hv,hc⟩:=(cu R Y).2 n.toNat (by omega);refine⟨_,?_,.pv _ vs b (o+n.toNat*P.cellsOf _) cs el fz W hv hc⟩;simp[Instr.indexAt,asIntOf,run_underlying hd,Ee K,B,Dd]
  ·obtain⟨de,K,J⟩:=Ai.1 L;clear L;rename_i ln ea;split at J
   ·injection J with J;injection J with y B;subst B;simp only[AO,Bn]at y;cases R with
    |pv _ vs b o cs el fz S hv hc=>
     refine⟨_,?_,.pv _ (vs.drop _) b (o+n.toNat*P.cellsOf ea) cs el fz S (hv.drop _) λj v V=>?_⟩
     ·simp[Instr.indexAt,Instr.sureAddr,asIntOf,run_underlying hd,Ee K,y]
      first|rfl|simp[Dd]
     ·rw[List.getElem?_drop]at V;rw[Fu];exact hc _ _ V
   ·cases J
  ·cases L
 ·cases h
def hO (P:Program) (t:TypeId) (cs:Al):SV:=ob (P.underlying t) λd=>cond (Me d) (some (Nat.ble (P.cellsOf t) cs.length,.agg (cs.take (P.cellsOf t)))) (ob cs.head? λa=>some (true,a))
def vv (P:Program) (H:Tr Ah) (t:TypeId) (x:AV):SV:=
 match x with
 |.pv cs=>hO P t cs
 |.Gr id Ax i j=>ob (H.get id) λo=>match o with
  |.cells _ c z N _=>match c,z with
   |.leaf,.rows y f=>gd (Nat.beq Ax y) (gd (Nat.ble (j+P.cellsOf t) Ax&&Nat.blt 0 (P.cellsOf t)) (ob (hO P t ((f i).drop j)) λr=>some (cond (Nat.ble (i*Ax+j+P.cellsOf t) N) r.1 false,r.2)))
   |_,_=>none
  |_=>none
 |_=>none
theorem Aed {P:Program} {ρ:Ak} {t:TypeId} {cs:Al} {a:AV} {vs:List Value} {w:World} {ad:Addr} (hv:AL ρ cs vs) (hc:∀j v,j<P.cellsOf t\/j=0->vs[j]? =some v->w.cell? (ad.add j)=some v) (h:hO P t cs=some (true,a)):∃v,(Instr.loadAt t (.pointer (some ad))).run P w=.ok v w/\VR ρ a v:=by
 obtain⟨d,hd,x⟩:=Ai.1 h;cases r:Me d with
 |true=>
  rw[r,cond_true]at x;injection x with x;injection x with x y;subst y;rw[Nat.ble_eq]at x;have L:=hv.length;refine⟨.agg (vs.take (P.cellsOf t)).toArray,?_,.agg _ _ (hv.take _)⟩;have z:=run_loadCells_list (P:=P) (w:=w) ad (vs.take (P.cellsOf t)) (λj v B=>by
   rw[List.getElem?_take]at B;split at B
   ·exact hc j v (.inl ‹_›) B
   ·cases B)
  rw[show(vs.take (P.cellsOf t)).length=P.cellsOf t by simp;omega]at z;simp[Instr.loadAt,Instr.sureAddr,loadVar,S1 hd,r,Ee hd,z]
 |false=>
  rw[r,cond_false]at x;obtain⟨V,J,y⟩:=Ai.1 x;injection y with y;injection y with _ y;subst y;cases cs with
  |nil=>cases J
  |cons c l=>
   injection J with J;subst J;cases hv with
   |cons _ v _ S R U=>
    have K:=hc 0 v (.inr rfl) rfl;have e:ad.add 0=ad:=by cases ad;rfl
    rw[e]at K;exact⟨v,by simp[Instr.loadAt,Instr.sureAddr,loadVar,S1 hd,r,K],R⟩
theorem QU {f:Nat->Al} {Ax i j:Nat} (r:j<Ax) (k:Nat) (x:k=i*Ax+j):CB.at (.rows Ax f) k=(f i)[j]?:=by
 subst x;show(f ((i*Ax+j)/Ax))[(i*Ax+j)%Ax]? =_;have z:(i*Ax+j)/Ax=i:=by rw[Nat.mul_comm,Nat.mul_add_div (by omega),Nat.div_eq_of_lt r,Nat.add_zero]
 have y:(i*Ax+j)%Ax=j:=by rw[Nat.mul_comm,Nat.mul_add_mod,Nat.mod_eq_of_lt r]
 rw[z,y]
theorem G1 (z:CB) (k:Nat):cellOf .leaf z k=z.at k:=by unfold cellOf;rw[Tr.Cy]
theorem Apz {P:Program} {E:Env} {F:Nat->Option Obj} {nx:Nat} {ρ:Ak} {h:Nat->Option Ah} {w:World} {H:Tr Ah} (r:Rel E F nx ρ h w) (hs:HS ρ H h) {t:TypeId} {x a:AV} {u:Value} (hx:VR ρ x u) (y:vv P H t x=some (true,a)):∃v,(Instr.loadAt t u).run P w=.ok v w/\VR ρ a v:=by
 unfold vv at y;split at y
 ·cases hx with
  |pv _ vs b o cs el fz Y hv hc=>exact Aed hv (λj v _ hj=>by rw[Dd];exact iM r Y (hc j v hj)) y
 ·rename_i id Ax i j;cases hx with
  |Gr _ _ _ _ b hb=>
   obtain⟨o,ho,U⟩:=Ai.1 y;clear y;split at U
   ·rename_i ab c z N op;split at U
    ·rename_i aa f;obtain⟨h2,h3⟩:=AQ.1 U;obtain⟨h4,h5⟩:=AQ.1 h3;obtain⟨⟨sd,a'⟩,h6,B⟩:=Ai.1 h5;injection B with B;injection B with B h8;subst h8;rw[A0]at h2;subst h2;simp only[B4,Nat.ble_eq,CE]at h4;cases hle:Nat.ble (i*Ax+j+P.cellsOf t) N with
     |false=>rw[hle]at B;cases B
     |true=>
      rw[hle,cond_true]at B;simp only at B;subst B;rw[Nat.ble_eq]at hle;obtain⟨vs,hv,Az⟩:=AL.UX (l:=((f i).drop j).take (P.cellsOf t)) (ρ:=ρ) (λq v=>w.cell? ⟨b.b,b.ob+(i*Ax+j+q),none⟩=some v) (λq a L=>by
       rw[List.getElem?_take]at L;split at L
       ·rename_i ad;have Z:(f i)[j+q]? =some a:=by rw[List.getElem?_drop]at L;exact L
        exact cell_of r (hs _ _ ho (.inl ⟨b,hb⟩)) hb (k:=i*Ax+j+q) (by omega) (by rw[G1,QU (i:=i) (j:=j+q) (by omega) _ (by omega)];exact Z)
       ·cases L)
      have S:hO P t (((f i).drop j).take (P.cellsOf t))=some (true,a'):=by
       obtain⟨d,hd,K⟩:=Ai.1 h6;refine Ai.2 ⟨d,hd,?_⟩;cases W:Me d with
       |true=>
        rw[W,cond_true]at K;injection K with K;injection K with K R;rw[Nat.ble_eq]at K;rw[cond_true];have e1:Nat.ble (P.cellsOf t) (((f i).drop j).take (P.cellsOf t)).length=true:=by rw[Nat.ble_eq,List.length_take];omega
        rw[e1,List.take_take,Nat.min_self,R]
       |false=>
        rw[W,cond_false]at K;rw[cond_false];obtain⟨a2,J,R⟩:=Ai.1 K;refine Ai.2 ⟨a2,?_,R⟩;cases V:(f i).drop j with
        |nil=>rw[V]at J;cases J
        |cons c l=>rw[V]at J;obtain⟨m,hm⟩:∃m,P.cellsOf t=m+1:=⟨P.cellsOf t-1,by omega⟩;rw[hm];exact J
      refine Aed hv (λq v _ L=>?_) S;have:=Az q v L;rw[Dd,Fu];exact this
    ·cases U
   ·cases U
 ·cases y
def Ad1 (P:Program) (t:TypeId) (x:AV) (f:Nat):SV:=ob (P.underlying t) λd=>match d with
  |.struct fs=>ob (fs[f]?) λr=>ob (P.underlying r.type) λ_=>gd (!Nat.beq (P.cellsOf r.type) 0) (match x with
   |.pv cs=>some (true,.pv (cs.drop r.offset))
   |.Gr id Ax i j=>fN (j+r.offset) λy=>some (true,.Gr id Ax i y)
   |_=>none)
  |_=>none
theorem Aps {P:Program} {ρ:Ak} {t:TypeId} {x r:AV} {f:Nat} {u:Value} (R:VR ρ x u) (h:Ad1 P t x f=some (true,r)) (w:World): ∃v,(Instr.fieldAt t u f).run P w=.ok v w/\VR ρ r v:=by
 obtain⟨d,hd,J⟩:=Ai.1 h;clear h;split at J
 ·obtain⟨K,U,W⟩:=Ai.1 J;obtain⟨Z,B,V⟩:=Ai.1 W;obtain⟨hz,y⟩:=AQ.1 V;clear J W V;have z:P.cellsOf K.type≠0:=λY=>by rw[Y]at hz;simp at hz
  split at y
  ·injection y with y;injection y with _ y;subst y;cases R with
   |pv _ vs b o cs el fz L hv hc=>
    refine⟨_,?_,.pv _ (vs.drop K.offset) b (o+K.offset) cs el fz L (hv.drop _) λj v S=>?_⟩
    ·simp[Instr.fieldAt,run_underlying hd,U,Instr.sureAddr,fieldPlace,Ee B,z,Dd]
    ·rw[List.getElem?_drop]at S;rw[Fu];exact hc _ _ S
  ·rw[Bv]at y;injection y with y;injection y with _ y;subst y;cases R with
   |Gr _ _ _ _ b hb=>refine⟨_,?_,.Gr _ _ _ _ b hb⟩;simp[Instr.fieldAt,run_underlying hd,U,Instr.sureAddr,fieldPlace,Ee B,z,Dd,Fu]
  ·cases y
 ·cases J
def H5 (X:Operand->Option AV) (x:Option Operand) (r lim:Nat):Option (Bool×Nat):=
 match x with
 |none=>some (true,r)
 |some o=>ob (X o) λa=>match a with
  |.int _ n=>some (C0 n lim,n.toNat)
  |_=>none
theorem vm {P:Program} {ρ:Ak} {X:Operand->Option AV} {f:Operand->Value} (B:XR ρ X f) {o:Operand} {d lim i:Nat} (h:H5 X (some o) d lim=some (true,i)) (w:World) (y:Nat) (hy:lim<=y) (code:BoundsCode):(Instr.sliceBound (f o) y code).run P w=.ok i w/\i<=lim:=by
 obtain⟨a,z,r⟩:=Ai.1 (show(ob (X o) λa=>match a with
  |.int _ n=>some (C0 n lim,n.toNat)
  |_=>none)=some (true,i)from h)
 have x:=B _ _ z;split at r
 ·rename_i k n;injection r with r;injection r with r J;subst J;simp only[C0,Bn]at r;generalize f o=v at x;cases x;have:0<=n/\n<=(y:Int):=by omega
  exact⟨by simp[Instr.sliceBound,asIntOf,this],by omega⟩
 ·cases r
theorem S3 {P:Program} {ρ:Ak} {X:Operand->Option AV} {f:Operand->Value} (z:XR ρ X f) {lo hi:Option Operand} {len cap l h:Nat} (A5:Bool) (J:len<=cap) (x:H5 X hi len len=some (true,h)) (r:H5 X lo 0 h=some (true,l)) (w:World): (Instr.sliceBounds A5 len cap (lo.map f) (hi.map f) none).run P w=.ok (l,h,cap) w/\h<=len/\l<=h:=by
 unfold Instr.sliceBounds;cases hi with
 |none=>
  injection x with x;injection x with _ x;subst x;cases lo with
  |none=>injection r with r;injection r with _ r;subst r;exact⟨by simp,AH _,BL _⟩
  |some o=>have y:=λc=>vm (P:=P) z r w _ (AH _) c;exact⟨by simp[(y _).1],AH _,(y .sliceB).2⟩
 |some L=>
  have B:=λc=>vm (P:=P) z x w cap J c;have K:=(B .sliceB).2;cases lo with
  |none=>injection r with r;injection r with _ r;subst r;exact⟨by simp[(B _).1],K,BL _⟩
  |some o=>have y:=λc=>vm (P:=P) z r w _ (AH _) c;exact⟨by simp[(B _).1,(y _).1],K,(y .sliceB).2⟩
def iR {α:Type} (hi:Option Operand) (h:Nat) (l:List α):List α:=match hi with
 |none=>l
 |some _=>l.take h
def cp {α:Type} (lo:Option Operand) (k:Nat) (l:List α):List α:=match lo with
 |none=>l
 |some _=>l.drop k
def wT (lo:Option Operand) (h l:Nat):Nat:=match lo with
 |none=>h
 |some _=>h-l
def sU (lo:Option Operand) (l:Nat) (f:Nat->Al):Nat->Al:=match lo with
 |none=>f
 |some _=>λi=>f (l+i)
def YO (P:Program) (X:Operand->Option AV) (t:TypeId) (x:AV) (lo hi mx:Option Operand):SV:=ob (P.underlying t) λd=>gd (!mx.isSome) (match d,x with
  |.string,.bs L=>ob (H5 X hi L.length L.length) λh=>ob (H5 X lo 0 h.2) λl=>some (cond h.1 l.1 false,.bs (cp lo l.2 (iR hi h.2 L)))
  |.slice e,.bv L=>ob (P.underlying e) λ_=>gd (Nat.beq (P.cellsOf e) 1) (ob (H5 X hi L.length L.length) λh=>ob (H5 X lo 0 h.2) λl=>some (cond h.1 l.1 false,.bv (cp lo l.2 (iR hi h.2 L))))
  |.slice e,.vec Ax n f=>ob (P.underlying e) λ_=>gd (Nat.beq (P.cellsOf e) Ax) (ob (H5 X hi n n) λh=>ob (H5 X lo 0 h.2) λl=>some (cond h.1 l.1 false,.vec Ax (wT lo h.2 l.2) (sU lo l.2 f)))
  |.slice e,.AR id n Ax=>ob (P.underlying e) λ_=>gd (Nat.beq (P.cellsOf e) Ax&& !lo.isSome) (ob (H5 X hi n n) λh=>some (h.1,.AR id h.2 Ax))
  |_,_=>none)
theorem gw {X:Operand->Option AV} {x:Option Operand} {d lim i:Nat} {s:Bool} (r:x=none) (h:H5 X x d lim=some (s,i)):i=d:=by subst r;injection h with h;injection h with _ h;exact h.symm
theorem AeP {α:Type} {X:Operand->Option AV} {hi:Option Operand} {h lim:Nat} {s:Bool} {L:List α} (hb:H5 X hi L.length lim=some (s,h)):iR hi h L=L.take h:=by
 cases hi with
 |none=>rw[gw rfl hb];simp[iR]
 |some _=>rfl
theorem zj {α:Type} {X:Operand->Option AV} {lo:Option Operand} {l lim:Nat} {s:Bool} {L:List α} (hb:H5 X lo 0 lim=some (s,l)):cp lo l L=L.drop l:=by
 cases lo with
 |none=>rw[gw rfl hb];simp[cp]
 |some _=>rfl
theorem Ap1 {X:Operand->Option AV} {lo:Option Operand} {l h lim:Nat} {s:Bool} (hb:H5 X lo 0 lim=some (s,l)):wT lo h l=h-l:=by
 cases lo with
 |none=>rw[gw rfl hb];simp[wT]
 |some _=>rfl
theorem Aif {X:Operand->Option AV} {lo:Option Operand} {l lim:Nat} {s:Bool} {f:Nat->Al} (hb:H5 X lo 0 lim=some (s,l)) (i:Nat):sU lo l f i=f (l+i):=by
 cases lo with
 |none=>rw[gw rfl hb];simp[sU]
 |some _=>rfl
theorem KZ {a b:Bool} {α:Type} {x y:α} (h:some (cond a b false,x)=some (true,y)):a=true/\b=true/\x=y:=by injection h with h;injection h with z r;cases a<;>cases b<;>first|(cases z;done)|exact⟨rfl,rfl,r⟩
set_option maxHeartbeats 1000000 in
theorem ApG {P:Program} {ρ:Ak} {X:Operand->Option AV} {f:Operand->Value} (hX:XR ρ X f) {t:TypeId} {x r:AV} {lo hi mx:Option Operand} {u:Value} (hx:VR ρ x u) (h:YO P X t x lo hi mx=some (true,r)) (w:World):∃z,(Instr.sliceAt t u (lo.map f) (hi.map f) (mx.map f)).run P w=.ok z w/\VR ρ r z:=by
 obtain⟨d,hd,h1⟩:=Ai.1 h;clear h;obtain⟨aa,h2⟩:=AQ.1 h1;clear h1;cases mx with
 |some _=>simp at aa
 |none=>
 simp only[Option.map_none];split at h2
 ·rename_i L;obtain⟨⟨sh,S⟩,y,Z⟩:=Ai.1 h2;obtain⟨⟨sl,il⟩,B,Y⟩:=Ai.1 Z;obtain⟨e1,e2,rfl⟩:=KZ Y;simp only at e1 e2 y B;subst e1;subst e2;cases hx;obtain⟨hb,U,h6⟩:=S3 (P:=P) hX (len:=L.length) (cap:=L.length) false (AH _) y B w;rw[AeP y,zj B];refine⟨_,?_,.bs _⟩;have e1:(ByteArray.mk L.toArray).size=L.length:=by show L.toArray.size=_;simp
  have e2:(ByteArray.mk L.toArray).extract il S=⟨((L.take S).drop il).toArray⟩:=by apply ByteArray.ext;apply Array.ext';simp[ByteArray.data_extract,List.drop_take]
  have ae:(Instr.sliceBounds false (ByteArray.mk L.toArray).size (ByteArray.mk L.toArray).size (lo.map f) (hi.map f) none).run P w=.ok (il,S,L.length) w:=by rw[e1];exact hb
  simp[Instr.sliceAt,Instr.slice,run_underlying hd,ae,e2]
 ·rename_i e L;obtain⟨de,K,Z⟩:=Ai.1 h2;obtain⟨J,Y⟩:=AQ.1 Z;obtain⟨⟨sh,S⟩,y,U⟩:=Ai.1 Y;obtain⟨⟨sl,il⟩,B,h6⟩:=Ai.1 U;obtain⟨e1,e2,rfl⟩:=KZ h6;simp only at e1 e2 y B;subst e1;subst e2;rw[A0]at J;rw[AeP y,zj B];clear h2 Z Y U h6;cases hx with
  |bv _ b o cap cs el fz hs R hc=>
   obtain⟨hb,W,h8⟩:=S3 (P:=P) hX (len:=L.length) (cap:=cap) true R y B w;refine⟨.slice (some (if cap=il then⟨b,o,none⟩else⟨b,o+il,none⟩)) (S-il) (cap-il),?_,?_⟩
   ·simp[Instr.sliceAt,Instr.slice,run_underlying hd,hb,Ee K,J,Dd];split<;>simp
   ·have hl:((L.take S).drop il).length=S-il:=by simp;omega
    by_cases h0:S-il=0
    ·rw[h0];exact .Hr _ (List.eq_nil_of_length_eq_zero (by omega)) _ _
    ·rw[An (by omega),<-hl];refine .bv _ b (o+il) (cap-il) cs el fz hs (by omega) λi hi=>?_;have:=hc (il+i) (by omega);rw[Fu,this];congr 3;simp only[List.getD,List.getElem?_drop,List.getElem?_take];rw[As (by omega)]
  |Hr _ hl base cap=>subst hl;obtain⟨hb,W,h8⟩:=S3 (P:=P) hX (len:=0) (cap:=cap) true (BL _) y B w;simp only[List.length_nil,Nat.le_zero]at W;subst W;simp only[Nat.le_zero]at h8;subst h8;refine⟨.slice (if cap=0 then base else base.map (·.add 0)) 0 cap,?_,.Hr _ (by simp) _ _⟩;simp[Instr.sliceAt,Instr.slice,run_underlying hd,hb,Ee K,J]
 ·rename_i e Ax n g;obtain⟨de,K,Z⟩:=Ai.1 h2;obtain⟨J,Y⟩:=AQ.1 Z;obtain⟨⟨sh,S⟩,y,U⟩:=Ai.1 Y;obtain⟨⟨sl,il⟩,B,h6⟩:=Ai.1 U;obtain⟨e1,e2,rfl⟩:=KZ h6;simp only at e1 e2 y B;subst e1;subst e2;rw[A0]at J;rw[Ap1 B];clear h2 Z Y U h6;cases hx with
  |vec _ _ _ b o cap cs el fz q hs he R hv hc=>
   obtain⟨hb,W,h8⟩:=S3 (P:=P) hX (len:=n) (cap:=cap) true R y B w;refine⟨.slice (some (if cap=il then⟨b,o,none⟩else⟨b,o+il*Ax,none⟩)) (S-il) (cap-il),?_,?_⟩
   ·simp[Instr.sliceAt,Instr.slice,run_underlying hd,hb,Ee K,J,Dd];split<;>simp
   ·by_cases h0:S-il=0
    ·rw[h0];exact .GR _ _ _ rfl _ _
    ·rw[An (by omega)];refine .vec _ _ _ b (o+il*Ax) (cap-il) cs el fz (λi=>q (il+i)) hs he (by omega) (λi hi=>by rw[Aif B];exact hv _ (by omega)) λi hi j v hj=>?_;have:=hc (il+i) (by omega) j v hj;rw[show o+il*Ax+i*Ax+j=o+(il+i)*Ax+j by rw[Nat.add_mul];omega];exact this
  |GR _ _ _ hn base cap=>subst hn;obtain⟨hb,W,h8⟩:=S3 (P:=P) hX (len:=0) (cap:=cap) true (BL _) y B w;simp only[Nat.le_zero]at W;subst W;simp only[Nat.le_zero]at h8;subst h8;refine⟨.slice (if cap=0 then base else base.map (·.add 0)) 0 cap,?_,.GR _ _ _ rfl _ _⟩;simp[Instr.sliceAt,Instr.slice,run_underlying hd,hb,Ee K,J]
 ·rename_i e id n Ax;obtain⟨de,K,Z⟩:=Ai.1 h2;obtain⟨J,Y⟩:=AQ.1 Z;obtain⟨⟨sh,S⟩,y,U⟩:=Ai.1 Y;injection U with U;injection U with U h6;subst h6;simp only at U y;subst U;simp only[B4]at J;obtain⟨J,ab⟩:=J;rw[A0]at J;cases lo with
  |some _=>simp at ab
  |none=>
  clear h2 Z Y;cases hx with
  |AR _ _ _ b hb he hl=>
   have R:n<=b.cap/Ax:=by rw[Nat.le_div_iff_mul_le he];exact hl
   obtain⟨V,W,h8⟩:=S3 (P:=P) hX (lo:=none) (hi:=hi) (len:=n) (cap:=b.cap/Ax) true R y rfl w;refine⟨.slice (some ⟨b.b,b.ob,none⟩) S (b.cap/Ax),?_,.AR _ _ _ b hb he (Ho (Nat.mul_le_mul_right _ W) hl)⟩;simp only[Option.map_none]at V;simp[Instr.sliceAt,Instr.slice,run_underlying hd,V,Ee K,J,Dd]
  |GQ _ _ _ hn base=>
   subst hn;obtain⟨V,W,h8⟩:=S3 (P:=P) hX (lo:=none) (hi:=hi) (len:=0) (cap:=0) true (BL _) y rfl w;simp only[Nat.le_zero]at W;subst W;simp only[Option.map_none]at V;cases base with
   |none=>refine⟨.slice none 0 0,?_,.GQ _ _ _ rfl _⟩;simp[Instr.sliceAt,Instr.slice,run_underlying hd,V,Ee K]
   |some ad=>refine⟨.slice (some ad) 0 0,?_,.GQ _ _ _ rfl _⟩;simp[Instr.sliceAt,Instr.slice,run_underlying hd,V,Ee K,Dd]
 ·cases h2
end Go.Ev
end
section
namespace Go.Ev
def Ro:Aj->Aj->Bool
 | [],[]=>true
 |a::l,b::m=>cond (Nat.beq a.toNat b.toNat) (Ro l m) false
 |_,_=>false
mutual
def Cp:AV->AV->Bool
 |.bool a,.bool b=>cond a b (!b)
 |.int k a,.int z b=>cond (Ni k z) (Au a b) false
 |.str l n,.str y r=>cond (Nat.beq l y) (Nat.beq n r) false
 |.Ei,.Ei=>true
 |.ptr i o,.ptr j p=>cond (Nat.beq i j) (Nat.beq o p) false
 |.AW,.AW=>true
 |.sl i o n c,.sl j p m d=>cond (Nat.beq i j) (cond (Nat.beq o p) (cond (Nat.beq n m) (Nat.beq c d) false) false) false
 |.BK i o n c,.BK j p m d=>cond (Nat.beq i j) (cond (Nat.beq o p) (cond (Nat.beq n m) (Nat.beq c d) false) false) false
 |.sle i,.sle j=>Nat.beq i j
 |.EY,.EY=>true
 |.map i,.map j=>Nat.beq i j
 |.F4,.F4=>true
 |.Cv i,.Cv j=>Nat.beq i j
 |.fn (.func f) a c,.fn (.func g) b d=>cond (Nat.beq f g) (cond (Km a b) (Km c d) false) false
 |.iface t v,.iface u x=>cond (Nat.beq t u) (Cp v x) false
 |.DU,.DU=>true
 |.agg l,.agg m=>Km l m
 |.AM l,.AM m=>Km l m
 |.AR i n e,.AR j m d=>cond (Nat.beq i j) (cond (Nat.beq n m) (Nat.beq e d) false) false
 |.F6 i n,.F6 j m=>cond (Nat.beq i j) (Nat.beq n m) false
 |.pv l,.pv m=>Km l m
 |.bs l,.bs m=>Ro l m
 |.bv l,.bv m=>Ro l m
 |_,_=>false
def Km:Al->Al->Bool
 | [],[]=>true
 |a::l,b::m=>cond (Cp a b) (Km l m) false
 |_,_=>false
end
theorem BG {a b:Bool} (h:cond a b false=true):a=true/\b=true:=by cases a<;>cases b<;>first|exact⟨rfl,rfl⟩|cases h
theorem oF:∀(a b:Aj),Ro a b=true->a=b
 | [],b,h=>by cases b<;>first|rfl|(simp[Ro]at h;done)
 |x::l,b,h=>by
  cases b with
  |nil=>simp[Ro]at h
  |cons y m=>rw[Ro]at h;obtain⟨r,z⟩:=BG h;rw[A0]at r;rw[UInt8.toNat_inj.1 r,oF l m z]
mutual
theorem TN:∀(a b:AV),Cp a b=true->a=b
 |.bool a,b,h=>by
  cases b<;>first|(simp[Cp]at h;done)|skip
  rename_i b;cases a<;>cases b<;>first|rfl|(simp[Cp]at h;done)
 |.int k a,b,h=>by
  cases b<;>first|(simp[Cp]at h;done)|skip
  rw[Cp]at h;obtain⟨x,r⟩:=BG h;rw[DD]at r;rw[PW x,eq_of_beq r]
 |.str l n,b,h=>by
  cases b<;>first|(simp[Cp]at h;done)|skip
  rw[Cp]at h;obtain⟨x,r⟩:=BG h;rw[A0]at x r;rw[x,r]
 |.Ei,b,h=>by cases b<;>first|rfl|(simp[Cp]at h;done)
 |.ptr i o,b,h=>by
  cases b<;>first|(simp[Cp]at h;done)|skip
  rw[Cp]at h;obtain⟨x,r⟩:=BG h;rw[A0]at x r;rw[x,r]
 |.AW,b,h=>by cases b<;>first|rfl|(simp[Cp]at h;done)
 |.sl i o n c,b,h=>by
  cases b<;>first|(simp[Cp]at h;done)|skip
  rw[Cp]at h;obtain⟨x,r⟩:=BG h;obtain⟨r,y⟩:=BG r;obtain⟨y,z⟩:=BG y;rw[A0]at x r y z;rw[x,r,y,z]
 |.BK i o n c,b,h=>by
  cases b<;>first|(simp[Cp]at h;done)|skip
  rw[Cp]at h;obtain⟨x,r⟩:=BG h;obtain⟨r,y⟩:=BG r;obtain⟨y,z⟩:=BG y;rw[A0]at x r y z;rw[x,r,y,z]
 |.sle i,b,h=>by
  cases b<;>first|(simp[Cp]at h;done)|skip
  rw[Cp,A0]at h;rw[h]
 |.EY,b,h=>by cases b<;>first|rfl|(simp[Cp]at h;done)
 |.map i,b,h=>by
  cases b<;>first|(simp[Cp]at h;done)|skip
  rw[Cp,A0]at h;rw[h]
 |.F4,b,h=>by cases b<;>first|rfl|(simp[Cp]at h;done)
 |.Cv i,b,h=>by
  cases b<;>first|(simp[Cp]at h;done)|skip
  rw[Cp,A0]at h;rw[h]
 |.fn f a c,b,h=>by
  cases b<;>first|(cases f<;>simp[Cp]at h;done)|skip
  rename_i g b d;cases f<;>cases g<;>first|(simp[Cp]at h;done)|skip
  rw[Cp]at h;obtain⟨x,r⟩:=BG h;obtain⟨r,y⟩:=BG r;rw[A0]at x;rw[x,Rm a b r,Rm c d y]
 |.iface t v,b,h=>by
  cases b<;>first|(simp[Cp]at h;done)|skip
  rw[Cp]at h;obtain⟨x,r⟩:=BG h;rw[A0]at x;rw[x,TN v _ r]
 |.DU,b,h=>by cases b<;>first|rfl|(simp[Cp]at h;done)
 |.agg l,b,h=>by
  cases b<;>first|(simp[Cp]at h;done)|skip
  rw[Cp]at h;rw[Rm l _ h]
 |.AM l,b,h=>by
  cases b<;>first|(simp[Cp]at h;done)|skip
  rw[Cp]at h;rw[Rm l _ h]
 |.AR i n e,b,h=>by
  cases b<;>first|(simp[Cp]at h;done)|skip
  rw[Cp]at h;obtain⟨x,r⟩:=BG h;obtain⟨r,y⟩:=BG r;rw[A0]at x r y;rw[x,r,y]
 |.F6 i n,b,h=>by
  cases b<;>first|(simp[Cp]at h;done)|skip
  rw[Cp]at h;obtain⟨x,r⟩:=BG h;rw[A0]at x r;rw[x,r]
 |.pv l,b,h=>by
  cases b<;>first|(simp[Cp]at h;done)|skip
  rw[Cp]at h;rw[Rm l _ h]
 |.bs l,b,h=>by
  cases b<;>first|(simp[Cp]at h;done)|skip
  rw[Cp]at h;rw[oF l _ h]
 |.bv l,b,h=>by
  cases b<;>first|(simp[Cp]at h;done)|skip
  rw[Cp]at h;rw[oF l _ h]
theorem Rm:∀(a b:Al),Km a b=true->a=b
 | [],b,h=>by cases b<;>first|rfl|(simp[Km]at h;done)
 |a::l,b,h=>by
  cases b with
  |nil=>simp[Km]at h
  |cons b m=>rw[Km]at h;obtain⟨x,r⟩:=BG h;rw[TN a b x,Rm l m r]
end
def Jc (l:Al):UInt8:=match l with
 | [.int _ n]=>UInt8.ofNat n.toNat
 |_=>0
def RN (l:Al):Bool:=match l with
 | [.int .u8 _]=>true
 |_=>false
def GN (n:Nat) (f:Nat->Al):Aj:=(List.range n).map λi=>Jc (f i)
def WI (n:Nat) (f:Nat->Al):Bool:=decide (∀i,i<n->RN (f i)=true)
def jA (w:World) (u:Value) (l:Aj):Prop:=(∃base c,u=.slice base 0 c/\l=[])\/∃(ad:Addr) (c:Nat) (ns:Af),u=.slice (some ad) l.length c/\l=ns.map (λn=>UInt8.ofNat n.toNat)/\∀j v,(ns.map (Value.int .u8))[j]? =some v->w.cell? (ad.add j)=some v
def bU (H:Tr Ah) (x:AV):Option (Bool×Aj):=
 match x with
 |.bv l=>some (true,l)
 |.vec Ax n f=>gd (Nat.beq Ax 1) (some (WI n f,GN n f))
 |.AR id n Ax=>gd (Nat.beq Ax 1) (ob (H.get id) λo=>match o with
  |.cells _ c z N _=>match c,z with
   |.leaf,.rows e f=>gd (Nat.beq e 1) (some (cond (Nat.ble n N) (WI n f) false,GN n f))
   |_,_=>none
  |_=>none)
 |.AW=>some (true,[])
 |.sle _=>some (true,[])
 |.sl id off n _=>ob (EV H id off n) λl=>gd (l.all λa=>RN [a]) (some (true,l.map λa=>Jc [a]))
 |.BK id off n _=>ob (EV H id off n) λl=>gd (l.all λa=>RN [a]) (some (true,l.map λa=>Jc [a]))
 |_=>none
theorem tC {ρ:Ak} {l:Al} {vs:List Value} (h:RN l=true) (hv:AL ρ l vs):∃n,vs=[.int .u8 n]/\Jc l=UInt8.ofNat n.toNat:=by
 unfold RN at h;split at h
 ·cases hv with
  |cons _ _ _ _ x r=>cases x;cases r;exact⟨_,rfl,rfl⟩
 ·cases h
theorem oI {ρ:Ak}:∀ {l:Al} {vs:List Value},AL ρ l vs->(l.all λa=>RN [a])=true->∃ns:Af,vs=ns.map (Value.int .u8)/\(l.map λa=>Jc [a])=ns.map λn=>UInt8.ofNat n.toNat
 |_,_,.nil,_=>⟨[],rfl,rfl⟩
 |_,_,.cons a v l vs h x,hb=>by simp only[List.all_cons,B4]at hb;obtain⟨n,r,B⟩:=tC hb.1 (.cons _ _ _ _ h .nil);injection r with r;obtain⟨ns,z,y⟩:=oI x hb.2;exact⟨n::ns,by simp[r,z],by simp[B,y]⟩
theorem AdP {w:World} {n:Nat} {f:Nat->Al} {ad:Addr} (hb:WI n f=true) (h:∀i,i<n->∃v,(∃m,v=Value.int .u8 m/\Jc (f i)=UInt8.ofNat m.toNat)/\w.cell? (ad.add i)=some v): ∃ns:Af,ns.length=n/\GN n f=ns.map (λn=>UInt8.ofNat n.toNat)/\∀j v,(ns.map (Value.int .u8))[j]? =some v->w.cell? (ad.add j)=some v:=by
 classical
 have z:∀i,∃m:Int,i<n->Jc (f i)=UInt8.ofNat m.toNat/\w.cell? (ad.add i)=some (.int .u8 m):=λi=>by
  by_cases hi:i<n
  ·obtain⟨v,⟨m,rfl,J⟩,B⟩:=h i hi;exact⟨m,λ_=>⟨J,B⟩⟩
  ·exact⟨0,λh=>absurd h hi⟩
 refine⟨(List.range n).map λi=>Classical.choose (z i),by simp,?_,λj v r=>?_⟩
 ·unfold GN;rw[List.map_map];apply List.map_congr_left;intro i hi;rw[List.mem_range]at hi;exact(LU (z i) hi).1
 ·rw[List.map_map,I8]at r;cases y:(List.range n)[j]? with
  |none=>rw[y]at r;cases r
  |some i=>rw[y]at r;obtain⟨x,rfl⟩:=Ix.1 y;injection r with r;subst r;simp only[List.length_range]at x;have:=(LU (z j) x).2;simpa using this
theorem yI {E:Env} {F:Nat->Option Obj} {nx:Nat} {ρ:Ak} {h:Nat->Option Ah} {w:World} {H:Tr Ah} (r:Rel E F nx ρ h w) (hs:HS ρ H h) {x:AV} {u:Value} {l:Aj} (V:VR ρ x u) (y:bU H x=some (true,l)):jA w u l:=by
 unfold bU at y;split at y
 ·rename_i L;injection y with y;injection y with _ y;subst y;cases V with
  |bv _ b o cap cs el fz aa af hc=>
   refine .inr ⟨⟨b,o,none⟩,cap,L.map (λb=>(b.toNat:Int)),rfl,?_,λj v W=>?_⟩
   ·rw[List.map_map]
    conv=>lhs;rw[<-List.map_id L]
    apply List.map_congr_left;intro b _;simp
   ·rw[List.map_map,I8]at W;cases hr:L[j]? with
    |none=>rw[hr]at W;cases W
    |some b'=>rw[hr]at W;injection W with W;subst W;obtain⟨ae,rfl⟩:=Ix.1 hr;have:=hc j ae;rw[show L.getD j 0=L[j] by simp[List.getD,ae]]at this;rw[Dd];exact iM r aa this
  |Hr _ hl base cap=>exact .inl ⟨base,cap,rfl,hl⟩
 ·rename_i Ax n f;obtain⟨R,K⟩:=AQ.1 y;rw[A0]at R;subst R;injection K with K;injection K with K J;subst J;have B:=K;unfold WI at K;simp only[Bn]at K;cases V with
  |vec _ _ _ b o cap cs el fz g aa R af hv hc=>
   obtain⟨ns,J,U,h4⟩:=AdP (w:=w) (ad:=⟨b,o,none⟩) B λi hi=>by obtain⟨m,Z,Y⟩:=tC (K i hi) (hv i hi);refine⟨.int .u8 m,⟨m,rfl,Y⟩,?_⟩;have:=hc i hi 0 (.int .u8 m) (by rw[Z];rfl);rw[Dd];exact iM r aa (by simpa using this)
   have hl:(GN n f).length=n:=by simp[GN]
   exact .inr ⟨⟨b,o,none⟩,cap,ns,by rw[hl],U,h4⟩
  |GR _ _ _ hn base cap=>subst hn;exact .inl ⟨base,cap,rfl,rfl⟩
 ·rename_i id n Ax;obtain⟨R,K⟩:=AQ.1 y;rw[A0]at R;subst R;obtain⟨o,ho,J⟩:=Ai.1 K;clear y K;split at J
  ·rename_i ak c z N op;split at J
   ·rename_i e f;obtain⟨R,U⟩:=AQ.1 J;rw[A0]at R;subst R;obtain⟨e1,e2,rfl⟩:=KZ U;rw[Nat.ble_eq]at e1;have B:=e2;unfold WI at e2;simp only[Bn]at e2;cases V with
    |AR _ _ _ b hb _ hl=>
     obtain⟨ns,h4,Z,Y⟩:=AdP (w:=w) (ad:=⟨b.b,b.ob,none⟩) B λi hi=>by
      have S:=e2 i hi;obtain⟨x,ab⟩:∃x,f i=[x]:=by
       unfold RN at S;split at S
       ·rename_i ai;exact⟨_,ai⟩
       ·cases S
      have h8:cellOf .leaf (.rows 1 f) i=some x:=by rw[G1,QU (i:=i) (j:=0) (by decide) i (by omega),ab];rfl
      obtain⟨v,hv,ag⟩:=cell_of r (hs _ _ ho (.inl ⟨b,hb⟩)) hb (k:=i) (by omega) h8;rw[ab]at S;obtain⟨m,h9,aj⟩:=tC S (.cons _ _ _ _ ag .nil);injection h9 with h9;refine⟨v,⟨m,h9,by rw[ab];exact aj⟩,?_⟩;rw[Dd];exact hv
     have ah:(GN n f).length=n:=by simp[GN]
     exact .inr ⟨⟨b.b,b.ob,none⟩,_,ns,by rw[ah],Z,Y⟩
    |GQ _ _ _ hn _=>subst hn;exact .inl ⟨_,_,rfl,rfl⟩
   ·cases J
  ·cases J
 ·injection y with y;injection y with _ y;subst y;cases V;exact .inl ⟨_,_,rfl,rfl⟩
 ·injection y with y;injection y with _ y;subst y;cases V;exact .inl ⟨_,_,rfl,rfl⟩
 ·obtain⟨l',hl,K⟩:=Ai.1 y;obtain⟨B,J⟩:=AQ.1 K;injection J with J;injection J with _ J;subst J;cases V with
  |sl _ _ n _ b hb=>obtain⟨vs,U,h4,Z⟩:=HQ r hs hb hl;obtain⟨ns,Y,S⟩:=oI U B;subst Y;exact .inr ⟨_,_,ns,by rw[HJ,U.length,h4],S,Z⟩
 ·obtain⟨l',hl,K⟩:=Ai.1 y;obtain⟨B,J⟩:=AQ.1 K;injection J with J;injection J with _ J;subst J;cases V with
  |BK _ _ n _ b hb _ _=>obtain⟨vs,U,h4,Z⟩:=HQ r hs hb hl;obtain⟨ns,Y,S⟩:=oI U B;subst Y;exact .inr ⟨_,_,ns,by rw[HJ,U.length,h4],S,Z⟩
 ·cases y
theorem AgG {P:Program} {w:World} {u:Value} {l:Aj} (h:jA w u l) {r dst e:TypeId} (z:P.underlying r=some (.slice e)) (y:P.underlying dst=some .string) (K:P.underlying e=some (.int .u8)): (convert r dst u).run P w=.ok (.string ⟨l.toArray⟩) w:=by
 rcases h with⟨base,c,rfl,rfl⟩|⟨ad,c,ns,rfl,L,S⟩
 ·rw[run_convert_bytes_string w r dst e base 0 c z K y];cases base with
  |none=>simp[Conv.bytesToString];rfl
  |some ad=>have x:=run_loadCells_list (P:=P) (w:=w) ad [] (λj v R=>by simp at R);rw[run_bytesToString w ad 0 c [] x];rfl
 ·rw[run_convert_bytes_string w r dst e (some ad) l.length c z K y];have x:=run_loadCells_list (P:=P) w ad _ S;have B:(ns.map (Value.int .u8)).length=l.length:=by rw[L];simp
  rw[B]at x;rw[run_bytesToString w ad l.length c ns x,fold_push,<-L];have J:ByteArray.empty.data= #[]:=rfl;rw[J,Array.empty_append]
theorem AgF {P:Program} {w:World} {u:Value} {l:Aj} (h:jA w u l):(Extern.Bytes.bytesOf u).run P w=.ok ⟨l.toArray⟩ w:=by
 rcases h with⟨base,c,rfl,rfl⟩|⟨ad,c,ns,rfl,x,z⟩
 ·cases base with
  |none=>rfl
  |some ad=>have:=gv (P:=P) w [] ad .empty (λj v y=>by simp at y);simpa[Extern.Bytes.bytesOf]using this
 ·have:=gv (P:=P) w ns ad .empty z;have r:ns.length=l.length:=by rw[x];simp
  rw[r,<-x]at this;simp only[Extern.Bytes.bytesOf];rw[this];congr 1;show(⟨#[]++l.toArray⟩:ByteArray)=_;rw[Array.empty_append]
def AdZ (P:Program) (H:Tr Ah) (r dst:TypeId) (x:AV):SV:=ob (P.underlying r) λy=>ob (P.underlying dst) λd=>match d,x with
  |.int k,.int _ n=>some (Bf k n,.int k n)
  |.string,.bs l=>some (true,.bs l)
  |.string,x=>match y with
   |.slice e=>ob (P.underlying e) λde=>match de with
    |.int .u8=>ob (bU H x) λp=>some (p.1,.bs p.2)
    |_=>none
   |_=>none
  |_,_=>none
theorem Apn {P:Program} {E:Env} {F:Nat->Option Obj} {nx:Nat} {ρ:Ak} {h:Nat->Option Ah} {w:World} {H:Tr Ah} (r:Rel E F nx ρ h w) (Y:HS ρ H h) {R dst:TypeId} {x a:AV} {u:Value} (U:VR ρ x u) (S:AdZ P H R dst x=some (true,a)):∃z,(convert R dst u).run P w=.ok z w/\VR ρ a z:=by
 obtain⟨ds,J,W⟩:=Ai.1 S;obtain⟨dd,K,y⟩:=Ai.1 W;clear S W;split at y
 ·injection y with y;injection y with y B;subst B;cases U;exact⟨_,by simp[convert,run_underlying J,run_underlying K,Conv.intToInt];rfl,by rw[Tj y];exact .int _ _⟩
 ·injection y with y;injection y with _ B;subst B;cases U;exact⟨_,by simp[convert,run_underlying J,run_underlying K],.bs _⟩
 ·split at y
  ·obtain⟨de,V,B⟩:=Ai.1 y;split at B
   ·obtain⟨⟨sd,l⟩,hl,L⟩:=Ai.1 B;injection L with L;injection L with L Z;subst Z;simp only at L;subst L;exact⟨_,AgG (yI r Y U hl) J K V,.bs _⟩
   ·cases B
  ·cases y
 ·cases y
mutual
def I1 (b:Bool):AV->AV->Option AV
 |.int k m,y=>match y with
  |.int z n=>gd (Ni k z) (some (.int k (cond b m n)))
  |_=>none
 |.bool p,y=>match y with
  |.bool q=>some (.bool (cond b p q))
  |_=>none
 |.bs l,y=>ob (Pd y) λx=>some (.bs (cond b l x))
 |.str m n,y=>ob (Pd y) λx=>some (.bs (cond b (BO m n) x))
 |.agg l,y=>match y with
  |.agg x=>ob (QV b l x) λr=>some (.agg r)
  |_=>none
 |.AM l,y=>match y with
  |.AM x=>ob (QV b l x) λr=>some (.AM r)
  |_=>none
 |_,_=>none
def QV (b:Bool):Al->Al->Option Al
 | [],z=>match z with
  | []=>some []
  |_=>none
 |x::l,z=>match z with
  |y::m=>ob (I1 b x y) λa=>ob (QV b l m) λr=>some (a::r)
  | []=>none
end
mutual
theorem YN {ρ:Ak} (b:Bool):∀(x y r:AV) (v:Value),I1 b x y=some r->(b=true->VR ρ x v)->(b=false->VR ρ y v)->VR ρ r v
 |.int k m,y,r,v,h,J,hy=>by
  cases y<;>first|(simp[I1]at h;done)|skip
  ·rw[I1]at h;obtain⟨S,z⟩:=AQ.1 h;have:=PW S;subst this;injection z with z;subst z;cases b with
   |true=>exact J rfl
   |false=>exact hy rfl
 |.bool p,y,r,v,h,J,hy=>by
  cases y<;>first|(simp[I1]at h;done)|skip
  ·rw[I1]at h;injection h with h;subst h;cases b with
   |true=>exact J rfl
   |false=>exact hy rfl
 |.bs l,y,r,v,h,J,hy=>by
  rw[I1]at h;obtain⟨L,hl,z⟩:=Ai.1 h;injection z with z;subst z;cases b with
  |true=>exact J rfl
  |false=>rw[ML (hy rfl) hl];exact .bs _
 |.str m n,y,r,v,h,J,hy=>by
  rw[I1]at h;obtain⟨L,hl,z⟩:=Ai.1 h;injection z with z;subst z;cases b with
  |true=>rw[ML (J rfl) rfl];exact .bs _
  |false=>rw[ML (hy rfl) hl];exact .bs _
 |.agg l,y,r,v,h,J,hy=>by
  cases y<;>first|(simp[I1]at h;done)|skip
  ·rename_i L;rw[I1]at h;obtain⟨q,R,z⟩:=Ai.1 h;injection z with z;subst z;obtain⟨vs,rfl⟩:∃vs:List Value,v=.agg vs.toArray:=by
    cases b with
    |true=>cases J rfl with|agg _ vs _=>exact⟨vs,rfl⟩
    |false=>cases hy rfl with|agg _ vs _=>exact⟨vs,rfl⟩
   refine .agg _ _ (vz b l L q vs R (λhb=>?_) λhb=>?_)
   ·have:=J hb;generalize hv:Value.agg vs.toArray=v at this;cases this with|agg _ B K=>injection hv with hv;rw[show vs=B by simpa using hv];exact K
   ·have:=hy hb;generalize hv:Value.agg vs.toArray=v at this;cases this with|agg _ B K=>injection hv with hv;rw[show vs=B by simpa using hv];exact K
 |.AM l,y,r,v,h,J,hy=>by
  cases y<;>first|(simp[I1]at h;done)|skip
  ·rename_i L;rw[I1]at h;obtain⟨q,R,z⟩:=Ai.1 h;injection z with z;subst z;obtain⟨vs,rfl⟩:∃vs:List Value,v=.tuple vs.toArray:=by
    cases b with
    |true=>cases J rfl with|AM _ vs _=>exact⟨vs,rfl⟩
    |false=>cases hy rfl with|AM _ vs _=>exact⟨vs,rfl⟩
   refine .AM _ _ (vz b l L q vs R (λhb=>?_) λhb=>?_)
   ·have:=J hb;generalize hv:Value.tuple vs.toArray=v at this;cases this with|AM _ B K=>injection hv with hv;rw[show vs=B by simpa using hv];exact K
   ·have:=hy hb;generalize hv:Value.tuple vs.toArray=v at this;cases this with|AM _ B K=>injection hv with hv;rw[show vs=B by simpa using hv];exact K
 |.Ei,_,_,_,h,_,_|.ptr _ _,_,_,_,h,_,_|.AW,_,_,_,h,_,_|.sl _ _ _ _,_,_,_,h,_,_|.BK _ _ _ _,_,_,_,h,_,_|.sle _,_,_,_,h,_,_|.EY,_,_,_,h,_,_
 |.map _,_,_,_,h,_,_|.fn _ _ _,_,_,_,h,_,_|.F4,_,_,_,h,_,_|.Cv _,_,_,_,h,_,_|.iface _ _,_,_,_,h,_,_|.DU,_,_,_,h,_,_|.F6 _ _,_,_,_,h,_,_
 |.M0,_,_,_,h,_,_|.chan _,_,_,_,h,_,_|.bv _,_,_,_,h,_,_|.vec _ _ _,_,_,_,h,_,_|.pv _,_,_,_,h,_,_|.Gr _ _ _ _,_,_,_,h,_,_|.AR _ _ _,_,_,_,h,_,_
 |.Fb _ _ _,_,_,_,h,_,_=>by simp[I1]at h
theorem vz {ρ:Ak} (b:Bool):∀(x y r:Al) (v:List Value),QV b x y=some r->(b=true->AL ρ x v)->(b=false->AL ρ y v)->AL ρ r v
 | [],y,r,v,h,z,hy=>by
  cases y with
  |cons _ _=>simp[QV]at h
  |nil=>
   rw[QV]at h;injection h with h;subst h;cases b with
   |true=>exact z rfl
   |false=>exact hy rfl
 |x::l,y,r,v,h,z,hy=>by
  cases y with
  |nil=>simp[QV]at h
  |cons y m=>
   rw[QV]at h;obtain⟨a,K,L⟩:=Ai.1 h;obtain⟨q,J,B⟩:=Ai.1 L;injection B with B;subst B;obtain⟨u,vs,rfl⟩:∃u vs,v=u::vs:=by
    cases b with
    |true=>cases z rfl with|cons _ u _ vs _ _=>exact⟨u,vs,rfl⟩
    |false=>cases hy rfl with|cons _ u _ vs _ _=>exact⟨u,vs,rfl⟩
   refine .cons _ _ _ _ (YN b x y a u K (λhb=>?_) λhb=>?_) (vz b l m q vs J (λhb=>?_) λhb=>?_)
   ·cases z hb;assumption
   ·cases hy hb;assumption
   ·cases z hb;assumption
   ·cases hy hb;assumption
end
def PZ (kd:TypeDesc) (k:AV):Option Cn:=
 match kd,k with
 |.string,k=>ob (Pd k) λl=>some (.str l)
 |.int q,.int r n=>gd (Ni q r) (some (.int n))
 |_,_=>none
theorem dq {ρ:Ak} {kd:TypeDesc} {k:AV} {s:Cn} {u:Value} (x:VR ρ k u) (h:PZ kd k=some s):KR kd s u:=by
 unfold PZ at h;split at h
 ·obtain⟨l,hl,r⟩:=Ai.1 h;injection r with r;subst r;rw[ML x hl];exact .str _
 ·obtain⟨y,r⟩:=AQ.1 h;have:=PW y;subst this;injection r with r;subst r;cases x;exact .int _ _
 ·cases h
def W7 (a b:Cn):Option Bool:=match a,b with
 |.str l,.str r=>some (decide (l=r))
 |.int n,.int m=>some (Au n m)
 |_,_=>none
theorem zz {kd:TypeDesc} {a b:Cn} {u v:Value} {q:Bool} (x:KR kd a u) (hb:KR kd b v) (h:W7 a b=some q):Instr.sameNow kd u v=some q:=by
 cases x<;>cases hb
 ·injection h with h;subst h;rename_i l r;have:((⟨l.toArray⟩:ByteArray)==⟨r.toArray⟩)=decide (l=r):=by rw[beq_toListBytes,toList_mk,toList_mk];by_cases h:l=r<;>simp[h]
  simp[Instr.sameNow,this]
 ·injection h with h;subst h;simp[Instr.sameNow,DD]
def vq (kd:TypeDesc) (k:Cn) (z:AV) (x:List Di):Option (Bool×AV):=List.rec (motive:=λ_=>Option (Bool×AV)) (some (false,z)) (λe _ r=>ob (PZ kd e.key) λs=>ob (W7 k s) λq=>ob r λp=>ob (I1 q e.val p.2) λm=>some (cond q true p.1,m)) x
theorem Ad2 {ρ:Ak} {kd:TypeDesc} {k:Cn} {z:AV} {u x:Value} (K:KR kd k u) (hz:VR ρ z x):∀ {r:List Di} {l:List MapEntry},D3 ρ r l->∀(i:Nat) (p:Bool×AV),vq kd k z r=some p->∃v,VR ρ p.2 v/\(if p.1 then∃j,Instr.findNow kd u l i=some (some (j,v))else Instr.findNow kd u l i=some none/\v=x)
 |_,_,.nil,i,p,h=>by injection h with h;subst h;exact⟨x,hz,by simp[Instr.findNow]⟩
 |_,_,.cons e m r l L U,i,p,h=>by
  obtain⟨s,B,h1⟩:=Ai.1 (show(ob (PZ kd e.key) λs=>ob (W7 k s) λq=>ob (vq kd k z r) λp=>ob (I1 q e.val p.2) λm=>some (cond q true p.1,m))=some p from h);obtain⟨q,V,h2⟩:=Ai.1 h1;obtain⟨S,J,Z⟩:=Ai.1 h2;obtain⟨a,R,y⟩:=Ai.1 Z;injection y with y;subst y;have hn:=zz K (dq L.1 B) V;obtain⟨v,Y,W⟩:=Ad2 K hz U (i+1) S J;cases q with
  |true=>refine⟨m.val,YN true _ _ _ _ R (λ_=>L.2.1) (λh=>by cases h),?_⟩;simp[Instr.findNow,hn]
  |false=>refine⟨v,YN false _ _ _ _ R (λh=>by cases h) (λ_=>Y),?_⟩;simp only[cond_false];simpa[Instr.findNow,hn]using W
def tG (r:Cn->Bool) (kd:TypeDesc) (k:Cn):Bool:=match kd,k with
 |.string,.str _=>!r (.int KV)
 |.int q,.int n=>cond (r (.int (N5 q))) (AP n KV) false
 |_,_=>false
theorem AiU {r:Cn->Bool} {kd:TypeDesc} {k:Cn} (h:tG r kd k=true):PY r kd k:=by
 unfold tG at h;unfold PY;split at h
 ·simpa using h
 ·rename_i n;obtain⟨y,x⟩:=BG h;rw[EX]at x;exact⟨y,by simpa using x⟩
 ·cases h
def vw (P:Program) (H:Tr Ah) (t:TypeId) (m k:AV) (ok:Bool):SV:=
 match m,k with
 |.map _,.str _ _=>none
 |m,k=>ob (P.underlying t) λd=>match d with
  |.map key r=>ob (P.underlying key) λkd=>gd (Xt kd) (ob (PZ kd k) λs=>ob (Pl P r) λz=>match m with
   |.Fb has val x=>gd (Cp z x) (some (tG has kd s,cond ok (.AM [val s,.bool (has s)]) (val s)))
   |.map id=>ob (H.get id) λo=>match o with
    |.map es _=>ob (vq kd s z es) λp=>some (true,cond ok (.AM [p.2,.bool p.1]) p.2)
    |_=>none
   |_=>none)
  |_=>none
theorem ApA {P:Program} {E:Env} {F:Nat->Option Obj} {nx:Nat} {ρ:Ak} {h:Nat->Option Ah} {w:World} {H:Tr Ah} (r:Rel E F nx ρ h w) (hs:HS ρ H h) {t:TypeId} {m k a:AV} {ok:Bool} {u v:Value} (hm:VR ρ m u) (hk:VR ρ k v) (J:vw P H t m k ok=some (true,a)):∃z,(Instr.lookup t u v ok).run P w=.ok z w/\VR ρ a z:=by
 unfold vw at J;split at J
 ·cases J
 obtain⟨d,hd,h1⟩:=Ai.1 J;clear J;split at h1
 ·rename_i key aj;obtain⟨kd,B,h2⟩:=Ai.1 h1;obtain⟨ai,h3⟩:=AQ.1 h2;obtain⟨s,ag,h4⟩:=Ai.1 h3;obtain⟨z,hz,h5⟩:=Ai.1 h4;clear h1 h2 h3 h4;have W:=dq hk ag;obtain⟨zv,Y,Z⟩:=Pm hz w;have R:=λe=>cU (P:=P) B ai e 9999 v w;have ab:∀(b:Nat) (V:Array MapEntry) (x:Nat) (y:Bool) (val:AV),w.heap[b]? =some (.map V x)-> (∃q,VR ρ val q/\(if y then∃j,Instr.findNow kd v V.toList 0=some (some (j,q))else Instr.findNow kd v V.toList 0=some none/\q=zv))-> ∃z,(Instr.lookup t (.map (some b)) v ok).run P w=.ok z w/\VR ρ (cond ok (.AM [val,.bool y]) val) z:=by
   intro b V x y val hb ⟨q,hq,S⟩;cases y with
   |true=>
    obtain⟨j,S⟩:=S;cases ok with
    |true=>refine⟨.tuple #[q,.bool true],?_,.AM _ [q,.bool true] (.cons _ _ _ _ hq (.cons _ _ _ _ (.bool true) .nil))⟩;simp[Instr.lookup,run_underlying hd,R,Instr.findKey,run_underlying B,S,getObj,Sem.run,hb]
    |false=>refine⟨q,?_,hq⟩;simp[Instr.lookup,run_underlying hd,R,Instr.findKey,run_underlying B,S,getObj,Sem.run,hb]
   |false=>
    obtain⟨S,rfl⟩:=S;cases ok with
    |true=>refine⟨.tuple #[q,.bool false],?_,.AM _ [q,.bool false] (.cons _ _ _ _ hq (.cons _ _ _ _ (.bool false) .nil))⟩;simp[Instr.lookup,run_underlying hd,R,Instr.findKey,run_underlying B,S,getObj,Sem.run,hb,Y]
    |false=>refine⟨q,?_,hq⟩;simp[Instr.lookup,run_underlying hd,R,Instr.findKey,run_underlying B,S,getObj,Sem.run,hb,Y]
  split at h5
  ·rename_i y val z' _;obtain⟨ad,K⟩:=AQ.1 h5;have:=TN _ _ ad;subst this;injection K with K;injection K with U K;subst K;have aa:=AiU U;cases hm with
   |Fb _ _ _ b V x g af hn hy ae hg=>
    refine ab b V x (y s) (val s) (r.st _ _ af) ?_;cases L:y s with
    |true=>obtain⟨j,hj⟩:=hy kd s v W aa L;exact⟨g s,hg s L,by simpa using⟨j,hj⟩⟩
    |false=>exact⟨zv,AfD (ae s L) (Z ρ),by simpa using hn kd s v W aa L⟩
  ·obtain⟨o,ho,K⟩:=Ai.1 h5;split at K
   ·rename_i V x;obtain⟨p,hp,U⟩:=Ai.1 K;injection U with U;injection U with _ U;subst U;cases hm with
    |map _ b hb=>
     obtain⟨c,hc,ah⟩:=r.ob _ _ b (hs _ _ ho (.inl ⟨b,hb⟩)) hb;cases ah with
     |map _ _ l hl=>obtain⟨q,h8,h9⟩:=Ad2 W (Z ρ) hl 0 p hp;exact ab b.b _ _ p.1 p.2 hc ⟨q,h8,h9⟩
   ·cases K
  ·cases h5
 ·cases h1
def AeZ (H:Tr Ah) (x:AV):Option (Bool×Aj):=
 match x with
 |.str m n=>some (true,BO m n)
 |.bs l=>some (true,l)
 |x=>bU H x
def vp (P:Program) (H:Tr Ah) (f:AV) (xs:Al):SV:=
 match f with
 | .fn (.func g) [] [] => ob (P.funcs[g]?) fun fn => gd fn.body.isNone (gd (fn.origin == "") (match xs with
  | [b,.int .u8 c]=>ob (AeZ H b) λp=>fN (PM fn.name) λk=>cond (Nat.beq k 1) (some (cond p.1 (Bf .u8 c) false,Jk (Lib.countByte p.2 (UInt8.ofNat c.toNat))))
    (gd (Nat.beq k 2) (some (cond p.1 (Bf .u8 c) false,.int .i64 (Lib.indexByte p.2 (UInt8.ofNat c.toNat)))))
  |_=>none))
 |_=>none
theorem Apq {P:Program} {E:Env} {F:Nat->Option Obj} {nx:Nat} {ρ:Ak} {h:Nat->Option Ah} {w:World} {H:Tr Ah} (r:Rel E F nx ρ h w) (hs:HS ρ H h) {f:AV} {xs:Al} {a:AV} {us:List Value} (hx:AL ρ xs us) (hev:vp P H f xs=some (true,a)):∃g,f=.fn (.func g) [] []/\∃v,(callFunc g us.toArray).run P w=.ok (.value v) w/\VR ρ a v:=by
 unfold vp at hev;split at hev
 ·rename_i g;obtain⟨fn,hfn,h1⟩:=Ai.1 hev;obtain⟨hb,h2⟩:=AQ.1 h1;obtain⟨ho,h3⟩:=AQ.1 h2
  have ho' : fn.origin = "" := by simpa using ho
  refine⟨g,rfl,?_⟩;split at h3
  ·rename_i b c;obtain⟨⟨sd,l⟩,hbs,h5⟩:=Ai.1 h3;simp only[Bv]at h5;cases hx with
   |cons _ u1 _ us1 hu1 hus1=>cases hus1 with
    |cons _ u2 _ us2 hu2 hus2=>
     cases hus2;cases hu2;have hby:sd=true->(Extern.Bytes.bytesOf u1).run P w=.ok ⟨l.toArray⟩ w:=λhsd=>by
      subst hsd;unfold AeZ at hbs;split at hbs
      ·injection hbs with hbs;injection hbs with _ hbs;subst hbs;cases hu1;rfl
      ·injection hbs with hbs;injection hbs with _ hbs;subst hbs;cases hu1;rfl
      ·exact AgF (yI r hs hu1 hbs)
     have hst:(Extern.Bytes.bytesOf (.string ⟨l.toArray⟩)).run P w=.ok ⟨l.toArray⟩ w:=rfl;have hu8:∀c:Int,c.toNat.toUInt8=UInt8.ofNat c.toNat:=λ_=>rfl;cases hk:Nat.beq (PM fn.name) 1 with
     |true=>
      rw[hk,cond_true]at h5;obtain⟨e0,_,rfl⟩:=KZ h5;have hby:=hby e0;obtain⟨e1,e2,e3⟩:=AaJ ho' (D4 hk);refine⟨_,?_,.int _ _⟩;rw[run_callFunc_extern hfn e3 hb e1 e2];have hs0:=Lib.run_countString (P:=P) ⟨l.toArray⟩ c w;have hrun:(Extern.BytealgCount.count #[u1,.int .u8 c]).run P w=(Extern.BytealgCount.count #[.string ⟨l.toArray⟩,.int .u8 c]).run P w:=by
       change Sem.run P (do
        let b<-Extern.Bytes.bytesOf u1;let c'<-Extern.Bytes.asByte (.int .u8 c)
        pure (goInt (b.foldl (λn x=>if x==c' then n+1 else n) (0:Nat)))) w=Sem.run P (do
        let b<-Extern.Bytes.bytesOf (.string ⟨l.toArray⟩);let c'<-Extern.Bytes.asByte (.int .u8 c)
        pure (goInt (b.foldl (λn x=>if x==c' then n+1 else n) (0:Nat)))) w
       simp only[Sem.run_bind,hby,hst]
      rw[show [u1,Value.int .u8 c].toArray= #[u1,.int .u8 c]from rfl,hrun,hs0];rfl
     |false=>
      rw[hk,cond_false]at h5;obtain⟨hk2,h6⟩:=AQ.1 h5;obtain⟨e0,_,rfl⟩:=KZ h6;have hby:=hby e0;obtain⟨e1,e2,e3⟩:=AaK ho' (D4 hk2);refine⟨_,?_,.int _ _⟩;rw[run_callFunc_extern hfn e3 hb e1 e2];have hs0:=Lib.run_indexByteString (P:=P) ⟨l.toArray⟩ c w;have hrun:(Extern.BytealgIndexByte.indexByte #[u1,.int .u8 c]).run P w=(Extern.BytealgIndexByte.indexByte #[.string ⟨l.toArray⟩,.int .u8 c]).run P w:=by
       change Sem.run P (do
        let b<-Extern.Bytes.bytesOf u1;let c'<-Extern.Bytes.asByte (.int .u8 c)
        match(List.range b.size).find? λi=>b[i]! ==c' with
        |some i=>pure (goInt i)
        |none=>pure (goInt (-1))) w=Sem.run P (do
        let b<-Extern.Bytes.bytesOf (.string ⟨l.toArray⟩);let c'<-Extern.Bytes.asByte (.int .u8 c)
        match(List.range b.size).find? λi=>b[i]! ==c' with
        |some i=>pure (goInt i)
        |none=>pure (goInt (-1))) w
       simp only[Sem.run_bind,hby,hst]
      rw[show [u1,Value.int .u8 c].toArray= #[u1,.int .u8 c]from rfl,hrun,hs0];rfl
  ·cases h3
 ·cases hev
end Go.Ev
end
section
namespace Go.Ev
def Ad9 (x:AV):SV:=match x with
 |.pv cs=>some (true,.pv cs)
 |.Gr id Ax i j=>some (true,.Gr id Ax i j)
 |_=>none
def sUn (op:UnOp) (x:AV):SV:=match op,x with
 |.neg,.int k n=>some (Bf k (0-n),.int k (0-n))
 |_,_=>none
def sBi (P:Program) (b:Builtin) (y:List TypeId) (r:Al):SV:=
 match b with
 |.len=>ob (y[0]?) λt=>ob (r[0]?) λx=>Ad7 P t x
 |_=>none
def HC (P:Program) (H:Tr Ah) (X:Operand->Option AV) (op:Op):SV:=
 match op with
 |.pick c a b=>ob (X c) λv=>match v with
  |.bool t=>ob (X a) λx=>ob (X b) λy=>ob (I1 t x y) λm=>some (true,m)
  |_=>none
 |.load t a=>ob (X a) λx=>vv P H t x
 |.nilCheck x=>ob (X x) Ad9
 |.binOp op t x y _=>ob (X x) λa=>ob (X y) λb=>AdY P op t (Ld x) (Ld y) a b
 |.unOp op _ x=>ob (X x) λa=>sUn op a
 |.convert s d x=>ob (X x) λa=>AdZ P H s d a
 |.slice t x lo hi mx=>ob (X x) λa=>YO P X t a lo hi mx
 |.fieldAddr t x f=>ob (X x) λa=>Ad1 P t a f
 |.indexAddr t x i=>ob (X x) λa=>ob (X i) λb=>vt P t a b
 |.index t x i=>ob (X x) λa=>ob (X i) λb=>vr P t a b
 |.lookup t x i ok=>ob (X x) λa=>ob (X i) λb=>vw P H t a b ok
 |.call c=>match c.callee with
  |.builtin b=>ob (F0 X c.args.toList) λr=>sBi P b c.argTypes.toList r
  |.value f=>ob (X f) λz=>ob (F0 X c.args.toList) λr=>vp P H z r
  |_=>none
 |_=>none
def De (P:Program) (H:Tr Ah) (X:Operand->Option AV) (op:Op):Option AV:=Option.rec (motive:=λ_=>Option AV) (G4 P H X op) (λr=>cond r.1 (some r.2) (G4 P H X op)) (HC P H X op)
theorem wA {P:Program} {H:Tr Ah} {X:Operand->Option AV} {op:Op} {a:AV} (h:HC P H X op=some (true,a)):De P H X op=some a:=by unfold De;rw[h];rfl
theorem XQ {P:Program} {H:Tr Ah} {X:Operand->Option AV} {op:Op} {a:AV} (h:HC P H X op=none) (r:G4 P H X op=some a):De P H X op=some a:=by unfold De;rw[h];exact r
theorem ApE {P:Program} {E:Env} {F:Nat->Option Obj} {nx:Nat} {ρ:Ak} {h:Nat->Option Ah} {w:World} {H:Tr Ah} (r:Rel E F nx ρ h w) (hs:HS ρ H h) {X:Operand->Option AV} {f:Operand->Value} (R:XR ρ X f) (o:Oper) {a:AV} (J:HC P H X o.op=some (true,a)): ∃v,(execOp f o).run P w=.ok (.value v) w/\VR ρ a v:=by
 obtain⟨dst,op,type,pos,after,guard⟩:=o;simp only at J;cases op<;>simp only[HC]at J<;>first|(cases J;done)|skip
 case pick c x y=>
  obtain⟨v,hv,B⟩:=Ai.1 J;have hc:=R _ _ hv;split at B
  ·rename_i t;obtain⟨xa,af,S⟩:=Ai.1 B;obtain⟨ya,ad,L⟩:=Ai.1 S;obtain⟨m,hm,K⟩:=Ai.1 L;injection K with K;injection K with _ K;subst K;generalize aa:f c=u at hc;cases hc;cases t
   ·exact⟨f y,by simp[execOp,aa,asBool],YN false _ _ _ _ hm (λh=>by cases h) λ_=>R _ _ ad⟩
   ·exact⟨f x,by simp[execOp,aa,asBool],YN true _ _ _ _ hm (λ_=>R _ _ af) λh=>by cases h⟩
  ·cases B
 case load t x=>
  obtain⟨v,hv,B⟩:=Ai.1 J;obtain⟨z,S,L⟩:=Apz (P:=P) r hs (R _ _ hv) B;exact⟨z,C1 S,L⟩
 case nilCheck x=>
  obtain⟨v,hv,B⟩:=Ai.1 J;have hc:=R _ _ hv;unfold Ad9 at B;split at B
  ·injection B with B;injection B with _ B;subst B;refine⟨f x,?_,hc⟩;generalize W:f x=u at hc;cases hc;simp[execOp,W]
  ·injection B with B;injection B with _ B;subst B;refine⟨f x,?_,hc⟩;generalize W:f x=u at hc;cases hc;simp[execOp,W]
  ·cases B
 case binOp op t x y yt=>
  obtain⟨v,hv,B⟩:=Ai.1 J;obtain⟨v',U,S⟩:=Ai.1 B;obtain⟨z,L,K⟩:=Apm (P:=P) (R _ _ hv) (R _ _ U) S w;exact⟨z,C1 L,K⟩
 case unOp op t x=>
  obtain⟨v,hv,B⟩:=Ai.1 J;have hc:=R _ _ hv;unfold sUn at B;split at B
  ·rename_i k n;injection B with B;injection B with B S;subst S;obtain⟨z,L,K⟩:=AaD (P:=P) (op:=.neg) (x:=.int k n) (r:=.int k (0-n)) (by simp only[dE,Nb,Y4];rw[Tj B]) hc w;exact⟨z,C1 L,K⟩
  ·cases B
 case convert s d x=>
  obtain⟨v,hv,B⟩:=Ai.1 J;obtain⟨z,L,K⟩:=Apn (P:=P) r hs (R _ _ hv) B;exact⟨z,C1 L,K⟩
 case slice t x lo hi mx=>
  obtain⟨v,hv,B⟩:=Ai.1 J;obtain⟨z,L,K⟩:=ApG (P:=P) R (R _ _ hv) B w;exact⟨z,C1 L,K⟩
 case fieldAddr t x i=>
  obtain⟨v,hv,B⟩:=Ai.1 J;obtain⟨z,L,K⟩:=Aps (P:=P) (R _ _ hv) B w;exact⟨z,C1 L,K⟩
 case indexAddr t x i=>
  obtain⟨v,hv,B⟩:=Ai.1 J;obtain⟨v',U,S⟩:=Ai.1 B;obtain⟨z,L,K⟩:=Apv (P:=P) (R _ _ hv) (R _ _ U) S w;exact⟨z,C1 L,K⟩
 case index t x i=>
  obtain⟨v,hv,B⟩:=Ai.1 J;obtain⟨v',U,S⟩:=Ai.1 B;obtain⟨z,L,K⟩:=Apw (P:=P) (R _ _ hv) (R _ _ U) S w;exact⟨z,C1 L,K⟩
 case lookup t x i ok=>
  obtain⟨v,hv,B⟩:=Ai.1 J;obtain⟨v',U,S⟩:=Ai.1 B;obtain⟨z,L,K⟩:=ApA (P:=P) r hs (R _ _ hv) (R _ _ U) S;exact⟨z,C1 L,K⟩
 case call c=>
  obtain⟨ab,args,V⟩:=c;simp only at J;split at J
  ·rename_i b;obtain⟨xs,Y,B⟩:=Ai.1 J;have ae:=I6 R Y;unfold sBi at B;split at B
   ·obtain⟨t,ht,S⟩:=Ai.1 B;obtain⟨x,hx,L⟩:=Ai.1 S;obtain⟨u,hu,ag⟩:=ae.get _ _ hx;obtain⟨z,K,h5⟩:=Apy (P:=P) (w:=w) ag L V (args.map f) type (by rw[<-Array.getElem?_toList];exact ht) (by rw[<-Array.getElem?_toList,Array.toList_map];exact hu);refine⟨z,?_,h5⟩;simp only[execOp,resolve,Sem.run_bind,Sem.run_pure,Result.andThen_ok,invoke];exact C1 K
   ·cases B
  ·rename_i g;obtain⟨fv,ah,h0⟩:=Ai.1 J;obtain⟨xs,Y,B⟩:=Ai.1 h0;obtain⟨k,hk,v,S,L⟩:=Apq (P:=P) r hs (I6 R Y) B;subst hk;refine⟨v,?_,L⟩;have W:f g=.func (.func k) #[] #[]:=by
    have:=R _ _ ah;generalize f g=u at this;cases this with
    |fn _ _ _ va vc ha hc=>cases ha;cases hc;rfl
   have Z:(args.toList.map f).toArray=args.map f:=by rw[map_toArray]
   rw[Z]at S;simp only[execOp,resolve,W,Deferred.ofValue,Sem.run_bind,Sem.run_pure,Result.andThen_ok,invoke,Array.append_empty,Array.empty_append];exact S
  ·cases J
theorem rp {P:Program} {E:Env} {F:Nat->Option Obj} {nx:Nat} {ρ:Ak} {h:Nat->Option Ah} {w:World} {H:Tr Ah} (r:Rel E F nx ρ h w) (z:HS ρ H h) {X:Operand->Option AV} {f:Operand->Value} (B:XR ρ X f) (o:Oper) {a:AV} (x:De P H X o.op=some a): ∃v,(execOp f o).run P w=.ok (.value v) w/\VR ρ a v:=by
 cases y:HC P H X o.op with
 |none=>
  have J:De P H X o.op=G4 P H X o.op:=by unfold De;rw[y]
  rw[J]at x;exact Aax r z B o x
 |some p=>
  obtain⟨b,K⟩:=p;have J:De P H X o.op=cond b (some K) (G4 P H X o.op):=by unfold De;rw[y]
  rw[J]at x;cases b with
  |true=>injection x with x;subst x;exact ApE r z B o y
  |false=>exact Aax r z B o x
def Kn (l:Aj):Nat->Al:=λi=>[.int .u8 ((l.getD i 0).toNat:Int)]
def I2 (P:Program) (X:Operand->Option AV) (ni:Nat) (op:Op):Option (Bool×AV×Ah):=
 match op with
 |.makeSlice t l c=>ob (X l) λl=>ob (X c) λc=>match l,c with
  |.int _ n,.int _ m=>ob (P.underlying t) λd=>match d with
   |.slice el=>ob (P.info? el) λi=>ob (V5 P el) λcs=>gd (Nat.blt 0 cs.length&&Nat.beq cs.length i.size)
     (some (decide (0<=n/\n<=m/\m<=9223372036854775807/\i.bytes*m<=281474976710656),.AR ni n.toNat i.size,.cells el .leaf (.rows i.size λ_=>cs) (n.toNat*i.size) true))
   |_=>none
  |_,_=>none
 |.convert s t x=>ob (X x) λv=>match v with
  |.bs l=>ob (P.underlying s) λ_=>ob (P.underlying t) λd=>match d with
   |.slice el=>ob (P.underlying el) λde=>match de with
    |.int .u8=>some (decide (l.length<=140737488355328),.AR ni l.length 1,.cells el .leaf (.rows 1 (Kn l)) l.length true)
    |_=>none
   |_=>none
  |_=>none
 |_=>none
def Ew (P:Program) (X:Operand->Option AV) (ni:Nat) (op:Op):Option (AV×Ah):=Option.rec (motive:=λ_=>Option (AV×Ah)) (Ic P X ni op) (λr=>cond r.1 (some r.2) (Ic P X ni op)) (I2 P X ni op)
theorem Ad8 {P:Program} {X:Operand->Option AV} {ni:Nat} {op:Op} {a:AV×Ah} (h:I2 P X ni op=some (true,a)):Ew P X ni op=some a:=by unfold Ew;rw[h];rfl
theorem AcJ {P:Program} {X:Operand->Option AV} {ni:Nat} {op:Op} {a:AV×Ah} (h:I2 P X ni op=none) (r:Ic P X ni op=some a):Ew P X ni op=some a:=by unfold Ew;rw[h];exact r
theorem ApC {P:Program} {ρ:Ak} {w:World} {X:Operand->Option AV} {f:Operand->Value} (hX:XR ρ X f) {ni:Nat} (o:Oper) {a:AV} {Y:Ah} (B:I2 P X ni o.op=some (true,a,Y)):jF P w ρ ni (execOp f o) a Y:=by
 obtain⟨dst,op,type,pos,after,guard⟩:=o;simp only at B;cases op<;>simp only[I2]at B<;>first|(cases B;done)|skip
 case makeSlice t l c=>
  obtain⟨lv,ao,K⟩:=Ai.1 B;obtain⟨cv,ay,L⟩:=Ai.1 K;clear B K;have rl:=hX _ _ ao;have rc:=hX _ _ ay;split at L
  ·rename_i kl n km m;obtain⟨d,hd,J⟩:=Ai.1 L;clear L;generalize ad:f l=vl at rl;generalize ae:f c=vc at rc;cases rl;cases rc;cases d with
   |slice el=>
    obtain⟨i,hi,h6⟩:=Ai.1 J;obtain⟨cs,az,h8⟩:=Ai.1 h6;obtain⟨hz,h9⟩:=AQ.1 h8;clear J h6 h8;injection h9 with h9;injection h9 with hb W;injection W with W aB;subst W;subst aB;simp only[Bn]at hb;obtain⟨aG,aF,aE,aD⟩:=hb;rw[B4,CE,A0]at hz;obtain⟨z,ai,hr⟩:=iz (P:=P) az (w:World);have Z:z.cells.size=i.size:=by have:=(hr ρ).length;simp at this;omega
    obtain⟨S,rfl⟩:∃q:Nat,n=q:=⟨n.toNat,by omega⟩;obtain⟨y,rfl⟩:∃q:Nat,m=q:=⟨m.toNat,by omega⟩;rw[Int.toNat_natCast];have ab:S*i.size<=y*i.size:=Nat.mul_le_mul_right _ (by omega);refine⟨.slice (some ⟨w.heap.size,0,none⟩) S y,w,.cells ((Array.range (y*i.size)).map (λj=>z.cells[j %z.cells.size]!)) el,y*i.size,?_,.inl rfl,?_,?_⟩
    ·refine C1 ?_;have e1:IntKind.i64.wrap (S:Int)=S:=wrap_i64 (by omega) (by omega);have e2:IntKind.i64.wrap (y:Int)=y:=wrap_i64 (by omega) (by omega);have e3:¬((i.bytes:Int)*(y:Int)>281474976710656):=by omega
     have e4:¬((S:Int)>(y:Int)):=by omega
     have af:P.cellsOf el=i.size:=by simp[Program.cellsOf,hi]
     have e5:¬((y:Int)<0\/(S:Int)<0):=by omega
     by_cases hn:y*i.size=0
     ·have an:∀g:Nat->Value,(Array.range (y*i.size)).map g= #[]:=λg=>by rw[hn];simp
      rw[an];have ak:∀g:Nat->Value,(Array.range 0).map g= #[]:=λg=>by simp
      simp[Instr.makeSlice,run_underlying hd,ad,ae,asInt,asIntOf,run_typeInfo w hi,e1,e2,e3,e4,e5,run_sizeOf w hi,af,hn,newRow,ak]
     ·simp[Instr.makeSlice,run_underlying hd,ad,ae,asInt,asIntOf,run_typeInfo w hi,e1,e2,e3,e4,e5,run_sizeOf w hi,af,hn,ai,newRow]
    ·have aa:=OR.AcU (b:=w.heap.size) (hr (ρ.put ni ⟨w.heap.size,0,y*i.size⟩)) el (y*i.size) (.inr hz.1);generalize aC:Obj.cells ((Array.range (y*i.size)).map (λj=>z.cells[j %z.cells.size]!)) el=co at aa;cases aa with
     |cells _ _ _ _ _ cs' fz K L h3 V J=>refine .cells el .leaf (.rows i.size λ_=>cs) _ true cs' fz K ab (by simp) V λk a hk U=>J k a (by omega) ?_;rw[G1]at U⊢;show cs[k %cs.length]? =some a;rw[hz.2];exact U
    ·have:=VR.AR (ρ:=ρ.put ni ⟨w.heap.size,0,y*i.size⟩) ni S i.size ⟨w.heap.size,0,y*i.size⟩ (Ak.EO _ _ _) (by omega) ab;simp only[Nat.mul_div_cancel y (show 0<i.size by omega)]at this;exact this
   |_=>cases J
  ·cases L
 case convert s t x=>
  obtain⟨v,hv,K⟩:=Ai.1 B;clear B;have hc:=hX _ _ hv;split at K
  ·rename_i l;obtain⟨ds,av,L⟩:=Ai.1 K;obtain⟨dt,au,h3⟩:=Ai.1 L;clear K L;split at h3
   ·rename_i el;obtain⟨de,aw,V⟩:=Ai.1 h3;split at V
    ·injection V with V;injection V with hb J;injection J with J h6;subst J;subst h6;simp only[Bn]at hb;generalize aq:f x=vx at hc;cases hc;let cap:=Question.cut (.appendCap l.length 0 el) (w.tape w.drawn (.appendCap l.length 0 el));have R:l.length<=cap:=by show l.length<=l.length+_;omega
     let r:Array Value:=(l.toArray.map λb=>Value.int .u8 b.toNat)++Array.replicate (cap-l.length) (.int .u8 0);have DT:r.size=cap:=by simp[r];omega
     refine⟨.slice (some ⟨w.heap.size,0,none⟩) l.length cap,w.drew,.cells r el (r.size,r.size+1),cap,?_,.inr rfl,?_,?_⟩
     ·refine C1 ?_;have Z:(ByteArray.mk l.toArray).size=l.length:=by show l.toArray.size=_;simp
      have aA:(choose (.appendCap l.length 0 el)).run P w=.ok cap w.drew:=by simp[Question.forced,cap]
      have ar:=yA w.drew r el;have ah:(Conv.stringToBytes el ⟨l.toArray⟩).run P w=.ok (.slice (some ⟨w.heap.size,0,none⟩) l.length cap) (w.drew.alloc (.cells r el (r.size,r.size+1))):=by rw[<-ar];unfold Conv.stringToBytes;rw[Z];simp only[Sem.run_bind,aA,Result.andThen_ok];have aj:=Aex w.drew r el;simp only[newRow,Sem.run_bind,run_newObj,Result.andThen_ok,Sem.run_pure,markStringish,run_shape];have ag:World.shape? {w.drew with heap:=w.drew.heap.push (.cells r el)} w.drew.heap.size=some (el,r.size):=aj;rw[ag];rfl
      rw[aq];simp only[convert,Sem.run_bind,run_underlying av,run_underlying au,Result.andThen_ok,run_underlying aw];cases ds<;>simp[ah]
     ·refine .cells el .leaf (.rows 1 (Kn l)) l.length true r (r.size,r.size+1) (by simp[DT]) R (by simp) (.inr (AH _)) λk a hk U=>?_;rw[G1,QU (i:=k) (j:=0) (by decide) k (by omega)]at U;injection U with U;subst U;refine⟨_,?_,.int _ _⟩;simp only[Nat.zero_add];show((l.toArray.map λb=>Value.int .u8 b.toNat)++Array.replicate (cap-l.length) (.int .u8 0))[k]? =_;rw[Array.getElem?_append,As (by simpa using hk)];simp[List.getD,hk]
     ·have:=VR.AR (ρ:=ρ.put ni ⟨w.heap.size,0,cap⟩) ni l.length 1 ⟨w.heap.size,0,cap⟩ (Ak.EO _ _ _) (by decide) (by simpa using R);simpa using this
    ·cases V
   ·cases h3
  ·cases K
theorem rm {P:Program} {ρ:Ak} {w:World} {X:Operand->Option AV} {f:Operand->Value} (B:XR ρ X f) {ni:Nat} (z:ρ ni=none) (o:Oper) {a:AV} {y:Ah} (r:Ew P X ni o.op=some (a,y)):jF P w ρ ni (execOp f o) a y:=by
 cases x:I2 P X ni o.op with
 |none=>
  have J:Ew P X ni o.op=Ic P X ni o.op:=by unfold Ew;rw[x]
  rw[J]at r;exact Aat B z o r
 |some p=>
  obtain⟨b,K⟩:=p;have J:Ew P X ni o.op=cond b (some K) (Ic P X ni o.op):=by unfold Ew;rw[x]
  rw[J]at r;cases b with
  |true=>injection r with r;subst r;exact ApC B o x
  |false=>exact Aat B z o r
end Go.Ev
end
section
namespace Go.Ev
def Ago (P:Program) (s:Sem Next) (w:World) (v:Value) (w':World):Prop:=s.run P w=.ok (.value v) w'\/(s.run P w=.ok .skip w'/\v=undef)
def World.EN (w:World) (b:Nat) (o:Obj):World:={w with heap:=w.heap.setIfInBounds b o}
theorem Mn (w:World) (b:Nat) (o x:Obj) (h:w.heap[b]? =some x) (k:Nat):(World.EN w b o).heap[k]? =if k=b then some o else w.heap[k]?:=by
 have hb:=JV h;unfold World.EN;by_cases r:k=b
 ·subst r;rw[As rfl];simp[hb]
 ·rw[An r];show(w.heap.setIfInBounds b o)[k]? =_;rw[Array.getElem?_setIfInBounds_ne (λe=>r e.symm)]
theorem ApQ (w:World) (b off:Nat) (v:Value) (cs:Array Value) (el:TypeId) (fz:Nat×Nat) (h:w.heap[b]? =some (.cells cs el fz)): w.setCell ⟨b,off,none⟩ v=World.EN w b (.cells (cs.setIfInBounds off v) el fz):=by
 unfold World.setCell World.EN;congr 1;apply Array.ext_getElem?;intro i;have hb:=JV h;rw[Array.getElem?_modify];by_cases hi:b=i
 ·subst hi;rw[As rfl,h];simp[hb]
 ·rw[An hi,Array.getElem?_setIfInBounds_ne hi]
theorem AlA (w:World) (b:Nat) (o o':Obj):World.EN (World.EN w b o) b o'=World.EN w b o':=by unfold World.EN;simp
theorem YK {P:Program} (b o:Nat) (el:TypeId) (fz:Nat×Nat):∀(vs:List Value) (i:Nat) (cs:Array Value) (w:World),w.heap[b]? =some (.cells cs el fz)->dL cs fz-> o+i+vs.length<=cs.size->(∀v∈vs,v.oneCell'=true)->∃cs',(storeCells ⟨b,o,none⟩ vs i).run P w=.ok () (World.EN w b (.cells cs' el fz))/\cs'.size=cs.size/\ ∀j,cs'[j]? =if o+i<=j/\j<o+i+vs.length then vs[j-(o+i)]? else cs[j]?
 | [],i,cs,w,h,_,_,_=>by
  refine⟨cs,?_,rfl,λj=>by rw[An (by simp)]⟩;have:World.EN w b (.cells cs el fz)=w:=by
   unfold World.EN;congr 1;apply Array.ext_getElem?;intro k;by_cases B:b=k
   ·subst B;rw[h];simp[JV h]
   ·rw[Array.getElem?_setIfInBounds_ne B]
  simp[storeCells,this]
 |v::vs,i,cs,w,h,x,hb,L=>by
  simp only[Dn]at hb;have hv:=L v (by simp);have r:w.cell? ⟨b,o+i,none⟩=some cs[o+i]:=by have:cs[o+i]? =some cs[o+i]:=Array.getElem?_eq_getElem (by omega);simp[World.cell?,h,this]
  have z:w.frozen? ⟨b,o+i,none⟩=false:=by
   simp only[World.frozen?,h];rcases x with hz|hz
   ·subst hz;simp
   ·simp;omega
  have y:(store ⟨b,o+i,none⟩ v).run P w=.ok () (World.EN w b (.cells (cs.setIfInBounds (o+i) v) el fz)):=by rw[run_store P w _ v .plain hv,r];simp only[z,Bool.false_eq_true,if_false];rw[ApQ w b (o+i) v cs el fz h]
  have K:=Mn w b (.cells (cs.setIfInBounds (o+i) v) el fz) _ h b;rw[As rfl]at K;obtain⟨cs',V,U,S⟩:=YK (P:=P) b o el fz vs (i+1) (cs.setIfInBounds (o+i) v) _ K (by rcases x with hz|hz;exact .inl hz;exact .inr (by simpa using hz)) (by simp;omega) (λu hu=>L u (by simp[hu]));refine⟨cs',?_,by simpa using U,λj=>?_⟩
  ·simp only[storeCells,Dd,Sem.run_bind,y,Result.andThen_ok,V,AlA]
  ·rw[S j];simp only[Dn];by_cases J:o+(i+1)<=j/\j<o+(i+1)+vs.length
   ·rw[As J,As (by omega),show j-(o+i)=(j-(o+(i+1)))+1 by omega];simp
   ·rw[An J];by_cases R:j=o+i
    ·subst R;rw[As (by omega),Of,Array.getElem?_setIfInBounds_self_of_lt (by omega)];rfl
    ·rw[An (by omega),Array.getElem?_setIfInBounds_ne (by omega)]
def Q8 (l:Al):Tr AV->Nat->Tr AV:=List.rec (motive:=λ_=>Tr AV->Nat->Tr AV) (λc _=>c) (λa _ x c k=>fN (k+1) λr=>x (c.set k a) r) l
theorem AfA (z:CB):∀(l:Al) (c:Tr AV) (k j:Nat),cellOf (Q8 l c k) z j=if k<=j/\j<k+l.length then l[j-k]? else cellOf c z j
 | [],c,k,j=>by rw[An (by simp)];rfl
 |a::l,c,k,j=>by
  show cellOf (fN (k+1) λy=>Q8 l (c.set k a) y) z j=_;rw[Bv,AfA z l (c.set k a) (k+1) j];simp only[Dn];by_cases x:k+1<=j/\j<k+1+l.length
  ·rw[As x,As (by omega),show j-k=(j-(k+1))+1 by omega];simp
  ·rw[An x];by_cases r:j=k
   ·subst r;rw[As (by omega),Of,Ag1];rfl
   ·rw[An (by omega),Ag0 _ _ (λe=>r e.symm)]
def Uq (H:Tr Ah) (id off:Nat) (l:Al):Option (Tr Ah):=ob (H.get id) λo=>match o with
  |.cells el c z n op=>gd (Nat.ble (off+l.length) n&&l.all AV.one) (some (H.set id (.cells el (Q8 l c off) z n op)))
  |_=>none
theorem F5 (H:Tr Ah) (i:Nat) (o:Ah):(H.set i o).get=λj=>if j=i then some o else H.get j:=by
 funext j;rw[Tr.Gm];by_cases h:i=j
 ·subst h;simp
 ·rw[An h,An (λe=>h e.symm)]
theorem sD {P:Program} {E:Env} {F:Nat->Option Obj} {nx:Nat} {ρ:Ak} {w:World} {H H':Tr Ah} (r:Rel E F nx ρ H.get w) {id off:Nat} {l:Al} {vs:List Value} {b:CD} (hb:ρ id=some b) (hl:AL ρ l vs) (R:Uq H id off l=some H'): ∃w',(storeCells ⟨b.b,b.ob+off,none⟩ vs).run P w=.ok () w'/\Rel E F nx ρ H'.get w':=by
 obtain⟨o,ho,U⟩:=Ai.1 R;clear R;cases o with
 |cells el c z n op=>
  obtain⟨hc,W⟩:=AQ.1 U;injection W with W;subst W;rw[B4,Nat.ble_eq,List.all_eq_true]at hc;obtain⟨ad,aa⟩:=hc;obtain⟨oc,B,Y⟩:=r.ob _ _ b ho hb;have ab:=hl.length;cases Y with
  |cells _ _ _ _ _ cs fz DT hn Z L x=>
   have U:∀v∈vs,v.oneCell'=true:=by
    intro v hv;obtain⟨i,hi,rfl⟩:=List.getElem_of_mem hv;have K:i<l.length:=by omega
    have:=hl.Uu (Ce K) (Ce hi);rw[this.one];exact aa _ (List.getElem_mem K)
   obtain⟨cs',e1,e2,e3⟩:=YK (P:=P) b.b (b.ob+off) el fz vs 0 cs w B L (by omega) U;refine⟨_,e1,?_⟩;have S:OR ρ b (.cells el (Q8 l c off) z n op) (.cells cs' el fz):=by
    refine .cells el _ z n op cs' fz (by omega) hn Z (by rcases L with hz|hz;exact .inl hz;exact .inr (by omega)) λk a hk y=>?_;rw[AfA]at y;by_cases J:off<=k/\k<off+l.length
    ·rw[As J]at y;obtain⟨v,hv,V⟩:=hl.get _ a y;refine⟨v,?_,V⟩;rw[e3,As (by omega),<-hv];congr 1;omega
    ·rw[An J]at y;obtain⟨v,hv,V⟩:=x k a hk y;exact⟨v,by rw[e3,An (by omega)];exact hv,V⟩
   have:=r.put (w':=World.EN w b.b (.cells cs' el fz)) ho hb S (Mn w b.b _ _ B) rfl rfl rfl;rw[F5];exact this
 |_=>cases U
def sA (P:Program) (H:Tr Ah) (t:TypeId) (x v:AV):Option (Tr Ah):=
 match x with
 |.ptr id off=>ob (P.info? t) λi=>gd (Nat.beq v.cells.length i.size) (Uq H id off v.cells)
 |_=>none
theorem Ah4 {P:Program} {E:Env} {F:Nat->Option Obj} {nx:Nat} {ρ:Ak} {w:World} {H H':Tr Ah} (r:Rel E F nx ρ H.get w) {t:TypeId} {x v:AV} {u z:Value} (K:VR ρ x u) (hv:VR ρ v z) (y:sA P H t x v=some H'): ∃w',(Instr.storeAt t u z).run P w=.ok () w'/\Rel E F nx ρ H'.get w':=by
 unfold sA at y;split at y
 ·obtain⟨i,hi,V⟩:=Ai.1 y;obtain⟨L,U⟩:=AQ.1 V;rw[A0]at L;cases K with
  |ptr _ _ b hb=>
   have B:=hv.cells;obtain⟨w',S,R⟩:=sD (P:=P) r hb B U;refine⟨w',?_,R⟩;have J:z.cells.size=P.cellsOf t:=by have:=B.length;simp[Program.cellsOf,hi]at this⊢;omega
   simp[Instr.storeAt,Instr.sureAddr,storeVar,run_sizeOf w hi,J,S]
 ·cases y
theorem D3.append {ρ:Ak}:∀ {l y:List Di} {x r:List MapEntry},D3 ρ l x->D3 ρ y r->D3 ρ (l++y) (x++r)
 |_,_,_,_,.nil,h'=>h'
 |_,_,_,_,.cons a e l x h z,h'=>.cons _ _ _ _ h (z.append h')
theorem D3.modify {ρ:Ak} {f:Di->Di} {g:MapEntry->MapEntry} (y:∀a e,ER ρ a e->ER ρ (f a) (g e)):∀ {l:List Di} {r:List MapEntry} (i:Nat),D3 ρ l r-> D3 ρ (l.modify i f) (r.modify i g)
 |_,_,_,.nil=>by simp;exact .nil
 |_,_,0,.cons a e l r h x=>by simp;exact .cons _ _ _ _ (y _ _ h) x
 |_,_,i+1,.cons a e l r h x=>by simp;exact .cons _ _ _ _ h (D3.modify y i x)
theorem ApI {kd:TypeDesc} {u v:Value} (h:Instr.sameNow kd u v=some true):Instr.sameBits 10000 v u=true:=by
 unfold Instr.sameNow at h;split at h
 ·split at h
  ·rename_i r;subst r;simp at h;simp[Instr.sameBits,h]
  ·cases h
 ·rename_i a b;have h':(a==b)=true:=by simpa using h
  rw[beq_toListBytes,beq_iff_eq]at h';show(b==a)=true;rw[beq_toListBytes,beq_iff_eq];exact h'.symm
 ·simp at h;simp[Instr.sameBits,h]
 ·cases h
theorem findNow_spec {kd:TypeDesc} {u:Value}:∀(l:List MapEntry) (i j:Nat) (v:Value),Instr.findNow kd u l i=some (some (j,v))-> i<=j/\∃e,l[j-i]? =some e/\Instr.sameNow kd u e.key=some true
 | [],i,j,v,h=>by simp[Instr.findNow]at h
 |e::B,i,j,v,h=>by
  simp only[Instr.findNow]at h;split at h
  ·rename_i y;injection h with h;injection h with h;injection h with x r;subst x;exact⟨AH _,e,by simp,y⟩
  ·obtain⟨x,J,r,z⟩:=findNow_spec B (i+1) j v h;refine⟨by omega,J,?_,z⟩;rw[show j-i=(j-(i+1))+1 by omega];simpa using r
  ·cases h
def Un (P:Program) (H:Tr Ah) (t:TypeId) (m k v:AV):Option (Tr Ah):=ob (P.underlying t) λd=>match d,m with
  |.map key _,.map id=>ob (P.underlying key) λkd=>gd (Xt kd) (ob (H.get id) λo=>match o with
   |.map es x=>ob (dH kd k es 0) λr=>match r with
    |some p=>some (H.set id (.map (es.modify p.1 λe=>{e with key:=k,val:=v}) x))
    |none=>fN (x+1) λy=>some (H.set id (.map (es++[⟨k,v,x⟩]) y))
   |_=>none)
  |_,_=>none
theorem rf {P:Program} {E:Env} {F:Nat->Option Obj} {nx:Nat} {ρ:Ak} {w:World} {H H':Tr Ah} (r:Rel E F nx ρ H.get w) {t:TypeId} {m k v:AV} {um y K:Value} (hm:VR ρ m um) (hk:VR ρ k y) (hv:VR ρ v K) (W:Un P H t m k v=some H'): ∃w',(Instr.mapUpdate t um y K).run P w=.ok () w'/\Rel E F nx ρ H'.get w':=by
 obtain⟨d,hd,h1⟩:=Ai.1 W;clear W;split at h1
 ·rename_i key el id;obtain⟨kd,L,h2⟩:=Ai.1 h1;obtain⟨ad,h3⟩:=AQ.1 h2;obtain⟨o,ho,h4⟩:=Ai.1 h3;clear h1 h2 h3;cases o with
  |map es x=>
   obtain⟨fr,ae,h5⟩:=Ai.1 h4;clear h4;cases hm with
   |map _ b hb=>
    obtain⟨oc,B,ab⟩:=r.ob _ _ b ho hb;cases ab with
    |map _ _ l hl=>
     obtain⟨r',R,V⟩:=sM hk hl 0 fr ae;have Z:=cU (P:=P) L ad false 9999 y w;cases fr with
     |some p=>
      obtain⟨j,val⟩:=p;injection h5 with h5;subst h5;obtain⟨z,hz,_⟩:=V;subst hz;obtain⟨_,e0,Y,U⟩:=findNow_spec l 0 j z R;rw[Nat.sub_zero]at Y;have S:(Instr.keyThatStays (((l.toArray[j]?).map (·.key)).getD y) y).run P w=.ok y w:=by simp[Y,Instr.keyThatStays,ApI U]
      refine⟨World.EN w b.b (.map (l.toArray.modify j λe=>{e with key:=y,val:=K}) x),?_,?_⟩
      ·simp only[Instr.mapUpdate,Sem.run_bind,run_underlying hd,Result.andThen_ok];simp only[getObj,Sem.run,B,Result.andThen_ok,Sem.run_bind,Z,Instr.findKey,run_underlying L,R,Sem.run_pure,S];simp[setObj,Sem.run,B,World.EN]
      ·have J:OR ρ b (.map (es.modify j λe=>{e with key:=k,val:=v}) x) (.map (l.toArray.modify j λe=>{e with key:=y,val:=K}) x):=by have:=OR.map (ρ:=ρ) (b:=b) _ x _ (hl.modify (f:=λe=>{e with key:=k,val:=v}) (g:=λe=>{e with key:=y,val:=K}) (λa e h=>⟨hk,hv,h.2.2⟩) j);simpa using this
       have:=r.put (w':=World.EN w b.b (.map (l.toArray.modify j λe=>{e with key:=y,val:=K}) x)) ho hb J (Mn w b.b _ _ B) rfl rfl rfl;rw[F5];exact this
     |none=>
      have h6:(fN (x+1) λc'=>some (H.set id (.map (es++[⟨k,v,x⟩]) c')))=some H':=h5;rw[Bv]at h6;injection h6 with h6;subst h6;have aa:r'=none:=V;subst aa;refine⟨World.EN w b.b (.map (l.toArray.push {key:=y,val:=K,born:=x}) (x+1)),?_,?_⟩
      ·simp only[Instr.mapUpdate,Sem.run_bind,run_underlying hd,Result.andThen_ok];simp only[getObj,Sem.run,B,Result.andThen_ok,Sem.run_bind,Z,Instr.findKey,run_underlying L,R,Sem.run_pure];simp[setObj,Sem.run,B,World.EN]
      ·have J:OR ρ b (.map (es++[⟨k,v,x⟩]) (x+1)) (.map (l.toArray.push {key:=y,val:=K,born:=x}) (x+1)):=by have:=OR.map (ρ:=ρ) (b:=b) _ (x+1) _ (hl.append (.cons ⟨k,v,x⟩ {key:=y,val:=K,born:=x} [] [] ⟨hk,hv,rfl⟩ .nil));simpa using this
       have:=r.put (w':=World.EN w b.b (.map (l.toArray.push {key:=y,val:=K,born:=x}) (x+1))) ho hb J (Mn w b.b _ _ B) rfl rfl rfl;rw[F5];exact this
  |_=>cases h4
 ·cases h1
end Go.Ev
end
section
namespace Go.Ev
def dD (H:Tr Ah) (size:Nat) (x:AV):Option (Nat×Al):=
 match x with
 |.AW=>some (0,[])
 |.sl id off n _=>ob (EV H id off (n*size)) λl=>some (n,l)
 |.BK id off n _=>ob (EV H id off (n*size)) λl=>some (n,l)
 |.sle _=>some (0,[])
 |.str l n=>gd (Nat.beq size 1) (some (l,(List.range l).map λi=>.int .u8 (.ofNat (n/256^i %256))))
 |_=>none
theorem AaC {P:Program} {E:Env} {F:Nat->Option Obj} {nx:Nat} {ρ:Ak} {h:Nat->Option Ah} {w:World} {H:Tr Ah} (r:Rel E F nx ρ h w) (S:HS ρ H h) {size n:Nat} {x:AV} {u:Value} {l:Al} (J:VR ρ x u) (z:dD H size x=some (n,l)): ∃vs:List Value,AL ρ l vs/\vs.length=n*size/\∀w':World,(∀a,w'.cell? a=w.cell? a)->(Builtin.lenOf u).run P w'=.ok n w'/\(Builtin.firstCells size n u).run P w'=.ok vs.toArray w':=by
 unfold dD at z;split at z
 ·injection z with z;injection z with y B;subst y;subst B;cases J;exact⟨[],.nil,by simp,λw' _=>⟨by simp[Builtin.lenOf],by simp[Builtin.firstCells]⟩⟩
 ·obtain⟨U,hl,y⟩:=Ai.1 z;injection y with y;injection y with y B;subst y;subst B;cases J with
  |sl _ _ _ _ b hb=>obtain⟨vs,y,B,R⟩:=HQ r S hb hl;refine⟨vs,y,B,λw' L=>⟨by simp[Builtin.lenOf],?_⟩⟩;have:=run_loadCells_list (P:=P) w' ⟨b.b,b.ob+_,none⟩ vs (λj v K=>by rw[L];exact R j v K);rw[B]at this;simp[Builtin.firstCells,this]
 ·obtain⟨U,hl,y⟩:=Ai.1 z;injection y with y;injection y with y B;subst y;subst B;cases J with
  |BK _ _ _ _ b hb W V=>obtain⟨vs,y,B,R⟩:=HQ r S hb hl;refine⟨vs,y,B,λw' L=>⟨by simp[Builtin.lenOf],?_⟩⟩;have:=run_loadCells_list (P:=P) w' ⟨b.b,b.ob+_,none⟩ vs (λj v K=>by rw[L];exact R j v K);rw[B]at this;simp[Builtin.firstCells,this]
 ·injection z with z;injection z with y B;subst y;subst B;cases J with
  |sle _ b o c hb=>refine⟨[],.nil,by simp,λw' L=>⟨by simp[Builtin.lenOf],?_⟩⟩;have:=run_loadCells_list (P:=P) w' ⟨b.b,o,none⟩ [] (λj v K=>by simp at K);simpa[Builtin.firstCells]using this
 ·obtain⟨hz,y⟩:=AQ.1 z;rw[A0]at hz;subst hz;injection y with y;injection y with y B;subst y;subst B;rename_i n m;cases J with
  |str _ _ hn=>
   refine⟨_,yN _ _,by simp[Pz],λw' _=>⟨by simp[Builtin.lenOf,MZ],?_⟩⟩;simp only[Builtin.firstCells,Sem.run_pure];congr 1;apply Array.ext';rw[Array.toList_map];have:((BJ n m).extract 0 n).data.toList=BO n m:=by rw[Lib.extract_data,Rp];simp[List.take_of_length_le,Pz]
   rw[this]
 ·cases z
def iI:TypeDesc->Bool
 |.slice _=>true
 |.string=>true
 |_=>false
def TL (ni:Nat) (el size Bb:Nat) (cs:Al) (H:Tr Ah):Option (AV×Tr Ah):=fN Bb λBb=>fN (Bb*size) λn=>some (.BK ni 0 Bb size,H.set ni (.cells el .leaf (.Dv cs) n true))
def zp (H:Tr Ah) (id el:Nat):Bool:=
 match H.get id with
 |some (.cells e _ _ _ _)=>Nat.beq e el
 |_=>false
def rL (P:Program) (H:Tr Ah) (ni:Nat) (J:List TypeId) (B:Al):Option (AV×Tr Ah):=
 match J,B with
 | [t,tx],[s,x]=>ob (P.underlying t) λd=>match d with
  |.slice el=>ob (P.underlying tx) λK=>gd (iI K) (ob (P.info? el) λi=>ob i.zero λz=>gd (Nat.blt 0 i.size&&Nat.beq z.cells.size i.size) (ob (dD H i.size x) λr=>
    match s with
    |.AW=>cond (Nat.beq r.1 0) (some (.AW,H))
      (gd (r.2.all AV.one&&Nat.ble r.1 9223372036854775807&&Nat.ble (r.1*i.bytes) 140737488355328) (TL ni el i.size r.1 r.2 H))
    |.sl id off len cap=>cond (Nat.ble (len+r.1) cap) (ob (Uq H id (off+len*i.size) r.2) λH'=>fN (len+r.1) λBb=>some (.sl id off Bb cap,H'))
      (gd (r.2.all AV.one&&Nat.ble (len+r.1) 9223372036854775807&&Nat.ble ((len+r.1)*i.bytes) 140737488355328) (ob (EV H id off (len*i.size)) λy=>TL ni el i.size (len+r.1) (y++r.2) H))
    |.BK id off len Ax=>gd (Nat.beq Ax i.size) (cond (Nat.beq r.1 0) (some (.BK id off len Ax,H))
      (gd (r.2.all AV.one&&Nat.ble (len+r.1) 9223372036854775807&&Nat.ble ((len+r.1)*i.bytes) 140737488355328) (gd (zp H id el) (ob (EV H id off (len*i.size)) λy=>TL ni el i.size (len+r.1) (y++r.2) (H.del id)))))
    |_=>none))
  |_=>none
 |_,_=>none
set_option maxHeartbeats 1000000 in
theorem TM {P:Program} {t tx ty el:TypeId} {B:TypeDesc} {i:TypeInfo} (ht:P.underlying t=some (.slice el)) (y:P.underlying tx=some B) (z:iI B=true) (hi:P.info? el=some i) {base:Option Addr} {len cap n:Nat} {u:Value} {vs:List Value} {w w':World} (hl:(Builtin.lenOf u).run P w=.ok n w) (hc:(Builtin.firstCells i.size n u).run P w=.ok vs.toArray w) (r:len+n<=cap) (x:match base with|none=>w'=w|some a=>(storeCells (a.add (len*i.size)) vs).run P w=.ok () w'): (Builtin.append_ #[t,tx] ty #[.slice base len cap,u]).run P w=.ok (.slice base (len+n) cap) w':=by
 cases base with
 |none=>
  simp only at x;subst x;cases B<;>first
   |(cases z;done)
   |simp[Builtin.append_,run_underlying ht,run_underlying y,sizeOf,typeInfo,hi,hl,hc,r]
 |some a=>
  simp only at x;cases B<;>first
   |(cases z;done)
   |simp[Builtin.append_,run_underlying ht,run_underlying y,sizeOf,typeInfo,hi,hl,hc,r,x]
set_option maxHeartbeats 1000000 in
theorem WM {P:Program} {t tx ty el:TypeId} {B:TypeDesc} {i:TypeInfo} {z:Value} (ht:P.underlying t=some (.slice el)) (J:P.underlying tx=some B) (K:iI B=true) (hi:P.info? el=some i) (hz:i.zero=some z) {base:Option Addr} {len cap n:Nat} {u:Value} {olds vs:List Value} {w:World} (hl:(Builtin.lenOf u).run P w=.ok n w) (L:(Builtin.firstCells i.size len (.slice base len cap)).run P w.drew=.ok olds.toArray w.drew) (hc:(Builtin.firstCells i.size n u).run P w.drew=.ok vs.toArray w.drew) (r:cap<len+n) (R:len+n<=9223372036854775807) (hb:(len+n)*i.bytes<=140737488355328): (Builtin.append_ #[t,tx] ty #[.slice base len cap,u]).run P w=.ok (.slice (some ⟨w.heap.size,0,none⟩) (len+n) (grownCap w (len+n) cap el)) (w.drew.alloc (.cells ((olds++vs).toArray++Builtin.zeroCells z.cells (grownCap w (len+n) cap el-(len+n))) el)):=by
 have hn:¬(len+n<=cap):=by omega
 have x:¬(9223372036854775807<((len:Int)+(n:Int))):=by omega
 have S:=growslice_fits r hb;have y:¬(281474976710656<Builtin.nextslicecap (len+n) cap*i.bytes):=by omega
 cases B<;>first
  |(cases K;done)
  |skip
 all_goals
  simp[Builtin.append_,run_underlying ht,run_underlying J,sizeOf,typeInfo,zeroValue,hi,hz,hl,hn,x,y,Question.forced,L,hc,newRow,grownCap];congr 2;apply Array.ext';simp[List.append_assoc]
theorem Aez (z:Array Value) (n:Nat):(Builtin.zeroCells z n).size=n*z.size:=by simp[Builtin.zeroCells]
theorem oC {E:Env} {F:Nat->Option Obj} {nx nx':Nat} {ρ:Ak} {h:Nat->Option Ah} {w:World} (r:Rel E F nx ρ h w) {ni:Nat} (B:ρ ni=none) (aa:nx<=nx') (R:ni<nx') {el size Bb:Nat} {cs:Al} {vs:List Value} {W H':Tr Ah} {a:AV} (J:0<size) (L:AL ρ cs vs) (ae:cs.length=Bb*size) (hH:∀i o,W.get i=some o->h i=some o) (z:TL ni el size Bb cs W=some (a,H')) {cap:Nat} (S:Bb<=cap) (U:Array Value) (Y:U.size=(cap-Bb)*size): ∃y,Rel E F nx' y H'.get (w.drew.alloc (.cells (vs.toArray++U) el))/\(ρ.le y/\∀x,x≠ni->y x=ρ x)/\VR y a (.slice (some ⟨w.heap.size,0,none⟩) Bb cap):=by
 simp only[TL,Bv]at z;injection z with z;injection z with V h2;subst V;subst h2;have af:=L.length;have ad:(cap-Bb)*size=cap*size-Bb*size:=Nat.sub_mul _ _ _;have K:Bb*size<=cap*size:=Nat.mul_le_mul_right _ S;have Z:OR (ρ.put ni ⟨w.heap.size,0,cap*size⟩) ⟨w.heap.size,0,cap*size⟩ (.cells el .leaf (.Dv cs) (Bb*size) true) (.cells (vs.toArray++U) el (0,0)):=by
  refine .cells el .leaf (.Dv cs) (Bb*size) true _ (0,0) (by simp[Y];omega) K (by simp) (.inl rfl) λk b hk hb=>?_;unfold cellOf at hb;rw[Tr.Cy]at hb;have ab:cs[k]? =some b:=by have:cs[k %cs.length]? =some b:=hb;rwa[Nat.mod_eq_of_lt (by omega)]at this
  obtain⟨v,hv,hr⟩:=(L.mono (Ak.JT B ⟨w.heap.size,0,cap*size⟩)).get k b ab;refine⟨v,?_,hr⟩;simp only[Nat.zero_add];rw[Array.getElem?_append,As (by simp;omega)];simpa using hv
 obtain⟨V,h2⟩:=(r.drew.less (h':=W.get) hH).alloc B aa R Z;refine⟨ρ.put ni ⟨w.heap.size,0,cap*size⟩,?_,⟨Ak.JT B _,λx hx=>Ak.GH hx _⟩,?_⟩
 ·rw[F5];exact V
 ·have:=VR.BK (ρ:=ρ.put ni ⟨w.heap.size,0,cap*size⟩) ni 0 Bb size ⟨w.heap.size,0,cap*size⟩ (Ak.EO _ _ _) J (by simpa using K);simpa[Nat.mul_div_cancel _ J]using this
theorem s7 (H:Tr Ah) (i:Nat):∀j o,(H.del i).get j=some o->H.get j=some o:=λj o h=>by
 rw[Tr.JN]at h;split at h
 ·cases h
 ·exact h
theorem Rel.rename {E:Env} {F:Nat->Option Obj} {nx nx':Nat} {ρ:Ak} {H:Tr Ah} {w w':World} (r:Rel E F nx ρ H.get w) {id ni:Nat} {o a:Ah} {b b':CD} {c:Obj} (R:H.get id=some o) (hb:ρ id=some b) (ab:ρ ni=none) (ag:nx<=nx') (aj:ni<nx') (V:b'.b=b.b) (aa:OR (ρ.put ni b') b' a c) (hw:∀k,w'.heap[k]? =if k=b.b then some c else w.heap[k]?) (ht:w'.tape=w.tape) (af:w'.os=w.os) (ad:w'.output=w.output): Rel E F nx' (ρ.put ni b') ((H.del id).set ni a).get w':=by
 have ah:=Ak.JT (ρ:=ρ) ab b';have ak:id≠ni:=λe=>by subst e;rw[ab]at hb;cases hb
 have hF:=r.dj id o b R hb;have K:∀j x,((H.del id).set ni a).get j=some x->(j=ni/\x=a)\/(j≠ni/\j≠id/\H.get j=some x):=λj x J=>by
  rw[Tr.Gm]at J;by_cases L:ni=j
  ·rw[As L]at J;injection J with J;exact .inl ⟨L.symm,J.symm⟩
  ·rw[An L,Tr.JN]at J;by_cases W:id=j
   ·rw[As W]at J;cases J
   ·rw[An W]at J;exact .inr ⟨λe=>L e.symm,λe=>W e.symm,J⟩
 have B:∀j,j≠ni->(ρ.put ni b') j=ρ j:=λj J=>by simp[Ak.put,J]
 refine⟨ht.trans r.tape,af.trans r.os,ad.trans r.output,?_,?_,?_,?_,?_,λg l hg=>?_,r.bs,λk x Z=>?_,λj x Y J z=>?_,r.sf⟩
 rotate_right
 rotate_right
 rotate_right
 ·rcases K g _ hg with⟨rfl,rfl⟩|⟨_,_,U⟩
  ·cases aa
  ·exact r.gl g l U
 ·have hS:=r.sd id o b R hb;rw[hw,An (λe=>by subst e;rw[show ρ.st b.b=some x from Z]at hS;cases hS)];exact r.st k x Z
 ·rcases K j x J with⟨rfl,rfl⟩|⟨L,W,U⟩
  ·rw[Ak.EO]at z;cases z;rw[V];exact r.sd id o b R hb
  ·rw[B j L]at z;exact r.sd j x Y U z
 ·intro k x Z;rw[hw,An (λe=>by subst e;rw[hF]at Z;cases Z)];exact r.fr k x Z
 ·intro j x Y J z;rcases K j x J with⟨rfl,rfl⟩|⟨L,W,U⟩
  ·rw[Ak.EO]at z;cases z;exact⟨c,by rw[hw,As V],aa⟩
  ·rw[B j L]at z;obtain⟨cj,ai,ae⟩:=r.ob j x Y U z;refine⟨cj,?_,ae.mono ah⟩;rw[hw,An (λe=>W (r.inj j id x o Y b U R z hb e))];exact ai
 ·intro j x Y J z;rcases K j x J with⟨rfl,rfl⟩|⟨L,W,U⟩
  ·rw[Ak.EO]at z;cases z;rw[V];exact hF
  ·rw[B j L]at z;exact r.dj j x Y U z
 ·intro j k x y Y bk J Z z S he;rcases K j x J with⟨rfl,rfl⟩|⟨L,W,U⟩<;>rcases K k y Z with⟨rfl,rfl⟩|⟨h4,h5,h6⟩
  ·rfl
  ·rw[Ak.EO]at z;cases z;rw[B k h4]at S;exact absurd (r.inj k id y o bk b h6 R S hb (by rw[<-he,V])) h5
  ·rw[Ak.EO]at S;cases S;rw[B j L]at z;exact absurd (r.inj j id x o Y b U R z hb (by rw[he,V])) W
  ·rw[B j L]at z;rw[B k h4]at S;exact r.inj j k x y Y bk U h6 z S he
 ·intro j J;rw[B j (by omega)];exact r.new j (Ho ag J)
theorem WJ {ρ:Ak} {l:Al} {vs:List Value} (h:AL ρ l vs) (x:l.all AV.one=true):∀v∈vs,v.oneCell'=true:=by
 intro v hv;obtain⟨i,hi,rfl⟩:=List.getElem_of_mem hv;have r:i<l.length:=by rw[h.length];exact hi
 rw[(h.Uu (Ce r) (Ce hi)).one];exact List.all_eq_true.1 x _ (List.getElem_mem r)
theorem Ahu {P:Program} {E:Env} {F:Nat->Option Obj} {nx nx':Nat} {ρ:Ak} {w:World} {H H':Tr Ah} (r:Rel E F nx ρ H.get w) {ni:Nat} (ah:ρ ni=none) (Y:nx<=nx') (ad:ni<nx') {ts:List TypeId} {xs:Al} {us:List Value} {a:AV} (hx:AL ρ xs us) (aj:rL P H ni ts xs=some (a,H')) (ty:TypeId): ∃v w' K,(Builtin.append_ ts.toArray ty us.toArray).run P w=.ok v w'/\Rel E F nx' K H'.get w'/\(ρ.le K/\∀x,x≠ni->K x=ρ x)/\VR K a v:=by
 unfold rL at aj;split at aj
 ·rename_i t tx s x;cases hx with
  |cons _ a9 _ _ aA aS=>cases aS with
   |cons _ ux _ _ aV aO=>
    cases aO;obtain⟨d,hd,h1⟩:=Ai.1 aj;clear aj;cases d with
    |slice el=>
     obtain⟨dx,aa,h2⟩:=Ai.1 h1;obtain⟨V,h3⟩:=AQ.1 h2;obtain⟨i,hi,h4⟩:=Ai.1 h3;obtain⟨z,hz,h5⟩:=Ai.1 h4;obtain⟨af,h6⟩:=AQ.1 h5;obtain⟨⟨n,l⟩,aM,U⟩:=Ai.1 h6;clear h1 h2 h3 h4 h5 h6;rw[B4,CE,A0]at af;obtain⟨af,aR⟩:=af;obtain⟨vs,L,az,aI⟩:=AaC (P:=P) r (HS.refl ρ H) aV aM;obtain⟨Z,au⟩:=aI w (λ_=>rfl);obtain⟨_,aF⟩:=aI w.drew (λ_=>rfl);have ay:∀m,(Builtin.zeroCells z.cells m).size=m*i.size:=λm=>by rw[Aez,aR]
     cases s with
     |AW=>
      cases aA;cases R:Nat.beq n 0 with
      |true=>simp only[R,cond_true]at U;injection U with U;injection U with U J;subst U;subst J;rw[A0]at R;subst R;refine⟨_,w,ρ,TM (base:=none) (len:=0) (cap:=0) (ty:=ty) hd aa V hi Z au (by omega) rfl,r.EZ Y,⟨Ak.le_refl ρ,λ_ _=>rfl⟩,.AW⟩
      |false=>
       simp only[R,cond_false]at U;obtain⟨hg,J⟩:=AQ.1 U;simp only[B4,Nat.ble_eq]at hg;obtain⟨⟨_,ar⟩,ai⟩:=hg;have a7:n≠0:=λe=>by rw[<-A0,R]at e;cases e
       have S:=WM (base:=none) (len:=0) (cap:=0) (ty:=ty) (olds:=[]) hd aa V hi hz Z (by simp[Builtin.firstCells]) aF (by omega) (by omega) (by simpa using ai);simp only[Nat.zero_add,List.nil_append]at S;obtain⟨K,h9,B,ab⟩:=oC r ah Y ad af L (by rw[L.length,az]) (λ_ _ h=>h) J (cap:=grownCap w n 0 el) (by simp[grownCap,Question.cut]) (Builtin.zeroCells z.cells (grownCap w n 0 el-n)) (ay _);exact⟨_,_,K,S,h9,B,ab⟩
     |sl id off len cap=>
      cases aA with
      |sl _ _ _ _ b hb=>
       cases y:Nat.ble (len+n) cap with
       |true=>simp only[y,cond_true]at U;obtain⟨H1,a2,J⟩:=Ai.1 U;rw[Bv]at J;injection J with J;injection J with J h9;subst J;subst h9;rw[Nat.ble_eq]at y;obtain⟨w',aU,aT⟩:=sD (P:=P) r hb L a2;refine⟨_,w',ρ,TM (base:=some ⟨b.b,b.ob+off,none⟩) (ty:=ty) hd aa V hi Z au y ?_,aT.EZ Y,⟨Ak.le_refl ρ,λ_ _=>rfl⟩,.sl _ _ _ _ b hb⟩;simp only[Dd,Fu];exact aU
       |false=>
        simp only[y,cond_false]at U;obtain⟨hg,J⟩:=AQ.1 U;obtain⟨ae,hold,h9⟩:=Ai.1 J;simp only[B4,Nat.ble_eq]at hg;obtain⟨⟨_,ar⟩,ai⟩:=hg;have aD:cap<len+n:=by
         rcases D9 cap (len+n)with h|h
         ·exact h
         ·have h':Nat.ble (len+n) cap=true:=by rw[Nat.ble_eq];exact h
          rw[h']at y;cases y
        obtain⟨os,W,ag,aq⟩:=HQ r (HS.refl ρ H) hb hold;have aB:(Builtin.firstCells i.size len (.slice (some ⟨b.b,b.ob+off,none⟩) len cap)).run P w.drew=.ok os.toArray w.drew:=by have:=run_loadCells_list (P:=P) w.drew ⟨b.b,b.ob+off,none⟩ os (λj v hj=>aq j v hj);rw[ag]at this;simp[Builtin.firstCells,this]
        have S:=WM (base:=some ⟨b.b,b.ob+off,none⟩) (ty:=ty) hd aa V hi hz Z aB aF aD ar ai;obtain⟨K,B,ab,aG⟩:=oC r ah Y ad af (W.append L) (by rw[(W.append L).length,E6,ag,az,Nat.add_mul]) (λ_ _ h=>h) h9 (cap:=grownCap w (len+n) cap el) (by simp[grownCap,Question.cut]) (Builtin.zeroCells z.cells (grownCap w (len+n) cap el-(len+n))) (ay _);exact⟨_,_,K,S,B,ab,aG⟩
     |BK id off len Ax=>
      obtain⟨aL,J⟩:=AQ.1 U;clear U;rw[A0]at aL;subst aL;cases aA with
      |BK _ _ _ _ b hb he aX=>
       have a6:len<=(b.cap-off)/i.size:=by rw[Nat.le_div_iff_mul_le he];omega
       cases R:Nat.beq n 0 with
       |true=>simp only[R,cond_true]at J;injection J with J;injection J with J h9;subst J;subst h9;rw[A0]at R;subst R;have Az:vs=[]:=List.eq_nil_of_length_eq_zero (by omega);subst Az;refine⟨_,w,ρ,TM (base:=some ⟨b.b,b.ob+off,none⟩) (ty:=ty) hd aa V hi Z au (by omega) ?_,r.EZ Y,⟨Ak.le_refl ρ,λ_ _=>rfl⟩,.BK _ _ _ _ b hb he aX⟩;simp[storeCells]
       |false=>
        simp only[R,cond_false]at J;obtain⟨hg,a3⟩:=AQ.1 J;obtain⟨aE,h9⟩:=AQ.1 a3;obtain⟨ae,hold,B⟩:=Ai.1 h9;simp only[B4,Nat.ble_eq]at hg;obtain⟨⟨aZ,ar⟩,ai⟩:=hg;obtain⟨os,W,ag,aq⟩:=HQ r (HS.refl ρ H) hb hold;have aH:(ae++l).length=(len+n)*i.size:=by rw[(W.append L).length,E6,ag,az,Nat.add_mul]
        rcases D9 ((b.cap-off)/i.size) (len+n)with aD|aJ
        ·have aB:(Builtin.firstCells i.size len (.slice (some ⟨b.b,b.ob+off,none⟩) len ((b.cap-off)/i.size))).run P w.drew=.ok os.toArray w.drew:=by have:=run_loadCells_list (P:=P) w.drew ⟨b.b,b.ob+off,none⟩ os (λj v hj=>aq j v hj);rw[ag]at this;simp[Builtin.firstCells,this]
         have S:=WM (base:=some ⟨b.b,b.ob+off,none⟩) (ty:=ty) hd aa V hi hz Z aB aF aD ar ai;obtain⟨K,ab,aG,a4⟩:=oC r ah Y ad af (W.append L) aH (s7 H id) B (cap:=grownCap w (len+n) ((b.cap-off)/i.size) el) (by simp[grownCap,Question.cut]) (Builtin.zeroCells z.cells (grownCap w (len+n) ((b.cap-off)/i.size) el-(len+n))) (ay _);exact⟨_,_,K,S,ab,aG,a4⟩
        ·have aw:(len+n)*i.size<=b.cap-off:=(Nat.le_div_iff_mul_le he).1 aJ;have bb:=L.length;have a8:(len+n)*i.size=len*i.size+n*i.size:=Nat.add_mul _ _ _;obtain⟨aQ,an,hh⟩:=Ai.1 hold;cases aQ with
         |cells ak c z0 n0 ba=>
          obtain⟨oc,aC,aW⟩:=r.ob _ _ b an hb;cases aW with
          |cells _ _ _ _ _ cs fz DT hn bc aK a5=>
           obtain⟨cs',e1,e2,e3⟩:=YK (P:=P) b.b (b.ob+(off+len*i.size)) ak fz vs 0 cs w aC aK (by omega) (WJ L aZ);simp only[TL,Bv]at B;injection B with B;injection B with B ab;subst B;subst ab;let b':CD:=⟨b.b,b.ob+off,b.cap-off⟩;have ao:=Ak.JT (ρ:=ρ) ah b';have aN:OR (ρ.put ni b') b' (.cells el .leaf (.Dv (ae++l)) ((len+n)*i.size) true) (.cells cs' ak fz):=by
            have aP:ak=el:=by unfold zp at aE;rw[an]at aE;exact A0▸aE
            subst aP;have bd:=W.length;refine .cells ak .leaf _ _ true cs' fz (by show _=b.ob+off+(b.cap-off);omega) aw (by simp) (by rcases aK with hz|hz;exact .inl hz;exact .inr (by omega)) λk a hk ha=>?_;unfold cellOf at ha;rw[Tr.Cy]at ha;have av:(ae++l)[k]? =some a:=by have:(ae++l)[k %(ae++l).length]? =some a:=ha;rwa[Nat.mod_eq_of_lt (by omega)]at this
            show∃v,cs'[b.ob+off+k]? =some v/\VR (ρ.put ni b') a v;rw[List.getElem?_append]at av;split at av
            ·rename_i aY;obtain⟨v,hv,hr⟩:=W.get k a av;refine⟨v,?_,hr.mono ao⟩;rw[e3,An (by omega)];have:=aq k v hv;rw[Dd]at this;simpa[World.cell?,aC]using this
            ·rename_i aY;obtain⟨v,hv,hr⟩:=L.get _ a av;refine⟨v,?_,hr.mono ao⟩;rw[e3,As (by omega),<-hv];congr 1;omega
           refine⟨.slice (some ⟨b.b,b.ob+off,none⟩) (len+n) ((b.cap-off)/i.size),World.EN w b.b (.cells cs' ak fz),ρ.put ni b',?_,?_,⟨ao,λx hx=>Ak.GH hx _⟩,?_⟩
           ·refine TM (base:=some ⟨b.b,b.ob+off,none⟩) (ty:=ty) hd aa V hi Z au aJ ?_;simp only[Dd,Fu];exact e1
           ·exact r.rename an hb ah Y ad rfl aN (Mn w b.b _ _ aC) rfl rfl rfl
           ·have:=VR.BK (ρ:=ρ.put ni b') ni 0 (len+n) i.size b' (Ak.EO _ _ _) he (by simpa using aw);simpa[b']using this
         |_=>cases hh
     |_=>cases U
    |_=>cases h1
 ·cases aj
end Go.Ev
end
end
