/- Laid by program out of its parts: SxA, SxB, SxC, SxD, EvH, EvI. -/
import Derived.Test.YtlmmbanfhjaioaaGreatDoorMa
import Derived.Laws.Append
noncomputable section
set_option linter.unusedVariables false
set_option linter.unusedSimpArgs false
section
namespace Go.Ev
def Y4:IntKind->Int
 |.i8=>-128|.i16=>-32768|.i32=>-2147483648|.i64=>-9223372036854775808|_=>0
def nI:IntKind->Int
 |.i8=>127|.i16=>32767|.i32=>2147483647|.i64=>9223372036854775807|.u8=>255|.u16=>65535|.u32=>4294967295|.u64=>18446744073709551615
def BJ (k:IntKind) (n:Int):Bool:=cond (AQ n (Y4 k)) false (!(AQ (nI k) n))
theorem YK {k:IntKind} {n:Int}:BJ k n=true↔Y4 k<=n/\n<=nI k:=by
 unfold BJ;rw[EM,EM];by_cases h:n<Y4 k
 ·rw[Bi h];simp;omega
 ·rw[Ej h];simp;omega
def A9 (n:Int) (len:Nat):Bool:=decide (0<=n/\n<(len:Int))
def J4 (n:Int) (len:Nat):Bool:=decide (0<=n/\n<=(len:Int))
theorem Rs {k:IntKind} {n:Int} (h:BJ k n=true):k.wrap n=n:=by rw[YK]at h;cases k<;>simp only[Y4,nI]at h<;>simp only[IntKind.wrap,IntKind.bits,IntKind.signed]<;>simp<;>omega
abbrev SV:=Option (Bool×AV)
def mS (op:BinOp) (k:IntKind) (a b:Int):SV:=
 match op with
 |.add=>some (BJ k (a+b),.int k (a+b))
 |.sub=>some (BJ k (a-b),.int k (a-b))
 |.mul=>some (BJ k (a*b),.int k (a*b))
 |.quo=>some (cond (An b 0) false (BJ k (a.tdiv b)),.int k (a.tdiv b))
 |.rem=>some (!An b 0,.int k (a.tmod b))
 |.and=>some (true,.int k (k.wrap (BitVec.ofInt k.bits a&&& BitVec.ofInt k.bits b).toNat))
 |.or=>some (true,.int k (k.wrap (BitVec.ofInt k.bits a|||BitVec.ofInt k.bits b).toNat))
 |.xor=>some (true,.int k (k.wrap (BitVec.ofInt k.bits a^^^BitVec.ofInt k.bits b).toNat))
 |.andNot=>some (true,.int k (k.wrap (BitVec.ofInt k.bits a&&& ~~~(BitVec.ofInt k.bits b)).toNat))
 |_=>none
theorem AjI {op:BinOp} {k:IntKind} {a b:Int} {r:AV} (h:mS op k a b=some (true,r)):So op k a b=some r/\op≠.shl/\op≠.shr:=by
 cases op<;>simp only[mS]at h<;>first|(cases h;done)|skip
 all_goals
  injection h with h;injection h with q B;subst B;refine⟨?_,by simp,by simp⟩;unfold So;simp only[MT,WV]
 ·rw[Rs q]
 ·rw[Rs q]
 ·rw[Rs q]
 ·cases y:An b 0 with
  |true=>rw[y]at q;cases q
  |false=>rw[y,cond_false]at q;rw[Rs q];rfl
 ·rw[q];rfl
def bL (op:BinOp) (k:IntKind) (a b:Int):SV:=
 match op with
 |.shl=>some (cond (AQ b 0) false (BJ k (a*2^(min b.toNat k.bits))),.int k (a*2^(min b.toNat k.bits)))
 |.shr=>some (!AQ b 0,.int k (a.fdiv (2^(min b.toNat k.bits))))
 |_=>none
theorem xd {op:BinOp} {k:IntKind} {a b:Int} {r:AV} (h:bL op k a b=some (true,r)):Su op k a b=some r:=by
 cases op<;>simp only[bL]at h<;>first|(cases h;done)|skip
 all_goals
  injection h with h;injection h with q B;subst B;unfold Su;simp only[MT]
 ·cases y:AQ b 0 with
  |true=>rw[y]at q;cases q
  |false=>rw[y,cond_false]at q;rw[Rs q];rfl
 ·rw[q];rfl
def Ox (a:AV):Option Ac:=
 match a with
 |.bs l=>some l
 |.str len n=>some (BB len n)
 |_=>none
theorem Mw {ρ:Ai} {a:AV} {l:Ac} {v:Value} (h:VR ρ a v) (q:Ox a=some l):v=.string ⟨l.toArray⟩:=by
 cases h<;>first|(cases q;done)|skip
 ·injection q with q;subst q;rfl
 ·injection q with q;subst q;rfl
def bM (op:BinOp) (l q:Ac):SV:=
 match op with
 |.add=>some (decide (l.length+q.length<=9223372036854775807),.bs (l++q))
 |.eql=>some (true,.bool (decide (l=q)))
 |.neq=>some (true,.bool (!decide (l=q)))
 |.lss=>some (true,.bool (Op.bytesLess l q))
 |.leq=>some (true,.bool (Op.bytesLess l q||decide (l=q)))
 |.gtr=>some (true,.bool (!(Op.bytesLess l q||decide (l=q))))
 |.geq=>some (true,.bool (!Op.bytesLess l q))
 |_=>none
theorem toList_mk (l:Ac):(ByteArray.mk l.toArray).toList=l:=by rw[ByteArray.toList_eq]
theorem xf {P:Program} {ρ:Ai} {op:BinOp} {t:TypeId} {l q:Ac} {r:AV} (h:bM op l q=some (true,r)) (w:World): ∃u,(binOp op t (.string ⟨l.toArray⟩) (.string ⟨q.toArray⟩)).run P w=.ok u w/\VR ρ r u:=by
 have y:(l==q)=decide (l=q):=by by_cases h:l=q<;>simp[h]
 cases op<;>simp only[bM]at h<;>first|(cases h;done)|skip
 all_goals
  injection h with h;injection h with C B;subst B
 ·simp only[BV]at C;refine⟨.string ⟨(l++q).toArray⟩,?_,.bs _⟩;have:¬(((ByteArray.mk l.toArray).size+(ByteArray.mk q.toArray).size:Nat):Int)>IntKind.i64.max:=by show¬((l.toArray.size+q.toArray.size:Nat):Int)>9223372036854775807;simp;omega
  have e:ByteArray.mk l.toArray++ByteArray.mk q.toArray=⟨(l++q).toArray⟩:=by apply ByteArray.ext;simp
  simp only[binOp,Op.stringOp,this,if_false,e,Sem.run_pure]
 all_goals
  refine⟨_,?_,.bool _⟩;simp only[binOp,Op.stringOp,toList_mk,y,Sem.run_pure]
def bI (P:Program) (eq:TypeId->AV->AV->Option Bool) (xs ys:Aj) (fs:List Field):Option Bool:=List.rec (motive:=λ_=>Option Bool) (some true)
  (fun f _ ih => cond (decide (f.name = "_")) ih (ob (KA P f.type xs f.offset) fun a => ob (KA P f.type ys f.offset) fun b => ob (eq f.type a b) fun r => ob ih fun q => some (r && q))) fs
theorem mM {P:Program} {eq:TypeId->AV->AV->Option Bool} {xs ys:Aj}:∀ {fs:List Field} {b:Bool},bI P eq xs ys fs=some b->Qf P eq xs ys fs=some b
 | [],b,h=>h
 |f::fs,b,h=>by
  have h' : (cond (decide (f.name = "_")) (bI P eq xs ys fs) (ob (KA P f.type xs f.offset) fun a => ob (KA P f.type ys f.offset) fun b => ob (eq f.type a b) fun r => ob (bI P eq xs ys fs) fun q => some (r && q))) = some b := h
  show (cond (decide (f.name = "_")) (Qf P eq xs ys fs) (ob (KA P f.type xs f.offset) fun a => ob (KA P f.type ys f.offset) fun b => ob (eq f.type a b) fun r => cond r (Qf P eq xs ys fs) (some false))) = some b
  cases hn : decide (f.name = "_") with
  |true=>rw[hn]at h';exact mM h'
  |false=>
   rw[hn,cond_false]at h';obtain⟨a,ha,h1⟩:=Ag.1 h';obtain⟨a',ha',h2⟩:=Ag.1 h1;obtain⟨r,hr,h3⟩:=Ag.1 h2;obtain⟨q,hq,h4⟩:=Ag.1 h3;injection h4 with h4;subst h4;rw[cond_false];refine Ag.2 ⟨a,ha,Ag.2 ⟨a',ha',Ag.2 ⟨r,hr,?_⟩⟩⟩;cases r with
   |true=>rw[cond_true,mM hq];rfl
   |false=>rfl
def xZ (P:Program) (f:Nat):TypeId->AV->AV->Option Bool:=Nat.rec (motive:=λ_=>TypeId->AV->AV->Option Bool) (λ_ _ _=>none) (λ_ J t x y=>ob (P.underlying t) λd=>
   match d,x,y with
   |.bool,.bool a,.bool b=>some (cond a b (!b))
   |.int _,.int k a,.int E b=>gd (MY k E) (some (An a b))
   |.string,x,y=>ob (Ox x) λl=>ob (Ox y) λC=>some (decide (l=C))
   |.pointer _,.EC,.EC=>some true
   |.pointer _,.EC,.ptr _ _=>some false
   |.pointer _,.ptr _ _,.EC=>some false
   |.pointer _,.EC,.pv _=>some false
   |.pointer _,.pv _,.EC=>some false
   |.pointer _,.EC,.GM _ _ _ _=>some false
   |.pointer _,.GM _ _ _ _,.EC=>some false
   |.map _ _,.E8,.FY _ _ _=>some false
   |.map _ _,.FY _ _ _,.E8=>some false
   |.struct fs,.agg B,.agg q=>gd (!P.stoodInHeld t) (bI P J B q fs.toList)
   |_,_,_=>none) f
theorem AjB {P:Program} {ρ:Ai} {w:World}:∀(f D:Nat),f<=D->∀(t:TypeId) (x y:AV) (b:Bool) (u v:Value),xZ P f t x y=some b-> VR ρ x u->VR ρ y v->(Op.equalIn D t u v).run P w=.ok b w:=by
 intro f
 induction f with
 |zero=>intro D _ t x y b u v h;cases h
 |succ f U=>
  intro D hD t x y b u v h K hy;obtain⟨B,rfl⟩:∃B,D=B+1:=⟨D-1,by omega⟩;obtain⟨d,hd,q⟩:=Ag.1 (show(ob (P.underlying t) λd=>_)=some b from h);clear h;have one:∀r:Bool,Yl P 1 t x y=some r->(Op.equalIn (B+1) t u v).run P w=.ok r w:=λr W=>iN 1 (B+1) (by omega) t x y r u v W K hy;split at q
  ·exact one b (by show(ob (P.underlying t) λd=>_)=_;rw[hd];exact q)
  ·exact one b (by show(ob (P.underlying t) λd=>_)=_;rw[hd];exact q)
  ·obtain⟨l,Y,E⟩:=Ag.1 q;obtain⟨L,R,C⟩:=Ag.1 E;injection C with C;subst C;rw[Mw K Y,Mw hy R];have Z:(l==L)=decide (l=L):=by by_cases h:l=L<;>simp[h]
   simp[Op.equalIn,run_underlying hd,beq_toListBytes,toList_mk,Z]
  ·exact one b (by show(ob (P.underlying t) λd=>_)=_;rw[hd];exact q)
  ·exact one b (by show(ob (P.underlying t) λd=>_)=_;rw[hd];exact q)
  ·exact one b (by show(ob (P.underlying t) λd=>_)=_;rw[hd];exact q)
  all_goals first
   |(injection q with q;subst q;cases K;cases hy;simp[Op.equalIn,run_underlying hd];done)
   |skip
  ·obtain⟨V,E⟩:=AL.1 q;cases K with
   |agg _ S M=>cases hy with
    |agg _ vs Ax=>
     have O:P.stoodInHeld t=false:=by simpa using V
     have J:=sX hd;rw[run_equalIn_struct w B t S.toArray vs.toArray (by rw[J];exact hd) O,J];exact rq (λt x y b u v q E C=>U B (by omega) t x y b u v q E C) M Ax _ _ (mM E)
  ·cases q
def Rf (P:Program) (t:TypeId) (n:Nat) (q:Bool):SV:=ob (P.underlying t) λd=>match d with
 |.slice _=>some (Nat.blt 0 n,.bool q)
 |_=>none
def bJ (P:Program) (t:TypeId) (q:Bool) (a b:AV):SV:=
 match a,b with
 |.Ay,.vec _ n _=>Rf P t n q
 |.vec _ n _,.Ay=>Rf P t n q
 |.Ay,.bv l=>Rf P t l.length q
 |.bv l,.Ay=>Rf P t l.length q
 |.Ay,.AY _ n _=>Rf P t n q
 |.AY _ n _,.Ay=>Rf P t n q
 |a,b=>ob (xZ P 8 t a b) λr=>some (true,.bool (cond q (!r) r))
theorem xb {P:Program} {ρ:Ai} {t:TypeId} {y:Bool} {a b r:AV} {u v:Value} (J:VR ρ a u) (hy:VR ρ b v) (h:bJ P t y a b=some (true,r)) (w:World): ∃q,(Op.equal t u v).run P w=.ok q w/\r=.bool (cond y (!q) q):=by
 have B:∀n,Rf P t n y=some (true,r)->(∃e,P.underlying t=some (.slice e))/\0<n/\r=.bool y:=λn hn=>by
  obtain⟨d,hd,E⟩:=Ag.1 hn;cases d<;>first|(cases E;done)|skip
  injection E with E;injection E with E K;exact⟨⟨_,hd⟩,by rwa[Co]at E,K.symm⟩
 have key:∀(base:Addr) (n c:Nat) e,P.underlying t=some (.slice e)->(Op.equal t (.slice none 0 0) (.slice (some base) n c)).run P w=.ok false w/\(Op.equal t (.slice (some base) n c) (.slice none 0 0)).run P w=.ok false w:=λbase n c e hd=>by
  have K:∀D,(Op.equalIn (D+1) t (.slice none 0 0) (.slice (some base) n c)).run P w=.ok false w/\(Op.equalIn (D+1) t (.slice (some base) n c) (.slice none 0 0)).run P w=.ok false w:=λD=>by constructor<;>simp[Op.equalIn,run_underlying hd]
  exact K (Op.maxDepth-1)
 unfold bJ at h;split at h
 ·obtain⟨⟨e,C⟩,hn,rfl⟩:=B _ h;cases J;cases hy with
  |vec=>exact⟨false,(key _ _ _ e C).1,by cases y<;>rfl⟩
  |Gt=>omega
 ·obtain⟨⟨e,C⟩,hn,rfl⟩:=B _ h;cases hy;cases J with
  |vec=>exact⟨false,(key _ _ _ e C).2,by cases y<;>rfl⟩
  |Gt=>omega
 ·obtain⟨⟨e,C⟩,hn,rfl⟩:=B _ h;cases J;cases hy with
  |bv=>exact⟨false,(key _ _ _ e C).1,by cases y<;>rfl⟩
  |Iu _ L=>subst L;simp at hn
 ·obtain⟨⟨e,C⟩,hn,rfl⟩:=B _ h;cases hy;cases J with
  |bv=>exact⟨false,(key _ _ _ e C).2,by cases y<;>rfl⟩
  |Iu _ L=>subst L;simp at hn
 ·obtain⟨⟨e,C⟩,hn,rfl⟩:=B _ h;cases J;cases hy with
  |AY=>exact⟨false,(key _ _ _ e C).1,by cases y<;>rfl⟩
  |He=>omega
 ·obtain⟨⟨e,C⟩,hn,rfl⟩:=B _ h;cases hy;cases J with
  |AY=>exact⟨false,(key _ _ _ e C).2,by cases y<;>rfl⟩
  |He=>omega
 ·obtain⟨q,M,E⟩:=Ag.1 h;injection E with E;injection E with _ K;exact⟨q,AjB 8 Op.maxDepth (by decide) t _ _ q u v M J hy,K.symm⟩
def xX (P:Program) (op:BinOp) (t:TypeId) (cx B:Bool) (a b:AV):SV:=gd (Qg P op t cx B a b) (match a,b with
  |.int k m,.int y n=>match op with
   |.shl=>bL .shl k m n
   |.shr=>bL .shr k m n
   |op=>gd (MY k y) (mS op k m n)
  |.str _ _,.str _ _=>none
  |.bs l,b=>ob (Ox b) λq=>bM op l q
  |a,.bs q=>ob (Ox a) λl=>bM op l q
  |a,b=>match op with
   |.eql=>bJ P t false a b
   |.neq=>bJ P t true a b
   |_=>none)
theorem Ajz {P:Program} {ρ:Ai} {op:BinOp} {t:TypeId} {x y:Operand} {a b r:AV} {u v:Value} (E:VR ρ a u) (hy:VR ρ b v) (h:xX P op t (Lk x) (Lk y) a b=some (true,r)) (w:World): ∃z,(do eqGuard op t x y u v;binOp op t u v:Sem Value).run P w=.ok z w/\VR ρ r z:=by
 obtain⟨V,B⟩:=AL.1 h;have K:=sI E hy V w;suffices O:∃z,(binOp op t u v).run P w=.ok z w/\VR ρ r z by obtain⟨z,C,L⟩:=O;exact⟨z,by simp only[Sem.run_bind,K,Result.andThen_ok,C],L⟩
 clear h K;split at B
 ·split at B
  ·cases E;cases hy;exact Yo (xd B) w
  ·cases E;cases hy;exact Yo (xd B) w
  ·obtain⟨S,C⟩:=AL.1 B;have:=O0 S;subst this;cases E;cases hy;obtain⟨L,Y,W⟩:=AjI C;exact iT Y W L w
 ·cases B
 ·obtain⟨Z,M,C⟩:=Ag.1 B;rw[Mw hy M];cases E;exact xf C w
 ·obtain⟨l,R,C⟩:=Ag.1 B;rw[Mw E R];cases hy;exact xf C w
 ·have J:plain a b=true:=by unfold plain;split<;>simp_all<;>(rename_i U;exact U _ _ _ _ rfl rfl rfl rfl)
  split at B
  ·obtain⟨q,C,rfl⟩:=xb E hy B w;refine⟨.bool q,?_,.bool _⟩;rw[binOp_eql E hy J];simp only[Sem.run_bind,C,Result.andThen_ok,Sem.run_pure]
  ·obtain⟨q,C,rfl⟩:=xb E hy B w;refine⟨.bool (!q),?_,.bool _⟩;rw[binOp_neq E hy J];simp only[Sem.run_bind,C,Result.andThen_ok,Sem.run_pure]
  ·cases B
end Go.Ev
end
section
namespace Go.Ev
def iA (a:AV):Option (Nat×Nat×(Nat->Aj)):=
 match a with
 |.bv l=>some (1,l.length,λi=>[.int .u8 ((l.getD i 0).toNat:Int)])
 |.vec Ap n f=>some (Ap,n,f)
 |_=>none
theorem Yj {ρ:Ai} {a:AV} {u:Value} (K:VR ρ a u) {Ap n:Nat} {f:Nat->Aj} (h:iA a=some (Ap,n,f)): (∃base cap,u=.slice base n cap/\n<=cap)/\∀i,i<n->∃b o cap cs el fz vs,u=.slice (some ⟨b,o,none⟩) n cap/\ρ.st b=some (.cells cs el fz)/\AG ρ (f i) vs/\∀j v,vs[j]? =some v->cs[o+i*Ap+j]? =some v:=by
 cases K<;>first|(cases h;done)|skip
 case bv l b o cap cs el fz J y hc=>
  injection h with h;injection h with C q;injection q with q B;subst C;subst q;subst B;refine⟨⟨_,_,rfl,y⟩,λi hi=>⟨b,o,cap,cs,el,fz,[.int .u8 ((l.getD i 0).toNat:Int)],rfl,J,.cons _ _ _ _ (.int _ _) .nil,λj v E=>?_⟩⟩
  match j with
  |0=>injection E with E;subst E;have:=hc i hi;simpa using this
  |_+1=>simp at E
 case Iu l L base cap=>
  injection h with h;injection h with C q;injection q with q B;subst q;subst L;exact⟨⟨base,cap,rfl,CL _⟩,λi hi=>by simp at hi⟩
 case vec b o cap cs el fz g J he y hv hc=>
  injection h with h;injection h with C q;injection q with q B;subst C;subst q;subst B;exact⟨⟨_,_,rfl,y⟩,λi hi=>⟨b,o,cap,cs,el,fz,g i,rfl,J,hv i hi,hc i hi⟩⟩
 case Gt hn base cap=>
  injection h with h;injection h with C q;injection q with q B;subst q;subst hn;exact⟨⟨base,cap,rfl,CL _⟩,λi hi=>by omega⟩
theorem cD {E:Env} {F:Nat->Option Obj} {nx:Nat} {ρ:Ai} {h:Nat->Option Ae} {w:World} (r:Rel E F nx ρ h w) {b:Nat} {cs:Array Value} {el:Nat} {fz:Nat×Nat} (q:ρ.st b=some (.cells cs el fz)) {k:Nat} {v:Value} (y:cs[k]? =some v):w.cell? ⟨b,k,none⟩=some v:=by have:=r.st _ _ q;simp[World.cell?,this,y]
def x6 (P:Program) (t:TypeId) (x:AV):SV:=ob (P.underlying t) λd=>match d,x with
  |.string,.bs l=>some (true,Jt l.length)
  |.slice _,.bv l=>some (true,Jt l.length)
  |.slice _,.vec _ n _=>some (true,Jt n)
  |.slice _,.AY _ n _=>some (true,Jt n)
  |_,_=>none
theorem AjK {P:Program} {ρ:Ai} {w:World} {t:TypeId} {x a:AV} {u:Value} (B:VR ρ x u) (y:x6 P t x=some (true,a)) (E C:Array _) (ty:TypeId) (ht:E[0]? =some t) (hu:C[0]? =some u): ∃z,(Builtin.len_ E ty C).run P w=.ok z w/\VR ρ a z:=by
 obtain⟨d,hd,q⟩:=Ag.1 y;clear y;split at q
 ·injection q with q;injection q with _ q;subst q;cases B;exact⟨_,by simp[Builtin.len_,ht,hu,run_underlying hd,goInt];rfl,.int _ _⟩
 ·injection q with q;injection q with _ q;subst q;obtain⟨⟨base,cap,rfl,_⟩,_⟩:=Yj B rfl;exact⟨_,by simp[Builtin.len_,ht,hu,run_underlying hd,goInt],.int _ _⟩
 ·injection q with q;injection q with _ q;subst q;obtain⟨⟨base,cap,rfl,_⟩,_⟩:=Yj B rfl;exact⟨_,by simp[Builtin.len_,ht,hu,run_underlying hd,goInt],.int _ _⟩
 ·injection q with q;injection q with _ q;subst q;cases B with
  |AY=>exact⟨_,by simp[Builtin.len_,ht,hu,run_underlying hd,goInt],.int _ _⟩
  |He _ _ _ hn _=>subst hn;exact⟨_,by simp[Builtin.len_,ht,hu,run_underlying hd,goInt],.int _ _⟩
 ·cases q
def mQ (P:Program) (t:TypeId) (x q:AV):SV:=
 match q with
 |.int _ n=>ob (P.underlying t) λd=>match d with
  |.string=>ob (Ox x) λl=>some (A9 n l.length,.int .u8 ((l.getD n.toNat 0).toNat:Int))
  |_=>none
 |_=>none
theorem AjH {P:Program} {ρ:Ai} {t:TypeId} {x C r:AV} {u v:Value} (E:VR ρ x u) (hi:VR ρ C v) (h:mQ P t x C=some (true,r)) (w:World): ∃z,(Instr.index t u v).run P w=.ok z w/\VR ρ r z:=by
 unfold mQ at h;split at h
 ·rename_i k n;cases hi;obtain⟨d,hd,B⟩:=Ag.1 h;clear h;split at B
  ·obtain⟨l,J,q⟩:=Ag.1 B;injection q with q;injection q with q L;subst L;simp only[A9,BV]at q;rw[Mw E J];refine⟨_,?_,.int _ _⟩;have y:n.toNat<l.length:=by omega
   have K:(ByteArray.mk l.toArray)[n.toNat]? =some (l.getD n.toNat 0):=by
    have M:(ByteArray.mk l.toArray).size=l.length:=by show l.toArray.size=_;simp
    rw[getElem?_pos (ByteArray.mk l.toArray) n.toNat (by rw[M];exact y)];simp only[List.getD,CC y,Option.getD_some];rfl
   simp[Instr.index,asIntOf,run_underlying hd,q.1,K]
  ·cases B
 ·cases h
def mR (P:Program) (t:TypeId) (x q:AV):SV:=
 match q with
 |.int _ n=>ob (P.underlying t) λd=>match d with
  |.slice e=>ob (P.underlying e) λ_=>match x with
   |.AY id len Ap=>gd (Nat.beq (P.cellsOf e) Ap) (some (A9 n len,.GM id Ap n.toNat 0))
   |x=>ob (iA x) λp=>gd (Nat.beq (P.cellsOf e) p.1) (some (A9 n p.2.1,.pv (p.2.2 n.toNat)))
  |.array len e=>ob (P.underlying e) λ_=>match x with
   |.pv cs=>some (A9 n len,.pv (cs.drop (n.toNat*P.cellsOf e)))
   |_=>none
  |_=>none
 |_=>none
theorem AjG {P:Program} {ρ:Ai} {t:TypeId} {x L r:AV} {u v:Value} (J:VR ρ x u) (hi:VR ρ L v) (h:mR P t x L=some (true,r)) (w:World): ∃z,(Instr.indexAt t u v).run P w=.ok z w/\VR ρ r z:=by
 unfold mR at h;split at h
 ·rename_i k n;cases hi;obtain⟨d,hd,E⟩:=Ag.1 h;clear h;split at E
  ·obtain⟨de,C,B⟩:=Ag.1 E;clear E;split at B
   ·obtain⟨hz,q⟩:=AL.1 B;injection q with q;injection q with q y;subst y;simp only[A9,BV]at q;rw[AN]at hz;subst hz;cases J with
    |AY id _ _ b R Y W=>refine⟨_,?_,.GM _ _ _ _ b R⟩;simp[Instr.indexAt,asIntOf,run_underlying hd,Er C,q,Dq]
    |He _ _ _ hn _=>omega
   ·obtain⟨⟨Ap,len,f⟩,hp,q⟩:=Ag.1 B;obtain⟨hz,y⟩:=AL.1 q;injection y with y;injection y with y S;subst S;simp only[A9,BV]at y;rw[AN]at hz;simp only at hz;subst hz;obtain⟨b,o,cap,cs,el,fz,vs,rfl,O,hv,hc⟩:=(Yj J hp).2 n.toNat (by omega);refine⟨_,?_,.pv _ vs b (o+n.toNat*P.cellsOf _) cs el fz O hv hc⟩;simp[Instr.indexAt,asIntOf,run_underlying hd,Er C,y,Dq]
  ·obtain⟨de,C,B⟩:=Ag.1 E;clear E;rename_i V U;split at B
   ·injection B with B;injection B with q y;subst y;simp only[A9,BV]at q;cases J with
    |pv _ vs b o cs el fz K hv hc=>
     refine⟨_,?_,.pv _ (vs.drop _) b (o+n.toNat*P.cellsOf U) cs el fz K (hv.drop _) λj v M=>?_⟩
     ·simp[Instr.indexAt,Instr.sureAddr,asIntOf,run_underlying hd,Er C,q]
      first|rfl|simp[Dq]
     ·rw[List.getElem?_drop]at M;rw[Fy];exact hc _ _ M
   ·cases B
  ·cases E
 ·cases h
def bK (P:Program) (t:TypeId) (cs:Aj):SV:=ob (P.underlying t) λd=>cond (L9 d) (some (Nat.ble (P.cellsOf t) cs.length,.agg (cs.take (P.cellsOf t)))) (ob cs.head? λa=>some (true,a))
def mT (P:Program) (H:Tr Ae) (t:TypeId) (x:AV):SV:=
 match x with
 |.pv cs=>bK P t cs
 |.GM id Ap i j=>ob (H.get id) λo=>match o with
  |.cells _ c z N _=>match c,z with
   |.leaf,.rows q f=>gd (Nat.beq Ap q) (gd (Nat.ble (j+P.cellsOf t) Ap&&Nat.blt 0 (P.cellsOf t)) (ob (bK P t ((f i).drop j)) λr=>some (cond (Nat.ble (i*Ap+j+P.cellsOf t) N) r.1 false,r.2)))
   |_,_=>none
  |_=>none
 |_=>none
theorem xc {P:Program} {ρ:Ai} {t:TypeId} {cs:Aj} {a:AV} {vs:List Value} {w:World} {ad:Addr} (hv:AG ρ cs vs) (hc:∀j v,j<P.cellsOf t\/j=0->vs[j]? =some v->w.cell? (ad.add j)=some v) (h:bK P t cs=some (true,a)):∃v,(Instr.loadAt t (.pointer (some ad))).run P w=.ok v w/\VR ρ a v:=by
 obtain⟨d,hd,y⟩:=Ag.1 h;cases q:L9 d with
 |true=>
  rw[q,cond_true]at y;injection y with y;injection y with y B;subst B;rw[Nat.ble_eq]at y;have L:=hv.length;refine⟨.agg (vs.take (P.cellsOf t)).toArray,?_,.agg _ _ (hv.take _)⟩;have C:=run_loadCells_list (P:=P) (w:=w) ad (vs.take (P.cellsOf t)) (λj v E=>by
   rw[List.getElem?_take]at E;split at E
   ·exact hc j v (.inl ‹_›) E
   ·cases E)
  rw[show(vs.take (P.cellsOf t)).length=P.cellsOf t by simp;omega]at C;simp[Instr.loadAt,Instr.sureAddr,loadVar,Rd hd,q,Er hd,C]
 |false=>
  rw[q,cond_false]at y;obtain⟨S,J,B⟩:=Ag.1 y;injection B with B;injection B with _ B;subst B;cases cs with
  |nil=>cases J
  |cons c l=>
   injection J with J;subst J;cases hv with
   |cons _ v _ O M R=>
    have K:=hc 0 v (.inr rfl) rfl;have e:ad.add 0=ad:=by cases ad;rfl
    rw[e]at K;exact⟨v,by simp[Instr.loadAt,Instr.sureAddr,loadVar,Rd hd,q,K],M⟩
theorem Rb {f:Nat->Aj} {Ap i j:Nat} (q:j<Ap) (k:Nat) (y:k=i*Ap+j):CB.at (.rows Ap f) k=(f i)[j]?:=by
 subst y;show(f ((i*Ap+j)/Ap))[(i*Ap+j)%Ap]? =_;have C:(i*Ap+j)/Ap=i:=by rw[Nat.mul_comm,Nat.mul_add_div (by omega),Nat.div_eq_of_lt q,Nat.add_zero]
 have B:(i*Ap+j)%Ap=j:=by rw[Nat.mul_comm,Nat.mul_add_mod,Nat.mod_eq_of_lt q]
 rw[C,B]
theorem Gz (z:CB) (k:Nat):cellOf .leaf z k=z.at k:=by unfold cellOf;rw[Tr.EK]
theorem AjL {P:Program} {E:Env} {F:Nat->Option Obj} {nx:Nat} {ρ:Ai} {h:Nat->Option Ae} {w:World} {H:Tr Ae} (r:Rel E F nx ρ h w) (hs:HS ρ H h) {t:TypeId} {x a:AV} {u:Value} (W:VR ρ x u) (y:mT P H t x=some (true,a)):∃v,(Instr.loadAt t u).run P w=.ok v w/\VR ρ a v:=by
 unfold mT at y;split at y
 ·cases W with
  |pv _ vs b o cs el fz U hv hc=>exact xc hv (λj v _ hj=>by rw[Dq];exact cD r U (hc j v hj)) y
 ·rename_i id Ap i j;cases W with
  |GM _ _ _ _ b Y=>
   obtain⟨o,ho,O⟩:=Ag.1 y;clear y;split at O
   ·rename_i ab c z N op;split at O
    ·rename_i aa f;obtain⟨Z,h3⟩:=AL.1 O;obtain⟨h4,h5⟩:=AL.1 h3;obtain⟨⟨sd,a'⟩,h6,B⟩:=Ag.1 h5;injection B with B;injection B with B h8;subst h8;rw[AN]at Z;subst Z;simp only[C5,Nat.ble_eq,Co]at h4;cases hle:Nat.ble (i*Ap+j+P.cellsOf t) N with
     |false=>rw[hle]at B;cases B
     |true=>
      rw[hle,cond_true]at B;simp only at B;subst B;rw[Nat.ble_eq]at hle;obtain⟨vs,hv,Ax⟩:=AG.S1 (l:=((f i).drop j).take (P.cellsOf t)) (ρ:=ρ) (λq v=>w.cell? ⟨b.b,b.ob+(i*Ap+j+q),none⟩=some v) (λq a K=>by
       rw[List.getElem?_take]at K;split at K
       ·rename_i ad;have V:(f i)[j+q]? =some a:=by rw[List.getElem?_drop]at K;exact K
        exact cell_of r (hs _ _ ho (.inl ⟨b,Y⟩)) Y (k:=i*Ap+j+q) (by omega) (by rw[Gz,Rb (i:=i) (j:=j+q) (by omega) _ (by omega)];exact V)
       ·cases K)
      have M:bK P t (((f i).drop j).take (P.cellsOf t))=some (true,a'):=by
       obtain⟨d,hd,J⟩:=Ag.1 h6;refine Ag.2 ⟨d,hd,?_⟩;cases S:L9 d with
       |true=>
        rw[S,cond_true]at J;injection J with J;injection J with J L;rw[Nat.ble_eq]at J;rw[cond_true];have e1:Nat.ble (P.cellsOf t) (((f i).drop j).take (P.cellsOf t)).length=true:=by rw[Nat.ble_eq,List.length_take];omega
        rw[e1,List.take_take,Nat.min_self,L]
       |false=>
        rw[S,cond_false]at J;rw[cond_false];obtain⟨a2,C,L⟩:=Ag.1 J;refine Ag.2 ⟨a2,?_,L⟩;cases R:(f i).drop j with
        |nil=>rw[R]at C;cases C
        |cons c l=>rw[R]at C;obtain⟨m,hm⟩:∃m,P.cellsOf t=m+1:=⟨P.cellsOf t-1,by omega⟩;rw[hm];exact C
      refine xc hv (λq v _ K=>?_) M;have:=Ax q v K;rw[Dq,Fy];exact this
    ·cases O
   ·cases O
 ·cases y
def x4 (P:Program) (t:TypeId) (x:AV) (f:Nat):SV:=ob (P.underlying t) λd=>match d with
  |.struct fs=>ob (fs[f]?) λq=>ob (P.underlying q.type) λ_=>gd (!Nat.beq (P.cellsOf q.type) 0) (match x with
   |.pv cs=>some (true,.pv (cs.drop q.offset))
   |.GM id Ap i j=>fN (j+q.offset) λy=>some (true,.GM id Ap i y)
   |_=>none)
  |_=>none
theorem AjD {P:Program} {ρ:Ai} {t:TypeId} {x r:AV} {f:Nat} {u:Value} (K:VR ρ x u) (h:x4 P t x f=some (true,r)) (w:World): ∃v,(Instr.fieldAt t u f).run P w=.ok v w/\VR ρ r v:=by
 obtain⟨d,hd,C⟩:=Ag.1 h;clear h;split at C
 ·obtain⟨E,M,R⟩:=Ag.1 C;obtain⟨V,B,O⟩:=Ag.1 R;obtain⟨hz,q⟩:=AL.1 O;clear C R O;have y:P.cellsOf E.type≠0:=λS=>by rw[S]at hz;simp at hz
  split at q
  ·injection q with q;injection q with _ q;subst q;cases K with
   |pv _ vs b o cs el fz J hv hc=>
    refine⟨_,?_,.pv _ (vs.drop E.offset) b (o+E.offset) cs el fz J (hv.drop _) λj v L=>?_⟩
    ·simp[Instr.fieldAt,run_underlying hd,M,Instr.sureAddr,fieldPlace,Er B,y,Dq]
    ·rw[List.getElem?_drop]at L;rw[Fy];exact hc _ _ L
  ·rw[Bv]at q;injection q with q;injection q with _ q;subst q;cases K with
   |GM _ _ _ _ b U=>refine⟨_,?_,.GM _ _ _ _ b U⟩;simp[Instr.fieldAt,run_underlying hd,M,Instr.sureAddr,fieldPlace,Er B,y,Dq,Fy]
  ·cases q
 ·cases C
def Ik (X:Operand->Option AV) (x:Option Operand) (q lim:Nat):Option (Bool×Nat):=
 match x with
 |none=>some (true,q)
 |some o=>ob (X o) λa=>match a with
  |.int _ n=>some (J4 n lim,n.toNat)
  |_=>none
theorem mK {P:Program} {ρ:Ai} {X:Operand->Option AV} {f:Operand->Value} (E:XR ρ X f) {o:Operand} {d lim i:Nat} (h:Ik X (some o) d lim=some (true,i)) (w:World) (y:Nat) (hy:lim<=y) (code:BoundsCode):(Instr.sliceBound (f o) y code).run P w=.ok i w/\i<=lim:=by
 obtain⟨a,C,q⟩:=Ag.1 (show(ob (X o) λa=>match a with
  |.int _ n=>some (J4 n lim,n.toNat)
  |_=>none)=some (true,i)from h)
 have B:=E _ _ C;split at q
 ·rename_i k n;injection q with q;injection q with q J;subst J;simp only[J4,BV]at q;generalize f o=v at B;cases B;have:0<=n/\n<=(y:Int):=by omega
  exact⟨by simp[Instr.sliceBound,asIntOf,this],by omega⟩
 ·cases q
theorem Re {P:Program} {ρ:Ai} {X:Operand->Option AV} {f:Operand->Value} (C:XR ρ X f) {lo hi:Option Operand} {len cap l h:Nat} (As:Bool) (J:len<=cap) (y:Ik X hi len len=some (true,h)) (q:Ik X lo 0 h=some (true,l)) (w:World): (Instr.sliceBounds As len cap (lo.map f) (hi.map f) none).run P w=.ok (l,h,cap) w/\h<=len/\l<=h:=by
 unfold Instr.sliceBounds;cases hi with
 |none=>
  injection y with y;injection y with _ y;subst y;cases lo with
  |none=>injection q with q;injection q with _ q;subst q;exact⟨by simp,AM _,CL _⟩
  |some o=>have B:=λc=>mK (P:=P) C q w _ (AM _) c;exact⟨by simp[(B _).1],AM _,(B .sliceB).2⟩
 |some L=>
  have E:=λc=>mK (P:=P) C y w cap J c;have K:=(E .sliceB).2;cases lo with
  |none=>injection q with q;injection q with _ q;subst q;exact⟨by simp[(E _).1],K,CL _⟩
  |some o=>have B:=λc=>mK (P:=P) C q w _ (AM _) c;exact⟨by simp[(E _).1,(B _).1],K,(B .sliceB).2⟩
def cO {α:Type} (hi:Option Operand) (h:Nat) (l:List α):List α:=match hi with
 |none=>l
 |some _=>l.take h
def Ya {α:Type} (lo:Option Operand) (k:Nat) (l:List α):List α:=match lo with
 |none=>l
 |some _=>l.drop k
def mm (lo:Option Operand) (h l:Nat):Nat:=match lo with
 |none=>h
 |some _=>h-l
def jG (lo:Option Operand) (l:Nat) (f:Nat->Aj):Nat->Aj:=match lo with
 |none=>f
 |some _=>λi=>f (l+i)
def Wz (P:Program) (X:Operand->Option AV) (t:TypeId) (x:AV) (lo hi mx:Option Operand):SV:=ob (P.underlying t) λd=>gd (!mx.isSome) (match d,x with
  |.string,.bs L=>ob (Ik X hi L.length L.length) λh=>ob (Ik X lo 0 h.2) λl=>some (cond h.1 l.1 false,.bs (Ya lo l.2 (cO hi h.2 L)))
  |.slice e,.bv L=>ob (P.underlying e) λ_=>gd (Nat.beq (P.cellsOf e) 1) (ob (Ik X hi L.length L.length) λh=>ob (Ik X lo 0 h.2) λl=>some (cond h.1 l.1 false,.bv (Ya lo l.2 (cO hi h.2 L))))
  |.slice e,.vec Ap n f=>ob (P.underlying e) λ_=>gd (Nat.beq (P.cellsOf e) Ap) (ob (Ik X hi n n) λh=>ob (Ik X lo 0 h.2) λl=>some (cond h.1 l.1 false,.vec Ap (mm lo h.2 l.2) (jG lo l.2 f)))
  |.slice e,.AY id n Ap=>ob (P.underlying e) λ_=>gd (Nat.beq (P.cellsOf e) Ap&& !lo.isSome) (ob (Ik X hi n n) λh=>some (h.1,.AY id h.2 Ap))
  |_,_=>none)
theorem bH {X:Operand->Option AV} {x:Option Operand} {d lim i:Nat} {s:Bool} (q:x=none) (h:Ik X x d lim=some (s,i)):i=d:=by subst q;injection h with h;injection h with _ h;exact h.symm
theorem yf {α:Type} {X:Operand->Option AV} {hi:Option Operand} {h lim:Nat} {s:Bool} {L:List α} (q:Ik X hi L.length lim=some (s,h)):cO hi h L=L.take h:=by
 cases hi with
 |none=>rw[bH rfl q];simp[cO]
 |some _=>rfl
theorem r9 {α:Type} {X:Operand->Option AV} {lo:Option Operand} {l lim:Nat} {s:Bool} {L:List α} (q:Ik X lo 0 lim=some (s,l)):Ya lo l L=L.drop l:=by
 cases lo with
 |none=>rw[bH rfl q];simp[Ya]
 |some _=>rfl
theorem AkJ {X:Operand->Option AV} {lo:Option Operand} {l h lim:Nat} {s:Bool} (q:Ik X lo 0 lim=some (s,l)):mm lo h l=h-l:=by
 cases lo with
 |none=>rw[bH rfl q];simp[mm]
 |some _=>rfl
theorem AcW {X:Operand->Option AV} {lo:Option Operand} {l lim:Nat} {s:Bool} {f:Nat->Aj} (q:Ik X lo 0 lim=some (s,l)) (i:Nat):jG lo l f i=f (l+i):=by
 cases lo with
 |none=>rw[bH rfl q];simp[jG]
 |some _=>rfl
theorem K6 {a b:Bool} {α:Type} {x y:α} (h:some (cond a b false,x)=some (true,y)):a=true/\b=true/\x=y:=by injection h with h;injection h with B q;cases a<;>cases b<;>first|(cases B;done)|exact⟨rfl,rfl,q⟩
set_option maxHeartbeats 1000000 in
theorem AjS {P:Program} {ρ:Ai} {X:Operand->Option AV} {f:Operand->Value} (hX:XR ρ X f) {t:TypeId} {x r:AV} {lo hi mx:Option Operand} {u:Value} (hx:VR ρ x u) (h:Wz P X t x lo hi mx=some (true,r)) (w:World):∃z,(Instr.sliceAt t u (lo.map f) (hi.map f) (mx.map f)).run P w=.ok z w/\VR ρ r z:=by
 obtain⟨d,hd,h1⟩:=Ag.1 h;clear h;obtain⟨aa,h2⟩:=AL.1 h1;clear h1;cases mx with
 |some _=>simp at aa
 |none=>
 simp only[Option.map_none];split at h2
 ·rename_i L;obtain⟨⟨sh,K⟩,y,V⟩:=Ag.1 h2;obtain⟨⟨sl,il⟩,B,U⟩:=Ag.1 V;obtain⟨Y,W,rfl⟩:=K6 U;simp only at Y W y B;subst Y;subst W;cases hx;obtain⟨S,M,h6⟩:=Re (P:=P) hX (len:=L.length) (cap:=L.length) false (AM _) y B w;rw[yf y,r9 B];refine⟨_,?_,.bs _⟩;have Y:(ByteArray.mk L.toArray).size=L.length:=by show L.toArray.size=_;simp
  have W:(ByteArray.mk L.toArray).extract il K=⟨((L.take K).drop il).toArray⟩:=by apply ByteArray.ext;apply Array.ext';simp[ByteArray.data_extract,List.drop_take]
  have ae:(Instr.sliceBounds false (ByteArray.mk L.toArray).size (ByteArray.mk L.toArray).size (lo.map f) (hi.map f) none).run P w=.ok (il,K,L.length) w:=by rw[Y];exact S
  simp[Instr.sliceAt,Instr.slice,run_underlying hd,ae,W]
 ·rename_i e L;obtain⟨de,E,V⟩:=Ag.1 h2;obtain⟨C,U⟩:=AL.1 V;obtain⟨⟨sh,K⟩,y,M⟩:=Ag.1 U;obtain⟨⟨sl,il⟩,B,h6⟩:=Ag.1 M;obtain⟨Y,W,rfl⟩:=K6 h6;simp only at Y W y B;subst Y;subst W;rw[AN]at C;rw[yf y,r9 B];clear h2 V U M h6;cases hx with
  |bv _ b o cap cs el fz hs J hc=>
   obtain⟨S,R,Z⟩:=Re (P:=P) hX (len:=L.length) (cap:=cap) true J y B w;refine⟨.slice (some (if cap=il then⟨b,o,none⟩else⟨b,o+il,none⟩)) (K-il) (cap-il),?_,?_⟩
   ·simp[Instr.sliceAt,Instr.slice,run_underlying hd,S,Er E,C,Dq];split<;>simp
   ·have hl:((L.take K).drop il).length=K-il:=by simp;omega
    by_cases h0:K-il=0
    ·rw[h0];exact .Iu _ (List.eq_nil_of_length_eq_zero (by omega)) _ _
    ·rw[Ad (by omega),<-hl];refine .bv _ b (o+il) (cap-il) cs el fz hs (by omega) λi hi=>?_;have:=hc (il+i) (by omega);rw[Fy,this];congr 3;simp only[List.getD,List.getElem?_drop,List.getElem?_take];rw[Am (by omega)]
  |Iu _ hl base cap=>subst hl;obtain⟨S,R,Z⟩:=Re (P:=P) hX (len:=0) (cap:=cap) true (CL _) y B w;simp only[List.length_nil,Nat.le_zero]at R;subst R;simp only[Nat.le_zero]at Z;subst Z;refine⟨.slice (if cap=0 then base else base.map (·.add 0)) 0 cap,?_,.Iu _ (by simp) _ _⟩;simp[Instr.sliceAt,Instr.slice,run_underlying hd,S,Er E,C]
 ·rename_i e Ap n g;obtain⟨de,E,V⟩:=Ag.1 h2;obtain⟨C,U⟩:=AL.1 V;obtain⟨⟨sh,K⟩,y,M⟩:=Ag.1 U;obtain⟨⟨sl,il⟩,B,h6⟩:=Ag.1 M;obtain⟨Y,W,rfl⟩:=K6 h6;simp only at Y W y B;subst Y;subst W;rw[AN]at C;rw[AkJ B];clear h2 V U M h6;cases hx with
  |vec _ _ _ b o cap cs el fz q hs he J hv hc=>
   obtain⟨S,R,Z⟩:=Re (P:=P) hX (len:=n) (cap:=cap) true J y B w;refine⟨.slice (some (if cap=il then⟨b,o,none⟩else⟨b,o+il*Ap,none⟩)) (K-il) (cap-il),?_,?_⟩
   ·simp[Instr.sliceAt,Instr.slice,run_underlying hd,S,Er E,C,Dq];split<;>simp
   ·by_cases h0:K-il=0
    ·rw[h0];exact .Gt _ _ _ rfl _ _
    ·rw[Ad (by omega)];refine .vec _ _ _ b (o+il*Ap) (cap-il) cs el fz (λi=>q (il+i)) hs he (by omega) (λi hi=>by rw[AcW B];exact hv _ (by omega)) λi hi j v hj=>?_;have:=hc (il+i) (by omega) j v hj;rw[show o+il*Ap+i*Ap+j=o+(il+i)*Ap+j by rw[Nat.add_mul];omega];exact this
  |Gt _ _ _ hn base cap=>subst hn;obtain⟨S,R,Z⟩:=Re (P:=P) hX (len:=0) (cap:=cap) true (CL _) y B w;simp only[Nat.le_zero]at R;subst R;simp only[Nat.le_zero]at Z;subst Z;refine⟨.slice (if cap=0 then base else base.map (·.add 0)) 0 cap,?_,.Gt _ _ _ rfl _ _⟩;simp[Instr.sliceAt,Instr.slice,run_underlying hd,S,Er E,C]
 ·rename_i e id n Ap;obtain⟨de,E,V⟩:=Ag.1 h2;obtain⟨C,U⟩:=AL.1 V;obtain⟨⟨sh,K⟩,y,M⟩:=Ag.1 U;injection M with M;injection M with M h6;subst h6;simp only at M y;subst M;simp only[C5]at C;obtain⟨C,ab⟩:=C;rw[AN]at C;cases lo with
  |some _=>simp at ab
  |none=>
  clear h2 V U;cases hx with
  |AY _ _ _ b S he hl=>
   have J:n<=b.cap/Ap:=by rw[Nat.le_div_iff_mul_le he];exact hl
   obtain⟨O,R,Z⟩:=Re (P:=P) hX (lo:=none) (hi:=hi) (len:=n) (cap:=b.cap/Ap) true J y rfl w;refine⟨.slice (some ⟨b.b,b.ob,none⟩) K (b.cap/Ap),?_,.AY _ _ _ b S he (G3 (Nat.mul_le_mul_right _ R) hl)⟩;simp only[Option.map_none]at O;simp[Instr.sliceAt,Instr.slice,run_underlying hd,O,Er E,C,Dq]
  |He _ _ _ hn base=>
   subst hn;obtain⟨O,R,Z⟩:=Re (P:=P) hX (lo:=none) (hi:=hi) (len:=0) (cap:=0) true (CL _) y rfl w;simp only[Nat.le_zero]at R;subst R;simp only[Option.map_none]at O;cases base with
   |none=>refine⟨.slice none 0 0,?_,.He _ _ _ rfl _⟩;simp[Instr.sliceAt,Instr.slice,run_underlying hd,O,Er E]
   |some ad=>refine⟨.slice (some ad) 0 0,?_,.He _ _ _ rfl _⟩;simp[Instr.sliceAt,Instr.slice,run_underlying hd,O,Er E,Dq]
 ·cases h2
end Go.Ev
end
section
namespace Go.Ev
def P5:Ac->Ac->Bool
 | [],[]=>true
 |a::l,b::m=>cond (Nat.beq a.toNat b.toNat) (P5 l m) false
 |_,_=>false
mutual
def Cw:AV->AV->Bool
 |.bool a,.bool b=>cond a b (!b)
 |.int k a,.int B b=>cond (MY k B) (An a b) false
 |.str l n,.str y q=>cond (Nat.beq l y) (Nat.beq n q) false
 |.EC,.EC=>true
 |.ptr i o,.ptr j p=>cond (Nat.beq i j) (Nat.beq o p) false
 |.Ay,.Ay=>true
 |.sl i o n c,.sl j p m d=>cond (Nat.beq i j) (cond (Nat.beq o p) (cond (Nat.beq n m) (Nat.beq c d) false) false) false
 |.BF i o n c,.BF j p m d=>cond (Nat.beq i j) (cond (Nat.beq o p) (cond (Nat.beq n m) (Nat.beq c d) false) false) false
 |.sle i,.sle j=>Nat.beq i j
 |.E8,.E8=>true
 |.map i,.map j=>Nat.beq i j
 |.GD,.GD=>true
 |.Dx i,.Dx j=>Nat.beq i j
 |.fn (.func f) a c,.fn (.func g) b d=>cond (Nat.beq f g) (cond (LW a b) (LW c d) false) false
 |.iface t v,.iface u x=>cond (Nat.beq t u) (Cw v x) false
 |.EL,.EL=>true
 |.agg l,.agg m=>LW l m
 |.AO l,.AO m=>LW l m
 |.AY i n e,.AY j m d=>cond (Nat.beq i j) (cond (Nat.beq n m) (Nat.beq e d) false) false
 |.Gp i n,.Gp j m=>cond (Nat.beq i j) (Nat.beq n m) false
 |.pv l,.pv m=>LW l m
 |.bs l,.bs m=>P5 l m
 |.bv l,.bv m=>P5 l m
 |_,_=>false
def LW:Aj->Aj->Bool
 | [],[]=>true
 |a::l,b::m=>cond (Cw a b) (LW l m) false
 |_,_=>false
end
theorem Bf {a b:Bool} (h:cond a b false=true):a=true/\b=true:=by cases a<;>cases b<;>first|exact⟨rfl,rfl⟩|cases h
theorem fQ:∀(a b:Ac),P5 a b=true->a=b
 | [],b,h=>by cases b<;>first|rfl|(simp[P5]at h;done)
 |x::l,b,h=>by
  cases b with
  |nil=>simp[P5]at h
  |cons y m=>rw[P5]at h;obtain⟨q,B⟩:=Bf h;rw[AN]at q;rw[UInt8.toNat_inj.1 q,fQ l m B]
mutual
theorem RQ:∀(a b:AV),Cw a b=true->a=b
 |.bool a,b,h=>by
  cases b<;>first|(simp[Cw]at h;done)|skip
  rename_i b;cases a<;>cases b<;>first|rfl|(simp[Cw]at h;done)
 |.int k a,b,h=>by
  cases b<;>first|(simp[Cw]at h;done)|skip
  rw[Cw]at h;obtain⟨y,q⟩:=Bf h;rw[DU]at q;rw[O0 y,eq_of_beq q]
 |.str l n,b,h=>by
  cases b<;>first|(simp[Cw]at h;done)|skip
  rw[Cw]at h;obtain⟨y,q⟩:=Bf h;rw[AN]at y q;rw[y,q]
 |.EC,b,h=>by cases b<;>first|rfl|(simp[Cw]at h;done)
 |.ptr i o,b,h=>by
  cases b<;>first|(simp[Cw]at h;done)|skip
  rw[Cw]at h;obtain⟨y,q⟩:=Bf h;rw[AN]at y q;rw[y,q]
 |.Ay,b,h=>by cases b<;>first|rfl|(simp[Cw]at h;done)
 |.sl i o n c,b,h=>by
  cases b<;>first|(simp[Cw]at h;done)|skip
  rw[Cw]at h;obtain⟨y,q⟩:=Bf h;obtain⟨q,B⟩:=Bf q;obtain⟨B,C⟩:=Bf B;rw[AN]at y q B C;rw[y,q,B,C]
 |.BF i o n c,b,h=>by
  cases b<;>first|(simp[Cw]at h;done)|skip
  rw[Cw]at h;obtain⟨y,q⟩:=Bf h;obtain⟨q,B⟩:=Bf q;obtain⟨B,C⟩:=Bf B;rw[AN]at y q B C;rw[y,q,B,C]
 |.sle i,b,h=>by
  cases b<;>first|(simp[Cw]at h;done)|skip
  rw[Cw,AN]at h;rw[h]
 |.E8,b,h=>by cases b<;>first|rfl|(simp[Cw]at h;done)
 |.map i,b,h=>by
  cases b<;>first|(simp[Cw]at h;done)|skip
  rw[Cw,AN]at h;rw[h]
 |.GD,b,h=>by cases b<;>first|rfl|(simp[Cw]at h;done)
 |.Dx i,b,h=>by
  cases b<;>first|(simp[Cw]at h;done)|skip
  rw[Cw,AN]at h;rw[h]
 |.fn f a c,b,h=>by
  cases b<;>first|(cases f<;>simp[Cw]at h;done)|skip
  rename_i g b d;cases f<;>cases g<;>first|(simp[Cw]at h;done)|skip
  rw[Cw]at h;obtain⟨y,q⟩:=Bf h;obtain⟨q,B⟩:=Bf q;rw[AN]at y;rw[y,OM a b q,OM c d B]
 |.iface t v,b,h=>by
  cases b<;>first|(simp[Cw]at h;done)|skip
  rw[Cw]at h;obtain⟨y,q⟩:=Bf h;rw[AN]at y;rw[y,RQ v _ q]
 |.EL,b,h=>by cases b<;>first|rfl|(simp[Cw]at h;done)
 |.agg l,b,h=>by
  cases b<;>first|(simp[Cw]at h;done)|skip
  rw[Cw]at h;rw[OM l _ h]
 |.AO l,b,h=>by
  cases b<;>first|(simp[Cw]at h;done)|skip
  rw[Cw]at h;rw[OM l _ h]
 |.AY i n e,b,h=>by
  cases b<;>first|(simp[Cw]at h;done)|skip
  rw[Cw]at h;obtain⟨y,q⟩:=Bf h;obtain⟨q,B⟩:=Bf q;rw[AN]at y q B;rw[y,q,B]
 |.Gp i n,b,h=>by
  cases b<;>first|(simp[Cw]at h;done)|skip
  rw[Cw]at h;obtain⟨y,q⟩:=Bf h;rw[AN]at y q;rw[y,q]
 |.pv l,b,h=>by
  cases b<;>first|(simp[Cw]at h;done)|skip
  rw[Cw]at h;rw[OM l _ h]
 |.bs l,b,h=>by
  cases b<;>first|(simp[Cw]at h;done)|skip
  rw[Cw]at h;rw[fQ l _ h]
 |.bv l,b,h=>by
  cases b<;>first|(simp[Cw]at h;done)|skip
  rw[Cw]at h;rw[fQ l _ h]
theorem OM:∀(a b:Aj),LW a b=true->a=b
 | [],b,h=>by cases b<;>first|rfl|(simp[LW]at h;done)
 |a::l,b,h=>by
  cases b with
  |nil=>simp[LW]at h
  |cons b m=>rw[LW]at h;obtain⟨y,q⟩:=Bf h;rw[RQ a b y,OM l m q]
end
def Jj (l:Aj):UInt8:=match l with
 | [.int _ n]=>UInt8.ofNat n.toNat
 |_=>0
def Qr (l:Aj):Bool:=match l with
 | [.int .u8 _]=>true
 |_=>false
def Gs (n:Nat) (f:Nat->Aj):Ac:=(List.range n).map λi=>Jj (f i)
def U7 (n:Nat) (f:Nat->Aj):Bool:=decide (∀i,i<n->Qr (f i)=true)
def dE (w:World) (u:Value) (l:Ac):Prop:=(∃base c,u=.slice base 0 c/\l=[])\/∃(ad:Addr) (c:Nat) (ns:AP),u=.slice (some ad) l.length c/\l=ns.map (λn=>UInt8.ofNat n.toNat)/\∀j v,(ns.map (Value.int .u8))[j]? =some v->w.cell? (ad.add j)=some v
def XH (H:Tr Ae) (x:AV):Option (Bool×Ac):=
 match x with
 |.bv l=>some (true,l)
 |.vec Ap n f=>gd (Nat.beq Ap 1) (some (U7 n f,Gs n f))
 |.AY id n Ap=>gd (Nat.beq Ap 1) (ob (H.get id) λo=>match o with
  |.cells _ c z N _=>match c,z with
   |.leaf,.rows e f=>gd (Nat.beq e 1) (some (cond (Nat.ble n N) (U7 n f) false,Gs n f))
   |_,_=>none
  |_=>none)
 |.Ay=>some (true,[])
 |.sle _=>some (true,[])
 |.sl id off n _=>ob (GB H id off n) λl=>gd (l.all λa=>Qr [a]) (some (true,l.map λa=>Jj [a]))
 |.BF id off n _=>ob (GB H id off n) λl=>gd (l.all λa=>Qr [a]) (some (true,l.map λa=>Jj [a]))
 |_=>none
theorem jb {ρ:Ai} {l:Aj} {vs:List Value} (h:Qr l=true) (hv:AG ρ l vs):∃n,vs=[.int .u8 n]/\Jj l=UInt8.ofNat n.toNat:=by
 unfold Qr at h;split at h
 ·cases hv with
  |cons _ _ _ _ y q=>cases y;cases q;exact⟨_,rfl,rfl⟩
 ·cases h
theorem fU {ρ:Ai}:∀ {l:Aj} {vs:List Value},AG ρ l vs->(l.all λa=>Qr [a])=true->∃ns:AP,vs=ns.map (Value.int .u8)/\(l.map λa=>Jj [a])=ns.map λn=>UInt8.ofNat n.toNat
 |_,_,.nil,_=>⟨[],rfl,rfl⟩
 |_,_,.cons a v l vs h B,q=>by simp only[List.all_cons,C5]at q;obtain⟨n,y,J⟩:=jb q.1 (.cons _ _ _ _ h .nil);injection y with y;obtain⟨ns,E,C⟩:=fU B q.2;exact⟨n::ns,by simp[y,E],by simp[J,C]⟩
theorem xS {w:World} {n:Nat} {f:Nat->Aj} {ad:Addr} (K:U7 n f=true) (h:∀i,i<n->∃v,(∃m,v=Value.int .u8 m/\Jj (f i)=UInt8.ofNat m.toNat)/\w.cell? (ad.add i)=some v): ∃ns:AP,ns.length=n/\Gs n f=ns.map (λn=>UInt8.ofNat n.toNat)/\∀j v,(ns.map (Value.int .u8))[j]? =some v->w.cell? (ad.add j)=some v:=by
 classical
 have C:∀i,∃m:Int,i<n->Jj (f i)=UInt8.ofNat m.toNat/\w.cell? (ad.add i)=some (.int .u8 m):=λi=>by
  by_cases hi:i<n
  ·obtain⟨v,⟨m,rfl,J⟩,E⟩:=h i hi;exact⟨m,λ_=>⟨J,E⟩⟩
  ·exact⟨0,λh=>absurd h hi⟩
 refine⟨(List.range n).map λi=>Classical.choose (C i),by simp,?_,λj v q=>?_⟩
 ·unfold Gs;rw[List.map_map];apply List.map_congr_left;intro i hi;rw[List.mem_range]at hi;exact(IV (C i) hi).1
 ·rw[List.map_map,HB]at q;cases B:(List.range n)[j]? with
  |none=>rw[B]at q;cases q
  |some i=>rw[B]at q;obtain⟨y,rfl⟩:=It.1 B;injection q with q;subst q;simp only[List.length_range]at y;have:=(IV (C j) y).2;simpa using this
theorem pA {E:Env} {F:Nat->Option Obj} {nx:Nat} {ρ:Ai} {h:Nat->Option Ae} {w:World} {H:Tr Ae} (r:Rel E F nx ρ h w) (hs:HS ρ H h) {x:AV} {u:Value} {l:Ac} (R:VR ρ x u) (q:XH H x=some (true,l)):dE w u l:=by
 unfold XH at q;split at q
 ·rename_i L;injection q with q;injection q with _ q;subst q;cases R with
  |bv _ b o cap cs el fz W ab hc=>
   refine .inr ⟨⟨b,o,none⟩,cap,L.map (λb=>(b.toNat:Int)),rfl,?_,λj v S=>?_⟩
   ·rw[List.map_map]
    conv=>lhs;rw[<-List.map_id L]
    apply List.map_congr_left;intro b _;simp
   ·rw[List.map_map,HB]at S;cases hr:L[j]? with
    |none=>rw[hr]at S;cases S
    |some b'=>rw[hr]at S;injection S with S;subst S;obtain⟨aa,rfl⟩:=It.1 hr;have:=hc j aa;rw[show L.getD j 0=L[j] by simp[List.getD,aa]]at this;rw[Dq];exact cD r W this
  |Iu _ O base cap=>exact .inl ⟨base,cap,rfl,O⟩
 ·rename_i Ap n f;obtain⟨J,C⟩:=AL.1 q;rw[AN]at J;subst J;injection C with C;injection C with C B;subst B;have y:=C;unfold U7 at C;simp only[BV]at C;cases R with
  |vec _ _ _ b o cap cs el fz g W J ab hv hc=>
   obtain⟨ns,B,M,h4⟩:=xS (w:=w) (ad:=⟨b,o,none⟩) y λi hi=>by obtain⟨m,V,U⟩:=jb (C i hi) (hv i hi);refine⟨.int .u8 m,⟨m,rfl,U⟩,?_⟩;have:=hc i hi 0 (.int .u8 m) (by rw[V];rfl);rw[Dq];exact cD r W (by simpa using this)
   have O:(Gs n f).length=n:=by simp[Gs]
   exact .inr ⟨⟨b,o,none⟩,cap,ns,by rw[O],M,h4⟩
  |Gt _ _ _ hn base cap=>subst hn;exact .inl ⟨base,cap,rfl,rfl⟩
 ·rename_i id n Ap;obtain⟨J,C⟩:=AL.1 q;rw[AN]at J;subst J;obtain⟨o,ho,B⟩:=Ag.1 C;clear q C;split at B
  ·rename_i ai c z N op;split at B
   ·rename_i e f;obtain⟨J,M⟩:=AL.1 B;rw[AN]at J;subst J;obtain⟨e1,e2,rfl⟩:=K6 M;rw[Nat.ble_eq]at e1;have y:=e2;unfold U7 at e2;simp only[BV]at e2;cases R with
    |AY _ _ _ b Z _ O=>
     obtain⟨ns,h4,V,U⟩:=xS (w:=w) (ad:=⟨b.b,b.ob,none⟩) y λi hi=>by
      have K:=e2 i hi;obtain⟨x,Y⟩:∃x,f i=[x]:=by
       unfold Qr at K;split at K
       ·rename_i ag;exact⟨_,ag⟩
       ·cases K
      have h8:cellOf .leaf (.rows 1 f) i=some x:=by rw[Gz,Rb (i:=i) (j:=0) (by decide) i (by omega),Y];rfl
      obtain⟨v,hv,ae⟩:=cell_of r (hs _ _ ho (.inl ⟨b,Z⟩)) Z (k:=i) (by omega) h8;rw[Y]at K;obtain⟨m,h9,ah⟩:=jb K (.cons _ _ _ _ ae .nil);injection h9 with h9;refine⟨v,⟨m,h9,by rw[Y];exact ah⟩,?_⟩;rw[Dq];exact hv
     have af:(Gs n f).length=n:=by simp[Gs]
     exact .inr ⟨⟨b.b,b.ob,none⟩,_,ns,by rw[af],V,U⟩
    |He _ _ _ hn _=>subst hn;exact .inl ⟨_,_,rfl,rfl⟩
   ·cases B
  ·cases B
 ·injection q with q;injection q with _ q;subst q;cases R;exact .inl ⟨_,_,rfl,rfl⟩
 ·injection q with q;injection q with _ q;subst q;cases R;exact .inl ⟨_,_,rfl,rfl⟩
 ·obtain⟨l',O,C⟩:=Ag.1 q;obtain⟨y,B⟩:=AL.1 C;injection B with B;injection B with _ B;subst B;cases R with
  |sl _ _ n _ b Z=>obtain⟨vs,M,h4,V⟩:=HZ r hs Z O;obtain⟨ns,U,K⟩:=fU M y;subst U;exact .inr ⟨_,_,ns,by rw[FL,M.length,h4],K,V⟩
 ·obtain⟨l',O,C⟩:=Ag.1 q;obtain⟨y,B⟩:=AL.1 C;injection B with B;injection B with _ B;subst B;cases R with
  |BF _ _ n _ b Z _ _=>obtain⟨vs,M,h4,V⟩:=HZ r hs Z O;obtain⟨ns,U,K⟩:=fU M y;subst U;exact .inr ⟨_,_,ns,by rw[FL,M.length,h4],K,V⟩
 ·cases q
theorem Aa3 {P:Program} {w:World} {u:Value} {l:Ac} (h:dE w u l) {q dst e:TypeId} (C:P.underlying q=some (.slice e)) (B:P.underlying dst=some .string) (K:P.underlying e=some (.int .u8)): (convert q dst u).run P w=.ok (.string ⟨l.toArray⟩) w:=by
 rcases h with⟨base,c,rfl,rfl⟩|⟨ad,c,ns,rfl,L,O⟩
 ·rw[run_convert_bytes_string w q dst e base 0 c C K B];cases base with
  |none=>simp[Conv.bytesToString];rfl
  |some ad=>have y:=run_loadCells_list (P:=P) (w:=w) ad [] (λj v M=>by simp at M);rw[run_bytesToString w ad 0 c [] y];rfl
 ·rw[run_convert_bytes_string w q dst e (some ad) l.length c C K B];have y:=run_loadCells_list (P:=P) w ad _ O;have E:(ns.map (Value.int .u8)).length=l.length:=by rw[L];simp
  rw[E]at y;rw[run_bytesToString w ad l.length c ns y,fold_push,<-L];have J:ByteArray.empty.data= #[]:=rfl;rw[J,Array.empty_append]
theorem Aa2 {P:Program} {w:World} {u:Value} {l:Ac} (h:dE w u l):(Extern.Bytes.bytesOf u).run P w=.ok ⟨l.toArray⟩ w:=by
 rcases h with⟨base,c,rfl,rfl⟩|⟨ad,c,ns,rfl,y,C⟩
 ·cases base with
  |none=>rfl
  |some ad=>have:=Z9 (P:=P) w [] ad .empty (λj v B=>by simp at B);simpa[Extern.Bytes.bytesOf]using this
 ·have:=Z9 (P:=P) w ns ad .empty C;have q:ns.length=l.length:=by rw[y];simp
  rw[q,<-y]at this;simp only[Extern.Bytes.bytesOf];rw[this];congr 1;show(⟨#[]++l.toArray⟩:ByteArray)=_;rw[Array.empty_append]
def xY (P:Program) (H:Tr Ae) (q dst:TypeId) (x:AV):SV:=ob (P.underlying q) λy=>ob (P.underlying dst) λd=>match d,x with
  |.int k,.int _ n=>some (BJ k n,.int k n)
  |.string,.bs l=>some (true,.bs l)
  |.string,x=>match y with
   |.slice e=>ob (P.underlying e) λde=>match de with
    |.int .u8=>ob (XH H x) λp=>some (p.1,.bs p.2)
    |_=>none
   |_=>none
  |_,_=>none
theorem AjA {P:Program} {E:Env} {F:Nat->Option Obj} {nx:Nat} {ρ:Ai} {h:Nat->Option Ae} {w:World} {H:Tr Ae} (r:Rel E F nx ρ h w) (S:HS ρ H h) {K dst:TypeId} {x a:AV} {u:Value} (M:VR ρ x u) (L:xY P H K dst x=some (true,a)):∃z,(convert K dst u).run P w=.ok z w/\VR ρ a z:=by
 obtain⟨W,B,R⟩:=Ag.1 L;obtain⟨Y,C,q⟩:=Ag.1 R;clear L R;split at q
 ·injection q with q;injection q with q y;subst y;cases M;exact⟨_,by simp[convert,run_underlying B,run_underlying C,Conv.intToInt];rfl,by rw[Rs q];exact .int _ _⟩
 ·injection q with q;injection q with _ y;subst y;cases M;exact⟨_,by simp[convert,run_underlying B,run_underlying C],.bs _⟩
 ·split at q
  ·obtain⟨de,O,y⟩:=Ag.1 q;split at y
   ·obtain⟨⟨sd,l⟩,U,J⟩:=Ag.1 y;injection J with J;injection J with J V;subst V;simp only at J;subst J;exact⟨_,Aa3 (pA r S M U) B C O,.bs _⟩
   ·cases y
  ·cases q
 ·cases q
mutual
def Hx (b:Bool):AV->AV->Option AV
 |.int k m,y=>match y with
  |.int C n=>gd (MY k C) (some (.int k (cond b m n)))
  |_=>none
 |.bool p,y=>match y with
  |.bool q=>some (.bool (cond b p q))
  |_=>none
 |.bs l,y=>ob (Ox y) λB=>some (.bs (cond b l B))
 |.str m n,y=>ob (Ox y) λB=>some (.bs (cond b (BB m n) B))
 |.agg l,y=>match y with
  |.agg B=>ob (Oq b l B) λr=>some (.agg r)
  |_=>none
 |.AO l,y=>match y with
  |.AO B=>ob (Oq b l B) λr=>some (.AO r)
  |_=>none
 |_,_=>none
def Oq (b:Bool):Aj->Aj->Option Aj
 | [],q=>match q with
  | []=>some []
  |_=>none
 |x::l,q=>match q with
  |y::m=>ob (Hx b x y) λa=>ob (Oq b l m) λr=>some (a::r)
  | []=>none
end
mutual
theorem Wy {ρ:Ai} (b:Bool):∀(x y r:AV) (v:Value),Hx b x y=some r->(b=true->VR ρ x v)->(b=false->VR ρ y v)->VR ρ r v
 |.int k m,y,r,v,h,E,hy=>by
  cases y<;>first|(simp[Hx]at h;done)|skip
  ·rw[Hx]at h;obtain⟨R,B⟩:=AL.1 h;have:=O0 R;subst this;injection B with B;subst B;cases b with
   |true=>exact E rfl
   |false=>exact hy rfl
 |.bool p,y,r,v,h,E,hy=>by
  cases y<;>first|(simp[Hx]at h;done)|skip
  ·rw[Hx]at h;injection h with h;subst h;cases b with
   |true=>exact E rfl
   |false=>exact hy rfl
 |.bs l,y,r,v,h,E,hy=>by
  rw[Hx]at h;obtain⟨L,O,B⟩:=Ag.1 h;injection B with B;subst B;cases b with
  |true=>exact E rfl
  |false=>rw[Mw (hy rfl) O];exact .bs _
 |.str m n,y,r,v,h,E,hy=>by
  rw[Hx]at h;obtain⟨L,O,B⟩:=Ag.1 h;injection B with B;subst B;cases b with
  |true=>rw[Mw (E rfl) rfl];exact .bs _
  |false=>rw[Mw (hy rfl) O];exact .bs _
 |.agg l,y,r,v,h,E,hy=>by
  cases y<;>first|(simp[Hx]at h;done)|skip
  ·rename_i L;rw[Hx]at h;obtain⟨q,M,B⟩:=Ag.1 h;injection B with B;subst B;obtain⟨vs,rfl⟩:∃vs:List Value,v=.agg vs.toArray:=by
    cases b with
    |true=>cases E rfl with|agg _ vs _=>exact⟨vs,rfl⟩
    |false=>cases hy rfl with|agg _ vs _=>exact⟨vs,rfl⟩
   refine .agg _ _ (mV b l L q vs M (λJ=>?_) λJ=>?_)
   ·have:=E J;generalize hv:Value.agg vs.toArray=v at this;cases this with|agg _ C K=>injection hv with hv;rw[show vs=C by simpa using hv];exact K
   ·have:=hy J;generalize hv:Value.agg vs.toArray=v at this;cases this with|agg _ C K=>injection hv with hv;rw[show vs=C by simpa using hv];exact K
 |.AO l,y,r,v,h,E,hy=>by
  cases y<;>first|(simp[Hx]at h;done)|skip
  ·rename_i L;rw[Hx]at h;obtain⟨q,M,B⟩:=Ag.1 h;injection B with B;subst B;obtain⟨vs,rfl⟩:∃vs:List Value,v=.tuple vs.toArray:=by
    cases b with
    |true=>cases E rfl with|AO _ vs _=>exact⟨vs,rfl⟩
    |false=>cases hy rfl with|AO _ vs _=>exact⟨vs,rfl⟩
   refine .AO _ _ (mV b l L q vs M (λJ=>?_) λJ=>?_)
   ·have:=E J;generalize hv:Value.tuple vs.toArray=v at this;cases this with|AO _ C K=>injection hv with hv;rw[show vs=C by simpa using hv];exact K
   ·have:=hy J;generalize hv:Value.tuple vs.toArray=v at this;cases this with|AO _ C K=>injection hv with hv;rw[show vs=C by simpa using hv];exact K
 |.EC,_,_,_,h,_,_|.ptr _ _,_,_,_,h,_,_|.Ay,_,_,_,h,_,_|.sl _ _ _ _,_,_,_,h,_,_|.BF _ _ _ _,_,_,_,h,_,_|.sle _,_,_,_,h,_,_|.E8,_,_,_,h,_,_
 |.map _,_,_,_,h,_,_|.fn _ _ _,_,_,_,h,_,_|.GD,_,_,_,h,_,_|.Dx _,_,_,_,h,_,_|.iface _ _,_,_,_,h,_,_|.EL,_,_,_,h,_,_|.Gp _ _,_,_,_,h,_,_
 |.ML,_,_,_,h,_,_|.chan _,_,_,_,h,_,_|.bv _,_,_,_,h,_,_|.vec _ _ _,_,_,_,h,_,_|.pv _,_,_,_,h,_,_|.GM _ _ _ _,_,_,_,h,_,_|.AY _ _ _,_,_,_,h,_,_
 |.FY _ _ _,_,_,_,h,_,_=>by simp[Hx]at h
theorem mV {ρ:Ai} (b:Bool):∀(x y r:Aj) (v:List Value),Oq b x y=some r->(b=true->AG ρ x v)->(b=false->AG ρ y v)->AG ρ r v
 | [],y,r,v,h,C,hy=>by
  cases y with
  |cons _ _=>simp[Oq]at h
  |nil=>
   rw[Oq]at h;injection h with h;subst h;cases b with
   |true=>exact C rfl
   |false=>exact hy rfl
 |x::l,y,r,v,h,C,hy=>by
  cases y with
  |nil=>simp[Oq]at h
  |cons y m=>
   rw[Oq]at h;obtain⟨a,K,L⟩:=Ag.1 h;obtain⟨q,J,E⟩:=Ag.1 L;injection E with E;subst E;obtain⟨u,vs,rfl⟩:∃u vs,v=u::vs:=by
    cases b with
    |true=>cases C rfl with|cons _ u _ vs _ _=>exact⟨u,vs,rfl⟩
    |false=>cases hy rfl with|cons _ u _ vs _ _=>exact⟨u,vs,rfl⟩
   refine .cons _ _ _ _ (Wy b x y a u K (λB=>?_) λB=>?_) (mV b l m q vs J (λB=>?_) λB=>?_)
   ·cases C B;assumption
   ·cases hy B;assumption
   ·cases C B;assumption
   ·cases hy B;assumption
end
def N3 (kd:TypeDesc) (k:AV):Option CW:=
 match kd,k with
 |.string,k=>ob (Ox k) λl=>some (.str l)
 |.int q,.int y n=>gd (MY q y) (some (.int n))
 |_,_=>none
theorem YP {ρ:Ai} {kd:TypeDesc} {k:AV} {s:CW} {u:Value} (y:VR ρ k u) (h:N3 kd k=some s):KR kd s u:=by
 unfold N3 at h;split at h
 ·obtain⟨l,C,q⟩:=Ag.1 h;injection q with q;subst q;rw[Mw y C];exact .str _
 ·obtain⟨B,q⟩:=AL.1 h;have:=O0 B;subst this;injection q with q;subst q;cases y;exact .int _ _
 ·cases h
def Qe (a b:CW):Option Bool:=match a,b with
 |.str l,.str q=>some (decide (l=q))
 |.int n,.int m=>some (An n m)
 |_,_=>none
theorem ru {kd:TypeDesc} {a b:CW} {u v:Value} {q:Bool} (C:KR kd a u) (B:KR kd b v) (h:Qe a b=some q):Instr.sameNow kd u v=some q:=by
 cases C<;>cases B
 ·injection h with h;subst h;rename_i l y;have:((⟨l.toArray⟩:ByteArray)==⟨y.toArray⟩)=decide (l=y):=by rw[beq_toListBytes,toList_mk,toList_mk];by_cases h:l=y<;>simp[h]
  simp[Instr.sameNow,this]
 ·injection h with h;subst h;simp[Instr.sameNow,DU]
def Px (kd:TypeDesc) (k:CW) (z:AV) (B:List DW):Option (Bool×AV):=List.rec (motive:=λ_=>Option (Bool×AV)) (some (false,z)) (λe _ y=>ob (N3 kd e.key) λs=>ob (Qe k s) λq=>ob y λp=>ob (Hx q e.val p.2) λm=>some (cond q true p.1,m)) B
theorem mO {ρ:Ai} {kd:TypeDesc} {k:CW} {z:AV} {u B:Value} (K:KR kd k u) (hz:VR ρ z B):∀ {y:List DW} {l:List MapEntry},Ey ρ y l->∀(i:Nat) (p:Bool×AV),Px kd k z y=some p->∃v,VR ρ p.2 v/\(if p.1 then∃j,Instr.findNow kd u l i=some (some (j,v))else Instr.findNow kd u l i=some none/\v=B)
 |_,_,.nil,i,p,h=>by injection h with h;subst h;exact⟨B,hz,by simp[Instr.findNow]⟩
 |_,_,.cons e m y l L R,i,p,h=>by
  obtain⟨s,E,Z⟩:=Ag.1 (show(ob (N3 kd e.key) λs=>ob (Qe k s) λq=>ob (Px kd k z y) λp=>ob (Hx q e.val p.2) λm=>some (cond q true p.1,m))=some p from h);obtain⟨q,S,Y⟩:=Ag.1 Z;obtain⟨O,J,W⟩:=Ag.1 Y;obtain⟨a,M,C⟩:=Ag.1 W;injection C with C;subst C;have hn:=ru K (YP L.1 E) S;obtain⟨v,V,U⟩:=mO K hz R (i+1) O J;cases q with
  |true=>refine⟨m.val,Wy true _ _ _ _ M (λ_=>L.2.1) (λh=>by cases h),?_⟩;simp[Instr.findNow,hn]
  |false=>refine⟨v,Wy false _ _ _ _ M (λh=>by cases h) (λ_=>V),?_⟩;simp only[cond_false];simpa[Instr.findNow,hn]using U
def jg (has:CW->Bool) (kd:TypeDesc) (k:CW):Bool:=match kd,k with
 |.string,.str _=>!has (.int bT)
 |.int q,.int n=>cond (has (.int (bS q))) (AQ n bT) false
 |_,_=>false
theorem AdN {has:CW->Bool} {kd:TypeDesc} {k:CW} (h:jg has kd k=true):Qu has kd k:=by
 unfold jg at h;unfold Qu;split at h
 ·simpa using h
 ·rename_i n;obtain⟨y,q⟩:=Bf h;rw[EM]at q;exact⟨y,by simpa using q⟩
 ·cases h
def mU (P:Program) (H:Tr Ae) (t:TypeId) (m k:AV) (ok:Bool):SV:=
 match m,k with
 |.map _,.str _ _=>none
 |m,k=>ob (P.underlying t) λd=>match d with
  |.map key q=>ob (P.underlying key) λkd=>gd (VJ kd) (ob (N3 kd k) λs=>ob (Ru P q) λz=>match m with
   |.FY has val y=>gd (Cw z y) (some (jg has kd s,cond ok (.AO [val s,.bool (has s)]) (val s)))
   |.map id=>ob (H.get id) λo=>match o with
    |.map es _=>ob (Px kd s z es) λp=>some (true,cond ok (.AO [p.2,.bool p.1]) p.2)
    |_=>none
   |_=>none)
  |_=>none
theorem AjM {P:Program} {E:Env} {F:Nat->Option Obj} {nx:Nat} {ρ:Ai} {h:Nat->Option Ae} {w:World} {H:Tr Ae} (r:Rel E F nx ρ h w) (hs:HS ρ H h) {t:TypeId} {m k a:AV} {ok:Bool} {u v:Value} (hm:VR ρ m u) (hk:VR ρ k v) (C:mU P H t m k ok=some (true,a)):∃z,(Instr.lookup t u v ok).run P w=.ok z w/\VR ρ a z:=by
 unfold mU at C;split at C
 ·cases C
 obtain⟨d,hd,h1⟩:=Ag.1 C;clear C;split at h1
 ·rename_i key ah;obtain⟨kd,B,h2⟩:=Ag.1 h1;obtain⟨ag,h3⟩:=AL.1 h2;obtain⟨s,ae,h4⟩:=Ag.1 h3;obtain⟨z,hz,h5⟩:=Ag.1 h4;clear h1 h2 h3 h4;have U:=YP hk ae;obtain⟨zv,V,W⟩:=Rv hz w;have L:=λe=>XW (P:=P) B ag e 9999 v w;have fin:∀(b:Nat) (S:Array MapEntry) (y:Nat) (has:Bool) (val:AV),w.heap[b]? =some (.map S y)-> (∃q,VR ρ val q/\(if has then∃j,Instr.findNow kd v S.toList 0=some (some (j,q))else Instr.findNow kd v S.toList 0=some none/\q=zv))-> ∃z,(Instr.lookup t (.map (some b)) v ok).run P w=.ok z w/\VR ρ (cond ok (.AO [val,.bool has]) val) z:=by
   intro b S y has val O ⟨q,Z,M⟩;cases has with
   |true=>
    obtain⟨j,M⟩:=M;cases ok with
    |true=>refine⟨.tuple #[q,.bool true],?_,.AO _ [q,.bool true] (.cons _ _ _ _ Z (.cons _ _ _ _ (.bool true) .nil))⟩;simp[Instr.lookup,run_underlying hd,L,Instr.findKey,run_underlying B,M,getObj,Sem.run,O]
    |false=>refine⟨q,?_,Z⟩;simp[Instr.lookup,run_underlying hd,L,Instr.findKey,run_underlying B,M,getObj,Sem.run,O]
   |false=>
    obtain⟨M,rfl⟩:=M;cases ok with
    |true=>refine⟨.tuple #[q,.bool false],?_,.AO _ [q,.bool false] (.cons _ _ _ _ Z (.cons _ _ _ _ (.bool false) .nil))⟩;simp[Instr.lookup,run_underlying hd,L,Instr.findKey,run_underlying B,M,getObj,Sem.run,O,V]
    |false=>refine⟨q,?_,Z⟩;simp[Instr.lookup,run_underlying hd,L,Instr.findKey,run_underlying B,M,getObj,Sem.run,O,V]
  split at h5
  ·rename_i has val z' _;obtain⟨aa,J⟩:=AL.1 h5;have:=RQ _ _ aa;subst this;injection J with J;injection J with R J;subst J;have Y:=AdN R;cases hm with
   |FY _ _ _ b S y g ad hn hy ab hg=>
    refine fin b S y (has s) (val s) (r.st _ _ ad) ?_;cases K:has s with
    |true=>obtain⟨j,hj⟩:=hy kd s v U Y K;exact⟨g s,hg s K,by simpa using⟨j,hj⟩⟩
    |false=>exact⟨zv,AlK (ab s K) (W ρ),by simpa using hn kd s v U Y K⟩
  ·obtain⟨o,ho,J⟩:=Ag.1 h5;split at J
   ·rename_i S y;obtain⟨p,hp,R⟩:=Ag.1 J;injection R with R;injection R with _ R;subst R;cases hm with
    |map _ b O=>
     obtain⟨c,hc,af⟩:=r.ob _ _ b (hs _ _ ho (.inl ⟨b,O⟩)) O;cases af with
     |map _ _ l hl=>obtain⟨q,h8,h9⟩:=mO U (W ρ) hl 0 p hp;exact fin b.b _ _ p.1 p.2 hc ⟨q,h8,h9⟩
   ·cases J
  ·cases h5
 ·cases h1
def yo (H:Tr Ae) (x:AV):Option (Bool×Ac):=
 match x with
 |.str m n=>some (true,BB m n)
 |.bs l=>some (true,l)
 |x=>XH H x
def mN (P:Program) (H:Tr Ae) (f:AV) (xs:Aj):SV:=
 match f with
 | .fn (.func g) [] [] => ob (P.funcs[g]?) fun fn => gd fn.body.isNone (gd (fn.origin == "") (match xs with
  | [b,.int .u8 c]=>ob (yo H b) λp=>fN (MQ fn.name) λk=>cond (Nat.beq k 1) (some (cond p.1 (BJ .u8 c) false,Jt (Lib.countByte p.2 (UInt8.ofNat c.toNat))))
    (gd (Nat.beq k 2) (some (cond p.1 (BJ .u8 c) false,.int .i64 (Lib.indexByte p.2 (UInt8.ofNat c.toNat)))))
  |_=>none))
 |_=>none
theorem AjC {P:Program} {E:Env} {F:Nat->Option Obj} {nx:Nat} {ρ:Ai} {h:Nat->Option Ae} {w:World} {H:Tr Ae} (r:Rel E F nx ρ h w) (hs:HS ρ H h) {f:AV} {xs:Aj} {a:AV} {us:List Value} (hx:AG ρ xs us) (hev:mN P H f xs=some (true,a)):∃g,f=.fn (.func g) [] []/\∃v,(callFunc g us.toArray).run P w=.ok (.value v) w/\VR ρ a v:=by
 unfold mN at hev;split at hev
 ·rename_i g;obtain⟨fn,hfn,h1⟩:=Ag.1 hev;obtain⟨hb,h2⟩:=AL.1 h1;obtain⟨ho,h3⟩:=AL.1 h2
  have ho' : fn.origin = "" := by simpa using ho
  refine⟨g,rfl,?_⟩;split at h3
  ·rename_i b c;obtain⟨⟨sd,l⟩,hbs,h5⟩:=Ag.1 h3;simp only[Bv]at h5;cases hx with
   |cons _ u1 _ us1 hu1 hus1=>cases hus1 with
    |cons _ u2 _ us2 hu2 hus2=>
     cases hus2;cases hu2;have hby:sd=true->(Extern.Bytes.bytesOf u1).run P w=.ok ⟨l.toArray⟩ w:=λhsd=>by
      subst hsd;unfold yo at hbs;split at hbs
      ·injection hbs with hbs;injection hbs with _ hbs;subst hbs;cases hu1;rfl
      ·injection hbs with hbs;injection hbs with _ hbs;subst hbs;cases hu1;rfl
      ·exact Aa2 (pA r hs hu1 hbs)
     have hst:(Extern.Bytes.bytesOf (.string ⟨l.toArray⟩)).run P w=.ok ⟨l.toArray⟩ w:=rfl;have hu8:∀c:Int,c.toNat.toUInt8=UInt8.ofNat c.toNat:=λ_=>rfl;cases hk:Nat.beq (MQ fn.name) 1 with
     |true=>
      rw[hk,cond_true]at h5;obtain⟨e0,_,rfl⟩:=K6 h5;have hby:=hby e0;obtain⟨e1,e2,e3⟩:=sV ho' (DP hk);refine⟨_,?_,.int _ _⟩;rw[run_callFunc_extern hfn e3 hb e1 e2];have hs0:=Lib.run_countString (P:=P) ⟨l.toArray⟩ c w;have hrun:(Extern.BytealgCount.count #[u1,.int .u8 c]).run P w=(Extern.BytealgCount.count #[.string ⟨l.toArray⟩,.int .u8 c]).run P w:=by
       change Sem.run P (do
        let b<-Extern.Bytes.bytesOf u1;let c'<-Extern.Bytes.asByte (.int .u8 c)
        pure (goInt (b.foldl (λn x=>if x==c' then n+1 else n) (0:Nat)))) w=Sem.run P (do
        let b<-Extern.Bytes.bytesOf (.string ⟨l.toArray⟩);let c'<-Extern.Bytes.asByte (.int .u8 c)
        pure (goInt (b.foldl (λn x=>if x==c' then n+1 else n) (0:Nat)))) w
       simp only[Sem.run_bind,hby,hst]
      rw[show [u1,Value.int .u8 c].toArray= #[u1,.int .u8 c]from rfl,hrun,hs0];rfl
     |false=>
      rw[hk,cond_false]at h5;obtain⟨hk2,h6⟩:=AL.1 h5;obtain⟨e0,_,rfl⟩:=K6 h6;have hby:=hby e0;obtain⟨e1,e2,e3⟩:=sW ho' (DP hk2);refine⟨_,?_,.int _ _⟩;rw[run_callFunc_extern hfn e3 hb e1 e2];have hs0:=Lib.run_indexByteString (P:=P) ⟨l.toArray⟩ c w;have hrun:(Extern.BytealgIndexByte.indexByte #[u1,.int .u8 c]).run P w=(Extern.BytealgIndexByte.indexByte #[.string ⟨l.toArray⟩,.int .u8 c]).run P w:=by
       change Sem.run P (do
        let b<-Extern.Bytes.bytesOf u1;let c'<-Extern.Bytes.asByte (.int .u8 c)
        match(List.range b.size).find? λi=>b[i]! ==c' with
        |some i=>pure (goInt i)
        |none=>pure (goInt (-1))) w=Sem.run P (do
        let b<-Extern.Bytes.bytesOf (.string ⟨l.toArray⟩);let c'<-Extern.Bytes.asByte (.int .u8 c)
        match(List.range b.size).find? λi=>b[i]! ==c' with
        |some i=>pure (goInt i)
        |none=>pure (goInt (-1))) w
       simp only[Sem.run_bind,hby,hst]
      rw[show [u1,Value.int .u8 c].toArray= #[u1,.int .u8 c]from rfl,hrun,hs0];rfl
  ·cases h3
 ·cases hev
end Go.Ev
end
section
namespace Go.Ev
def x8 (x:AV):SV:=match x with
 |.pv cs=>some (true,.pv cs)
 |.GM id Ap i j=>some (true,.GM id Ap i j)
 |_=>none
def xg (op:UnOp) (x:AV):SV:=match op,x with
 |.neg,.int k n=>some (BJ k (0-n),.int k (0-n))
 |_,_=>none
def xW (P:Program) (b:Builtin) (y:List TypeId) (q:Aj):SV:=
 match b with
 |.len=>ob (y[0]?) λt=>ob (q[0]?) λx=>x6 P t x
 |_=>none
def HP (P:Program) (H:Tr Ae) (X:Operand->Option AV) (op:Op):SV:=
 match op with
 |.pick c a b=>ob (X c) λv=>match v with
  |.bool t=>ob (X a) λx=>ob (X b) λy=>ob (Hx t x y) λm=>some (true,m)
  |_=>none
 |.load t a=>ob (X a) λx=>mT P H t x
 |.nilCheck x=>ob (X x) x8
 |.binOp op t x y _=>ob (X x) λa=>ob (X y) λb=>xX P op t (Lk x) (Lk y) a b
 |.unOp op _ x=>ob (X x) λa=>xg op a
 |.convert s d x=>ob (X x) λa=>xY P H s d a
 |.slice t x lo hi mx=>ob (X x) λa=>Wz P X t a lo hi mx
 |.fieldAddr t x f=>ob (X x) λa=>x4 P t a f
 |.indexAddr t x i=>ob (X x) λa=>ob (X i) λb=>mR P t a b
 |.index t x i=>ob (X x) λa=>ob (X i) λb=>mQ P t a b
 |.lookup t x i ok=>ob (X x) λa=>ob (X i) λb=>mU P H t a b ok
 |.call c=>match c.callee with
  |.builtin b=>ob (Gf X c.args.toList) λq=>xW P b c.argTypes.toList q
  |.value f=>ob (X f) λB=>ob (Gf X c.args.toList) λq=>mN P H B q
  |_=>none
 |_=>none
def Ds (P:Program) (H:Tr Ae) (X:Operand->Option AV) (op:Op):Option AV:=Option.rec (motive:=λ_=>Option AV) (Hk P H X op) (λr=>cond r.1 (some r.2) (Hk P H X op)) (HP P H X op)
theorem mX {P:Program} {H:Tr Ae} {X:Operand->Option AV} {op:Op} {a:AV} (h:HP P H X op=some (true,a)):Ds P H X op=some a:=by unfold Ds;rw[h];rfl
theorem V8 {P:Program} {H:Tr Ae} {X:Operand->Option AV} {op:Op} {a:AV} (h:HP P H X op=none) (q:Hk P H X op=some a):Ds P H X op=some a:=by unfold Ds;rw[h];exact q
theorem AjQ {P:Program} {E:Env} {F:Nat->Option Obj} {nx:Nat} {ρ:Ai} {h:Nat->Option Ae} {w:World} {H:Tr Ae} (r:Rel E F nx ρ h w) (W:HS ρ H h) {X:Operand->Option AV} {f:Operand->Value} (K:XR ρ X f) (o:Oper) {a:AV} (B:HP P H X o.op=some (true,a)): ∃v,(execOp f o).run P w=.ok (.value v) w/\VR ρ a v:=by
 obtain⟨dst,op,type,pos,after,guard⟩:=o;simp only at B;cases op<;>simp only[HP]at B<;>first|(cases B;done)|skip
 case pick c x y=>
  obtain⟨v,hv,q⟩:=Ag.1 B;have hc:=K _ _ hv;split at q
  ·rename_i t;obtain⟨xa,ad,L⟩:=Ag.1 q;obtain⟨ya,aa,J⟩:=Ag.1 L;obtain⟨m,hm,C⟩:=Ag.1 J;injection C with C;injection C with _ C;subst C;generalize V:f c=u at hc;cases hc;cases t
   ·exact⟨f y,by simp[execOp,V,asBool],Wy false _ _ _ _ hm (λh=>by cases h) λ_=>K _ _ aa⟩
   ·exact⟨f x,by simp[execOp,V,asBool],Wy true _ _ _ _ hm (λ_=>K _ _ ad) λh=>by cases h⟩
  ·cases q
 case load t x=>
  obtain⟨v,hv,q⟩:=Ag.1 B;obtain⟨z,L,J⟩:=AjL (P:=P) r W (K _ _ hv) q;exact⟨z,Dj L,J⟩
 case nilCheck x=>
  obtain⟨v,hv,q⟩:=Ag.1 B;have hc:=K _ _ hv;unfold x8 at q;split at q
  ·injection q with q;injection q with _ q;subst q;refine⟨f x,?_,hc⟩;generalize R:f x=u at hc;cases hc;simp[execOp,R]
  ·injection q with q;injection q with _ q;subst q;refine⟨f x,?_,hc⟩;generalize R:f x=u at hc;cases hc;simp[execOp,R]
  ·cases q
 case binOp op t x y yt=>
  obtain⟨v,hv,q⟩:=Ag.1 B;obtain⟨Z,M,L⟩:=Ag.1 q;obtain⟨z,J,C⟩:=Ajz (P:=P) (K _ _ hv) (K _ _ M) L w;exact⟨z,Dj J,C⟩
 case unOp op t x=>
  obtain⟨v,hv,q⟩:=Ag.1 B;have hc:=K _ _ hv;unfold xg at q;split at q
  ·rename_i k n;injection q with q;injection q with q L;subst L;obtain⟨z,J,C⟩:=sU (P:=P) (op:=.neg) (x:=.int k n) (r:=.int k (0-n)) (by simp only[Yq,MT,WV];rw[Rs q]) hc w;exact⟨z,Dj J,C⟩
  ·cases q
 case convert s d x=>
  obtain⟨v,hv,q⟩:=Ag.1 B;obtain⟨z,J,C⟩:=AjA (P:=P) r W (K _ _ hv) q;exact⟨z,Dj J,C⟩
 case slice t x lo hi mx=>
  obtain⟨v,hv,q⟩:=Ag.1 B;obtain⟨z,J,C⟩:=AjS (P:=P) K (K _ _ hv) q w;exact⟨z,Dj J,C⟩
 case fieldAddr t x i=>
  obtain⟨v,hv,q⟩:=Ag.1 B;obtain⟨z,J,C⟩:=AjD (P:=P) (K _ _ hv) q w;exact⟨z,Dj J,C⟩
 case indexAddr t x i=>
  obtain⟨v,hv,q⟩:=Ag.1 B;obtain⟨Z,M,L⟩:=Ag.1 q;obtain⟨z,J,C⟩:=AjG (P:=P) (K _ _ hv) (K _ _ M) L w;exact⟨z,Dj J,C⟩
 case index t x i=>
  obtain⟨v,hv,q⟩:=Ag.1 B;obtain⟨Z,M,L⟩:=Ag.1 q;obtain⟨z,J,C⟩:=AjH (P:=P) (K _ _ hv) (K _ _ M) L w;exact⟨z,Dj J,C⟩
 case lookup t x i ok=>
  obtain⟨v,hv,q⟩:=Ag.1 B;obtain⟨Z,M,L⟩:=Ag.1 q;obtain⟨z,J,C⟩:=AjM (P:=P) r W (K _ _ hv) (K _ _ M) L;exact⟨z,Dj J,C⟩
 case call c=>
  obtain⟨Y,args,O⟩:=c;simp only at B;split at B
  ·rename_i b;obtain⟨xs,S,q⟩:=Ag.1 B;have ab:=Jh K S;unfold xW at q;split at q
   ·obtain⟨t,ht,L⟩:=Ag.1 q;obtain⟨x,hx,J⟩:=Ag.1 L;obtain⟨u,hu,ae⟩:=ab.get _ _ hx;obtain⟨z,C,h5⟩:=AjK (P:=P) (w:=w) ae J O (args.map f) type (by rw[<-Array.getElem?_toList];exact ht) (by rw[<-Array.getElem?_toList,Array.toList_map];exact hu);refine⟨z,?_,h5⟩;simp only[execOp,resolve,Sem.run_bind,Sem.run_pure,Result.andThen_ok,invoke];exact Dj C
   ·cases q
  ·rename_i g;obtain⟨fv,af,h0⟩:=Ag.1 B;obtain⟨xs,S,q⟩:=Ag.1 h0;obtain⟨k,hk,v,L,J⟩:=AjC (P:=P) r W (Jh K S) q;subst hk;refine⟨v,?_,J⟩;have R:f g=.func (.func k) #[] #[]:=by
    have:=K _ _ af;generalize f g=u at this;cases this with
    |fn _ _ _ va vc ha hc=>cases ha;cases hc;rfl
   have U:(args.toList.map f).toArray=args.map f:=by rw[map_toArray]
   rw[U]at L;simp only[execOp,resolve,R,Deferred.ofValue,Sem.run_bind,Sem.run_pure,Result.andThen_ok,invoke,Array.append_empty,Array.empty_append];exact L
  ·cases B
theorem iZ {P:Program} {E:Env} {F:Nat->Option Obj} {nx:Nat} {ρ:Ai} {h:Nat->Option Ae} {w:World} {H:Tr Ae} (r:Rel E F nx ρ h w) (B:HS ρ H h) {X:Operand->Option AV} {f:Operand->Value} (C:XR ρ X f) (o:Oper) {a:AV} (q:Ds P H X o.op=some a): ∃v,(execOp f o).run P w=.ok (.value v) w/\VR ρ a v:=by
 cases y:HP P H X o.op with
 |none=>
  have J:Ds P H X o.op=Hk P H X o.op:=by unfold Ds;rw[y]
  rw[J]at q;exact sR r B C o q
 |some p=>
  obtain⟨b,K⟩:=p;have J:Ds P H X o.op=cond b (some K) (Hk P H X o.op):=by unfold Ds;rw[y]
  rw[J]at q;cases b with
  |true=>injection q with q;subst q;exact AjQ r B C o y
  |false=>exact sR r B C o q
def Iw (l:Ac):Nat->Aj:=λi=>[.int .u8 ((l.getD i 0).toNat:Int)]
def Je (P:Program) (X:Operand->Option AV) (ni:Nat) (op:Op):Option (Bool×AV×Ae):=
 match op with
 |.makeSlice t l c=>ob (X l) λl=>ob (X c) λc=>match l,c with
  |.int _ n,.int _ m=>ob (P.underlying t) λd=>match d with
   |.slice el=>ob (P.info? el) λi=>ob (UH P el) λcs=>gd (Nat.blt 0 cs.length&&Nat.beq cs.length i.size)
     (some (decide (0<=n/\n<=m/\m<=9223372036854775807/\i.bytes*m<=281474976710656),.AY ni n.toNat i.size,.cells el .leaf (.rows i.size λ_=>cs) (n.toNat*i.size) true))
   |_=>none
  |_,_=>none
 |.convert s t x=>ob (X x) λv=>match v with
  |.bs l=>ob (P.underlying s) λ_=>ob (P.underlying t) λd=>match d with
   |.slice el=>ob (P.underlying el) λde=>match de with
    |.int .u8=>some (decide (l.length<=140737488355328),.AY ni l.length 1,.cells el .leaf (.rows 1 (Iw l)) l.length true)
    |_=>none
   |_=>none
  |_=>none
 |_=>none
def EJ (P:Program) (X:Operand->Option AV) (ni:Nat) (op:Op):Option (AV×Ae):=Option.rec (motive:=λ_=>Option (AV×Ae)) (Ix P X ni op) (λr=>cond r.1 (some r.2) (Ix P X ni op)) (Je P X ni op)
theorem x7 {P:Program} {X:Operand->Option AV} {ni:Nat} {op:Op} {a:AV×Ae} (h:Je P X ni op=some (true,a)):EJ P X ni op=some a:=by unfold EJ;rw[h];rfl
theorem vi {P:Program} {X:Operand->Option AV} {ni:Nat} {op:Op} {a:AV×Ae} (h:Je P X ni op=none) (q:Ix P X ni op=some a):EJ P X ni op=some a:=by unfold EJ;rw[h];exact q
theorem AjO {P:Program} {ρ:Ai} {w:World} {X:Operand->Option AV} {f:Operand->Value} (hX:XR ρ X f) {ni:Nat} (o:Oper) {a:AV} {U:Ae} (C:Je P X ni o.op=some (true,a,U)):dK P w ρ ni (execOp f o) a U:=by
 obtain⟨dst,op,type,pos,after,guard⟩:=o;simp only at C;cases op<;>simp only[Je]at C<;>first|(cases C;done)|skip
 case makeSlice t l c=>
  obtain⟨lv,aj,J⟩:=Ag.1 C;obtain⟨cv,ar,K⟩:=Ag.1 J;clear C J;have rl:=hX _ _ aj;have rc:=hX _ _ ar;split at K
  ·rename_i kl n km m;obtain⟨d,hd,E⟩:=Ag.1 K;clear K;generalize Z:f l=vl at rl;generalize aa:f c=vc at rc;cases rl;cases rc;cases d with
   |slice el=>
    obtain⟨i,hi,h6⟩:=Ag.1 E;obtain⟨cs,au,h8⟩:=Ag.1 h6;obtain⟨hz,h9⟩:=AL.1 h8;clear E h6 h8;injection h9 with h9;injection h9 with hb S;injection S with S aw;subst S;subst aw;simp only[BV]at hb;obtain⟨aC,aB,aA,az⟩:=hb;rw[C5,Co,AN]at hz;obtain⟨z,af,hr⟩:=dD (P:=P) au (w:World);have V:z.cells.size=i.size:=by have:=(hr ρ).length;simp at this;omega
    obtain⟨M,rfl⟩:∃q:Nat,n=q:=⟨n.toNat,by omega⟩;obtain⟨B,rfl⟩:∃q:Nat,m=q:=⟨m.toNat,by omega⟩;rw[Int.toNat_natCast];have Y:M*i.size<=B*i.size:=Nat.mul_le_mul_right _ (by omega);refine⟨.slice (some ⟨w.heap.size,0,none⟩) M B,w,.cells ((Array.range (B*i.size)).map (λj=>z.cells[j %z.cells.size]!)) el,B*i.size,?_,.inl rfl,?_,?_⟩
    ·refine Dj ?_;have e1:IntKind.i64.wrap (M:Int)=M:=wrap_i64 (by omega) (by omega);have e2:IntKind.i64.wrap (B:Int)=B:=wrap_i64 (by omega) (by omega);have e3:¬((i.bytes:Int)*(B:Int)>281474976710656):=by omega
     have e4:¬((M:Int)>(B:Int)):=by omega
     have ab:P.cellsOf el=i.size:=by simp[Program.cellsOf,hi]
     have e5:¬((B:Int)<0\/(M:Int)<0):=by omega
     by_cases hn:B*i.size=0
     ·have ai:∀g:Nat->Value,(Array.range (B*i.size)).map g= #[]:=λg=>by rw[hn];simp
      rw[ai];have ah:∀g:Nat->Value,(Array.range 0).map g= #[]:=λg=>by simp
      simp[Instr.makeSlice,run_underlying hd,Z,aa,asInt,asIntOf,run_typeInfo w hi,e1,e2,e3,e4,e5,run_sizeOf w hi,ab,hn,newRow,ah]
     ·simp[Instr.makeSlice,run_underlying hd,Z,aa,asInt,asIntOf,run_typeInfo w hi,e1,e2,e3,e4,e5,run_sizeOf w hi,ab,hn,af,newRow]
    ·have W:=OR.wD (b:=w.heap.size) (hr (ρ.put ni ⟨w.heap.size,0,B*i.size⟩)) el (B*i.size) (.inr hz.1);generalize ay:Obj.cells ((Array.range (B*i.size)).map (λj=>z.cells[j %z.cells.size]!)) el=co at W;cases W with
     |cells _ _ _ _ _ cs' fz J K h3 R E=>refine .cells el .leaf (.rows i.size λ_=>cs) _ true cs' fz J Y (by simp) R λk a hk O=>E k a (by omega) ?_;rw[Gz]at O⊢;show cs[k %cs.length]? =some a;rw[hz.2];exact O
    ·have:=VR.AY (ρ:=ρ.put ni ⟨w.heap.size,0,B*i.size⟩) ni M i.size ⟨w.heap.size,0,B*i.size⟩ (Ai.FF _ _ _) (by omega) Y;simp only[Nat.mul_div_cancel B (show 0<i.size by omega)]at this;exact this
   |_=>cases E
  ·cases K
 case convert s t x=>
  obtain⟨v,hv,J⟩:=Ag.1 C;clear C;have hc:=hX _ _ hv;split at J
  ·rename_i l;obtain⟨ds,ao,K⟩:=Ag.1 J;obtain⟨dt,an,h3⟩:=Ag.1 K;clear J K;split at h3
   ·rename_i el;obtain⟨de,aq,R⟩:=Ag.1 h3;split at R
    ·injection R with R;injection R with hb E;injection E with E h6;subst E;subst h6;simp only[BV]at hb;generalize ak:f x=vx at hc;cases hc;let cap:=Question.cut (.appendCap l.length 0 el) (w.tape w.drawn (.appendCap l.length 0 el));have L:l.length<=cap:=by show l.length<=l.length+_;omega
     let y:Array Value:=(l.toArray.map λb=>Value.int .u8 b.toNat)++Array.replicate (cap-l.length) (.int .u8 0);have Dt:y.size=cap:=by simp[y];omega
     refine⟨.slice (some ⟨w.heap.size,0,none⟩) l.length cap,w.drew,.cells y el (y.size,y.size+1),cap,?_,.inr rfl,?_,?_⟩
     ·refine Dj ?_;have V:(ByteArray.mk l.toArray).size=l.length:=by show l.toArray.size=_;simp
      have av:(choose (.appendCap l.length 0 el)).run P w=.ok cap w.drew:=by simp[Question.forced,cap]
      have al:=oe w.drew y el;have ae:(Conv.stringToBytes el ⟨l.toArray⟩).run P w=.ok (.slice (some ⟨w.heap.size,0,none⟩) l.length cap) (w.drew.alloc (.cells y el (y.size,y.size+1))):=by rw[<-al];unfold Conv.stringToBytes;rw[V];simp only[Sem.run_bind,av,Result.andThen_ok];have ag:=yO w.drew y el;simp only[newRow,Sem.run_bind,run_newObj,Result.andThen_ok,Sem.run_pure,markStringish,run_shape];have ad:World.shape? {w.drew with heap:=w.drew.heap.push (.cells y el)} w.drew.heap.size=some (el,y.size):=ag;rw[ad];rfl
      rw[ak];simp only[convert,Sem.run_bind,run_underlying ao,run_underlying an,Result.andThen_ok,run_underlying aq];cases ds<;>simp[ae]
     ·refine .cells el .leaf (.rows 1 (Iw l)) l.length true y (y.size,y.size+1) (by simp[Dt]) L (by simp) (.inr (AM _)) λk a hk O=>?_;rw[Gz,Rb (i:=k) (j:=0) (by decide) k (by omega)]at O;injection O with O;subst O;refine⟨_,?_,.int _ _⟩;simp only[Nat.zero_add];show((l.toArray.map λb=>Value.int .u8 b.toNat)++Array.replicate (cap-l.length) (.int .u8 0))[k]? =_;rw[Array.getElem?_append,Am (by simpa using hk)];simp[List.getD,hk]
     ·have:=VR.AY (ρ:=ρ.put ni ⟨w.heap.size,0,cap⟩) ni l.length 1 ⟨w.heap.size,0,cap⟩ (Ai.FF _ _ _) (by decide) (by simpa using L);simpa using this
    ·cases R
   ·cases h3
  ·cases J
theorem iX {P:Program} {ρ:Ai} {w:World} {X:Operand->Option AV} {f:Operand->Value} (E:XR ρ X f) {ni:Nat} (C:ρ ni=none) (o:Oper) {a:AV} {B:Ae} (q:EJ P X ni o.op=some (a,B)):dK P w ρ ni (execOp f o) a B:=by
 cases y:Je P X ni o.op with
 |none=>
  have J:EJ P X ni o.op=Ix P X ni o.op:=by unfold EJ;rw[y]
  rw[J]at q;exact sO E C o q
 |some p=>
  obtain⟨b,K⟩:=p;have J:EJ P X ni o.op=cond b (some K) (Ix P X ni o.op):=by unfold EJ;rw[y]
  rw[J]at q;cases b with
  |true=>injection q with q;subst q;exact AjO E o y
  |false=>exact sO E C o q
end Go.Ev
end
section
namespace Go.Ev
def AaQ (P:Program) (s:Sem Next) (w:World) (v:Value) (w':World):Prop:=s.run P w=.ok (.value v) w'\/(s.run P w=.ok .skip w'/\v=undef)
def World.E3 (w:World) (b:Nat) (o:Obj):World:={w with heap:=w.heap.setIfInBounds b o}
theorem Nc (w:World) (b:Nat) (o y:Obj) (h:w.heap[b]? =some y) (k:Nat):(World.E3 w b o).heap[k]? =if k=b then some o else w.heap[k]?:=by
 have B:=M4 h;unfold World.E3;by_cases q:k=b
 ·subst q;rw[Am rfl];simp[B]
 ·rw[Ad q];show(w.heap.setIfInBounds b o)[k]? =_;rw[Array.getElem?_setIfInBounds_ne (λe=>q e.symm)]
theorem Aj9 (w:World) (b off:Nat) (v:Value) (cs:Array Value) (el:TypeId) (fz:Nat×Nat) (h:w.heap[b]? =some (.cells cs el fz)): w.setCell ⟨b,off,none⟩ v=World.E3 w b (.cells (cs.setIfInBounds off v) el fz):=by
 unfold World.setCell World.E3;congr 1;apply Array.ext_getElem?;intro i;have q:=M4 h;rw[Array.getElem?_modify];by_cases hi:b=i
 ·subst hi;rw[Am rfl,h];simp[q]
 ·rw[Ad hi,Array.getElem?_setIfInBounds_ne hi]
theorem Agk (w:World) (b:Nat) (o q:Obj):World.E3 (World.E3 w b o) b q=World.E3 w b q:=by unfold World.E3;simp
theorem Ww {P:Program} (b o:Nat) (el:TypeId) (fz:Nat×Nat):∀(vs:List Value) (i:Nat) (cs:Array Value) (w:World),w.heap[b]? =some (.cells cs el fz)->Yx cs fz-> o+i+vs.length<=cs.size->(∀v∈vs,v.oneCell'=true)->∃cs',(storeCells ⟨b,o,none⟩ vs i).run P w=.ok () (World.E3 w b (.cells cs' el fz))/\cs'.size=cs.size/\ ∀j,cs'[j]? =if o+i<=j/\j<o+i+vs.length then vs[j-(o+i)]? else cs[j]?
 | [],i,cs,w,h,_,_,_=>by
  refine⟨cs,?_,rfl,λj=>by rw[Ad (by simp)]⟩;have:World.E3 w b (.cells cs el fz)=w:=by
   unfold World.E3;congr 1;apply Array.ext_getElem?;intro k;by_cases E:b=k
   ·subst E;rw[h];simp[M4 h]
   ·rw[Array.getElem?_setIfInBounds_ne E]
  simp[storeCells,this]
 |v::vs,i,cs,w,h,y,O,L=>by
  simp only[AE]at O;have hv:=L v (by simp);have q:w.cell? ⟨b,o+i,none⟩=some cs[o+i]:=by have:cs[o+i]? =some cs[o+i]:=Array.getElem?_eq_getElem (by omega);simp[World.cell?,h,this]
  have C:w.frozen? ⟨b,o+i,none⟩=false:=by
   simp only[World.frozen?,h];rcases y with hz|hz
   ·subst hz;simp
   ·simp;omega
  have B:(store ⟨b,o+i,none⟩ v).run P w=.ok () (World.E3 w b (.cells (cs.setIfInBounds (o+i) v) el fz)):=by rw[run_store P w _ v .plain hv,q];simp only[C,Bool.false_eq_true,if_false];rw[Aj9 w b (o+i) v cs el fz h]
  have K:=Nc w b (.cells (cs.setIfInBounds (o+i) v) el fz) _ h b;rw[Am rfl]at K;obtain⟨cs',V,U,S⟩:=Ww (P:=P) b o el fz vs (i+1) (cs.setIfInBounds (o+i) v) _ K (by rcases y with hz|hz;exact .inl hz;exact .inr (by simpa using hz)) (by simp;omega) (λu M=>L u (by simp[M]));refine⟨cs',?_,by simpa using U,λj=>?_⟩
  ·simp only[storeCells,Dq,Sem.run_bind,B,Result.andThen_ok,V,Agk]
  ·rw[S j];simp only[AE];by_cases J:o+(i+1)<=j/\j<o+(i+1)+vs.length
   ·rw[Am J,Am (by omega),show j-(o+i)=(j-(o+(i+1)))+1 by omega];simp
   ·rw[Ad J];by_cases R:j=o+i
    ·subst R;rw[Am (by omega),Lc,Array.getElem?_setIfInBounds_self_of_lt (by omega)];rfl
    ·rw[Ad (by omega),Array.getElem?_setIfInBounds_ne (by omega)]
def PK (l:Aj):Tr AV->Nat->Tr AV:=List.rec (motive:=λ_=>Tr AV->Nat->Tr AV) (λc _=>c) (λa _ y c k=>fN (k+1) λq=>y (c.set k a) q) l
theorem z7 (z:CB):∀(l:Aj) (c:Tr AV) (k j:Nat),cellOf (PK l c k) z j=if k<=j/\j<k+l.length then l[j-k]? else cellOf c z j
 | [],c,k,j=>by rw[Ad (by simp)];rfl
 |a::l,c,k,j=>by
  show cellOf (fN (k+1) λB=>PK l (c.set k a) B) z j=_;rw[Bv,z7 z l (c.set k a) (k+1) j];simp only[AE];by_cases y:k+1<=j/\j<k+1+l.length
  ·rw[Am y,Am (by omega),show j-k=(j-(k+1))+1 by omega];simp
  ·rw[Ad y];by_cases q:j=k
   ·subst q;rw[Am (by omega),Lc,Abn];rfl
   ·rw[Ad (by omega),Abm _ _ (λe=>q e.symm)]
def Sv (H:Tr Ae) (id off:Nat) (l:Aj):Option (Tr Ae):=ob (H.get id) λo=>match o with
  |.cells el c z n op=>gd (Nat.ble (off+l.length) n&&l.all AV.one) (some (H.set id (.cells el (PK l c off) z n op)))
  |_=>none
theorem H7 (H:Tr Ae) (i:Nat) (o:Ae):(H.set i o).get=λj=>if j=i then some o else H.get j:=by
 funext j;rw[Tr.Hl];by_cases h:i=j
 ·subst h;simp
 ·rw[Ad h,Ad (λe=>h e.symm)]
theorem ik {P:Program} {E:Env} {F:Nat->Option Obj} {nx:Nat} {ρ:Ai} {w:World} {H H':Tr Ae} (r:Rel E F nx ρ H.get w) {id off:Nat} {l:Aj} {vs:List Value} {b:C3} (hb:ρ id=some b) (S:AG ρ l vs) (L:Sv H id off l=some H'): ∃w',(storeCells ⟨b.b,b.ob+off,none⟩ vs).run P w=.ok () w'/\Rel E F nx ρ H'.get w':=by
 obtain⟨o,Z,O⟩:=Ag.1 L;clear L;cases o with
 |cells el c z n op=>
  obtain⟨hc,U⟩:=AL.1 O;injection U with U;subst U;rw[C5,Nat.ble_eq,List.all_eq_true]at hc;obtain⟨ab,Y⟩:=hc;obtain⟨oc,B,V⟩:=r.ob _ _ b Z hb;have aa:=S.length;cases V with
  |cells _ _ _ _ _ cs fz Dt hn W K q=>
   have O:∀v∈vs,v.oneCell'=true:=by
    intro v hv;obtain⟨i,hi,rfl⟩:=List.getElem_of_mem hv;have J:i<l.length:=by omega
    have:=S.SA (CC J) (CC hi);rw[this.one];exact Y _ (List.getElem_mem J)
   obtain⟨cs',e1,e2,e3⟩:=Ww (P:=P) b.b (b.ob+off) el fz vs 0 cs w B K (by omega) O;refine⟨_,e1,?_⟩;have M:OR ρ b (.cells el (PK l c off) z n op) (.cells cs' el fz):=by
    refine .cells el _ z n op cs' fz (by omega) hn W (by rcases K with hz|hz;exact .inl hz;exact .inr (by omega)) λk a hk y=>?_;rw[z7]at y;by_cases C:off<=k/\k<off+l.length
    ·rw[Am C]at y;obtain⟨v,hv,R⟩:=S.get _ a y;refine⟨v,?_,R⟩;rw[e3,Am (by omega),<-hv];congr 1;omega
    ·rw[Ad C]at y;obtain⟨v,hv,R⟩:=q k a hk y;exact⟨v,by rw[e3,Ad (by omega)];exact hv,R⟩
   have:=r.put (w':=World.E3 w b.b (.cells cs' el fz)) Z hb M (Nc w b.b _ _ B) rfl rfl rfl;rw[H7];exact this
 |_=>cases O
def ie (P:Program) (H:Tr Ae) (t:TypeId) (x v:AV):Option (Tr Ae):=
 match x with
 |.ptr id off=>ob (P.info? t) λi=>gd (Nat.beq v.cells.length i.size) (Sv H id off v.cells)
 |_=>none
theorem Acy {P:Program} {E:Env} {F:Nat->Option Obj} {nx:Nat} {ρ:Ai} {w:World} {H H':Tr Ae} (r:Rel E F nx ρ H.get w) {t:TypeId} {x v:AV} {u z:Value} (C:VR ρ x u) (hv:VR ρ v z) (q:ie P H t x v=some H'): ∃w',(Instr.storeAt t u z).run P w=.ok () w'/\Rel E F nx ρ H'.get w':=by
 unfold ie at q;split at q
 ·obtain⟨i,hi,R⟩:=Ag.1 q;obtain⟨J,O⟩:=AL.1 R;rw[AN]at J;cases C with
  |ptr _ _ b K=>
   have y:=hv.cells;obtain⟨w',M,L⟩:=ik (P:=P) r K y O;refine⟨w',?_,L⟩;have B:z.cells.size=P.cellsOf t:=by have:=y.length;simp[Program.cellsOf,hi]at this⊢;omega
   simp[Instr.storeAt,Instr.sureAddr,storeVar,run_sizeOf w hi,B,M]
 ·cases q
theorem Ey.append {ρ:Ai}:∀ {l B:List DW} {y q:List MapEntry},Ey ρ l y->Ey ρ B q->Ey ρ (l++B) (y++q)
 |_,_,_,_,.nil,h'=>h'
 |_,_,_,_,.cons a e l y h C,h'=>.cons _ _ _ _ h (C.append h')
theorem Ey.modify {ρ:Ai} {f:DW->DW} {g:MapEntry->MapEntry} (B:∀a e,ER ρ a e->ER ρ (f a) (g e)):∀ {l:List DW} {q:List MapEntry} (i:Nat),Ey ρ l q-> Ey ρ (l.modify i f) (q.modify i g)
 |_,_,_,.nil=>by simp;exact .nil
 |_,_,0,.cons a e l q h y=>by simp;exact .cons _ _ _ _ (B _ _ h) y
 |_,_,i+1,.cons a e l q h y=>by simp;exact .cons _ _ _ _ h (Ey.modify B i y)
theorem AjU {kd:TypeDesc} {u v:Value} (h:Instr.sameNow kd u v=some true):Instr.sameBits 10000 v u=true:=by
 unfold Instr.sameNow at h;split at h
 ·split at h
  ·rename_i q;subst q;simp at h;simp[Instr.sameBits,h]
  ·cases h
 ·rename_i a b;have h':(a==b)=true:=by simpa using h
  rw[beq_toListBytes,beq_iff_eq]at h';show(b==a)=true;rw[beq_toListBytes,beq_iff_eq];exact h'.symm
 ·simp at h;simp[Instr.sameBits,h]
 ·cases h
theorem findNow_spec {kd:TypeDesc} {u:Value}:∀(l:List MapEntry) (i j:Nat) (v:Value),Instr.findNow kd u l i=some (some (j,v))-> i<=j/\∃e,l[j-i]? =some e/\Instr.sameNow kd u e.key=some true
 | [],i,j,v,h=>by simp[Instr.findNow]at h
 |e::E,i,j,v,h=>by
  simp only[Instr.findNow]at h;split at h
  ·rename_i B;injection h with h;injection h with h;injection h with y q;subst y;exact⟨AM _,e,by simp,B⟩
  ·obtain⟨y,J,q,C⟩:=findNow_spec E (i+1) j v h;refine⟨by omega,J,?_,C⟩;rw[show j-i=(j-(i+1))+1 by omega];simpa using q
  ·cases h
def Sq (P:Program) (H:Tr Ae) (t:TypeId) (m k v:AV):Option (Tr Ae):=ob (P.underlying t) λd=>match d,m with
  |.map key _,.map id=>ob (P.underlying key) λkd=>gd (VJ kd) (ob (H.get id) λo=>match o with
   |.map es q=>ob (Yu kd k es 0) λr=>match r with
    |some p=>some (H.set id (.map (es.modify p.1 λe=>{e with key:=k,val:=v}) q))
    |none=>fN (q+1) λy=>some (H.set id (.map (es++[⟨k,v,q⟩]) y))
   |_=>none)
  |_,_=>none
theorem iU {P:Program} {E:Env} {F:Nat->Option Obj} {nx:Nat} {ρ:Ai} {w:World} {H H':Tr Ae} (r:Rel E F nx ρ H.get w) {t:TypeId} {m k v:AV} {um y J:Value} (hm:VR ρ m um) (hk:VR ρ k y) (hv:VR ρ v J) (S:Sq P H t m k v=some H'): ∃w',(Instr.mapUpdate t um y J).run P w=.ok () w'/\Rel E F nx ρ H'.get w':=by
 obtain⟨d,hd,Z⟩:=Ag.1 S;clear S;split at Z
 ·rename_i key el id;obtain⟨kd,K,h2⟩:=Ag.1 Z;obtain⟨ad,h3⟩:=AL.1 h2;obtain⟨o,ho,h4⟩:=Ag.1 h3;clear Z h2 h3;cases o with
  |map es q=>
   obtain⟨fr,ae,Y⟩:=Ag.1 h4;clear h4;cases hm with
   |map _ b hb=>
    obtain⟨oc,B,ab⟩:=r.ob _ _ b ho hb;cases ab with
    |map _ _ l hl=>
     obtain⟨r',L,R⟩:=iy hk hl 0 fr ae;have V:=XW (P:=P) K ad false 9999 y w;cases fr with
     |some p=>
      obtain⟨j,val⟩:=p;injection Y with Y;subst Y;obtain⟨z,hz,_⟩:=R;subst hz;obtain⟨_,e0,U,O⟩:=findNow_spec l 0 j z L;rw[Nat.sub_zero]at U;have M:(Instr.keyThatStays (((l.toArray[j]?).map (·.key)).getD y) y).run P w=.ok y w:=by simp[U,Instr.keyThatStays,AjU O]
      refine⟨World.E3 w b.b (.map (l.toArray.modify j λe=>{e with key:=y,val:=J}) q),?_,?_⟩
      ·simp only[Instr.mapUpdate,Sem.run_bind,run_underlying hd,Result.andThen_ok];simp only[getObj,Sem.run,B,Result.andThen_ok,Sem.run_bind,V,Instr.findKey,run_underlying K,L,Sem.run_pure,M];simp[setObj,Sem.run,B,World.E3]
      ·have C:OR ρ b (.map (es.modify j λe=>{e with key:=k,val:=v}) q) (.map (l.toArray.modify j λe=>{e with key:=y,val:=J}) q):=by have:=OR.map (ρ:=ρ) (b:=b) _ q _ (hl.modify (f:=λe=>{e with key:=k,val:=v}) (g:=λe=>{e with key:=y,val:=J}) (λa e h=>⟨hk,hv,h.2.2⟩) j);simpa using this
       have:=r.put (w':=World.E3 w b.b (.map (l.toArray.modify j λe=>{e with key:=y,val:=J}) q)) ho hb C (Nc w b.b _ _ B) rfl rfl rfl;rw[H7];exact this
     |none=>
      have W:(fN (q+1) λc'=>some (H.set id (.map (es++[⟨k,v,q⟩]) c')))=some H':=Y;rw[Bv]at W;injection W with W;subst W;have aa:r'=none:=R;subst aa;refine⟨World.E3 w b.b (.map (l.toArray.push {key:=y,val:=J,born:=q}) (q+1)),?_,?_⟩
      ·simp only[Instr.mapUpdate,Sem.run_bind,run_underlying hd,Result.andThen_ok];simp only[getObj,Sem.run,B,Result.andThen_ok,Sem.run_bind,V,Instr.findKey,run_underlying K,L,Sem.run_pure];simp[setObj,Sem.run,B,World.E3]
      ·have C:OR ρ b (.map (es++[⟨k,v,q⟩]) (q+1)) (.map (l.toArray.push {key:=y,val:=J,born:=q}) (q+1)):=by have:=OR.map (ρ:=ρ) (b:=b) _ (q+1) _ (hl.append (.cons ⟨k,v,q⟩ {key:=y,val:=J,born:=q} [] [] ⟨hk,hv,rfl⟩ .nil));simpa using this
       have:=r.put (w':=World.E3 w b.b (.map (l.toArray.push {key:=y,val:=J,born:=q}) (q+1))) ho hb C (Nc w b.b _ _ B) rfl rfl rfl;rw[H7];exact this
  |_=>cases h4
 ·cases Z
end Go.Ev
end
section
namespace Go.Ev
def Yp (H:Tr Ae) (size:Nat) (x:AV):Option (Nat×Aj):=
 match x with
 |.Ay=>some (0,[])
 |.sl id off n _=>ob (GB H id off (n*size)) λl=>some (n,l)
 |.BF id off n _=>ob (GB H id off (n*size)) λl=>some (n,l)
 |.sle _=>some (0,[])
 |.str l n=>gd (Nat.beq size 1) (some (l,(List.range l).map λi=>.int .u8 (.ofNat (n/256^i %256))))
 |_=>none
theorem sT {P:Program} {E:Env} {F:Nat->Option Obj} {nx:Nat} {ρ:Ai} {h:Nat->Option Ae} {w:World} {H:Tr Ae} (r:Rel E F nx ρ h w) (R:HS ρ H h) {size n:Nat} {x:AV} {u:Value} {l:Aj} (C:VR ρ x u) (y:Yp H size x=some (n,l)): ∃vs:List Value,AG ρ l vs/\vs.length=n*size/\∀w':World,(∀a,w'.cell? a=w.cell? a)->(Builtin.lenOf u).run P w'=.ok n w'/\(Builtin.firstCells size n u).run P w'=.ok vs.toArray w':=by
 unfold Yp at y;split at y
 ·injection y with y;injection y with q B;subst q;subst B;cases C;exact⟨[],.nil,by simp,λw' _=>⟨by simp[Builtin.lenOf],by simp[Builtin.firstCells]⟩⟩
 ·obtain⟨S,M,q⟩:=Ag.1 y;injection q with q;injection q with q B;subst q;subst B;cases C with
  |sl _ _ _ _ b L=>obtain⟨vs,q,B,O⟩:=HZ r R L M;refine⟨vs,q,B,λw' K=>⟨by simp[Builtin.lenOf],?_⟩⟩;have:=run_loadCells_list (P:=P) w' ⟨b.b,b.ob+_,none⟩ vs (λj v J=>by rw[K];exact O j v J);rw[B]at this;simp[Builtin.firstCells,this]
 ·obtain⟨S,M,q⟩:=Ag.1 y;injection q with q;injection q with q B;subst q;subst B;cases C with
  |BF _ _ _ _ b L V U=>obtain⟨vs,q,B,O⟩:=HZ r R L M;refine⟨vs,q,B,λw' K=>⟨by simp[Builtin.lenOf],?_⟩⟩;have:=run_loadCells_list (P:=P) w' ⟨b.b,b.ob+_,none⟩ vs (λj v J=>by rw[K];exact O j v J);rw[B]at this;simp[Builtin.firstCells,this]
 ·injection y with y;injection y with q B;subst q;subst B;cases C with
  |sle _ b o c L=>refine⟨[],.nil,by simp,λw' K=>⟨by simp[Builtin.lenOf],?_⟩⟩;have:=run_loadCells_list (P:=P) w' ⟨b.b,o,none⟩ [] (λj v J=>by simp at J);simpa[Builtin.firstCells]using this
 ·obtain⟨hz,q⟩:=AL.1 y;rw[AN]at hz;subst hz;injection q with q;injection q with q B;subst q;subst B;rename_i n m;cases C with
  |str _ _ hn=>
   refine⟨_,pG _ _,by simp[ON],λw' _=>⟨by simp[Builtin.lenOf,MK],?_⟩⟩;simp only[Builtin.firstCells,Sem.run_pure];congr 1;apply Array.ext';rw[Array.toList_map];have:((BA n m).extract 0 n).data.toList=BB n m:=by rw[Lib.extract_data,P6];simp[List.take_of_length_le,ON]
   rw[this]
 ·cases y
def bY:TypeDesc->Bool
 |.slice _=>true
 |.string=>true
 |_=>false
def RN (ni:Nat) (el size Be:Nat) (cs:Aj) (H:Tr Ae):Option (AV×Tr Ae):=fN Be λBe=>fN (Be*size) λn=>some (.BF ni 0 Be size,H.set ni (.cells el .leaf (.Dw cs) n true))
def ri (H:Tr Ae) (id el:Nat):Bool:=
 match H.get id with
 |some (.cells e _ _ _ _)=>Nat.beq e el
 |_=>false
def iD (P:Program) (H:Tr Ae) (ni:Nat) (C:List TypeId) (B:Aj):Option (AV×Tr Ae):=
 match C,B with
 | [t,tx],[s,x]=>ob (P.underlying t) λd=>match d with
  |.slice el=>ob (P.underlying tx) λE=>gd (bY E) (ob (P.info? el) λi=>ob i.zero λz=>gd (Nat.blt 0 i.size&&Nat.beq z.cells.size i.size) (ob (Yp H i.size x) λq=>
    match s with
    |.Ay=>cond (Nat.beq q.1 0) (some (.Ay,H))
      (gd (q.2.all AV.one&&Nat.ble q.1 9223372036854775807&&Nat.ble (q.1*i.bytes) 140737488355328) (RN ni el i.size q.1 q.2 H))
    |.sl id off len cap=>cond (Nat.ble (len+q.1) cap) (ob (Sv H id (off+len*i.size) q.2) λH'=>fN (len+q.1) λBe=>some (.sl id off Be cap,H'))
      (gd (q.2.all AV.one&&Nat.ble (len+q.1) 9223372036854775807&&Nat.ble ((len+q.1)*i.bytes) 140737488355328) (ob (GB H id off (len*i.size)) λy=>RN ni el i.size (len+q.1) (y++q.2) H))
    |.BF id off len Ap=>gd (Nat.beq Ap i.size) (cond (Nat.beq q.1 0) (some (.BF id off len Ap,H))
      (gd (q.2.all AV.one&&Nat.ble (len+q.1) 9223372036854775807&&Nat.ble ((len+q.1)*i.bytes) 140737488355328) (gd (ri H id el) (ob (GB H id off (len*i.size)) λy=>RN ni el i.size (len+q.1) (y++q.2) (H.del id)))))
    |_=>none))
  |_=>none
 |_,_=>none
set_option maxHeartbeats 1000000 in
theorem RO {P:Program} {t tx ty el:TypeId} {E:TypeDesc} {i:TypeInfo} (ht:P.underlying t=some (.slice el)) (B:P.underlying tx=some E) (C:bY E=true) (hi:P.info? el=some i) {base:Option Addr} {len cap n:Nat} {u:Value} {vs:List Value} {w w':World} (J:(Builtin.lenOf u).run P w=.ok n w) (hc:(Builtin.firstCells i.size n u).run P w=.ok vs.toArray w) (q:len+n<=cap) (y:match base with|none=>w'=w|some a=>(storeCells (a.add (len*i.size)) vs).run P w=.ok () w'): (Builtin.append_ #[t,tx] ty #[.slice base len cap,u]).run P w=.ok (.slice base (len+n) cap) w':=by
 cases base with
 |none=>
  simp only at y;subst y;cases E<;>first
   |(cases C;done)
   |simp[Builtin.append_,run_underlying ht,run_underlying B,sizeOf,typeInfo,hi,J,hc,q]
 |some a=>
  simp only at y;cases E<;>first
   |(cases C;done)
   |simp[Builtin.append_,run_underlying ht,run_underlying B,sizeOf,typeInfo,hi,J,hc,q,y]
set_option maxHeartbeats 1000000 in
theorem Vb {P:Program} {t tx ty el:TypeId} {C:TypeDesc} {i:TypeInfo} {z:Value} (ht:P.underlying t=some (.slice el)) (E:P.underlying tx=some C) (J:bY C=true) (hi:P.info? el=some i) (hz:i.zero=some z) {base:Option Addr} {len cap n:Nat} {u:Value} {olds vs:List Value} {w:World} (L:(Builtin.lenOf u).run P w=.ok n w) (K:(Builtin.firstCells i.size len (.slice base len cap)).run P w.drew=.ok olds.toArray w.drew) (hc:(Builtin.firstCells i.size n u).run P w.drew=.ok vs.toArray w.drew) (q:cap<len+n) (O:len+n<=9223372036854775807) (M:(len+n)*i.bytes<=140737488355328): (Builtin.append_ #[t,tx] ty #[.slice base len cap,u]).run P w=.ok (.slice (some ⟨w.heap.size,0,none⟩) (len+n) (grownCap w (len+n) cap el)) (w.drew.alloc (.cells ((olds++vs).toArray++Builtin.zeroCells z.cells (grownCap w (len+n) cap el-(len+n))) el)):=by
 have hn:¬(len+n<=cap):=by omega
 have y:¬(9223372036854775807<((len:Int)+(n:Int))):=by omega
 have R:=growslice_fits q M;have B:¬(281474976710656<Builtin.nextslicecap (len+n) cap*i.bytes):=by omega
 cases C<;>first
  |(cases J;done)
  |skip
 all_goals
  simp[Builtin.append_,run_underlying ht,run_underlying E,sizeOf,typeInfo,zeroValue,hi,hz,L,hn,y,B,Question.forced,K,hc,newRow,grownCap];congr 2;apply Array.ext';simp[A7]
theorem yT (z:Array Value) (n:Nat):(Builtin.zeroCells z n).size=n*z.size:=by simp[Builtin.zeroCells]
theorem fM {E:Env} {F:Nat->Option Obj} {nx nx':Nat} {ρ:Ai} {h:Nat->Option Ae} {w:World} (r:Rel E F nx ρ h w) {ni:Nat} (B:ρ ni=none) (Y:nx<=nx') (L:ni<nx') {el size Be:Nat} {cs:Aj} {vs:List Value} {U H':Tr Ae} {a:AV} (C:0<size) (K:AG ρ cs vs) (ab:cs.length=Be*size) (hH:∀i o,U.get i=some o->h i=some o) (y:RN ni el size Be cs U=some (a,H')) {cap:Nat} (M:Be<=cap) (O:Array Value) (V:O.size=(cap-Be)*size): ∃q,Rel E F nx' q H'.get (w.drew.alloc (.cells (vs.toArray++O) el))/\(ρ.le q/\∀x,x≠ni->q x=ρ x)/\VR q a (.slice (some ⟨w.heap.size,0,none⟩) Be cap):=by
 simp only[RN,Bv]at y;injection y with y;injection y with S h2;subst S;subst h2;have ad:=K.length;have aa:(cap-Be)*size=cap*size-Be*size:=Nat.sub_mul _ _ _;have J:Be*size<=cap*size:=Nat.mul_le_mul_right _ M;have W:OR (ρ.put ni ⟨w.heap.size,0,cap*size⟩) ⟨w.heap.size,0,cap*size⟩ (.cells el .leaf (.Dw cs) (Be*size) true) (.cells (vs.toArray++O) el (0,0)):=by
  refine .cells el .leaf (.Dw cs) (Be*size) true _ (0,0) (by simp[V];omega) J (by simp) (.inl rfl) λk b hk R=>?_;unfold cellOf at R;rw[Tr.EK]at R;have Z:cs[k]? =some b:=by have:cs[k %cs.length]? =some b:=R;rwa[Nat.mod_eq_of_lt (by omega)]at this
  obtain⟨v,hv,hr⟩:=(K.mono (Ai.Lp B ⟨w.heap.size,0,cap*size⟩)).get k b Z;refine⟨v,?_,hr⟩;simp only[Nat.zero_add];rw[Array.getElem?_append,Am (by simp;omega)];simpa using hv
 obtain⟨S,h2⟩:=(r.drew.less (h':=U.get) hH).alloc B Y L W;refine⟨ρ.put ni ⟨w.heap.size,0,cap*size⟩,?_,⟨Ai.Lp B _,λx hx=>Ai.Ha hx _⟩,?_⟩
 ·rw[H7];exact S
 ·have:=VR.BF (ρ:=ρ.put ni ⟨w.heap.size,0,cap*size⟩) ni 0 Be size ⟨w.heap.size,0,cap*size⟩ (Ai.FF _ _ _) C (by simpa using J);simpa[Nat.mul_div_cancel _ C]using this
theorem YB (H:Tr Ae) (i:Nat):∀j o,(H.del i).get j=some o->H.get j=some o:=λj o h=>by
 rw[Tr.H6]at h;split at h
 ·cases h
 ·exact h
theorem Rel.rename {E:Env} {F:Nat->Option Obj} {nx nx':Nat} {ρ:Ai} {H:Tr Ae} {w w':World} (r:Rel E F nx ρ H.get w) {id ni:Nat} {o a:Ae} {b Y:C3} {c:Obj} (L:H.get id=some o) (W:ρ id=some b) (aa:ρ ni=none) (af:nx<=nx') (ai:ni<nx') (R:Y.b=b.b) (Z:OR (ρ.put ni Y) Y a c) (hw:∀k,w'.heap[k]? =if k=b.b then some c else w.heap[k]?) (ht:w'.tape=w.tape) (ae:w'.os=w.os) (ab:w'.output=w.output): Rel E F nx' (ρ.put ni Y) ((H.del id).set ni a).get w':=by
 have ag:=Ai.Lp (ρ:=ρ) aa Y;have aj:id≠ni:=λe=>by subst e;rw[aa]at W;cases W
 have hF:=r.dj id o b L W;have J:∀j x,((H.del id).set ni a).get j=some x->(j=ni/\x=a)\/(j≠ni/\j≠id/\H.get j=some x):=λj x C=>by
  rw[Tr.Hl]at C;by_cases K:ni=j
  ·rw[Am K]at C;injection C with C;exact .inl ⟨K.symm,C.symm⟩
  ·rw[Ad K,Tr.H6]at C;by_cases S:id=j
   ·rw[Am S]at C;cases C
   ·rw[Ad S]at C;exact .inr ⟨λe=>K e.symm,λe=>S e.symm,C⟩
 have B:∀j,j≠ni->(ρ.put ni Y) j=ρ j:=λj C=>by simp[Ai.put,C]
 refine⟨ht.trans r.tape,ae.trans r.os,ab.trans r.output,?_,?_,?_,?_,?_,λg l hg=>?_,r.bs,λk x V=>?_,λj x U C q=>?_,r.sf⟩
 rotate_right
 rotate_right
 rotate_right
 ·rcases J g _ hg with⟨rfl,rfl⟩|⟨_,_,O⟩
  ·cases Z
  ·exact r.gl g l O
 ·have hS:=r.sd id o b L W;rw[hw,Ad (λe=>by subst e;rw[show ρ.st b.b=some x from V]at hS;cases hS)];exact r.st k x V
 ·rcases J j x C with⟨rfl,rfl⟩|⟨K,S,O⟩
  ·rw[Ai.FF]at q;cases q;rw[R];exact r.sd id o b L W
  ·rw[B j K]at q;exact r.sd j x U O q
 ·intro k x V;rw[hw,Ad (λe=>by subst e;rw[hF]at V;cases V)];exact r.fr k x V
 ·intro j x U C q;rcases J j x C with⟨rfl,rfl⟩|⟨K,S,O⟩
  ·rw[Ai.FF]at q;cases q;exact⟨c,by rw[hw,Am R],Z⟩
  ·rw[B j K]at q;obtain⟨cj,ah,ad⟩:=r.ob j x U O q;refine⟨cj,?_,ad.mono ag⟩;rw[hw,Ad (λe=>S (r.inj j id x o U b O L q W e))];exact ah
 ·intro j x U C q;rcases J j x C with⟨rfl,rfl⟩|⟨K,S,O⟩
  ·rw[Ai.FF]at q;cases q;rw[R];exact hF
  ·rw[B j K]at q;exact r.dj j x U O q
 ·intro j k x y U bk C V q M he;rcases J j x C with⟨rfl,rfl⟩|⟨K,S,O⟩<;>rcases J k y V with⟨rfl,rfl⟩|⟨h4,h5,h6⟩
  ·rfl
  ·rw[Ai.FF]at q;cases q;rw[B k h4]at M;exact absurd (r.inj k id y o bk b h6 L M W (by rw[<-he,R])) h5
  ·rw[Ai.FF]at M;cases M;rw[B j K]at q;exact absurd (r.inj j id x o U b O L q W (by rw[he,R])) S
  ·rw[B j K]at q;rw[B k h4]at M;exact r.inj j k x y U bk O h6 q M he
 ·intro j C;rw[B j (by omega)];exact r.new j (G3 af C)
theorem U8 {ρ:Ai} {l:Aj} {vs:List Value} (h:AG ρ l vs) (y:l.all AV.one=true):∀v∈vs,v.oneCell'=true:=by
 intro v hv;obtain⟨i,hi,rfl⟩:=List.getElem_of_mem hv;have q:i<l.length:=by rw[h.length];exact hi
 rw[(h.SA (CC q) (CC hi)).one];exact List.all_eq_true.1 y _ (List.getElem_mem q)
theorem AbY {P:Program} {E:Env} {F:Nat->Option Obj} {nx nx':Nat} {ρ:Ai} {w:World} {H H':Tr Ae} (r:Rel E F nx ρ H.get w) {ni:Nat} (ad:ρ ni=none) (S:nx<=nx') (Y:ni<nx') {ts:List TypeId} {xs:Aj} {us:List Value} {a:AV} (hx:AG ρ xs us) (af:iD P H ni ts xs=some (a,H')) (ty:TypeId): ∃v w' C,(Builtin.append_ ts.toArray ty us.toArray).run P w=.ok v w'/\Rel E F nx' C H'.get w'/\(ρ.le C/\∀x,x≠ni->C x=ρ x)/\VR C a v:=by
 unfold iD at af;split at af
 ·rename_i t tx s x;cases hx with
  |cons _ a4 _ _ au aN=>cases aN with
   |cons _ ux _ _ aQ aJ=>
    cases aJ;obtain⟨d,hd,h1⟩:=Ag.1 af;clear af;cases d with
    |slice el=>
     obtain⟨dx,V,h2⟩:=Ag.1 h1;obtain⟨O,h3⟩:=AL.1 h2;obtain⟨i,hi,h4⟩:=Ag.1 h3;obtain⟨z,hz,h5⟩:=Ag.1 h4;obtain⟨aa,h6⟩:=AL.1 h5;obtain⟨⟨n,l⟩,aH,M⟩:=Ag.1 h6;clear h1 h2 h3 h4 h5 h6;rw[C5,Co,AN]at aa;obtain⟨aa,aM⟩:=aa;obtain⟨vs,J,ar,aD⟩:=sT (P:=P) r (HS.refl ρ H) aQ aH;obtain⟨U,al⟩:=aD w (λ_=>rfl);obtain⟨_,aA⟩:=aD w.drew (λ_=>rfl);have aq:∀m,(Builtin.zeroCells z.cells m).size=m*i.size:=λm=>by rw[yT,aM]
     cases s with
     |Ay=>
      cases au;cases K:Nat.beq n 0 with
      |true=>simp only[K,cond_true]at M;injection M with M;injection M with M B;subst M;subst B;rw[AN]at K;subst K;refine⟨_,w,ρ,RO (base:=none) (len:=0) (cap:=0) (ty:=ty) hd V O hi U al (by omega) rfl,r.Fp S,⟨Ai.le_refl ρ,λ_ _=>rfl⟩,.Ay⟩
      |false=>
       simp only[K,cond_false]at M;obtain⟨hg,B⟩:=AL.1 M;simp only[C5,Nat.ble_eq]at hg;obtain⟨⟨_,ak⟩,ae⟩:=hg;have a2:n≠0:=λe=>by rw[<-AN,K]at e;cases e
       have L:=Vb (base:=none) (len:=0) (cap:=0) (ty:=ty) (olds:=[]) hd V O hi hz U (by simp[Builtin.firstCells]) aA (by omega) (by omega) (by simpa using ae);simp only[Nat.zero_add,Ei]at L;obtain⟨C,h9,y,W⟩:=fM r ad S Y aa J (by rw[J.length,ar]) (λ_ _ h=>h) B (cap:=grownCap w n 0 el) (by simp[grownCap,Question.cut]) (Builtin.zeroCells z.cells (grownCap w n 0 el-n)) (aq _);exact⟨_,_,C,L,h9,y,W⟩
     |sl id off len cap=>
      cases au with
      |sl _ _ _ _ b hb=>
       cases q:Nat.ble (len+n) cap with
       |true=>simp only[q,cond_true]at M;obtain⟨H1,aV,B⟩:=Ag.1 M;rw[Bv]at B;injection B with B;injection B with B h9;subst B;subst h9;rw[Nat.ble_eq]at q;obtain⟨w',aP,aO⟩:=ik (P:=P) r hb J aV;refine⟨_,w',ρ,RO (base:=some ⟨b.b,b.ob+off,none⟩) (ty:=ty) hd V O hi U al q ?_,aO.Fp S,⟨Ai.le_refl ρ,λ_ _=>rfl⟩,.sl _ _ _ _ b hb⟩;simp only[Dq,Fy];exact aP
       |false=>
        simp only[q,cond_false]at M;obtain⟨hg,B⟩:=AL.1 M;obtain⟨Z,hold,h9⟩:=Ag.1 B;simp only[C5,Nat.ble_eq]at hg;obtain⟨⟨_,ak⟩,ae⟩:=hg;have ay:cap<len+n:=by
         rcases MG cap (len+n)with h|h
         ·exact h
         ·have h':Nat.ble (len+n) cap=true:=by rw[Nat.ble_eq];exact h
          rw[h']at q;cases q
        obtain⟨os,R,ab,aj⟩:=HZ r (HS.refl ρ H) hb hold;have av:(Builtin.firstCells i.size len (.slice (some ⟨b.b,b.ob+off,none⟩) len cap)).run P w.drew=.ok os.toArray w.drew:=by have:=run_loadCells_list (P:=P) w.drew ⟨b.b,b.ob+off,none⟩ os (λj v hj=>aj j v hj);rw[ab]at this;simp[Builtin.firstCells,this]
        have L:=Vb (base:=some ⟨b.b,b.ob+off,none⟩) (ty:=ty) hd V O hi hz U av aA ay ak ae;obtain⟨C,y,W,aB⟩:=fM r ad S Y aa (R.append J) (by rw[(R.append J).length,AK,ab,ar,Nat.add_mul]) (λ_ _ h=>h) h9 (cap:=grownCap w (len+n) cap el) (by simp[grownCap,Question.cut]) (Builtin.zeroCells z.cells (grownCap w (len+n) cap el-(len+n))) (aq _);exact⟨_,_,C,L,y,W,aB⟩
     |BF id off len Ap=>
      obtain⟨aG,B⟩:=AL.1 M;clear M;rw[AN]at aG;subst aG;cases au with
      |BF _ _ _ _ b hb he aS=>
       have aZ:len<=(b.cap-off)/i.size:=by rw[Nat.le_div_iff_mul_le he];omega
       cases K:Nat.beq n 0 with
       |true=>simp only[K,cond_true]at B;injection B with B;injection B with B h9;subst B;subst h9;rw[AN]at K;subst K;have Ax:vs=[]:=List.eq_nil_of_length_eq_zero (by omega);subst Ax;refine⟨_,w,ρ,RO (base:=some ⟨b.b,b.ob+off,none⟩) (ty:=ty) hd V O hi U al (by omega) ?_,r.Fp S,⟨Ai.le_refl ρ,λ_ _=>rfl⟩,.BF _ _ _ _ b hb he aS⟩;simp[storeCells]
       |false=>
        simp only[K,cond_false]at B;obtain⟨hg,aW⟩:=AL.1 B;obtain⟨az,h9⟩:=AL.1 aW;obtain⟨Z,hold,y⟩:=Ag.1 h9;simp only[C5,Nat.ble_eq]at hg;obtain⟨⟨aU,ak⟩,ae⟩:=hg;obtain⟨os,R,ab,aj⟩:=HZ r (HS.refl ρ H) hb hold;have aC:(Z++l).length=(len+n)*i.size:=by rw[(R.append J).length,AK,ab,ar,Nat.add_mul]
        rcases MG ((b.cap-off)/i.size) (len+n)with ay|aE
        ·have av:(Builtin.firstCells i.size len (.slice (some ⟨b.b,b.ob+off,none⟩) len ((b.cap-off)/i.size))).run P w.drew=.ok os.toArray w.drew:=by have:=run_loadCells_list (P:=P) w.drew ⟨b.b,b.ob+off,none⟩ os (λj v hj=>aj j v hj);rw[ab]at this;simp[Builtin.firstCells,this]
         have L:=Vb (base:=some ⟨b.b,b.ob+off,none⟩) (ty:=ty) hd V O hi hz U av aA ay ak ae;obtain⟨C,W,aB,aX⟩:=fM r ad S Y aa (R.append J) aC (YB H id) y (cap:=grownCap w (len+n) ((b.cap-off)/i.size) el) (by simp[grownCap,Question.cut]) (Builtin.zeroCells z.cells (grownCap w (len+n) ((b.cap-off)/i.size) el-(len+n))) (aq _);exact⟨_,_,C,L,W,aB,aX⟩
        ·have ao:(len+n)*i.size<=b.cap-off:=(Nat.le_div_iff_mul_le he).1 aE;have a6:=J.length;have a3:(len+n)*i.size=len*i.size+n*i.size:=Nat.add_mul _ _ _;obtain⟨aL,ah,hh⟩:=Ag.1 hold;cases aL with
         |cells ag c z0 n0 a5=>
          obtain⟨oc,aw,aR⟩:=r.ob _ _ b ah hb;cases aR with
          |cells _ _ _ _ _ cs fz Dt hn a7 aF aY=>
           obtain⟨cs',e1,e2,e3⟩:=Ww (P:=P) b.b (b.ob+(off+len*i.size)) ag fz vs 0 cs w aw aF (by omega) (U8 J aU);simp only[RN,Bv]at y;injection y with y;injection y with y W;subst y;subst W;let b':C3:=⟨b.b,b.ob+off,b.cap-off⟩;have ai:=Ai.Lp (ρ:=ρ) ad b';have aI:OR (ρ.put ni b') b' (.cells el .leaf (.Dw (Z++l)) ((len+n)*i.size) true) (.cells cs' ag fz):=by
            have aK:ag=el:=by unfold ri at az;rw[ah]at az;exact AN▸az
            subst aK;have a8:=R.length;refine .cells ag .leaf _ _ true cs' fz (by show _=b.ob+off+(b.cap-off);omega) ao (by simp) (by rcases aF with hz|hz;exact .inl hz;exact .inr (by omega)) λk a hk ha=>?_;unfold cellOf at ha;rw[Tr.EK]at ha;have an:(Z++l)[k]? =some a:=by have:(Z++l)[k %(Z++l).length]? =some a:=ha;rwa[Nat.mod_eq_of_lt (by omega)]at this
            show∃v,cs'[b.ob+off+k]? =some v/\VR (ρ.put ni b') a v;rw[List.getElem?_append]at an;split at an
            ·rename_i aT;obtain⟨v,hv,hr⟩:=R.get k a an;refine⟨v,?_,hr.mono ai⟩;rw[e3,Ad (by omega)];have:=aj k v hv;rw[Dq]at this;simpa[World.cell?,aw]using this
            ·rename_i aT;obtain⟨v,hv,hr⟩:=J.get _ a an;refine⟨v,?_,hr.mono ai⟩;rw[e3,Am (by omega),<-hv];congr 1;omega
           refine⟨.slice (some ⟨b.b,b.ob+off,none⟩) (len+n) ((b.cap-off)/i.size),World.E3 w b.b (.cells cs' ag fz),ρ.put ni b',?_,?_,⟨ai,λx hx=>Ai.Ha hx _⟩,?_⟩
           ·refine RO (base:=some ⟨b.b,b.ob+off,none⟩) (ty:=ty) hd V O hi U al aE ?_;simp only[Dq,Fy];exact e1
           ·exact r.rename ah hb ad S Y rfl aI (Nc w b.b _ _ aw) rfl rfl rfl
           ·have:=VR.BF (ρ:=ρ.put ni b') ni 0 (len+n) i.size b' (Ai.FF _ _ _) he (by simpa using ao);simpa[b']using this
         |_=>cases hh
     |_=>cases M
    |_=>cases h1
 ·cases af
end Go.Ev
end
end
