/- Laid by program out of its parts: SxA, SxB, SxC, SxD, EvH, EvI. -/
import Derived.Test.YtlmmbanfhjaioaaGreatDoorMa
import Derived.Laws.Append
noncomputable section
set_option linter.unusedVariables false
set_option linter.unusedSimpArgs false
section
/- The symbolic layer, part A: operations that read at most, over content values: a side condition, and the value. -/
namespace Go.Ev
def cO:IntKind->Int
 |.i8=>-128|.i16=>-32768|.i32=>-2147483648|.i64=>-9223372036854775808|_=>0
def sw:IntKind->Int
 |.i8=>127|.i16=>32767|.i32=>2147483647|.i64=>9223372036854775807|.u8=>255|.u16=>65535|.u32=>4294967295|.u64=>18446744073709551615
def Bo (k:IntKind) (n:Int):Bool:=cond (AP n (cO k)) false (!(AP (sw k) n))
theorem bR {k:IntKind} {n:Int}:Bo k n=true↔cO k<=n/\n<=sw k:=by
 unfold Bo;rw[EG,EG];by_cases h:n<cO k
 ·rw[decide_eq_true h];simp;omega
 ·rw[decide_eq_false h];simp;omega
def Bn (n:Int) (len:Nat):Bool:=decide (0<=n/\n<(len:Int))
def Iu (n:Int) (len:Nat):Bool:=decide (0<=n/\n<=(len:Int))
theorem Sc {k:IntKind} {n:Int} (h:Bo k n=true):k.wrap n=n:=by rw[bR]at h;cases k<;>simp only[cO,sw]at h<;>simp only[IntKind.wrap,IntKind.bits,IntKind.signed]<;>simp<;>omega
abbrev SV:=Option (Bool×AV)
def rv (op:BinOp) (k:IntKind) (a b:Int):SV:=
 match op with
 |.add=>some (Bo k (a+b),.int k (a+b))
 |.sub=>some (Bo k (a-b),.int k (a-b))
 |.mul=>some (Bo k (a*b),.int k (a*b))
 |.quo=>some (cond (Ak b 0) false (Bo k (a.tdiv b)),.int k (a.tdiv b))
 |.rem=>some (!Ak b 0,.int k (a.tmod b))
 |.and=>some (true,.int k (k.wrap (BitVec.ofInt k.bits a&&& BitVec.ofInt k.bits b).toNat))
 |.or=>some (true,.int k (k.wrap (BitVec.ofInt k.bits a|||BitVec.ofInt k.bits b).toNat))
 |.xor=>some (true,.int k (k.wrap (BitVec.ofInt k.bits a^^^BitVec.ofInt k.bits b).toNat))
 |.andNot=>some (true,.int k (k.wrap (BitVec.ofInt k.bits a&&& ~~~(BitVec.ofInt k.bits b)).toNat))
 |_=>none
theorem AnE {op:BinOp} {k:IntKind} {a b:Int} {r:AV} (h:rv op k a b=some (true,r)):Th op k a b=some r/\op≠.shl/\op≠.shr:=by
 cases op<;>simp only[rv]at h<;>first|(cases h;done)|skip
 all_goals
  injection h with h;injection h with q y;subst y;refine⟨?_,by simp,by simp⟩;unfold Th;simp only[MM,X6]
 ·rw[Sc q]
 ·rw[Sc q]
 ·rw[Sc q]
 ·cases hb:Ak b 0 with
  |true=>rw[hb]at q;cases q
  |false=>rw[hb,cond_false]at q;rw[Sc q];rfl
 ·rw[q];rfl
def ew (op:BinOp) (k:IntKind) (a b:Int):SV:=
 match op with
 |.shl=>some (cond (AP b 0) false (Bo k (a*2^(min b.toNat k.bits))),.int k (a*2^(min b.toNat k.bits)))
 |.shr=>some (!AP b 0,.int k (a.fdiv (2^(min b.toNat k.bits))))
 |_=>none
theorem AbN {op:BinOp} {k:IntKind} {a b:Int} {r:AV} (h:ew op k a b=some (true,r)):Tl op k a b=some r:=by
 cases op<;>simp only[ew]at h<;>first|(cases h;done)|skip
 all_goals
  injection h with h;injection h with q y;subst y;unfold Tl;simp only[MM]
 ·cases hb:AP b 0 with
  |true=>rw[hb]at q;cases q
  |false=>rw[hb,cond_false]at q;rw[Sc q];rfl
 ·rw[q];rfl
def Oy (a:AV):Option (List UInt8):=
 match a with
 |.bs l=>some l
 |.str len n=>some (BC len n)
 |_=>none
theorem Mq {ρ:Af} {a:AV} {l:List UInt8} {v:Value} (h:VR ρ a v) (q:Oy a=some l):v=.string ⟨l.toArray⟩:=by
 cases h<;>first|(cases q;done)|skip
 ·injection q with q;subst q;rfl
 ·injection q with q;subst q;rfl
def ey (op:BinOp) (l q:List UInt8):SV:=
 match op with
 |.add=>some (decide (l.length+q.length<=9223372036854775807),.bs (l++q))
 |.eql=>some (true,.bool (decide (l=q)))
 |.neq=>some (true,.bool (!decide (l=q)))
 |.lss=>some (true,.bool (Op.bytesLess l q))
 |.leq=>some (true,.bool (Op.bytesLess l q||decide (l=q)))
 |.gtr=>some (true,.bool (!(Op.bytesLess l q||decide (l=q))))
 |.geq=>some (true,.bool (!Op.bytesLess l q))
 |_=>none
theorem toList_mk (l:List UInt8):(ByteArray.mk l.toArray).toList=l:=by rw[ByteArray.toList_eq]
theorem AbQ {P:Program} {ρ:Af} {op:BinOp} {t:TypeId} {l q:List UInt8} {r:AV} (h:ey op l q=some (true,r)) (w:World): ∃u,(binOp op t (.string ⟨l.toArray⟩) (.string ⟨q.toArray⟩)).run P w=.ok u w/\VR ρ r u:=by
 have hb:(l==q)=decide (l=q):=by by_cases h:l=q<;>simp[h]
 cases op<;>simp only[ey]at h<;>first|(cases h;done)|skip
 all_goals
  injection h with h;injection h with B y;subst y
 ·simp only[decide_eq_true_eq]at B;refine⟨.string ⟨(l++q).toArray⟩,?_,.bs _⟩;have:¬(((ByteArray.mk l.toArray).size+(ByteArray.mk q.toArray).size:Nat):Int)>IntKind.i64.max:=by show¬((l.toArray.size+q.toArray.size:Nat):Int)>9223372036854775807;simp;omega
  have e:ByteArray.mk l.toArray++ByteArray.mk q.toArray=⟨(l++q).toArray⟩:=by apply ByteArray.ext;simp
  simp only[binOp,Op.stringOp,this,if_false,e,Sem.run_pure]
 all_goals
  refine⟨_,?_,.bool _⟩;simp only[binOp,Op.stringOp,toList_mk,hb,Sem.run_pure]
def ep (P:Program) (eq:TypeId->AV->AV->Option Bool) (xs ys:List AV) (fs:List Field):Option Bool:=List.rec (motive:=λ_=>Option Bool) (some true)
  (fun f _ ih => cond (decide (f.name = "_")) ih (ob (Kq P f.type xs f.offset) fun a => ob (Kq P f.type ys f.offset) fun b => ob (eq f.type a b) fun r => ob ih fun q => some (r && q))) fs
theorem rk {P:Program} {eq:TypeId->AV->AV->Option Bool} {xs ys:List AV}:∀ {fs:List Field} {b:Bool},ep P eq xs ys fs=some b->QB P eq xs ys fs=some b
 | [],b,h=>h
 |f::fs,b,h=>by
  have h' : (cond (decide (f.name = "_")) (ep P eq xs ys fs) (ob (Kq P f.type xs f.offset) fun a => ob (Kq P f.type ys f.offset) fun b => ob (eq f.type a b) fun r => ob (ep P eq xs ys fs) fun q => some (r && q))) = some b := h
  show (cond (decide (f.name = "_")) (QB P eq xs ys fs) (ob (Kq P f.type xs f.offset) fun a => ob (Kq P f.type ys f.offset) fun b => ob (eq f.type a b) fun r => cond r (QB P eq xs ys fs) (some false))) = some b
  cases hn : decide (f.name = "_") with
  |true=>rw[hn]at h';exact rk h'
  |false=>
   rw[hn,cond_false]at h';obtain⟨a,ha,h1⟩:=Ae.1 h';obtain⟨a',ha',h2⟩:=Ae.1 h1;obtain⟨r,hr,h3⟩:=Ae.1 h2;obtain⟨q,hq,h4⟩:=Ae.1 h3;injection h4 with h4;subst h4;rw[cond_false];refine Ae.2 ⟨a,ha,Ae.2 ⟨a',ha',Ae.2 ⟨r,hr,?_⟩⟩⟩;cases r with
   |true=>rw[cond_true,rk hq];rfl
   |false=>rfl
def sEq (P:Program) (f:Nat):TypeId->AV->AV->Option Bool:=Nat.rec (motive:=λ_=>TypeId->AV->AV->Option Bool) (λ_ _ _=>none) (λ_ J t x y=>ob (P.underlying t) λd=>
   match d,x,y with
   |.bool,.bool a,.bool b=>some (cond a b (!b))
   |.int _,.int k a,.int E b=>gd (MU k E) (some (Ak a b))
   |.string,x,y=>ob (Oy x) λl=>ob (Oy y) λC=>some (decide (l=C))
   |.pointer _,.Et,.Et=>some true
   |.pointer _,.Et,.ptr _ _=>some false
   |.pointer _,.ptr _ _,.Et=>some false
   |.pointer _,.Et,.pv _=>some false
   |.pointer _,.pv _,.Et=>some false
   |.pointer _,.Et,.Gx _ _ _ _=>some false
   |.pointer _,.Gx _ _ _ _,.Et=>some false
   |.map _ _,.EZ,.FN _ _ _=>some false
   |.map _ _,.FN _ _ _,.EZ=>some false
   |.struct fs,.agg B,.agg q=>gd (!P.stoodInHeld t) (ep P J B q fs.toList)
   |_,_,_=>none) f
theorem Anv {P:Program} {ρ:Af} {w:World}:∀(f D:Nat),f<=D->∀(t:TypeId) (x y:AV) (b:Bool) (u v:Value),sEq P f t x y=some b-> VR ρ x u->VR ρ y v->(Op.equalIn D t u v).run P w=.ok b w:=by
 intro f
 induction f with
 |zero=>intro D _ t x y b u v h;cases h
 |succ f U=>
  intro D hD t x y b u v h K hy;obtain⟨B,rfl⟩:∃B,D=B+1:=⟨D-1,by omega⟩;obtain⟨d,hd,q⟩:=Ae.1 (show(ob (P.underlying t) λd=>_)=some b from h);clear h;have one:∀r:Bool,ZS P 1 t x y=some r->(Op.equalIn (B+1) t u v).run P w=.ok r w:=λr W=>mZ 1 (B+1) (by omega) t x y r u v W K hy;split at q
  ·exact one b (by show(ob (P.underlying t) λd=>_)=_;rw[hd];exact q)
  ·exact one b (by show(ob (P.underlying t) λd=>_)=_;rw[hd];exact q)
  ·obtain⟨l,Y,E⟩:=Ae.1 q;obtain⟨L,R,C⟩:=Ae.1 E;injection C with C;subst C;rw[Mq K Y,Mq hy R];have hb:(l==L)=decide (l=L):=by by_cases h:l=L<;>simp[h]
   simp[Op.equalIn,run_underlying hd,beq_toListBytes,toList_mk,hb]
  ·exact one b (by show(ob (P.underlying t) λd=>_)=_;rw[hd];exact q)
  ·exact one b (by show(ob (P.underlying t) λd=>_)=_;rw[hd];exact q)
  ·exact one b (by show(ob (P.underlying t) λd=>_)=_;rw[hd];exact q)
  all_goals first
   |(injection q with q;subst q;cases K;cases hy;simp[Op.equalIn,run_underlying hd];done)
   |skip
  ·obtain⟨V,E⟩:=AK.1 q;cases K with
   |agg _ S M=>cases hy with
    |agg _ vs At=>
     have O:P.stoodInHeld t=false:=by simpa using V
     have J:=xN hd;rw[run_equalIn_struct w B t S.toArray vs.toArray (by rw[J];exact hd) O,J];exact wc (λt x y b u v q E C=>U B (by omega) t x y b u v q E C) M At _ _ (rk E)
  ·cases q
def RR (P:Program) (t:TypeId) (n:Nat) (q:Bool):SV:=ob (P.underlying t) λd=>match d with
 |.slice _=>some (Nat.blt 0 n,.bool q)
 |_=>none
def eu (P:Program) (t:TypeId) (q:Bool) (a b:AV):SV:=
 match a,b with
 |.As,.vec _ n _=>RR P t n q
 |.vec _ n _,.As=>RR P t n q
 |.As,.bv l=>RR P t l.length q
 |.bv l,.As=>RR P t l.length q
 |.As,.AJ _ n _=>RR P t n q
 |.AJ _ n _,.As=>RR P t n q
 |a,b=>ob (sEq P 8 t a b) λr=>some (true,.bool (cond q (!r) r))
theorem AbJ {P:Program} {ρ:Af} {t:TypeId} {y:Bool} {a b r:AV} {u v:Value} (J:VR ρ a u) (hy:VR ρ b v) (h:eu P t y a b=some (true,r)) (w:World): ∃q,(Op.equal t u v).run P w=.ok q w/\r=.bool (cond y (!q) q):=by
 have B:∀n,RR P t n y=some (true,r)->(∃e,P.underlying t=some (.slice e))/\0<n/\r=.bool y:=λn hn=>by
  obtain⟨d,hd,E⟩:=Ae.1 hn;cases d<;>first|(cases E;done)|skip
  injection E with E;injection E with E K;exact⟨⟨_,hd⟩,by rwa[Nat.blt_eq]at E,K.symm⟩
 have key:∀(base:Addr) (n c:Nat) e,P.underlying t=some (.slice e)->(Op.equal t (.slice none 0 0) (.slice (some base) n c)).run P w=.ok false w/\(Op.equal t (.slice (some base) n c) (.slice none 0 0)).run P w=.ok false w:=λbase n c e hd=>by
  have K:∀D,(Op.equalIn (D+1) t (.slice none 0 0) (.slice (some base) n c)).run P w=.ok false w/\(Op.equalIn (D+1) t (.slice (some base) n c) (.slice none 0 0)).run P w=.ok false w:=λD=>by constructor<;>simp[Op.equalIn,run_underlying hd]
  exact K (Op.maxDepth-1)
 unfold eu at h;split at h
 ·obtain⟨⟨e,C⟩,hn,rfl⟩:=B _ h;cases J;cases hy with
  |vec=>exact⟨false,(key _ _ _ e C).1,by cases y<;>rfl⟩
  |G7=>omega
 ·obtain⟨⟨e,C⟩,hn,rfl⟩:=B _ h;cases hy;cases J with
  |vec=>exact⟨false,(key _ _ _ e C).2,by cases y<;>rfl⟩
  |G7=>omega
 ·obtain⟨⟨e,C⟩,hn,rfl⟩:=B _ h;cases J;cases hy with
  |bv=>exact⟨false,(key _ _ _ e C).1,by cases y<;>rfl⟩
  |Hz _ L=>subst L;simp at hn
 ·obtain⟨⟨e,C⟩,hn,rfl⟩:=B _ h;cases hy;cases J with
  |bv=>exact⟨false,(key _ _ _ e C).2,by cases y<;>rfl⟩
  |Hz _ L=>subst L;simp at hn
 ·obtain⟨⟨e,C⟩,hn,rfl⟩:=B _ h;cases J;cases hy with
  |AJ=>exact⟨false,(key _ _ _ e C).1,by cases y<;>rfl⟩
  |G5=>omega
 ·obtain⟨⟨e,C⟩,hn,rfl⟩:=B _ h;cases hy;cases J with
  |AJ=>exact⟨false,(key _ _ _ e C).2,by cases y<;>rfl⟩
  |G5=>omega
 ·obtain⟨q,M,E⟩:=Ae.1 h;injection E with E;injection E with _ K;exact⟨q,Anv 8 Op.maxDepth (by decide) t _ _ q u v M J hy,K.symm⟩
def Aby (P:Program) (op:BinOp) (t:TypeId) (cx B:Bool) (a b:AV):SV:=gd (QC P op t cx B a b) (match a,b with
  |.int k m,.int y n=>match op with
   |.shl=>ew .shl k m n
   |.shr=>ew .shr k m n
   |op=>gd (MU k y) (rv op k m n)
  |.str _ _,.str _ _=>none
  |.bs l,b=>ob (Oy b) λq=>ey op l q
  |a,.bs q=>ob (Oy a) λl=>ey op l q
  |a,b=>match op with
   |.eql=>eu P t false a b
   |.neq=>eu P t true a b
   |_=>none)
theorem Ant {P:Program} {ρ:Af} {op:BinOp} {t:TypeId} {x y:Operand} {a b r:AV} {u v:Value} (E:VR ρ a u) (hy:VR ρ b v) (h:Aby P op t (Ld x) (Ld y) a b=some (true,r)) (w:World): ∃z,(do eqGuard op t x y u v;binOp op t u v:Sem Value).run P w=.ok z w/\VR ρ r z:=by
 obtain⟨V,B⟩:=AK.1 h;have K:=wy E hy V w;suffices O:∃z,(binOp op t u v).run P w=.ok z w/\VR ρ r z by obtain⟨z,C,L⟩:=O;exact⟨z,by simp only[Sem.run_bind,K,Result.andThen_ok,C],L⟩
 clear h K;split at B
 ·split at B
  ·cases E;cases hy;exact ZV (AbN B) w
  ·cases E;cases hy;exact ZV (AbN B) w
  ·obtain⟨S,C⟩:=AK.1 B;have:=O3 S;subst this;cases E;cases hy;obtain⟨L,Y,W⟩:=AnE C;exact mb Y W L w
 ·cases B
 ·obtain⟨Z,M,C⟩:=Ae.1 B;rw[Mq hy M];cases E;exact AbQ C w
 ·obtain⟨l,R,C⟩:=Ae.1 B;rw[Mq E R];cases hy;exact AbQ C w
 ·have J:plain a b=true:=by unfold plain;split<;>simp_all<;>(rename_i U;exact U _ _ _ _ rfl rfl rfl rfl)
  split at B
  ·obtain⟨q,C,rfl⟩:=AbJ E hy B w;refine⟨.bool q,?_,.bool _⟩;rw[binOp_eql E hy J];simp only[Sem.run_bind,C,Result.andThen_ok,Sem.run_pure]
  ·obtain⟨q,C,rfl⟩:=AbJ E hy B w;refine⟨.bool (!q),?_,.bool _⟩;rw[binOp_neq E hy J];simp only[Sem.run_bind,C,Result.andThen_ok,Sem.run_pure]
  ·cases B
end Go.Ev
end
section
/- The symbolic layer, part B: memory that is read, by content. -/
namespace Go.Ev
def mJ (a:AV):Option (Nat×Nat×(Nat->List AV)):=
 match a with
 |.bv l=>some (1,l.length,λi=>[.int .u8 ((l.getD i 0).toNat:Int)])
 |.vec Ar n f=>some (Ar,n,f)
 |_=>none
theorem ZP {ρ:Af} {a:AV} {u:Value} (K:VR ρ a u) {Ar n:Nat} {f:Nat->List AV} (h:mJ a=some (Ar,n,f)): (∃base cap,u=.slice base n cap/\n<=cap)/\∀i,i<n->∃b o cap cs el fz vs,u=.slice (some ⟨b,o,none⟩) n cap/\ρ.st b=some (.cells cs el fz)/\AF ρ (f i) vs/\∀j v,vs[j]? =some v->cs[o+i*Ar+j]? =some v:=by
 cases K<;>first|(cases h;done)|skip
 case bv l b o cap cs el fz J y hc=>
  injection h with h;injection h with C q;injection q with q B;subst C;subst q;subst B;refine⟨⟨_,_,rfl,y⟩,λi hi=>⟨b,o,cap,cs,el,fz,[.int .u8 ((l.getD i 0).toNat:Int)],rfl,J,.cons _ _ _ _ (.int _ _) .nil,λj v E=>?_⟩⟩
  match j with
  |0=>injection E with E;subst E;have:=hc i hi;simpa using this
  |_+1=>simp at E
 case Hz l L base cap=>
  injection h with h;injection h with C q;injection q with q B;subst q;subst L;exact⟨⟨base,cap,rfl,Nat.zero_le _⟩,λi hi=>by simp at hi⟩
 case vec b o cap cs el fz g J he y hv hc=>
  injection h with h;injection h with C q;injection q with q B;subst C;subst q;subst B;exact⟨⟨_,_,rfl,y⟩,λi hi=>⟨b,o,cap,cs,el,fz,g i,rfl,J,hv i hi,hc i hi⟩⟩
 case G7 hn base cap=>
  injection h with h;injection h with C q;injection q with q B;subst q;subst hn;exact⟨⟨base,cap,rfl,Nat.zero_le _⟩,λi hi=>by omega⟩
theorem fT {E:Env} {F:Nat->Option Obj} {nx:Nat} {ρ:Af} {h:Nat->Option Ac} {w:World} (r:Rel E F nx ρ h w) {b:Nat} {cs:Array Value} {el:Nat} {fz:Nat×Nat} (q:ρ.st b=some (.cells cs el fz)) {k:Nat} {v:Value} (y:cs[k]? =some v):w.cell? ⟨b,k,none⟩=some v:=by have:=r.st _ _ q;simp[World.cell?,this,y]
def AbG (P:Program) (t:TypeId) (x:AV):SV:=ob (P.underlying t) λd=>match d,x with
  |.string,.bs l=>some (true,Jw l.length)
  |.slice _,.bv l=>some (true,Jw l.length)
  |.slice _,.vec _ n _=>some (true,Jw n)
  |.slice _,.AJ _ n _=>some (true,Jw n)
  |_,_=>none
theorem AnG {P:Program} {ρ:Af} {w:World} {t:TypeId} {x a:AV} {u:Value} (B:VR ρ x u) (y:AbG P t x=some (true,a)) (E C:Array _) (ty:TypeId) (ht:E[0]? =some t) (hu:C[0]? =some u): ∃z,(Builtin.len_ E ty C).run P w=.ok z w/\VR ρ a z:=by
 obtain⟨d,hd,q⟩:=Ae.1 y;clear y;split at q
 ·injection q with q;injection q with _ q;subst q;cases B;exact⟨_,by simp[Builtin.len_,ht,hu,run_underlying hd,goInt];rfl,.int _ _⟩
 ·injection q with q;injection q with _ q;subst q;obtain⟨⟨base,cap,rfl,_⟩,_⟩:=ZP B rfl;exact⟨_,by simp[Builtin.len_,ht,hu,run_underlying hd,goInt],.int _ _⟩
 ·injection q with q;injection q with _ q;subst q;obtain⟨⟨base,cap,rfl,_⟩,_⟩:=ZP B rfl;exact⟨_,by simp[Builtin.len_,ht,hu,run_underlying hd,goInt],.int _ _⟩
 ·injection q with q;injection q with _ q;subst q;cases B with
  |AJ=>exact⟨_,by simp[Builtin.len_,ht,hu,run_underlying hd,goInt],.int _ _⟩
  |G5 _ _ _ hn _=>subst hn;exact⟨_,by simp[Builtin.len_,ht,hu,run_underlying hd,goInt],.int _ _⟩
 ·cases q
def rq (P:Program) (t:TypeId) (x q:AV):SV:=
 match q with
 |.int _ n=>ob (P.underlying t) λd=>match d with
  |.string=>ob (Oy x) λl=>some (Bn n l.length,.int .u8 ((l.getD n.toNat 0).toNat:Int))
  |_=>none
 |_=>none
theorem AnD {P:Program} {ρ:Af} {t:TypeId} {x C r:AV} {u v:Value} (E:VR ρ x u) (hi:VR ρ C v) (h:rq P t x C=some (true,r)) (w:World): ∃z,(Instr.index t u v).run P w=.ok z w/\VR ρ r z:=by
 unfold rq at h;split at h
 ·rename_i k n;cases hi;obtain⟨d,hd,B⟩:=Ae.1 h;clear h;split at B
  ·obtain⟨l,J,q⟩:=Ae.1 B;injection q with q;injection q with q L;subst L;simp only[Bn,decide_eq_true_eq]at q;rw[Mq E J];refine⟨_,?_,.int _ _⟩;have y:n.toNat<l.length:=by omega
   have K:(ByteArray.mk l.toArray)[n.toNat]? =some (l.getD n.toNat 0):=by
    have M:(ByteArray.mk l.toArray).size=l.length:=by show l.toArray.size=_;simp
    rw[getElem?_pos (ByteArray.mk l.toArray) n.toNat (by rw[M];exact y)];simp only[List.getD,List.getElem?_eq_getElem y,Option.getD_some];rfl
   simp[Instr.index,asIntOf,run_underlying hd,q.1,K]
  ·cases B
 ·cases h
def ru (P:Program) (t:TypeId) (x q:AV):SV:=
 match q with
 |.int _ n=>ob (P.underlying t) λd=>match d with
  |.slice e=>ob (P.underlying e) λ_=>match x with
   |.AJ id len Ar=>gd (Nat.beq (P.cellsOf e) Ar) (some (Bn n len,.Gx id Ar n.toNat 0))
   |x=>ob (mJ x) λp=>gd (Nat.beq (P.cellsOf e) p.1) (some (Bn n p.2.1,.pv (p.2.2 n.toNat)))
  |.array len e=>ob (P.underlying e) λ_=>match x with
   |.pv cs=>some (Bn n len,.pv (cs.drop (n.toNat*P.cellsOf e)))
   |_=>none
  |_=>none
 |_=>none
theorem AnC {P:Program} {ρ:Af} {t:TypeId} {x L r:AV} {u v:Value} (J:VR ρ x u) (hi:VR ρ L v) (h:ru P t x L=some (true,r)) (w:World): ∃z,(Instr.indexAt t u v).run P w=.ok z w/\VR ρ r z:=by
 unfold ru at h;split at h
 ·rename_i k n;cases hi;obtain⟨d,hd,E⟩:=Ae.1 h;clear h;split at E
  ·obtain⟨de,C,B⟩:=Ae.1 E;clear E;split at B
   ·obtain⟨hz,q⟩:=AK.1 B;injection q with q;injection q with q y;subst y;simp only[Bn,decide_eq_true_eq]at q;rw[Nat.beq_eq]at hz;subst hz;cases J with
    |AJ id _ _ b hb W V=>refine⟨_,?_,.Gx _ _ _ _ b hb⟩;simp[Instr.indexAt,asIntOf,run_underlying hd,Eg C,q,Dk]
    |G5 _ _ _ hn _=>omega
   ·obtain⟨⟨Ar,len,f⟩,hp,q⟩:=Ae.1 B;obtain⟨hz,y⟩:=AK.1 q;injection y with y;injection y with y R;subst R;simp only[Bn,decide_eq_true_eq]at y;rw[Nat.beq_eq]at hz;simp only at hz;subst hz;obtain⟨b,o,cap,cs,el,fz,vs,rfl,O,hv,hc⟩:=(ZP J hp).2 n.toNat (by omega);refine⟨_,?_,.pv _ vs b (o+n.toNat*P.cellsOf _) cs el fz O hv hc⟩;simp[Instr.indexAt,asIntOf,run_underlying hd,Eg C,y,Dk]
  ·obtain⟨de,C,B⟩:=Ae.1 E;clear E;rename_i U S;split at B
   ·injection B with B;injection B with q y;subst y;simp only[Bn,decide_eq_true_eq]at q;cases J with
    |pv _ vs b o cs el fz K hv hc=>
     refine⟨_,?_,.pv _ (vs.drop _) b (o+n.toNat*P.cellsOf S) cs el fz K (hv.drop _) λj v M=>?_⟩
     ·simp[Instr.indexAt,Instr.sureAddr,asIntOf,run_underlying hd,Eg C,q]
      first|rfl|simp[Dk]
     ·rw[List.getElem?_drop]at M;rw[Nat.add_assoc];exact hc _ _ M
   ·cases B
  ·cases E
 ·cases h
def ev (P:Program) (t:TypeId) (cs:List AV):SV:=ob (P.underlying t) λd=>cond (L0 d) (some (Nat.ble (P.cellsOf t) cs.length,.agg (cs.take (P.cellsOf t)))) (ob cs.head? λa=>some (true,a))
def rz (P:Program) (H:Tr Ac) (t:TypeId) (x:AV):SV:=
 match x with
 |.pv cs=>ev P t cs
 |.Gx id Ar i j=>ob (H.get id) λo=>match o with
  |.cells _ c z N _=>match c,z with
   |.leaf,.rows q f=>gd (Nat.beq Ar q) (gd (Nat.ble (j+P.cellsOf t) Ar&&Nat.blt 0 (P.cellsOf t)) (ob (ev P t ((f i).drop j)) λr=>some (cond (Nat.ble (i*Ar+j+P.cellsOf t) N) r.1 false,r.2)))
   |_,_=>none
  |_=>none
 |_=>none
theorem AbM {P:Program} {ρ:Af} {t:TypeId} {cs:List AV} {a:AV} {vs:List Value} {w:World} {ad:Addr} (hv:AF ρ cs vs) (hc:∀j v,j<P.cellsOf t\/j=0->vs[j]? =some v->w.cell? (ad.add j)=some v) (h:ev P t cs=some (true,a)):∃v,(Instr.loadAt t (.pointer (some ad))).run P w=.ok v w/\VR ρ a v:=by
 obtain⟨d,hd,y⟩:=Ae.1 h;cases q:L0 d with
 |true=>
  rw[q,cond_true]at y;injection y with y;injection y with y B;subst B;rw[Nat.ble_eq]at y;have L:=hv.length;refine⟨.agg (vs.take (P.cellsOf t)).toArray,?_,.agg _ _ (hv.take _)⟩;have C:=run_loadCells_list (P:=P) (w:=w) ad (vs.take (P.cellsOf t)) (λj v E=>by
   rw[List.getElem?_take]at E;split at E
   ·exact hc j v (.inl ‹_›) E
   ·cases E)
  rw[show(vs.take (P.cellsOf t)).length=P.cellsOf t by simp;omega]at C;simp[Instr.loadAt,Instr.sureAddr,loadVar,RP hd,q,Eg hd,C]
 |false=>
  rw[q,cond_false]at y;obtain⟨S,J,B⟩:=Ae.1 y;injection B with B;injection B with _ B;subst B;cases cs with
  |nil=>cases J
  |cons c l=>
   injection J with J;subst J;cases hv with
   |cons _ v _ O M R=>
    have K:=hc 0 v (.inr rfl) rfl;have e:ad.add 0=ad:=by cases ad;rfl
    rw[e]at K;exact⟨v,by simp[Instr.loadAt,Instr.sureAddr,loadVar,RP hd,q,K],M⟩
theorem PZ {f:Nat->List AV} {Ar i j:Nat} (q:j<Ar) (k:Nat) (y:k=i*Ar+j):CB.at (.rows Ar f) k=(f i)[j]?:=by
 subst y;show(f ((i*Ar+j)/Ar))[(i*Ar+j)%Ar]? =_;have C:(i*Ar+j)/Ar=i:=by rw[Nat.mul_comm,Nat.mul_add_div (by omega),Nat.div_eq_of_lt q,Nat.add_zero]
 have B:(i*Ar+j)%Ar=j:=by rw[Nat.mul_comm,Nat.mul_add_mod,Nat.mod_eq_of_lt q]
 rw[C,B]
theorem FJ (z:CB) (k:Nat):cellOf .leaf z k=z.at k:=by unfold cellOf;rw[Tr.Em]
theorem AnH {P:Program} {E:Env} {F:Nat->Option Obj} {nx:Nat} {ρ:Af} {h:Nat->Option Ac} {w:World} {H:Tr Ac} (r:Rel E F nx ρ h w) (hs:HS ρ H h) {t:TypeId} {x a:AV} {u:Value} (W:VR ρ x u) (y:rz P H t x=some (true,a)):∃v,(Instr.loadAt t u).run P w=.ok v w/\VR ρ a v:=by
 unfold rz at y;split at y
 ·cases W with
  |pv _ vs b o cs el fz U hv hc=>exact AbM hv (λj v _ hj=>by rw[Dk];exact fT r U (hc j v hj)) y
 ·rename_i id Ar i j;cases W with
  |Gx _ _ _ _ b hb=>
   obtain⟨o,ho,O⟩:=Ae.1 y;clear y;split at O
   ·rename_i aa c z N op;split at O
    ·rename_i Z f;obtain⟨Y,h3⟩:=AK.1 O;obtain⟨h4,h5⟩:=AK.1 h3;obtain⟨⟨sd,a'⟩,h6,B⟩:=Ae.1 h5;injection B with B;injection B with B h8;subst h8;rw[Nat.beq_eq]at Y;subst Y;simp only[Bool.and_eq_true,Nat.ble_eq,Nat.blt_eq]at h4;cases hle:Nat.ble (i*Ar+j+P.cellsOf t) N with
     |false=>rw[hle]at B;cases B
     |true=>
      rw[hle,cond_true]at B;simp only at B;subst B;rw[Nat.ble_eq]at hle;obtain⟨vs,hv,At⟩:=AF.TP (l:=((f i).drop j).take (P.cellsOf t)) (ρ:=ρ) (λq v=>w.cell? ⟨b.b,b.ob+(i*Ar+j+q),none⟩=some v) (λq a K=>by
       rw[List.getElem?_take]at K;split at K
       ·rename_i ab;have V:(f i)[j+q]? =some a:=by rw[List.getElem?_drop]at K;exact K
        exact cell_of r (hs _ _ ho (.inl ⟨b,hb⟩)) hb (k:=i*Ar+j+q) (by omega) (by rw[FJ,PZ (i:=i) (j:=j+q) (by omega) _ (by omega)];exact V)
       ·cases K)
      have M:ev P t (((f i).drop j).take (P.cellsOf t))=some (true,a'):=by
       obtain⟨d,hd,J⟩:=Ae.1 h6;refine Ae.2 ⟨d,hd,?_⟩;cases S:L0 d with
       |true=>
        rw[S,cond_true]at J;injection J with J;injection J with J L;rw[Nat.ble_eq]at J;rw[cond_true];have e1:Nat.ble (P.cellsOf t) (((f i).drop j).take (P.cellsOf t)).length=true:=by rw[Nat.ble_eq,List.length_take];omega
        rw[e1,List.take_take,Nat.min_self,L]
       |false=>
        rw[S,cond_false]at J;rw[cond_false];obtain⟨a2,C,L⟩:=Ae.1 J;refine Ae.2 ⟨a2,?_,L⟩;cases R:(f i).drop j with
        |nil=>rw[R]at C;cases C
        |cons c l=>rw[R]at C;obtain⟨m,hm⟩:∃m,P.cellsOf t=m+1:=⟨P.cellsOf t-1,by omega⟩;rw[hm];exact C
      refine AbM hv (λq v _ K=>?_) M;have:=At q v K;rw[Dk,Nat.add_assoc];exact this
    ·cases O
   ·cases O
 ·cases y
def AbB (P:Program) (t:TypeId) (x:AV) (f:Nat):SV:=ob (P.underlying t) λd=>match d with
  |.struct fs=>ob (fs[f]?) λq=>ob (P.underlying q.type) λ_=>gd (!Nat.beq (P.cellsOf q.type) 0) (match x with
   |.pv cs=>some (true,.pv (cs.drop q.offset))
   |.Gx id Ar i j=>fN (j+q.offset) λy=>some (true,.Gx id Ar i y)
   |_=>none)
  |_=>none
theorem Anz {P:Program} {ρ:Af} {t:TypeId} {x r:AV} {f:Nat} {u:Value} (K:VR ρ x u) (h:AbB P t x f=some (true,r)) (w:World): ∃v,(Instr.fieldAt t u f).run P w=.ok v w/\VR ρ r v:=by
 obtain⟨d,hd,C⟩:=Ae.1 h;clear h;split at C
 ·obtain⟨E,M,R⟩:=Ae.1 C;obtain⟨U,B,O⟩:=Ae.1 R;obtain⟨hz,q⟩:=AK.1 O;clear C R O;have y:P.cellsOf E.type≠0:=λS=>by rw[S]at hz;simp at hz
  split at q
  ·injection q with q;injection q with _ q;subst q;cases K with
   |pv _ vs b o cs el fz J hv hc=>
    refine⟨_,?_,.pv _ (vs.drop E.offset) b (o+E.offset) cs el fz J (hv.drop _) λj v L=>?_⟩
    ·simp[Instr.fieldAt,run_underlying hd,M,Instr.sureAddr,fieldPlace,Eg B,y,Dk]
    ·rw[List.getElem?_drop]at L;rw[Nat.add_assoc];exact hc _ _ L
  ·rw[Bu]at q;injection q with q;injection q with _ q;subst q;cases K with
   |Gx _ _ _ _ b hb=>refine⟨_,?_,.Gx _ _ _ _ b hb⟩;simp[Instr.fieldAt,run_underlying hd,M,Instr.sureAddr,fieldPlace,Eg B,y,Dk,Nat.add_assoc]
  ·cases q
 ·cases C
def Ie (X:Operand->Option AV) (x:Option Operand) (q lim:Nat):Option (Bool×Nat):=
 match x with
 |none=>some (true,q)
 |some o=>ob (X o) λa=>match a with
  |.int _ n=>some (Iu n lim,n.toNat)
  |_=>none
theorem ri {P:Program} {ρ:Af} {X:Operand->Option AV} {f:Operand->Value} (E:XR ρ X f) {o:Operand} {d lim i:Nat} (h:Ie X (some o) d lim=some (true,i)) (w:World) (y:Nat) (hy:lim<=y) (code:BoundsCode):(Instr.sliceBound (f o) y code).run P w=.ok i w/\i<=lim:=by
 obtain⟨a,C,q⟩:=Ae.1 (show(ob (X o) λa=>match a with
  |.int _ n=>some (Iu n lim,n.toNat)
  |_=>none)=some (true,i)from h)
 have B:=E _ _ C;split at q
 ·rename_i k n;injection q with q;injection q with q J;subst J;simp only[Iu,decide_eq_true_eq]at q;generalize f o=v at B;cases B;have:0<=n/\n<=(y:Int):=by omega
  exact⟨by simp[Instr.sliceBound,asIntOf,this],by omega⟩
 ·cases q
theorem RQ {P:Program} {ρ:Af} {X:Operand->Option AV} {f:Operand->Value} (C:XR ρ X f) {lo hi:Option Operand} {len cap l h:Nat} (Ah:Bool) (J:len<=cap) (y:Ie X hi len len=some (true,h)) (q:Ie X lo 0 h=some (true,l)) (w:World): (Instr.sliceBounds Ah len cap (lo.map f) (hi.map f) none).run P w=.ok (l,h,cap) w/\h<=len/\l<=h:=by
 unfold Instr.sliceBounds;cases hi with
 |none=>
  injection y with y;injection y with _ y;subst y;cases lo with
  |none=>injection q with q;injection q with _ q;subst q;exact⟨by simp,Nat.le_refl _,Nat.zero_le _⟩
  |some o=>have B:=λc=>ri (P:=P) C q w _ (Nat.le_refl _) c;exact⟨by simp[(B _).1],Nat.le_refl _,(B .sliceB).2⟩
 |some L=>
  have E:=λc=>ri (P:=P) C y w cap J c;have K:=(E .sliceB).2;cases lo with
  |none=>injection q with q;injection q with _ q;subst q;exact⟨by simp[(E _).1],K,Nat.zero_le _⟩
  |some o=>have B:=λc=>ri (P:=P) C q w _ (Nat.le_refl _) c;exact⟨by simp[(E _).1,(B _).1],K,(B .sliceB).2⟩
def fY {α:Type} (hi:Option Operand) (h:Nat) (l:List α):List α:=match hi with
 |none=>l
 |some _=>l.take h
def ZK {α:Type} (lo:Option Operand) (k:Nat) (l:List α):List α:=match lo with
 |none=>l
 |some _=>l.drop k
def s6 (lo:Option Operand) (h l:Nat):Nat:=match lo with
 |none=>h
 |some _=>h-l
def nL (lo:Option Operand) (l:Nat) (f:Nat->List AV):Nat->List AV:=match lo with
 |none=>f
 |some _=>λi=>f (l+i)
def XM (P:Program) (X:Operand->Option AV) (t:TypeId) (x:AV) (lo hi mx:Option Operand):SV:=ob (P.underlying t) λd=>gd (!mx.isSome) (match d,x with
  |.string,.bs L=>ob (Ie X hi L.length L.length) λh=>ob (Ie X lo 0 h.2) λl=>some (cond h.1 l.1 false,.bs (ZK lo l.2 (fY hi h.2 L)))
  |.slice e,.bv L=>ob (P.underlying e) λ_=>gd (Nat.beq (P.cellsOf e) 1) (ob (Ie X hi L.length L.length) λh=>ob (Ie X lo 0 h.2) λl=>some (cond h.1 l.1 false,.bv (ZK lo l.2 (fY hi h.2 L))))
  |.slice e,.vec Ar n f=>ob (P.underlying e) λ_=>gd (Nat.beq (P.cellsOf e) Ar) (ob (Ie X hi n n) λh=>ob (Ie X lo 0 h.2) λl=>some (cond h.1 l.1 false,.vec Ar (s6 lo h.2 l.2) (nL lo l.2 f)))
  |.slice e,.AJ id n Ar=>ob (P.underlying e) λ_=>gd (Nat.beq (P.cellsOf e) Ar&& !lo.isSome) (ob (Ie X hi n n) λh=>some (h.1,.AJ id h.2 Ar))
  |_,_=>none)
theorem ek {X:Operand->Option AV} {x:Option Operand} {d lim i:Nat} {s:Bool} (q:x=none) (h:Ie X x d lim=some (s,i)):i=d:=by subst q;injection h with h;injection h with _ h;exact h.symm
theorem Acm {α:Type} {X:Operand->Option AV} {hi:Option Operand} {h lim:Nat} {s:Bool} {L:List α} (hb:Ie X hi L.length lim=some (s,h)):fY hi h L=L.take h:=by
 cases hi with
 |none=>rw[ek rfl hb];simp[fY]
 |some _=>rfl
theorem wX {α:Type} {X:Operand->Option AV} {lo:Option Operand} {l lim:Nat} {s:Bool} {L:List α} (hb:Ie X lo 0 lim=some (s,l)):ZK lo l L=L.drop l:=by
 cases lo with
 |none=>rw[ek rfl hb];simp[ZK]
 |some _=>rfl
theorem Aon {X:Operand->Option AV} {lo:Option Operand} {l h lim:Nat} {s:Bool} (hb:Ie X lo 0 lim=some (s,l)):s6 lo h l=h-l:=by
 cases lo with
 |none=>rw[ek rfl hb];simp[s6]
 |some _=>rfl
theorem AfB {X:Operand->Option AV} {lo:Option Operand} {l lim:Nat} {s:Bool} {f:Nat->List AV} (hb:Ie X lo 0 lim=some (s,l)) (i:Nat):nL lo l f i=f (l+i):=by
 cases lo with
 |none=>rw[ek rfl hb];simp[nL]
 |some _=>rfl
theorem KW {a b:Bool} {α:Type} {x y:α} (h:some (cond a b false,x)=some (true,y)):a=true/\b=true/\x=y:=by injection h with h;injection h with B q;cases a<;>cases b<;>first|(cases B;done)|exact⟨rfl,rfl,q⟩
set_option maxHeartbeats 1000000 in
theorem AnO {P:Program} {ρ:Af} {X:Operand->Option AV} {f:Operand->Value} (hX:XR ρ X f) {t:TypeId} {x r:AV} {lo hi mx:Option Operand} {u:Value} (hx:VR ρ x u) (h:XM P X t x lo hi mx=some (true,r)) (w:World):∃z,(Instr.sliceAt t u (lo.map f) (hi.map f) (mx.map f)).run P w=.ok z w/\VR ρ r z:=by
 obtain⟨d,hd,h1⟩:=Ae.1 h;clear h;obtain⟨aa,Z⟩:=AK.1 h1;clear h1;cases mx with
 |some _=>simp at aa
 |none=>
 simp only[Option.map_none];split at Z
 ·rename_i L;obtain⟨⟨sh,K⟩,y,U⟩:=Ae.1 Z;obtain⟨⟨sl,il⟩,B,S⟩:=Ae.1 U;obtain⟨W,V,rfl⟩:=KW S;simp only at W V y B;subst W;subst V;cases hx;obtain⟨hb,M,h6⟩:=RQ (P:=P) hX (len:=L.length) (cap:=L.length) false (Nat.le_refl _) y B w;rw[Acm y,wX B];refine⟨_,?_,.bs _⟩;have W:(ByteArray.mk L.toArray).size=L.length:=by show L.toArray.size=_;simp
  have V:(ByteArray.mk L.toArray).extract il K=⟨((L.take K).drop il).toArray⟩:=by apply ByteArray.ext;apply Array.ext';simp[ByteArray.data_extract,List.drop_take]
  have ae:(Instr.sliceBounds false (ByteArray.mk L.toArray).size (ByteArray.mk L.toArray).size (lo.map f) (hi.map f) none).run P w=.ok (il,K,L.length) w:=by rw[W];exact hb
  simp[Instr.sliceAt,Instr.slice,run_underlying hd,ae,V]
 ·rename_i e L;obtain⟨de,E,U⟩:=Ae.1 Z;obtain⟨C,S⟩:=AK.1 U;obtain⟨⟨sh,K⟩,y,M⟩:=Ae.1 S;obtain⟨⟨sl,il⟩,B,h6⟩:=Ae.1 M;obtain⟨W,V,rfl⟩:=KW h6;simp only at W V y B;subst W;subst V;rw[Nat.beq_eq]at C;rw[Acm y,wX B];clear Z U S M h6;cases hx with
  |bv _ b o cap cs el fz hs J hc=>
   obtain⟨hb,R,Y⟩:=RQ (P:=P) hX (len:=L.length) (cap:=cap) true J y B w;refine⟨.slice (some (if cap=il then⟨b,o,none⟩else⟨b,o+il,none⟩)) (K-il) (cap-il),?_,?_⟩
   ·simp[Instr.sliceAt,Instr.slice,run_underlying hd,hb,Eg E,C,Dk];split<;>simp
   ·have hl:((L.take K).drop il).length=K-il:=by simp;omega
    by_cases h0:K-il=0
    ·rw[h0];exact .Hz _ (List.eq_nil_of_length_eq_zero (by omega)) _ _
    ·rw[if_neg (by omega),<-hl];refine .bv _ b (o+il) (cap-il) cs el fz hs (by omega) λi hi=>?_;have:=hc (il+i) (by omega);rw[Nat.add_assoc,this];congr 3;simp only[List.getD,List.getElem?_drop,List.getElem?_take];rw[if_pos (by omega)]
  |Hz _ hl base cap=>subst hl;obtain⟨hb,R,Y⟩:=RQ (P:=P) hX (len:=0) (cap:=cap) true (Nat.zero_le _) y B w;simp only[List.length_nil,Nat.le_zero]at R;subst R;simp only[Nat.le_zero]at Y;subst Y;refine⟨.slice (if cap=0 then base else base.map (·.add 0)) 0 cap,?_,.Hz _ (by simp) _ _⟩;simp[Instr.sliceAt,Instr.slice,run_underlying hd,hb,Eg E,C]
 ·rename_i e Ar n g;obtain⟨de,E,U⟩:=Ae.1 Z;obtain⟨C,S⟩:=AK.1 U;obtain⟨⟨sh,K⟩,y,M⟩:=Ae.1 S;obtain⟨⟨sl,il⟩,B,h6⟩:=Ae.1 M;obtain⟨W,V,rfl⟩:=KW h6;simp only at W V y B;subst W;subst V;rw[Nat.beq_eq]at C;rw[Aon B];clear Z U S M h6;cases hx with
  |vec _ _ _ b o cap cs el fz q hs he J hv hc=>
   obtain⟨hb,R,Y⟩:=RQ (P:=P) hX (len:=n) (cap:=cap) true J y B w;refine⟨.slice (some (if cap=il then⟨b,o,none⟩else⟨b,o+il*Ar,none⟩)) (K-il) (cap-il),?_,?_⟩
   ·simp[Instr.sliceAt,Instr.slice,run_underlying hd,hb,Eg E,C,Dk];split<;>simp
   ·by_cases h0:K-il=0
    ·rw[h0];exact .G7 _ _ _ rfl _ _
    ·rw[if_neg (by omega)];refine .vec _ _ _ b (o+il*Ar) (cap-il) cs el fz (λi=>q (il+i)) hs he (by omega) (λi hi=>by rw[AfB B];exact hv _ (by omega)) λi hi j v hj=>?_;have:=hc (il+i) (by omega) j v hj;rw[show o+il*Ar+i*Ar+j=o+(il+i)*Ar+j by rw[Nat.add_mul];omega];exact this
  |G7 _ _ _ hn base cap=>subst hn;obtain⟨hb,R,Y⟩:=RQ (P:=P) hX (len:=0) (cap:=cap) true (Nat.zero_le _) y B w;simp only[Nat.le_zero]at R;subst R;simp only[Nat.le_zero]at Y;subst Y;refine⟨.slice (if cap=0 then base else base.map (·.add 0)) 0 cap,?_,.G7 _ _ _ rfl _ _⟩;simp[Instr.sliceAt,Instr.slice,run_underlying hd,hb,Eg E,C]
 ·rename_i e id n Ar;obtain⟨de,E,U⟩:=Ae.1 Z;obtain⟨C,S⟩:=AK.1 U;obtain⟨⟨sh,K⟩,y,M⟩:=Ae.1 S;injection M with M;injection M with M h6;subst h6;simp only at M y;subst M;simp only[Bool.and_eq_true]at C;obtain⟨C,ab⟩:=C;rw[Nat.beq_eq]at C;cases lo with
  |some _=>simp at ab
  |none=>
  clear Z U S;cases hx with
  |AJ _ _ _ b hb he hl=>
   have J:n<=b.cap/Ar:=by rw[Nat.le_div_iff_mul_le he];exact hl
   obtain⟨O,R,Y⟩:=RQ (P:=P) hX (lo:=none) (hi:=hi) (len:=n) (cap:=b.cap/Ar) true J y rfl w;refine⟨.slice (some ⟨b.b,b.ob,none⟩) K (b.cap/Ar),?_,.AJ _ _ _ b hb he (Nat.le_trans (Nat.mul_le_mul_right _ R) hl)⟩;simp only[Option.map_none]at O;simp[Instr.sliceAt,Instr.slice,run_underlying hd,O,Eg E,C,Dk]
  |G5 _ _ _ hn base=>
   subst hn;obtain⟨O,R,Y⟩:=RQ (P:=P) hX (lo:=none) (hi:=hi) (len:=0) (cap:=0) true (Nat.zero_le _) y rfl w;simp only[Nat.le_zero]at R;subst R;simp only[Option.map_none]at O;cases base with
   |none=>refine⟨.slice none 0 0,?_,.G5 _ _ _ rfl _⟩;simp[Instr.sliceAt,Instr.slice,run_underlying hd,O,Eg E]
   |some ad=>refine⟨.slice (some ad) 0 0,?_,.G5 _ _ _ rfl _⟩;simp[Instr.sliceAt,Instr.slice,run_underlying hd,O,Eg E,Dk]
 ·cases Z
end Go.Ev
end
section
/- The symbolic layer, part C: conversions, maps, calls of the library without a text; all operations that read at most. -/
namespace Go.Ev
def Qp:List UInt8->List UInt8->Bool
 | [],[]=>true
 |a::l,b::m=>cond (Nat.beq a.toNat b.toNat) (Qp l m) false
 |_,_=>false
mutual
def Cr:AV->AV->Bool
 |.bool a,.bool b=>cond a b (!b)
 |.int k a,.int B b=>cond (MU k B) (Ak a b) false
 |.str l n,.str y q=>cond (Nat.beq l y) (Nat.beq n q) false
 |.Et,.Et=>true
 |.ptr i o,.ptr j p=>cond (Nat.beq i j) (Nat.beq o p) false
 |.As,.As=>true
 |.sl i o n c,.sl j p m d=>cond (Nat.beq i j) (cond (Nat.beq o p) (cond (Nat.beq n m) (Nat.beq c d) false) false) false
 |.Bw i o n c,.Bw j p m d=>cond (Nat.beq i j) (cond (Nat.beq o p) (cond (Nat.beq n m) (Nat.beq c d) false) false) false
 |.sle i,.sle j=>Nat.beq i j
 |.EZ,.EZ=>true
 |.map i,.map j=>Nat.beq i j
 |.Gr,.Gr=>true
 |.Dr i,.Dr j=>Nat.beq i j
 |.fn (.func f) a c,.fn (.func g) b d=>cond (Nat.beq f g) (cond (LN a b) (LN c d) false) false
 |.iface t v,.iface u x=>cond (Nat.beq t u) (Cr v x) false
 |.EF,.EF=>true
 |.agg l,.agg m=>LN l m
 |.AL l,.AL m=>LN l m
 |.AJ i n e,.AJ j m d=>cond (Nat.beq i j) (cond (Nat.beq n m) (Nat.beq e d) false) false
 |.F8 i n,.F8 j m=>cond (Nat.beq i j) (Nat.beq n m) false
 |.pv l,.pv m=>LN l m
 |.bs l,.bs m=>Qp l m
 |.bv l,.bv m=>Qp l m
 |_,_=>false
def LN:List AV->List AV->Bool
 | [],[]=>true
 |a::l,b::m=>cond (Cr a b) (LN l m) false
 |_,_=>false
end
theorem A4 {a b:Bool} (h:cond a b false=true):a=true/\b=true:=by cases a<;>cases b<;>first|exact⟨rfl,rfl⟩|cases h
theorem k8:∀(a b:List UInt8),Qp a b=true->a=b
 | [],b,h=>by cases b<;>first|rfl|(simp[Qp]at h;done)
 |x::l,b,h=>by
  cases b with
  |nil=>simp[Qp]at h
  |cons y m=>rw[Qp]at h;obtain⟨q,B⟩:=A4 h;rw[Nat.beq_eq]at q;rw[UInt8.toNat_inj.1 q,k8 l m B]
mutual
theorem SM:∀(a b:AV),Cr a b=true->a=b
 |.bool a,b,h=>by
  cases b<;>first|(simp[Cr]at h;done)|skip
  rename_i b;cases a<;>cases b<;>first|rfl|(simp[Cr]at h;done)
 |.int k a,b,h=>by
  cases b<;>first|(simp[Cr]at h;done)|skip
  rw[Cr]at h;obtain⟨y,q⟩:=A4 h;rw[Dt]at q;rw[O3 y,eq_of_beq q]
 |.str l n,b,h=>by
  cases b<;>first|(simp[Cr]at h;done)|skip
  rw[Cr]at h;obtain⟨y,q⟩:=A4 h;rw[Nat.beq_eq]at y q;rw[y,q]
 |.Et,b,h=>by cases b<;>first|rfl|(simp[Cr]at h;done)
 |.ptr i o,b,h=>by
  cases b<;>first|(simp[Cr]at h;done)|skip
  rw[Cr]at h;obtain⟨y,q⟩:=A4 h;rw[Nat.beq_eq]at y q;rw[y,q]
 |.As,b,h=>by cases b<;>first|rfl|(simp[Cr]at h;done)
 |.sl i o n c,b,h=>by
  cases b<;>first|(simp[Cr]at h;done)|skip
  rw[Cr]at h;obtain⟨y,q⟩:=A4 h;obtain⟨q,B⟩:=A4 q;obtain⟨B,C⟩:=A4 B;rw[Nat.beq_eq]at y q B C;rw[y,q,B,C]
 |.Bw i o n c,b,h=>by
  cases b<;>first|(simp[Cr]at h;done)|skip
  rw[Cr]at h;obtain⟨y,q⟩:=A4 h;obtain⟨q,B⟩:=A4 q;obtain⟨B,C⟩:=A4 B;rw[Nat.beq_eq]at y q B C;rw[y,q,B,C]
 |.sle i,b,h=>by
  cases b<;>first|(simp[Cr]at h;done)|skip
  rw[Cr,Nat.beq_eq]at h;rw[h]
 |.EZ,b,h=>by cases b<;>first|rfl|(simp[Cr]at h;done)
 |.map i,b,h=>by
  cases b<;>first|(simp[Cr]at h;done)|skip
  rw[Cr,Nat.beq_eq]at h;rw[h]
 |.Gr,b,h=>by cases b<;>first|rfl|(simp[Cr]at h;done)
 |.Dr i,b,h=>by
  cases b<;>first|(simp[Cr]at h;done)|skip
  rw[Cr,Nat.beq_eq]at h;rw[h]
 |.fn f a c,b,h=>by
  cases b<;>first|(cases f<;>simp[Cr]at h;done)|skip
  rename_i g b d;cases f<;>cases g<;>first|(simp[Cr]at h;done)|skip
  rw[Cr]at h;obtain⟨y,q⟩:=A4 h;obtain⟨q,B⟩:=A4 q;rw[Nat.beq_eq]at y;rw[y,OL a b q,OL c d B]
 |.iface t v,b,h=>by
  cases b<;>first|(simp[Cr]at h;done)|skip
  rw[Cr]at h;obtain⟨y,q⟩:=A4 h;rw[Nat.beq_eq]at y;rw[y,SM v _ q]
 |.EF,b,h=>by cases b<;>first|rfl|(simp[Cr]at h;done)
 |.agg l,b,h=>by
  cases b<;>first|(simp[Cr]at h;done)|skip
  rw[Cr]at h;rw[OL l _ h]
 |.AL l,b,h=>by
  cases b<;>first|(simp[Cr]at h;done)|skip
  rw[Cr]at h;rw[OL l _ h]
 |.AJ i n e,b,h=>by
  cases b<;>first|(simp[Cr]at h;done)|skip
  rw[Cr]at h;obtain⟨y,q⟩:=A4 h;obtain⟨q,B⟩:=A4 q;rw[Nat.beq_eq]at y q B;rw[y,q,B]
 |.F8 i n,b,h=>by
  cases b<;>first|(simp[Cr]at h;done)|skip
  rw[Cr]at h;obtain⟨y,q⟩:=A4 h;rw[Nat.beq_eq]at y q;rw[y,q]
 |.pv l,b,h=>by
  cases b<;>first|(simp[Cr]at h;done)|skip
  rw[Cr]at h;rw[OL l _ h]
 |.bs l,b,h=>by
  cases b<;>first|(simp[Cr]at h;done)|skip
  rw[Cr]at h;rw[k8 l _ h]
 |.bv l,b,h=>by
  cases b<;>first|(simp[Cr]at h;done)|skip
  rw[Cr]at h;rw[k8 l _ h]
theorem OL:∀(a b:List AV),LN a b=true->a=b
 | [],b,h=>by cases b<;>first|rfl|(simp[LN]at h;done)
 |a::l,b,h=>by
  cases b with
  |nil=>simp[LN]at h
  |cons b m=>rw[LN]at h;obtain⟨y,q⟩:=A4 h;rw[SM a b y,OL l m q]
end
def Jn (l:List AV):UInt8:=match l with
 | [.int _ n]=>UInt8.ofNat n.toNat
 |_=>0
def QO (l:List AV):Bool:=match l with
 | [.int .u8 _]=>true
 |_=>false
def Fz (n:Nat) (f:Nat->List AV):List UInt8:=(List.range n).map λi=>Jn (f i)
def VY (n:Nat) (f:Nat->List AV):Bool:=decide (∀i,i<n->QO (f i)=true)
def gJ (w:World) (u:Value) (l:List UInt8):Prop:=(∃base c,u=.slice base 0 c/\l=[])\/∃(ad:Addr) (c:Nat) (ns:List Int),u=.slice (some ad) l.length c/\l=ns.map (λn=>UInt8.ofNat n.toNat)/\∀j v,(ns.map (Value.int .u8))[j]? =some v->w.cell? (ad.add j)=some v
def Ze (H:Tr Ac) (x:AV):Option (Bool×List UInt8):=
 match x with
 |.bv l=>some (true,l)
 |.vec Ar n f=>gd (Nat.beq Ar 1) (some (VY n f,Fz n f))
 |.AJ id n Ar=>gd (Nat.beq Ar 1) (ob (H.get id) λo=>match o with
  |.cells _ c z N _=>match c,z with
   |.leaf,.rows e f=>gd (Nat.beq e 1) (some (cond (Nat.ble n N) (VY n f) false,Fz n f))
   |_,_=>none
  |_=>none)
 |.As=>some (true,[])
 |.sle _=>some (true,[])
 |.sl id off n _=>ob (Fa H id off n) λl=>gd (l.all λa=>QO [a]) (some (true,l.map λa=>Jn [a]))
 |.Bw id off n _=>ob (Fa H id off n) λl=>gd (l.all λa=>QO [a]) (some (true,l.map λa=>Jn [a]))
 |_=>none
theorem nr {ρ:Af} {l:List AV} {vs:List Value} (h:QO l=true) (hv:AF ρ l vs):∃n,vs=[.int .u8 n]/\Jn l=UInt8.ofNat n.toNat:=by
 unfold QO at h;split at h
 ·cases hv with
  |cons _ _ _ _ y q=>cases y;cases q;exact⟨_,rfl,rfl⟩
 ·cases h
theorem kg {ρ:Af}:∀ {l:List AV} {vs:List Value},AF ρ l vs->(l.all λa=>QO [a])=true->∃ns:List Int,vs=ns.map (Value.int .u8)/\(l.map λa=>Jn [a])=ns.map λn=>UInt8.ofNat n.toNat
 |_,_,.nil,_=>⟨[],rfl,rfl⟩
 |_,_,.cons a v l vs h y,hb=>by simp only[List.all_cons,Bool.and_eq_true]at hb;obtain⟨n,q,E⟩:=nr hb.1 (.cons _ _ _ _ h .nil);injection q with q;obtain⟨ns,C,B⟩:=kg y hb.2;exact⟨n::ns,by simp[q,C],by simp[E,B]⟩
theorem Abv {w:World} {n:Nat} {f:Nat->List AV} {ad:Addr} (hb:VY n f=true) (h:∀i,i<n->∃v,(∃m,v=Value.int .u8 m/\Jn (f i)=UInt8.ofNat m.toNat)/\w.cell? (ad.add i)=some v): ∃ns:List Int,ns.length=n/\Fz n f=ns.map (λn=>UInt8.ofNat n.toNat)/\∀j v,(ns.map (Value.int .u8))[j]? =some v->w.cell? (ad.add j)=some v:=by
 classical
 have C:∀i,∃m:Int,i<n->Jn (f i)=UInt8.ofNat m.toNat/\w.cell? (ad.add i)=some (.int .u8 m):=λi=>by
  by_cases hi:i<n
  ·obtain⟨v,⟨m,rfl,J⟩,E⟩:=h i hi;exact⟨m,λ_=>⟨J,E⟩⟩
  ·exact⟨0,λh=>absurd h hi⟩
 refine⟨(List.range n).map λi=>Classical.choose (C i),by simp,?_,λj v q=>?_⟩
 ·unfold Fz;rw[List.map_map];apply List.map_congr_left;intro i hi;rw[List.mem_range]at hi;exact(Classical.choose_spec (C i) hi).1
 ·rw[List.map_map,List.getElem?_map]at q;cases B:(List.range n)[j]? with
  |none=>rw[B]at q;cases q
  |some i=>rw[B]at q;obtain⟨y,rfl⟩:=List.getElem?_eq_some_iff.1 B;injection q with q;subst q;simp only[List.length_range]at y;have:=(Classical.choose_spec (C j) y).2;simpa using this
theorem ug {E:Env} {F:Nat->Option Obj} {nx:Nat} {ρ:Af} {h:Nat->Option Ac} {w:World} {H:Tr Ac} (r:Rel E F nx ρ h w) (hs:HS ρ H h) {x:AV} {u:Value} {l:List UInt8} (R:VR ρ x u) (q:Ze H x=some (true,l)):gJ w u l:=by
 unfold Ze at q;split at q
 ·rename_i L;injection q with q;injection q with _ q;subst q;cases R with
  |bv _ b o cap cs el fz W ab hc=>
   refine .inr ⟨⟨b,o,none⟩,cap,L.map (λb=>(b.toNat:Int)),rfl,?_,λj v S=>?_⟩
   ·rw[List.map_map]
    conv=>lhs;rw[<-List.map_id L]
    apply List.map_congr_left;intro b _;simp
   ·rw[List.map_map,List.getElem?_map]at S;cases hr:L[j]? with
    |none=>rw[hr]at S;cases S
    |some b'=>rw[hr]at S;injection S with S;subst S;obtain⟨aa,rfl⟩:=List.getElem?_eq_some_iff.1 hr;have:=hc j aa;rw[show L.getD j 0=L[j] by simp[List.getD,aa]]at this;rw[Dk];exact fT r W this
  |Hz _ O base cap=>exact .inl ⟨base,cap,rfl,O⟩
 ·rename_i Ar n f;obtain⟨J,C⟩:=AK.1 q;rw[Nat.beq_eq]at J;subst J;injection C with C;injection C with C B;subst B;have y:=C;unfold VY at C;simp only[decide_eq_true_eq]at C;cases R with
  |vec _ _ _ b o cap cs el fz g W J ab hv hc=>
   obtain⟨ns,B,M,Z⟩:=Abv (w:=w) (ad:=⟨b,o,none⟩) y λi hi=>by obtain⟨m,V,U⟩:=nr (C i hi) (hv i hi);refine⟨.int .u8 m,⟨m,rfl,U⟩,?_⟩;have:=hc i hi 0 (.int .u8 m) (by rw[V];rfl);rw[Dk];exact fT r W (by simpa using this)
   have O:(Fz n f).length=n:=by simp[Fz]
   exact .inr ⟨⟨b,o,none⟩,cap,ns,by rw[O],M,Z⟩
  |G7 _ _ _ hn base cap=>subst hn;exact .inl ⟨base,cap,rfl,rfl⟩
 ·rename_i id n Ar;obtain⟨J,C⟩:=AK.1 q;rw[Nat.beq_eq]at J;subst J;obtain⟨o,ho,B⟩:=Ae.1 C;clear q C;split at B
  ·rename_i ai c z N op;split at B
   ·rename_i e f;obtain⟨J,M⟩:=AK.1 B;rw[Nat.beq_eq]at J;subst J;obtain⟨e1,e2,rfl⟩:=KW M;rw[Nat.ble_eq]at e1;have y:=e2;unfold VY at e2;simp only[decide_eq_true_eq]at e2;cases R with
    |AJ _ _ _ b hb _ O=>
     obtain⟨ns,Z,V,U⟩:=Abv (w:=w) (ad:=⟨b.b,b.ob,none⟩) y λi hi=>by
      have K:=e2 i hi;obtain⟨x,Y⟩:∃x,f i=[x]:=by
       unfold QO at K;split at K
       ·rename_i ag;exact⟨_,ag⟩
       ·cases K
      have h8:cellOf .leaf (.rows 1 f) i=some x:=by rw[FJ,PZ (i:=i) (j:=0) (by decide) i (by omega),Y];rfl
      obtain⟨v,hv,ae⟩:=cell_of r (hs _ _ ho (.inl ⟨b,hb⟩)) hb (k:=i) (by omega) h8;rw[Y]at K;obtain⟨m,h9,ah⟩:=nr K (.cons _ _ _ _ ae .nil);injection h9 with h9;refine⟨v,⟨m,h9,by rw[Y];exact ah⟩,?_⟩;rw[Dk];exact hv
     have af:(Fz n f).length=n:=by simp[Fz]
     exact .inr ⟨⟨b.b,b.ob,none⟩,_,ns,by rw[af],V,U⟩
    |G5 _ _ _ hn _=>subst hn;exact .inl ⟨_,_,rfl,rfl⟩
   ·cases B
  ·cases B
 ·injection q with q;injection q with _ q;subst q;cases R;exact .inl ⟨_,_,rfl,rfl⟩
 ·injection q with q;injection q with _ q;subst q;cases R;exact .inl ⟨_,_,rfl,rfl⟩
 ·obtain⟨l',O,C⟩:=Ae.1 q;obtain⟨y,B⟩:=AK.1 C;injection B with B;injection B with _ B;subst B;cases R with
  |sl _ _ n _ b hb=>obtain⟨vs,M,Z,V⟩:=H3 r hs hb O;obtain⟨ns,U,K⟩:=kg M y;subst U;exact .inr ⟨_,_,ns,by rw[List.length_map,M.length,Z],K,V⟩
 ·obtain⟨l',O,C⟩:=Ae.1 q;obtain⟨y,B⟩:=AK.1 C;injection B with B;injection B with _ B;subst B;cases R with
  |Bw _ _ n _ b hb _ _=>obtain⟨vs,M,Z,V⟩:=H3 r hs hb O;obtain⟨ns,U,K⟩:=kg M y;subst U;exact .inr ⟨_,_,ns,by rw[List.length_map,M.length,Z],K,V⟩
 ·cases q
theorem AdQ {P:Program} {w:World} {u:Value} {l:List UInt8} (h:gJ w u l) {q dst e:TypeId} (C:P.underlying q=some (.slice e)) (B:P.underlying dst=some .string) (K:P.underlying e=some (.int .u8)): (convert q dst u).run P w=.ok (.string ⟨l.toArray⟩) w:=by
 rcases h with⟨base,c,rfl,rfl⟩|⟨ad,c,ns,rfl,L,O⟩
 ·rw[run_convert_bytes_string w q dst e base 0 c C K B];cases base with
  |none=>simp[Conv.bytesToString];rfl
  |some ad=>have y:=run_loadCells_list (P:=P) (w:=w) ad [] (λj v M=>by simp at M);rw[run_bytesToString w ad 0 c [] y];rfl
 ·rw[run_convert_bytes_string w q dst e (some ad) l.length c C K B];have y:=run_loadCells_list (P:=P) w ad _ O;have E:(ns.map (Value.int .u8)).length=l.length:=by rw[L];simp
  rw[E]at y;rw[run_bytesToString w ad l.length c ns y,fold_push,<-L];have J:ByteArray.empty.data= #[]:=rfl;rw[J,Array.empty_append]
theorem AdP {P:Program} {w:World} {u:Value} {l:List UInt8} (h:gJ w u l):(Extern.Bytes.bytesOf u).run P w=.ok ⟨l.toArray⟩ w:=by
 rcases h with⟨base,c,rfl,rfl⟩|⟨ad,c,ns,rfl,y,C⟩
 ·cases base with
  |none=>rfl
  |some ad=>have:=ej (P:=P) w [] ad .empty (λj v B=>by simp at B);simpa[Extern.Bytes.bytesOf]using this
 ·have:=ej (P:=P) w ns ad .empty C;have q:ns.length=l.length:=by rw[y];simp
  rw[q,<-y]at this;simp only[Extern.Bytes.bytesOf];rw[this];congr 1;show(⟨#[]++l.toArray⟩:ByteArray)=_;rw[Array.empty_append]
def Abz (P:Program) (H:Tr Ac) (q dst:TypeId) (x:AV):SV:=ob (P.underlying q) λy=>ob (P.underlying dst) λd=>match d,x with
  |.int k,.int _ n=>some (Bo k n,.int k n)
  |.string,.bs l=>some (true,.bs l)
  |.string,x=>match y with
   |.slice e=>ob (P.underlying e) λde=>match de with
    |.int .u8=>ob (Ze H x) λp=>some (p.1,.bs p.2)
    |_=>none
   |_=>none
  |_,_=>none
theorem Anu {P:Program} {E:Env} {F:Nat->Option Obj} {nx:Nat} {ρ:Af} {h:Nat->Option Ac} {w:World} {H:Tr Ac} (r:Rel E F nx ρ h w) (S:HS ρ H h) {K dst:TypeId} {x a:AV} {u:Value} (M:VR ρ x u) (L:Abz P H K dst x=some (true,a)):∃z,(convert K dst u).run P w=.ok z w/\VR ρ a z:=by
 obtain⟨W,B,R⟩:=Ae.1 L;obtain⟨Y,C,q⟩:=Ae.1 R;clear L R;split at q
 ·injection q with q;injection q with q y;subst y;cases M;exact⟨_,by simp[convert,run_underlying B,run_underlying C,Conv.intToInt];rfl,by rw[Sc q];exact .int _ _⟩
 ·injection q with q;injection q with _ y;subst y;cases M;exact⟨_,by simp[convert,run_underlying B,run_underlying C],.bs _⟩
 ·split at q
  ·obtain⟨de,O,y⟩:=Ae.1 q;split at y
   ·obtain⟨⟨sd,l⟩,U,J⟩:=Ae.1 y;injection J with J;injection J with J V;subst V;simp only at J;subst J;exact⟨_,AdQ (ug r S M U) B C O,.bs _⟩
   ·cases y
  ·cases q
 ·cases q
mutual
def Hp (b:Bool):AV->AV->Option AV
 |.int k m,y=>match y with
  |.int C n=>gd (MU k C) (some (.int k (cond b m n)))
  |_=>none
 |.bool p,y=>match y with
  |.bool q=>some (.bool (cond b p q))
  |_=>none
 |.bs l,y=>ob (Oy y) λB=>some (.bs (cond b l B))
 |.str m n,y=>ob (Oy y) λB=>some (.bs (cond b (BC m n) B))
 |.agg l,y=>match y with
  |.agg B=>ob (Ov b l B) λr=>some (.agg r)
  |_=>none
 |.AL l,y=>match y with
  |.AL B=>ob (Ov b l B) λr=>some (.AL r)
  |_=>none
 |_,_=>none
def Ov (b:Bool):List AV->List AV->Option (List AV)
 | [],q=>match q with
  | []=>some []
  |_=>none
 |x::l,q=>match q with
  |y::m=>ob (Hp b x y) λa=>ob (Ov b l m) λr=>some (a::r)
  | []=>none
end
mutual
theorem XL {ρ:Af} (b:Bool):∀(x y r:AV) (v:Value),Hp b x y=some r->(b=true->VR ρ x v)->(b=false->VR ρ y v)->VR ρ r v
 |.int k m,y,r,v,h,E,hy=>by
  cases y<;>first|(simp[Hp]at h;done)|skip
  ·rw[Hp]at h;obtain⟨O,B⟩:=AK.1 h;have:=O3 O;subst this;injection B with B;subst B;cases b with
   |true=>exact E rfl
   |false=>exact hy rfl
 |.bool p,y,r,v,h,E,hy=>by
  cases y<;>first|(simp[Hp]at h;done)|skip
  ·rw[Hp]at h;injection h with h;subst h;cases b with
   |true=>exact E rfl
   |false=>exact hy rfl
 |.bs l,y,r,v,h,E,hy=>by
  rw[Hp]at h;obtain⟨K,M,B⟩:=Ae.1 h;injection B with B;subst B;cases b with
  |true=>exact E rfl
  |false=>rw[Mq (hy rfl) M];exact .bs _
 |.str m n,y,r,v,h,E,hy=>by
  rw[Hp]at h;obtain⟨K,M,B⟩:=Ae.1 h;injection B with B;subst B;cases b with
  |true=>rw[Mq (E rfl) rfl];exact .bs _
  |false=>rw[Mq (hy rfl) M];exact .bs _
 |.agg l,y,r,v,h,E,hy=>by
  cases y<;>first|(simp[Hp]at h;done)|skip
  ·rename_i K;rw[Hp]at h;obtain⟨q,L,B⟩:=Ae.1 h;injection B with B;subst B;obtain⟨vs,rfl⟩:∃vs:List Value,v=.agg vs.toArray:=by
    cases b with
    |true=>cases E rfl with|agg _ vs _=>exact⟨vs,rfl⟩
    |false=>cases hy rfl with|agg _ vs _=>exact⟨vs,rfl⟩
   refine .agg _ _ (sC b l K q vs L (λhb=>?_) λhb=>?_)
   ·have:=E hb;generalize hv:Value.agg vs.toArray=v at this;cases this with|agg _ C J=>injection hv with hv;rw[show vs=C by simpa using hv];exact J
   ·have:=hy hb;generalize hv:Value.agg vs.toArray=v at this;cases this with|agg _ C J=>injection hv with hv;rw[show vs=C by simpa using hv];exact J
 |.AL l,y,r,v,h,E,hy=>by
  cases y<;>first|(simp[Hp]at h;done)|skip
  ·rename_i K;rw[Hp]at h;obtain⟨q,L,B⟩:=Ae.1 h;injection B with B;subst B;obtain⟨vs,rfl⟩:∃vs:List Value,v=.tuple vs.toArray:=by
    cases b with
    |true=>cases E rfl with|AL _ vs _=>exact⟨vs,rfl⟩
    |false=>cases hy rfl with|AL _ vs _=>exact⟨vs,rfl⟩
   refine .AL _ _ (sC b l K q vs L (λhb=>?_) λhb=>?_)
   ·have:=E hb;generalize hv:Value.tuple vs.toArray=v at this;cases this with|AL _ C J=>injection hv with hv;rw[show vs=C by simpa using hv];exact J
   ·have:=hy hb;generalize hv:Value.tuple vs.toArray=v at this;cases this with|AL _ C J=>injection hv with hv;rw[show vs=C by simpa using hv];exact J
 |.Et,_,_,_,h,_,_|.ptr _ _,_,_,_,h,_,_|.As,_,_,_,h,_,_|.sl _ _ _ _,_,_,_,h,_,_|.Bw _ _ _ _,_,_,_,h,_,_|.sle _,_,_,_,h,_,_|.EZ,_,_,_,h,_,_
 |.map _,_,_,_,h,_,_|.fn _ _ _,_,_,_,h,_,_|.Gr,_,_,_,h,_,_|.Dr _,_,_,_,h,_,_|.iface _ _,_,_,_,h,_,_|.EF,_,_,_,h,_,_|.F8 _ _,_,_,_,h,_,_
 |.MH,_,_,_,h,_,_|.chan _,_,_,_,h,_,_|.bv _,_,_,_,h,_,_|.vec _ _ _,_,_,_,h,_,_|.pv _,_,_,_,h,_,_|.Gx _ _ _ _,_,_,_,h,_,_|.AJ _ _ _,_,_,_,h,_,_
 |.FN _ _ _,_,_,_,h,_,_=>by simp[Hp]at h
theorem sC {ρ:Af} (b:Bool):∀(x y r:List AV) (v:List Value),Ov b x y=some r->(b=true->AF ρ x v)->(b=false->AF ρ y v)->AF ρ r v
 | [],y,r,v,h,B,hy=>by
  cases y with
  |cons _ _=>simp[Ov]at h
  |nil=>
   rw[Ov]at h;injection h with h;subst h;cases b with
   |true=>exact B rfl
   |false=>exact hy rfl
 |x::l,y,r,v,h,B,hy=>by
  cases y with
  |nil=>simp[Ov]at h
  |cons y m=>
   rw[Ov]at h;obtain⟨a,J,K⟩:=Ae.1 h;obtain⟨q,E,C⟩:=Ae.1 K;injection C with C;subst C;obtain⟨u,vs,rfl⟩:∃u vs,v=u::vs:=by
    cases b with
    |true=>cases B rfl with|cons _ u _ vs _ _=>exact⟨u,vs,rfl⟩
    |false=>cases hy rfl with|cons _ u _ vs _ _=>exact⟨u,vs,rfl⟩
   refine .cons _ _ _ _ (XL b x y a u J (λhb=>?_) λhb=>?_) (sC b l m q vs E (λhb=>?_) λhb=>?_)
   ·cases B hb;assumption
   ·cases hy hb;assumption
   ·cases B hb;assumption
   ·cases hy hb;assumption
end
def NT (kd:TypeDesc) (k:AV):Option CN:=
 match kd,k with
 |.string,k=>ob (Oy k) λl=>some (.str l)
 |.int q,.int y n=>gd (MU q y) (some (.int n))
 |_,_=>none
theorem bX {ρ:Af} {kd:TypeDesc} {k:AV} {s:CN} {u:Value} (y:VR ρ k u) (h:NT kd k=some s):KR kd s u:=by
 unfold NT at h;split at h
 ·obtain⟨l,C,q⟩:=Ae.1 h;injection q with q;subst q;rw[Mq y C];exact .str _
 ·obtain⟨B,q⟩:=AK.1 h;have:=O3 B;subst this;injection q with q;subst q;cases y;exact .int _ _
 ·cases h
def QA (a b:CN):Option Bool:=match a,b with
 |.str l,.str q=>some (decide (l=q))
 |.int n,.int m=>some (Ak n m)
 |_,_=>none
theorem we {kd:TypeDesc} {a b:CN} {u v:Value} {q:Bool} (B:KR kd a u) (hb:KR kd b v) (h:QA a b=some q):Instr.sameNow kd u v=some q:=by
 cases B<;>cases hb
 ·injection h with h;subst h;rename_i l y;have:((⟨l.toArray⟩:ByteArray)==⟨y.toArray⟩)=decide (l=y):=by rw[beq_toListBytes,toList_mk,toList_mk];by_cases h:l=y<;>simp[h]
  simp[Instr.sameNow,this]
 ·injection h with h;subst h;simp[Instr.sameNow,Dt]
def P0 (kd:TypeDesc) (k:CN) (z:AV) (B:List DJ):Option (Bool×AV):=List.rec (motive:=λ_=>Option (Bool×AV)) (some (false,z)) (λe _ y=>ob (NT kd e.key) λs=>ob (QA k s) λq=>ob y λp=>ob (Hp q e.val p.2) λm=>some (cond q true p.1,m)) B
theorem rp {ρ:Af} {kd:TypeDesc} {k:CN} {z:AV} {u B:Value} (K:KR kd k u) (hz:VR ρ z B):∀ {y:List DJ} {l:List MapEntry},Ek ρ y l->∀(i:Nat) (p:Bool×AV),P0 kd k z y=some p->∃v,VR ρ p.2 v/\(if p.1 then∃j,Instr.findNow kd u l i=some (some (j,v))else Instr.findNow kd u l i=some none/\v=B)
 |_,_,.nil,i,p,h=>by injection h with h;subst h;exact⟨B,hz,by simp[Instr.findNow]⟩
 |_,_,.cons e m y l L R,i,p,h=>by
  obtain⟨s,E,Z⟩:=Ae.1 (show(ob (NT kd e.key) λs=>ob (QA k s) λq=>ob (P0 kd k z y) λp=>ob (Hp q e.val p.2) λm=>some (cond q true p.1,m))=some p from h);obtain⟨q,S,Y⟩:=Ae.1 Z;obtain⟨O,J,W⟩:=Ae.1 Y;obtain⟨a,M,C⟩:=Ae.1 W;injection C with C;subst C;have hn:=we K (bX L.1 E) S;obtain⟨v,V,U⟩:=rp K hz R (i+1) O J;cases q with
  |true=>refine⟨m.val,XL true _ _ _ _ M (λ_=>L.2.1) (λh=>by cases h),?_⟩;simp[Instr.findNow,hn]
  |false=>refine⟨v,XL false _ _ _ _ M (λh=>by cases h) (λ_=>V),?_⟩;simp only[cond_false];simpa[Instr.findNow,hn]using U
def oD (has:CN->Bool) (kd:TypeDesc) (k:CN):Bool:=match kd,k with
 |.string,.str _=>!has (.int fG)
 |.int q,.int n=>cond (has (.int (fF q))) (AP n fG) false
 |_,_=>false
theorem Agu {has:CN->Bool} {kd:TypeDesc} {k:CN} (h:oD has kd k=true):QS has kd k:=by
 unfold oD at h;unfold QS;split at h
 ·simpa using h
 ·rename_i n;obtain⟨y,q⟩:=A4 h;rw[EG]at q;exact⟨y,by simpa using q⟩
 ·cases h
def sA (P:Program) (H:Tr Ac) (t:TypeId) (m k:AV) (ok:Bool):SV:=
 match m,k with
 |.map _,.str _ _=>none
 |m,k=>ob (P.underlying t) λd=>match d with
  |.map key q=>ob (P.underlying key) λkd=>gd (WJ kd) (ob (NT kd k) λs=>ob (Sd P q) λz=>match m with
   |.FN has val y=>gd (Cr z y) (some (oD has kd s,cond ok (.AL [val s,.bool (has s)]) (val s)))
   |.map id=>ob (H.get id) λo=>match o with
    |.map es _=>ob (P0 kd s z es) λp=>some (true,cond ok (.AL [p.2,.bool p.1]) p.2)
    |_=>none
   |_=>none)
  |_=>none
theorem AnI {P:Program} {E:Env} {F:Nat->Option Obj} {nx:Nat} {ρ:Af} {h:Nat->Option Ac} {w:World} {H:Tr Ac} (r:Rel E F nx ρ h w) (hs:HS ρ H h) {t:TypeId} {m k a:AV} {ok:Bool} {u v:Value} (hm:VR ρ m u) (hk:VR ρ k v) (C:sA P H t m k ok=some (true,a)):∃z,(Instr.lookup t u v ok).run P w=.ok z w/\VR ρ a z:=by
 unfold sA at C;split at C
 ·cases C
 obtain⟨d,hd,h1⟩:=Ae.1 C;clear C;split at h1
 ·rename_i key ah;obtain⟨kd,B,h2⟩:=Ae.1 h1;obtain⟨ag,h3⟩:=AK.1 h2;obtain⟨s,ae,h4⟩:=Ae.1 h3;obtain⟨z,hz,Z⟩:=Ae.1 h4;clear h1 h2 h3 h4;have S:=bX hk ae;obtain⟨zv,U,V⟩:=Sf hz w;have L:=λe=>Zq (P:=P) B ag e 9999 v w;have fin:∀(b:Nat) (R:Array MapEntry) (y:Nat) (has:Bool) (val:AV),w.heap[b]? =some (.map R y)-> (∃q,VR ρ val q/\(if has then∃j,Instr.findNow kd v R.toList 0=some (some (j,q))else Instr.findNow kd v R.toList 0=some none/\q=zv))-> ∃z,(Instr.lookup t (.map (some b)) v ok).run P w=.ok z w/\VR ρ (cond ok (.AL [val,.bool has]) val) z:=by
   intro b R y has val hb ⟨q,Y,M⟩;cases has with
   |true=>
    obtain⟨j,M⟩:=M;cases ok with
    |true=>refine⟨.tuple #[q,.bool true],?_,.AL _ [q,.bool true] (.cons _ _ _ _ Y (.cons _ _ _ _ (.bool true) .nil))⟩;simp[Instr.lookup,run_underlying hd,L,Instr.findKey,run_underlying B,M,getObj,Sem.run,hb]
    |false=>refine⟨q,?_,Y⟩;simp[Instr.lookup,run_underlying hd,L,Instr.findKey,run_underlying B,M,getObj,Sem.run,hb]
   |false=>
    obtain⟨M,rfl⟩:=M;cases ok with
    |true=>refine⟨.tuple #[q,.bool false],?_,.AL _ [q,.bool false] (.cons _ _ _ _ Y (.cons _ _ _ _ (.bool false) .nil))⟩;simp[Instr.lookup,run_underlying hd,L,Instr.findKey,run_underlying B,M,getObj,Sem.run,hb,U]
    |false=>refine⟨q,?_,Y⟩;simp[Instr.lookup,run_underlying hd,L,Instr.findKey,run_underlying B,M,getObj,Sem.run,hb,U]
  split at Z
  ·rename_i has val z' _;obtain⟨aa,J⟩:=AK.1 Z;have:=SM _ _ aa;subst this;injection J with J;injection J with O J;subst J;have W:=Agu O;cases hm with
   |FN _ _ _ b R y g ad hn hy ab hg=>
    refine fin b R y (has s) (val s) (r.st _ _ ad) ?_;cases K:has s with
    |true=>obtain⟨j,hj⟩:=hy kd s v S W K;exact⟨g s,hg s K,by simpa using⟨j,hj⟩⟩
    |false=>exact⟨zv,Apx (ab s K) (V ρ),by simpa using hn kd s v S W K⟩
  ·obtain⟨o,ho,J⟩:=Ae.1 Z;split at J
   ·rename_i R y;obtain⟨p,hp,O⟩:=Ae.1 J;injection O with O;injection O with _ O;subst O;cases hm with
    |map _ b hb=>
     obtain⟨c,hc,af⟩:=r.ob _ _ b (hs _ _ ho (.inl ⟨b,hb⟩)) hb;cases af with
     |map _ _ l hl=>obtain⟨q,h8,h9⟩:=rp S (V ρ) hl 0 p hp;exact fin b.b _ _ p.1 p.2 hc ⟨q,h8,h9⟩
   ·cases J
  ·cases Z
 ·cases h1
def Acu (H:Tr Ac) (x:AV):Option (Bool×List UInt8):=
 match x with
 |.str m n=>some (true,BC m n)
 |.bs l=>some (true,l)
 |x=>Ze H x
def rm (P:Program) (H:Tr Ac) (f:AV) (xs:List AV):SV:=
 match f with
 | .fn (.func g) [] [] => ob (P.funcs[g]?) fun fn => gd fn.body.isNone (gd (fn.origin == "") (match xs with
  | [b,.int .u8 c]=>ob (Acu H b) λp=>fN (OX fn.name) λk=>cond (Nat.beq k 1) (some (cond p.1 (Bo .u8 c) false,Jw (Lib.countByte p.2 (UInt8.ofNat c.toNat))))
    (gd (Nat.beq k 2) (some (cond p.1 (Bo .u8 c) false,.int .i64 (Lib.indexByte p.2 (UInt8.ofNat c.toNat)))))
  |_=>none))
 |_=>none
theorem Anw {P:Program} {E:Env} {F:Nat->Option Obj} {nx:Nat} {ρ:Af} {h:Nat->Option Ac} {w:World} {H:Tr Ac} (r:Rel E F nx ρ h w) (hs:HS ρ H h) {f:AV} {xs:List AV} {a:AV} {us:List Value} (hx:AF ρ xs us) (hev:rm P H f xs=some (true,a)):∃g,f=.fn (.func g) [] []/\∃v,(callFunc g us.toArray).run P w=.ok (.value v) w/\VR ρ a v:=by
 unfold rm at hev;split at hev
 ·rename_i g;obtain⟨fn,hfn,h1⟩:=Ae.1 hev;obtain⟨hb,h2⟩:=AK.1 h1;obtain⟨ho,h3⟩:=AK.1 h2
  have ho' : fn.origin = "" := by simpa using ho
  refine⟨g,rfl,?_⟩;split at h3
  ·rename_i b c;obtain⟨⟨sd,l⟩,hbs,h5⟩:=Ae.1 h3;simp only[Bu]at h5;cases hx with
   |cons _ u1 _ us1 hu1 hus1=>cases hus1 with
    |cons _ u2 _ us2 hu2 hus2=>
     cases hus2;cases hu2;have hby:sd=true->(Extern.Bytes.bytesOf u1).run P w=.ok ⟨l.toArray⟩ w:=λhsd=>by
      subst hsd;unfold Acu at hbs;split at hbs
      ·injection hbs with hbs;injection hbs with _ hbs;subst hbs;cases hu1;rfl
      ·injection hbs with hbs;injection hbs with _ hbs;subst hbs;cases hu1;rfl
      ·exact AdP (ug r hs hu1 hbs)
     have hst:(Extern.Bytes.bytesOf (.string ⟨l.toArray⟩)).run P w=.ok ⟨l.toArray⟩ w:=rfl;have hu8:∀c:Int,c.toNat.toUInt8=UInt8.ofNat c.toNat:=λ_=>rfl;cases hk:Nat.beq (OX fn.name) 1 with
     |true=>
      rw[hk,cond_true]at h5;obtain⟨e0,_,rfl⟩:=KW h5;have hby:=hby e0;obtain⟨e1,e2,e3⟩:=xL ho' (Nat.eq_of_beq_eq_true hk);refine⟨_,?_,.int _ _⟩;rw[run_callFunc_extern hfn e3 hb e1 e2];have hs0:=Lib.run_countString (P:=P) ⟨l.toArray⟩ c w;have hrun:(Extern.BytealgCount.count #[u1,.int .u8 c]).run P w=(Extern.BytealgCount.count #[.string ⟨l.toArray⟩,.int .u8 c]).run P w:=by
       change Sem.run P (do
        let b<-Extern.Bytes.bytesOf u1;let c'<-Extern.Bytes.asByte (.int .u8 c)
        pure (goInt (b.foldl (λn x=>if x==c' then n+1 else n) (0:Nat)))) w=Sem.run P (do
        let b<-Extern.Bytes.bytesOf (.string ⟨l.toArray⟩);let c'<-Extern.Bytes.asByte (.int .u8 c)
        pure (goInt (b.foldl (λn x=>if x==c' then n+1 else n) (0:Nat)))) w
       simp only[Sem.run_bind,hby,hst]
      rw[show [u1,Value.int .u8 c].toArray= #[u1,.int .u8 c]from rfl,hrun,hs0];rfl
     |false=>
      rw[hk,cond_false]at h5;obtain⟨hk2,h6⟩:=AK.1 h5;obtain⟨e0,_,rfl⟩:=KW h6;have hby:=hby e0;obtain⟨e1,e2,e3⟩:=xM ho' (Nat.eq_of_beq_eq_true hk2);refine⟨_,?_,.int _ _⟩;rw[run_callFunc_extern hfn e3 hb e1 e2];have hs0:=Lib.run_indexByteString (P:=P) ⟨l.toArray⟩ c w;have hrun:(Extern.BytealgIndexByte.indexByte #[u1,.int .u8 c]).run P w=(Extern.BytealgIndexByte.indexByte #[.string ⟨l.toArray⟩,.int .u8 c]).run P w:=by
       change Sem.run P (do
        let b<-Extern.Bytes.bytesOf u1;let c'<-Extern.Bytes.asByte (.int .u8 c)
        match(List.range b.size).find? λi=>b[i]! ==c' with
        |some i=>pure (goInt i)
        |none=>pure (goInt (-1))) w=Sem.run P (do
        let b<-Extern.Bytes.bytesOf (.string ⟨l.toArray⟩);let c'<-Extern.Bytes.asByte (.int .u8 c)
        match(List.range b.size).find? λi=>b[i]! ==c' with
        |some i=>pure (goInt i)
        |none=>pure (goInt (-1))) w
       simp only[Sem.run_bind,hby,hst]
      rw[show [u1,Value.int .u8 c].toArray= #[u1,.int .u8 c]from rfl,hrun,hs0];rfl
  ·cases h3
 ·cases hev
end Go.Ev
end
section
/- The symbolic layer, part D: all operations that read at most; new blocks. -/
namespace Go.Ev
def AbI (x:AV):SV:=match x with
 |.pv cs=>some (true,.pv cs)
 |.Gx id Ar i j=>some (true,.Gx id Ar i j)
 |_=>none
def sUn (op:UnOp) (x:AV):SV:=match op,x with
 |.neg,.int k n=>some (Bo k (0-n),.int k (0-n))
 |_,_=>none
def sBi (P:Program) (b:Builtin) (y:List TypeId) (q:List AV):SV:=
 match b with
 |.len=>ob (y[0]?) λt=>ob (q[0]?) λx=>AbG P t x
 |_=>none
def HP (P:Program) (H:Tr Ac) (X:Operand->Option AV) (op:Op):SV:=
 match op with
 |.pick c a b=>ob (X c) λv=>match v with
  |.bool t=>ob (X a) λx=>ob (X b) λy=>ob (Hp t x y) λm=>some (true,m)
  |_=>none
 |.load t a=>ob (X a) λx=>rz P H t x
 |.nilCheck x=>ob (X x) AbI
 |.binOp op t x y _=>ob (X x) λa=>ob (X y) λb=>Aby P op t (Ld x) (Ld y) a b
 |.unOp op _ x=>ob (X x) λa=>sUn op a
 |.convert s d x=>ob (X x) λa=>Abz P H s d a
 |.slice t x lo hi mx=>ob (X x) λa=>XM P X t a lo hi mx
 |.fieldAddr t x f=>ob (X x) λa=>AbB P t a f
 |.indexAddr t x i=>ob (X x) λa=>ob (X i) λb=>ru P t a b
 |.index t x i=>ob (X x) λa=>ob (X i) λb=>rq P t a b
 |.lookup t x i ok=>ob (X x) λa=>ob (X i) λb=>sA P H t a b ok
 |.call c=>match c.callee with
  |.builtin b=>ob (F3 X c.args.toList) λq=>sBi P b c.argTypes.toList q
  |.value f=>ob (X f) λB=>ob (F3 X c.args.toList) λq=>rm P H B q
  |_=>none
 |_=>none
def Dl (P:Program) (H:Tr Ac) (X:Operand->Option AV) (op:Op):Option AV:=Option.rec (motive:=λ_=>Option AV) (Hd P H X op) (λr=>cond r.1 (some r.2) (Hd P H X op)) (HP P H X op)
theorem sD {P:Program} {H:Tr Ac} {X:Operand->Option AV} {op:Op} {a:AV} (h:HP P H X op=some (true,a)):Dl P H X op=some a:=by unfold Dl;rw[h];rfl
theorem Xc {P:Program} {H:Tr Ac} {X:Operand->Option AV} {op:Op} {a:AV} (h:HP P H X op=none) (q:Hd P H X op=some a):Dl P H X op=some a:=by unfold Dl;rw[h];exact q
theorem AnM {P:Program} {E:Env} {F:Nat->Option Obj} {nx:Nat} {ρ:Af} {h:Nat->Option Ac} {w:World} {H:Tr Ac} (r:Rel E F nx ρ h w) (W:HS ρ H h) {X:Operand->Option AV} {f:Operand->Value} (K:XR ρ X f) (o:Oper) {a:AV} (B:HP P H X o.op=some (true,a)): ∃v,(execOp f o).run P w=.ok (.value v) w/\VR ρ a v:=by
 obtain⟨dst,op,type,pos,after,guard⟩:=o;simp only at B;cases op<;>simp only[HP]at B<;>first|(cases B;done)|skip
 case pick c x y=>
  obtain⟨v,hv,q⟩:=Ae.1 B;have hc:=K _ _ hv;split at q
  ·rename_i t;obtain⟨xa,ad,L⟩:=Ae.1 q;obtain⟨ya,aa,J⟩:=Ae.1 L;obtain⟨m,hm,C⟩:=Ae.1 J;injection C with C;injection C with _ C;subst C;generalize V:f c=u at hc;cases hc;cases t
   ·exact⟨f y,by simp[execOp,V,asBool],XL false _ _ _ _ hm (λh=>by cases h) λ_=>K _ _ aa⟩
   ·exact⟨f x,by simp[execOp,V,asBool],XL true _ _ _ _ hm (λ_=>K _ _ ad) λh=>by cases h⟩
  ·cases q
 case load t x=>
  obtain⟨v,hv,q⟩:=Ae.1 B;obtain⟨z,L,J⟩:=AnH (P:=P) r W (K _ _ hv) q;exact⟨z,C9 L,J⟩
 case nilCheck x=>
  obtain⟨v,hv,q⟩:=Ae.1 B;have hc:=K _ _ hv;unfold AbI at q;split at q
  ·injection q with q;injection q with _ q;subst q;refine⟨f x,?_,hc⟩;generalize R:f x=u at hc;cases hc;simp[execOp,R]
  ·injection q with q;injection q with _ q;subst q;refine⟨f x,?_,hc⟩;generalize R:f x=u at hc;cases hc;simp[execOp,R]
  ·cases q
 case binOp op t x y yt=>
  obtain⟨v,hv,q⟩:=Ae.1 B;obtain⟨Z,M,L⟩:=Ae.1 q;obtain⟨z,J,C⟩:=Ant (P:=P) (K _ _ hv) (K _ _ M) L w;exact⟨z,C9 J,C⟩
 case unOp op t x=>
  obtain⟨v,hv,q⟩:=Ae.1 B;have hc:=K _ _ hv;unfold sUn at q;split at q
  ·rename_i k n;injection q with q;injection q with q L;subst L;obtain⟨z,J,C⟩:=xK (P:=P) (op:=.neg) (x:=.int k n) (r:=.int k (0-n)) (by simp only[ZX,MM,X6];rw[Sc q]) hc w;exact⟨z,C9 J,C⟩
  ·cases q
 case convert s d x=>
  obtain⟨v,hv,q⟩:=Ae.1 B;obtain⟨z,J,C⟩:=Anu (P:=P) r W (K _ _ hv) q;exact⟨z,C9 J,C⟩
 case slice t x lo hi mx=>
  obtain⟨v,hv,q⟩:=Ae.1 B;obtain⟨z,J,C⟩:=AnO (P:=P) K (K _ _ hv) q w;exact⟨z,C9 J,C⟩
 case fieldAddr t x i=>
  obtain⟨v,hv,q⟩:=Ae.1 B;obtain⟨z,J,C⟩:=Anz (P:=P) (K _ _ hv) q w;exact⟨z,C9 J,C⟩
 case indexAddr t x i=>
  obtain⟨v,hv,q⟩:=Ae.1 B;obtain⟨Z,M,L⟩:=Ae.1 q;obtain⟨z,J,C⟩:=AnC (P:=P) (K _ _ hv) (K _ _ M) L w;exact⟨z,C9 J,C⟩
 case index t x i=>
  obtain⟨v,hv,q⟩:=Ae.1 B;obtain⟨Z,M,L⟩:=Ae.1 q;obtain⟨z,J,C⟩:=AnD (P:=P) (K _ _ hv) (K _ _ M) L w;exact⟨z,C9 J,C⟩
 case lookup t x i ok=>
  obtain⟨v,hv,q⟩:=Ae.1 B;obtain⟨Z,M,L⟩:=Ae.1 q;obtain⟨z,J,C⟩:=AnI (P:=P) r W (K _ _ hv) (K _ _ M) L;exact⟨z,C9 J,C⟩
 case call c=>
  obtain⟨Y,args,O⟩:=c;simp only at B;split at B
  ·rename_i b;obtain⟨xs,S,q⟩:=Ae.1 B;have ab:=Jl K S;unfold sBi at q;split at q
   ·obtain⟨t,ht,L⟩:=Ae.1 q;obtain⟨x,hx,J⟩:=Ae.1 L;obtain⟨u,hu,ae⟩:=ab.get _ _ hx;obtain⟨z,C,h5⟩:=AnG (P:=P) (w:=w) ae J O (args.map f) type (by rw[<-Array.getElem?_toList];exact ht) (by rw[<-Array.getElem?_toList,Array.toList_map];exact hu);refine⟨z,?_,h5⟩;simp only[execOp,resolve,Sem.run_bind,Sem.run_pure,Result.andThen_ok,invoke];exact C9 C
   ·cases q
  ·rename_i g;obtain⟨fv,af,h0⟩:=Ae.1 B;obtain⟨xs,S,q⟩:=Ae.1 h0;obtain⟨k,hk,v,L,J⟩:=Anw (P:=P) r W (Jl K S) q;subst hk;refine⟨v,?_,J⟩;have R:f g=.func (.func k) #[] #[]:=by
    have:=K _ _ af;generalize f g=u at this;cases this with
    |fn _ _ _ va vc ha hc=>cases ha;cases hc;rfl
   have U:(args.toList.map f).toArray=args.map f:=by rw[map_toArray]
   rw[U]at L;simp only[execOp,resolve,R,Deferred.ofValue,Sem.run_bind,Sem.run_pure,Result.andThen_ok,invoke,Array.append_empty,Array.empty_append];exact L
  ·cases B
theorem ml {P:Program} {E:Env} {F:Nat->Option Obj} {nx:Nat} {ρ:Af} {h:Nat->Option Ac} {w:World} {H:Tr Ac} (r:Rel E F nx ρ h w) (B:HS ρ H h) {X:Operand->Option AV} {f:Operand->Value} (C:XR ρ X f) (o:Oper) {a:AV} (q:Dl P H X o.op=some a): ∃v,(execOp f o).run P w=.ok (.value v) w/\VR ρ a v:=by
 cases y:HP P H X o.op with
 |none=>
  have J:Dl P H X o.op=Hd P H X o.op:=by unfold Dl;rw[y]
  rw[J]at q;exact xH r B C o q
 |some p=>
  obtain⟨b,K⟩:=p;have J:Dl P H X o.op=cond b (some K) (Hd P H X o.op):=by unfold Dl;rw[y]
  rw[J]at q;cases b with
  |true=>injection q with q;subst q;exact AnM r B C o y
  |false=>exact xH r B C o q
def HW (l:List UInt8):Nat->List AV:=λi=>[.int .u8 ((l.getD i 0).toNat:Int)]
def Jh (P:Program) (X:Operand->Option AV) (ni:Nat) (op:Op):Option (Bool×AV×Ac):=
 match op with
 |.makeSlice t l c=>ob (X l) λl=>ob (X c) λc=>match l,c with
  |.int _ n,.int _ m=>ob (P.underlying t) λd=>match d with
   |.slice el=>ob (P.info? el) λi=>ob (Vt P el) λcs=>gd (Nat.blt 0 cs.length&&Nat.beq cs.length i.size)
     (some (decide (0<=n/\n<=m/\m<=9223372036854775807/\i.bytes*m<=281474976710656),.AJ ni n.toNat i.size,.cells el .leaf (.rows i.size λ_=>cs) (n.toNat*i.size) true))
   |_=>none
  |_,_=>none
 |.convert s t x=>ob (X x) λv=>match v with
  |.bs l=>ob (P.underlying s) λ_=>ob (P.underlying t) λd=>match d with
   |.slice el=>ob (P.underlying el) λde=>match de with
    |.int .u8=>some (decide (l.length<=140737488355328),.AJ ni l.length 1,.cells el .leaf (.rows 1 (HW l)) l.length true)
    |_=>none
   |_=>none
  |_=>none
 |_=>none
def EE (P:Program) (X:Operand->Option AV) (ni:Nat) (op:Op):Option (AV×Ac):=Option.rec (motive:=λ_=>Option (AV×Ac)) (It P X ni op) (λr=>cond r.1 (some r.2) (It P X ni op)) (Jh P X ni op)
theorem AbH {P:Program} {X:Operand->Option AV} {ni:Nat} {op:Op} {a:AV×Ac} (h:Jh P X ni op=some (true,a)):EE P X ni op=some a:=by unfold EE;rw[h];rfl
theorem Aal {P:Program} {X:Operand->Option AV} {ni:Nat} {op:Op} {a:AV×Ac} (h:Jh P X ni op=none) (q:It P X ni op=some a):EE P X ni op=some a:=by unfold EE;rw[h];exact q
theorem AnK {P:Program} {ρ:Af} {w:World} {X:Operand->Option AV} {f:Operand->Value} (hX:XR ρ X f) {ni:Nat} (o:Oper) {a:AV} {U:Ac} (C:Jh P X ni o.op=some (true,a,U)):gP P w ρ ni (execOp f o) a U:=by
 obtain⟨dst,op,type,pos,after,guard⟩:=o;simp only at C;cases op<;>simp only[Jh]at C<;>first|(cases C;done)|skip
 case makeSlice t l c=>
  obtain⟨lv,aj,J⟩:=Ae.1 C;obtain⟨cv,ar,K⟩:=Ae.1 J;clear C J;have rl:=hX _ _ aj;have rc:=hX _ _ ar;split at K
  ·rename_i kl n km m;obtain⟨d,hd,E⟩:=Ae.1 K;clear K;generalize Z:f l=vl at rl;generalize aa:f c=vc at rc;cases rl;cases rc;cases d with
   |slice el=>
    obtain⟨i,hi,h6⟩:=Ae.1 E;obtain⟨cs,au,h8⟩:=Ae.1 h6;obtain⟨hz,h9⟩:=AK.1 h8;clear E h6 h8;injection h9 with h9;injection h9 with hb S;injection S with S aw;subst S;subst aw;simp only[decide_eq_true_eq]at hb;obtain⟨aC,aB,aA,az⟩:=hb;rw[Bool.and_eq_true,Nat.blt_eq,Nat.beq_eq]at hz;obtain⟨z,af,hr⟩:=gI (P:=P) au (w:World);have V:z.cells.size=i.size:=by have:=(hr ρ).length;simp at this;omega
    obtain⟨M,rfl⟩:∃q:Nat,n=q:=⟨n.toNat,by omega⟩;obtain⟨B,rfl⟩:∃q:Nat,m=q:=⟨m.toNat,by omega⟩;rw[Int.toNat_natCast];have Y:M*i.size<=B*i.size:=Nat.mul_le_mul_right _ (by omega);refine⟨.slice (some ⟨w.heap.size,0,none⟩) M B,w,.cells ((Array.range (B*i.size)).map (λj=>z.cells[j %z.cells.size]!)) el,B*i.size,?_,.inl rfl,?_,?_⟩
    ·refine C9 ?_;have e1:IntKind.i64.wrap (M:Int)=M:=wrap_i64 (by omega) (by omega);have e2:IntKind.i64.wrap (B:Int)=B:=wrap_i64 (by omega) (by omega);have e3:¬((i.bytes:Int)*(B:Int)>281474976710656):=by omega
     have e4:¬((M:Int)>(B:Int)):=by omega
     have ab:P.cellsOf el=i.size:=by simp[Program.cellsOf,hi]
     have e5:¬((B:Int)<0\/(M:Int)<0):=by omega
     by_cases hn:B*i.size=0
     ·have ai:∀g:Nat->Value,(Array.range (B*i.size)).map g= #[]:=λg=>by rw[hn];simp
      rw[ai];have ah:∀g:Nat->Value,(Array.range 0).map g= #[]:=λg=>by simp
      simp[Instr.makeSlice,run_underlying hd,Z,aa,asInt,asIntOf,run_typeInfo w hi,e1,e2,e3,e4,e5,run_sizeOf w hi,ab,hn,newRow,ah]
     ·simp[Instr.makeSlice,run_underlying hd,Z,aa,asInt,asIntOf,run_typeInfo w hi,e1,e2,e3,e4,e5,run_sizeOf w hi,ab,hn,af,newRow]
    ·have W:=OR.AaD (b:=w.heap.size) (hr (ρ.put ni ⟨w.heap.size,0,B*i.size⟩)) el (B*i.size) (.inr hz.1);generalize ay:Obj.cells ((Array.range (B*i.size)).map (λj=>z.cells[j %z.cells.size]!)) el=co at W;cases W with
     |cells _ _ _ _ _ cs' fz J K h3 R E=>refine .cells el .leaf (.rows i.size λ_=>cs) _ true cs' fz J Y (by simp) R λk a hk O=>E k a (by omega) ?_;rw[FJ]at O⊢;show cs[k %cs.length]? =some a;rw[hz.2];exact O
    ·have:=VR.AJ (ρ:=ρ.put ni ⟨w.heap.size,0,B*i.size⟩) ni M i.size ⟨w.heap.size,0,B*i.size⟩ (Af.Fx _ _ _) (by omega) Y;simp only[Nat.mul_div_cancel B (show 0<i.size by omega)]at this;exact this
   |_=>cases E
  ·cases K
 case convert s t x=>
  obtain⟨v,hv,J⟩:=Ae.1 C;clear C;have hc:=hX _ _ hv;split at J
  ·rename_i l;obtain⟨ds,ao,K⟩:=Ae.1 J;obtain⟨dt,an,h3⟩:=Ae.1 K;clear J K;split at h3
   ·rename_i el;obtain⟨de,aq,R⟩:=Ae.1 h3;split at R
    ·injection R with R;injection R with hb E;injection E with E h6;subst E;subst h6;simp only[decide_eq_true_eq]at hb;generalize ak:f x=vx at hc;cases hc;let cap:=Question.cut (.appendCap l.length 0 el) (w.tape w.drawn (.appendCap l.length 0 el));have L:l.length<=cap:=by show l.length<=l.length+_;omega
     let y:Array Value:=(l.toArray.map λb=>Value.int .u8 b.toNat)++Array.replicate (cap-l.length) (.int .u8 0);have C0:y.size=cap:=by simp[y];omega
     refine⟨.slice (some ⟨w.heap.size,0,none⟩) l.length cap,w.drew,.cells y el (y.size,y.size+1),cap,?_,.inr rfl,?_,?_⟩
     ·refine C9 ?_;have V:(ByteArray.mk l.toArray).size=l.length:=by show l.toArray.size=_;simp
      have av:(choose (.appendCap l.length 0 el)).run P w=.ok cap w.drew:=by simp[Question.forced,cap]
      have al:=uY w.drew y el;have ae:(Conv.stringToBytes el ⟨l.toArray⟩).run P w=.ok (.slice (some ⟨w.heap.size,0,none⟩) l.length cap) (w.drew.alloc (.cells y el (y.size,y.size+1))):=by rw[<-al];unfold Conv.stringToBytes;rw[V];simp only[Sem.run_bind,av,Result.andThen_ok];have ag:=Ab4 w.drew y el;simp only[newRow,Sem.run_bind,run_newObj,Result.andThen_ok,Sem.run_pure,markStringish,run_shape];have ad:World.shape? {w.drew with heap:=w.drew.heap.push (.cells y el)} w.drew.heap.size=some (el,y.size):=ag;rw[ad];rfl
      rw[ak];simp only[convert,Sem.run_bind,run_underlying ao,run_underlying an,Result.andThen_ok,run_underlying aq];cases ds<;>simp[ae]
     ·refine .cells el .leaf (.rows 1 (HW l)) l.length true y (y.size,y.size+1) (by simp[C0]) L (by simp) (.inr (Nat.le_refl _)) λk a hk O=>?_;rw[FJ,PZ (i:=k) (j:=0) (by decide) k (by omega)]at O;injection O with O;subst O;refine⟨_,?_,.int _ _⟩;simp only[Nat.zero_add];show((l.toArray.map λb=>Value.int .u8 b.toNat)++Array.replicate (cap-l.length) (.int .u8 0))[k]? =_;rw[Array.getElem?_append,if_pos (by simpa using hk)];simp[List.getD,hk]
     ·have:=VR.AJ (ρ:=ρ.put ni ⟨w.heap.size,0,cap⟩) ni l.length 1 ⟨w.heap.size,0,cap⟩ (Af.Fx _ _ _) (by decide) (by simpa using L);simpa using this
    ·cases R
   ·cases h3
  ·cases J
theorem mg {P:Program} {ρ:Af} {w:World} {X:Operand->Option AV} {f:Operand->Value} (E:XR ρ X f) {ni:Nat} (C:ρ ni=none) (o:Oper) {a:AV} {B:Ac} (q:EE P X ni o.op=some (a,B)):gP P w ρ ni (execOp f o) a B:=by
 cases y:Jh P X ni o.op with
 |none=>
  have J:EE P X ni o.op=It P X ni o.op:=by unfold EE;rw[y]
  rw[J]at q;exact xE E C o q
 |some p=>
  obtain⟨b,K⟩:=p;have J:EE P X ni o.op=cond b (some K) (It P X ni o.op):=by unfold EE;rw[y]
  rw[J]at q;cases b with
  |true=>injection q with q;subst q;exact AnK E o y
  |false=>exact xE E C o q
end Go.Ev
end
section
/- The evaluator, part H: operations that write: stores, entries of maps, append, copy, delete. -/
namespace Go.Ev
def AdC (P:Program) (s:Sem Next) (w:World) (v:Value) (w':World):Prop:=s.run P w=.ok (.value v) w'\/(s.run P w=.ok .skip w'/\v=undef)
def World.ES (w:World) (b:Nat) (o:Obj):World:={w with heap:=w.heap.setIfInBounds b o}
theorem M7 (w:World) (b:Nat) (o y:Obj) (h:w.heap[b]? =some y) (k:Nat):(World.ES w b o).heap[k]? =if k=b then some o else w.heap[k]?:=by
 have hb:=MX h;unfold World.ES;by_cases q:k=b
 ·subst q;rw[if_pos rfl];simp[hb]
 ·rw[if_neg q];show(w.heap.setIfInBounds b o)[k]? =_;rw[Array.getElem?_setIfInBounds_ne (λe=>q e.symm)]
theorem AnS (w:World) (b off:Nat) (v:Value) (cs:Array Value) (el:TypeId) (fz:Nat×Nat) (h:w.heap[b]? =some (.cells cs el fz)): w.setCell ⟨b,off,none⟩ v=World.ES w b (.cells (cs.setIfInBounds off v) el fz):=by
 unfold World.setCell World.ES;congr 1;apply Array.ext_getElem?;intro i;have hb:=MX h;rw[Array.getElem?_modify];by_cases hi:b=i
 ·subst hi;rw[if_pos rfl,h];simp[hb]
 ·rw[if_neg hi,Array.getElem?_setIfInBounds_ne hi]
theorem Ajt (w:World) (b:Nat) (o o':Obj):World.ES (World.ES w b o) b o'=World.ES w b o':=by unfold World.ES;simp
theorem XJ {P:Program} (b o:Nat) (el:TypeId) (fz:Nat×Nat):∀(vs:List Value) (i:Nat) (cs:Array Value) (w:World),w.heap[b]? =some (.cells cs el fz)->Z6 cs fz-> o+i+vs.length<=cs.size->(∀v∈vs,v.oneCell'=true)->∃cs',(storeCells ⟨b,o,none⟩ vs i).run P w=.ok () (World.ES w b (.cells cs' el fz))/\cs'.size=cs.size/\ ∀j,cs'[j]? =if o+i<=j/\j<o+i+vs.length then vs[j-(o+i)]? else cs[j]?
 | [],i,cs,w,h,_,_,_=>by
  refine⟨cs,?_,rfl,λj=>by rw[if_neg (by simp)]⟩;have:World.ES w b (.cells cs el fz)=w:=by
   unfold World.ES;congr 1;apply Array.ext_getElem?;intro k;by_cases E:b=k
   ·subst E;rw[h];simp[MX h]
   ·rw[Array.getElem?_setIfInBounds_ne E]
  simp[storeCells,this]
 |v::vs,i,cs,w,h,y,hb,L=>by
  simp only[List.length_cons]at hb;have hv:=L v (by simp);have q:w.cell? ⟨b,o+i,none⟩=some cs[o+i]:=by have:cs[o+i]? =some cs[o+i]:=Array.getElem?_eq_getElem (by omega);simp[World.cell?,h,this]
  have C:w.frozen? ⟨b,o+i,none⟩=false:=by
   simp only[World.frozen?,h];rcases y with hz|hz
   ·subst hz;simp
   ·simp;omega
  have B:(store ⟨b,o+i,none⟩ v).run P w=.ok () (World.ES w b (.cells (cs.setIfInBounds (o+i) v) el fz)):=by rw[run_store P w _ v .plain hv,q];simp only[C,Bool.false_eq_true,if_false];rw[AnS w b (o+i) v cs el fz h]
  have K:=M7 w b (.cells (cs.setIfInBounds (o+i) v) el fz) _ h b;rw[if_pos rfl]at K;obtain⟨cs',S,R,O⟩:=XJ (P:=P) b o el fz vs (i+1) (cs.setIfInBounds (o+i) v) _ K (by rcases y with hz|hz;exact .inl hz;exact .inr (by simpa using hz)) (by simp;omega) (λu hu=>L u (by simp[hu]));refine⟨cs',?_,by simpa using R,λj=>?_⟩
  ·simp only[storeCells,Dk,Sem.run_bind,B,Result.andThen_ok,S,Ajt]
  ·rw[O j];simp only[List.length_cons];by_cases J:o+(i+1)<=j/\j<o+(i+1)+vs.length
   ·rw[if_pos J,if_pos (by omega),show j-(o+i)=(j-(o+(i+1)))+1 by omega];simp
   ·rw[if_neg J];by_cases M:j=o+i
    ·subst M;rw[if_pos (by omega),Nat.sub_self,Array.getElem?_setIfInBounds_self_of_lt (by omega)];rfl
    ·rw[if_neg (by omega),Array.getElem?_setIfInBounds_ne (by omega)]
def Qd (l:List AV):Tr AV->Nat->Tr AV:=List.rec (motive:=λ_=>Tr AV->Nat->Tr AV) (λc _=>c) (λa _ y c k=>fN (k+1) λq=>y (c.set k a) q) l
theorem Adb (z:CB):∀(l:List AV) (c:Tr AV) (k j:Nat),cellOf (Qd l c k) z j=if k<=j/\j<k+l.length then l[j-k]? else cellOf c z j
 | [],c,k,j=>by rw[if_neg (by simp)];rfl
 |a::l,c,k,j=>by
  show cellOf (fN (k+1) λB=>Qd l (c.set k a) B) z j=_;rw[Bu,Adb z l (c.set k a) (k+1) j];simp only[List.length_cons];by_cases y:k+1<=j/\j<k+1+l.length
  ·rw[if_pos y,if_pos (by omega),show j-k=(j-(k+1))+1 by omega];simp
  ·rw[if_neg y];by_cases q:j=k
   ·subst q;rw[if_pos (by omega),Nat.sub_self,Ad9];rfl
   ·rw[if_neg (by omega),Ad8 _ _ (λe=>q e.symm)]
def Tm (H:Tr Ac) (id off:Nat) (l:List AV):Option (Tr Ac):=ob (H.get id) λo=>match o with
  |.cells el c z n op=>gd (Nat.ble (off+l.length) n&&l.all AV.one) (some (H.set id (.cells el (Qd l c off) z n op)))
  |_=>none
theorem H5 (H:Tr Ac) (i:Nat) (o:Ac):(H.set i o).get=λj=>if j=i then some o else H.get j:=by
 funext j;rw[Tr.F6];by_cases h:i=j
 ·subst h;simp
 ·rw[if_neg h,if_neg (λe=>h e.symm)]
theorem mu {P:Program} {E:Env} {F:Nat->Option Obj} {nx:Nat} {ρ:Af} {w:World} {H H':Tr Ac} (r:Rel E F nx ρ H.get w) {id off:Nat} {l:List AV} {vs:List Value} {b:CM} (hb:ρ id=some b) (S:AF ρ l vs) (L:Tm H id off l=some H'): ∃w',(storeCells ⟨b.b,b.ob+off,none⟩ vs).run P w=.ok () w'/\Rel E F nx ρ H'.get w':=by
 obtain⟨o,Z,O⟩:=Ae.1 L;clear L;cases o with
 |cells el c z n op=>
  obtain⟨hc,U⟩:=AK.1 O;injection U with U;subst U;rw[Bool.and_eq_true,Nat.ble_eq,List.all_eq_true]at hc;obtain⟨ab,Y⟩:=hc;obtain⟨oc,B,V⟩:=r.ob _ _ b Z hb;have aa:=S.length;cases V with
  |cells _ _ _ _ _ cs fz C0 hn W K q=>
   have O:∀v∈vs,v.oneCell'=true:=by
    intro v hv;obtain⟨i,hi,rfl⟩:=List.getElem_of_mem hv;have J:i<l.length:=by omega
    have:=S.Tq (List.getElem?_eq_getElem J) (List.getElem?_eq_getElem hi);rw[this.one];exact Y _ (List.getElem_mem J)
   obtain⟨cs',e1,e2,e3⟩:=XJ (P:=P) b.b (b.ob+off) el fz vs 0 cs w B K (by omega) O;refine⟨_,e1,?_⟩;have M:OR ρ b (.cells el (Qd l c off) z n op) (.cells cs' el fz):=by
    refine .cells el _ z n op cs' fz (by omega) hn W (by rcases K with hz|hz;exact .inl hz;exact .inr (by omega)) λk a hk y=>?_;rw[Adb]at y;by_cases C:off<=k/\k<off+l.length
    ·rw[if_pos C]at y;obtain⟨v,hv,R⟩:=S.get _ a y;refine⟨v,?_,R⟩;rw[e3,if_pos (by omega),<-hv];congr 1;omega
    ·rw[if_neg C]at y;obtain⟨v,hv,R⟩:=q k a hk y;exact⟨v,by rw[e3,if_neg (by omega)];exact hv,R⟩
   have:=r.put (w':=World.ES w b.b (.cells cs' el fz)) Z hb M (M7 w b.b _ _ B) rfl rfl rfl;rw[H5];exact this
 |_=>cases O
def mq (P:Program) (H:Tr Ac) (t:TypeId) (x v:AV):Option (Tr Ac):=
 match x with
 |.ptr id off=>ob (P.info? t) λi=>gd (Nat.beq v.cells.length i.size) (Tm H id off v.cells)
 |_=>none
theorem Afc {P:Program} {E:Env} {F:Nat->Option Obj} {nx:Nat} {ρ:Af} {w:World} {H H':Tr Ac} (r:Rel E F nx ρ H.get w) {t:TypeId} {x v:AV} {u z:Value} (C:VR ρ x u) (hv:VR ρ v z) (q:mq P H t x v=some H'): ∃w',(Instr.storeAt t u z).run P w=.ok () w'/\Rel E F nx ρ H'.get w':=by
 unfold mq at q;split at q
 ·obtain⟨i,hi,O⟩:=Ae.1 q;obtain⟨J,M⟩:=AK.1 O;rw[Nat.beq_eq]at J;cases C with
  |ptr _ _ b hb=>
   have y:=hv.cells;obtain⟨w',L,K⟩:=mu (P:=P) r hb y M;refine⟨w',?_,K⟩;have B:z.cells.size=P.cellsOf t:=by have:=y.length;simp[Program.cellsOf,hi]at this⊢;omega
   simp[Instr.storeAt,Instr.sureAddr,storeVar,run_sizeOf w hi,B,L]
 ·cases q
theorem Ek.append {ρ:Af}:∀ {l B:List DJ} {y q:List MapEntry},Ek ρ l y->Ek ρ B q->Ek ρ (l++B) (y++q)
 |_,_,_,_,.nil,h'=>h'
 |_,_,_,_,.cons a e l y h C,h'=>.cons _ _ _ _ h (C.append h')
theorem Ek.modify {ρ:Af} {f:DJ->DJ} {g:MapEntry->MapEntry} (B:∀a e,ER ρ a e->ER ρ (f a) (g e)):∀ {l:List DJ} {q:List MapEntry} (i:Nat),Ek ρ l q-> Ek ρ (l.modify i f) (q.modify i g)
 |_,_,_,.nil=>by simp;exact .nil
 |_,_,0,.cons a e l q h y=>by simp;exact .cons _ _ _ _ (B _ _ h) y
 |_,_,i+1,.cons a e l q h y=>by simp;exact .cons _ _ _ _ h (Ek.modify B i y)
theorem AnQ {kd:TypeDesc} {u v:Value} (h:Instr.sameNow kd u v=some true):Instr.sameBits 10000 v u=true:=by
 unfold Instr.sameNow at h;split at h
 ·split at h
  ·rename_i q;subst q;simp at h;simp[Instr.sameBits,h]
  ·cases h
 ·rename_i a b;have h':(a==b)=true:=by simpa using h
  rw[beq_toListBytes,beq_iff_eq]at h';show(b==a)=true;rw[beq_toListBytes,beq_iff_eq];exact h'.symm
 ·simp at h;simp[Instr.sameBits,h]
 ·cases h
theorem findNow_spec {kd:TypeDesc} {u:Value}:∀(l:List MapEntry) (i j:Nat) (v:Value),Instr.findNow kd u l i=some (some (j,v))-> i<=j/\∃e,l[j-i]? =some e/\Instr.sameNow kd u e.key=some true
 | [],i,j,v,h=>by simp[Instr.findNow]at h
 |e::E,i,j,v,h=>by
  simp only[Instr.findNow]at h;split at h
  ·rename_i B;injection h with h;injection h with h;injection h with y q;subst y;exact⟨Nat.le_refl _,e,by simp,B⟩
  ·obtain⟨y,J,q,C⟩:=findNow_spec E (i+1) j v h;refine⟨by omega,J,?_,C⟩;rw[show j-i=(j-(i+1))+1 by omega];simpa using q
  ·cases h
def Tj (P:Program) (H:Tr Ac) (t:TypeId) (m k v:AV):Option (Tr Ac):=ob (P.underlying t) λd=>match d,m with
  |.map key _,.map id=>ob (P.underlying key) λkd=>gd (WJ kd) (ob (H.get id) λo=>match o with
   |.map es q=>ob (Z2 kd k es 0) λr=>match r with
    |some p=>some (H.set id (.map (es.modify p.1 λe=>{e with key:=k,val:=v}) q))
    |none=>fN (q+1) λy=>some (H.set id (.map (es++[⟨k,v,q⟩]) y))
   |_=>none)
  |_,_=>none
theorem mc {P:Program} {E:Env} {F:Nat->Option Obj} {nx:Nat} {ρ:Af} {w:World} {H H':Tr Ac} (r:Rel E F nx ρ H.get w) {t:TypeId} {m k v:AV} {um y J:Value} (hm:VR ρ m um) (hk:VR ρ k y) (hv:VR ρ v J) (S:Tj P H t m k v=some H'): ∃w',(Instr.mapUpdate t um y J).run P w=.ok () w'/\Rel E F nx ρ H'.get w':=by
 obtain⟨d,hd,Z⟩:=Ae.1 S;clear S;split at Z
 ·rename_i key el id;obtain⟨kd,K,h2⟩:=Ae.1 Z;obtain⟨ad,h3⟩:=AK.1 h2;obtain⟨o,ho,h4⟩:=Ae.1 h3;clear Z h2 h3;cases o with
  |map es q=>
   obtain⟨fr,ae,Y⟩:=Ae.1 h4;clear h4;cases hm with
   |map _ b hb=>
    obtain⟨oc,B,ab⟩:=r.ob _ _ b ho hb;cases ab with
    |map _ _ l hl=>
     obtain⟨r',L,R⟩:=nB hk hl 0 fr ae;have V:=Zq (P:=P) K ad false 9999 y w;cases fr with
     |some p=>
      obtain⟨j,val⟩:=p;injection Y with Y;subst Y;obtain⟨z,hz,_⟩:=R;subst hz;obtain⟨_,e0,U,O⟩:=findNow_spec l 0 j z L;rw[Nat.sub_zero]at U;have M:(Instr.keyThatStays (((l.toArray[j]?).map (·.key)).getD y) y).run P w=.ok y w:=by simp[U,Instr.keyThatStays,AnQ O]
      refine⟨World.ES w b.b (.map (l.toArray.modify j λe=>{e with key:=y,val:=J}) q),?_,?_⟩
      ·simp only[Instr.mapUpdate,Sem.run_bind,run_underlying hd,Result.andThen_ok];simp only[getObj,Sem.run,B,Result.andThen_ok,Sem.run_bind,V,Instr.findKey,run_underlying K,L,Sem.run_pure,M];simp[setObj,Sem.run,B,World.ES]
      ·have C:OR ρ b (.map (es.modify j λe=>{e with key:=k,val:=v}) q) (.map (l.toArray.modify j λe=>{e with key:=y,val:=J}) q):=by have:=OR.map (ρ:=ρ) (b:=b) _ q _ (hl.modify (f:=λe=>{e with key:=k,val:=v}) (g:=λe=>{e with key:=y,val:=J}) (λa e h=>⟨hk,hv,h.2.2⟩) j);simpa using this
       have:=r.put (w':=World.ES w b.b (.map (l.toArray.modify j λe=>{e with key:=y,val:=J}) q)) ho hb C (M7 w b.b _ _ B) rfl rfl rfl;rw[H5];exact this
     |none=>
      have W:(fN (q+1) λc'=>some (H.set id (.map (es++[⟨k,v,q⟩]) c')))=some H':=Y;rw[Bu]at W;injection W with W;subst W;have aa:r'=none:=R;subst aa;refine⟨World.ES w b.b (.map (l.toArray.push {key:=y,val:=J,born:=q}) (q+1)),?_,?_⟩
      ·simp only[Instr.mapUpdate,Sem.run_bind,run_underlying hd,Result.andThen_ok];simp only[getObj,Sem.run,B,Result.andThen_ok,Sem.run_bind,V,Instr.findKey,run_underlying K,L,Sem.run_pure];simp[setObj,Sem.run,B,World.ES]
      ·have C:OR ρ b (.map (es++[⟨k,v,q⟩]) (q+1)) (.map (l.toArray.push {key:=y,val:=J,born:=q}) (q+1)):=by have:=OR.map (ρ:=ρ) (b:=b) _ (q+1) _ (hl.append (.cons ⟨k,v,q⟩ {key:=y,val:=J,born:=q} [] [] ⟨hk,hv,rfl⟩ .nil));simpa using this
       have:=r.put (w':=World.ES w b.b (.map (l.toArray.push {key:=y,val:=J,born:=q}) (q+1))) ho hb C (M7 w b.b _ _ B) rfl rfl rfl;rw[H5];exact this
  |_=>cases h4
 ·cases Z
end Go.Ev
end
section
/- The evaluator, part I: append and copy; all operations that write. -/
namespace Go.Ev
def ZW (H:Tr Ac) (size:Nat) (x:AV):Option (Nat×List AV):=
 match x with
 |.As=>some (0,[])
 |.sl id off n _=>ob (Fa H id off (n*size)) λl=>some (n,l)
 |.Bw id off n _=>ob (Fa H id off (n*size)) λl=>some (n,l)
 |.sle _=>some (0,[])
 |.str l n=>gd (Nat.beq size 1) (some (l,(List.range l).map λi=>.int .u8 (.ofNat (n/256^i %256))))
 |_=>none
theorem xJ {P:Program} {E:Env} {F:Nat->Option Obj} {nx:Nat} {ρ:Af} {h:Nat->Option Ac} {w:World} {H:Tr Ac} (r:Rel E F nx ρ h w) (O:HS ρ H h) {size n:Nat} {x:AV} {u:Value} {l:List AV} (C:VR ρ x u) (y:ZW H size x=some (n,l)): ∃vs:List Value,AF ρ l vs/\vs.length=n*size/\∀w':World,(∀a,w'.cell? a=w.cell? a)->(Builtin.lenOf u).run P w'=.ok n w'/\(Builtin.firstCells size n u).run P w'=.ok vs.toArray w':=by
 unfold ZW at y;split at y
 ·injection y with y;injection y with q B;subst q;subst B;cases C;exact⟨[],.nil,by simp,λw' _=>⟨by simp[Builtin.lenOf],by simp[Builtin.firstCells]⟩⟩
 ·obtain⟨R,L,q⟩:=Ae.1 y;injection q with q;injection q with q B;subst q;subst B;cases C with
  |sl _ _ _ _ b hb=>obtain⟨vs,q,B,M⟩:=H3 r O hb L;refine⟨vs,q,B,λw' K=>⟨by simp[Builtin.lenOf],?_⟩⟩;have:=run_loadCells_list (P:=P) w' ⟨b.b,b.ob+_,none⟩ vs (λj v J=>by rw[K];exact M j v J);rw[B]at this;simp[Builtin.firstCells,this]
 ·obtain⟨R,L,q⟩:=Ae.1 y;injection q with q;injection q with q B;subst q;subst B;cases C with
  |Bw _ _ _ _ b hb U S=>obtain⟨vs,q,B,M⟩:=H3 r O hb L;refine⟨vs,q,B,λw' K=>⟨by simp[Builtin.lenOf],?_⟩⟩;have:=run_loadCells_list (P:=P) w' ⟨b.b,b.ob+_,none⟩ vs (λj v J=>by rw[K];exact M j v J);rw[B]at this;simp[Builtin.firstCells,this]
 ·injection y with y;injection y with q B;subst q;subst B;cases C with
  |sle _ b o c hb=>refine⟨[],.nil,by simp,λw' K=>⟨by simp[Builtin.lenOf],?_⟩⟩;have:=run_loadCells_list (P:=P) w' ⟨b.b,o,none⟩ [] (λj v J=>by simp at J);simpa[Builtin.firstCells]using this
 ·obtain⟨hz,q⟩:=AK.1 y;rw[Nat.beq_eq]at hz;subst hz;injection q with q;injection q with q B;subst q;subst B;rename_i n m;cases C with
  |str _ _ hn=>
   refine⟨_,uq _ _,by simp[ON],λw' _=>⟨by simp[Builtin.lenOf,MG],?_⟩⟩;simp only[Builtin.firstCells,Sem.run_pure];congr 1;apply Array.ext';rw[Array.toList_map];have:((BB n m).extract 0 n).data.toList=BC n m:=by rw[Lib.extract_data,Qq];simp[List.take_of_length_le,ON]
   rw[this]
 ·cases y
def fP:TypeDesc->Bool
 |.slice _=>true
 |.string=>true
 |_=>false
def SK (ni:Nat) (el size A6:Nat) (cs:List AV) (H:Tr Ac):Option (AV×Tr Ac):=fN A6 λA6=>fN (A6*size) λn=>some (.Bw ni 0 A6 size,H.set ni (.cells el .leaf (.CC cs) n true))
def w8 (H:Tr Ac) (id el:Nat):Bool:=
 match H.get id with
 |some (.cells e _ _ _ _)=>Nat.beq e el
 |_=>false
def mN (P:Program) (H:Tr Ac) (ni:Nat) (C:List TypeId) (B:List AV):Option (AV×Tr Ac):=
 match C,B with
 | [t,tx],[s,x]=>ob (P.underlying t) λd=>match d with
  |.slice el=>ob (P.underlying tx) λE=>gd (fP E) (ob (P.info? el) λi=>ob i.zero λz=>gd (Nat.blt 0 i.size&&Nat.beq z.cells.size i.size) (ob (ZW H i.size x) λq=>
    match s with
    |.As=>cond (Nat.beq q.1 0) (some (.As,H))
      (gd (q.2.all AV.one&&Nat.ble q.1 9223372036854775807&&Nat.ble (q.1*i.bytes) 140737488355328) (SK ni el i.size q.1 q.2 H))
    |.sl id off len cap=>cond (Nat.ble (len+q.1) cap) (ob (Tm H id (off+len*i.size) q.2) λH'=>fN (len+q.1) λA6=>some (.sl id off A6 cap,H'))
      (gd (q.2.all AV.one&&Nat.ble (len+q.1) 9223372036854775807&&Nat.ble ((len+q.1)*i.bytes) 140737488355328) (ob (Fa H id off (len*i.size)) λy=>SK ni el i.size (len+q.1) (y++q.2) H))
    |.Bw id off len Ar=>gd (Nat.beq Ar i.size) (cond (Nat.beq q.1 0) (some (.Bw id off len Ar,H))
      (gd (q.2.all AV.one&&Nat.ble (len+q.1) 9223372036854775807&&Nat.ble ((len+q.1)*i.bytes) 140737488355328) (gd (w8 H id el) (ob (Fa H id off (len*i.size)) λy=>SK ni el i.size (len+q.1) (y++q.2) (H.del id)))))
    |_=>none))
  |_=>none
 |_,_=>none
set_option maxHeartbeats 1000000 in
theorem SL {P:Program} {t tx ty el:TypeId} {E:TypeDesc} {i:TypeInfo} (ht:P.underlying t=some (.slice el)) (B:P.underlying tx=some E) (C:fP E=true) (hi:P.info? el=some i) {base:Option Addr} {len cap n:Nat} {u:Value} {vs:List Value} {w w':World} (J:(Builtin.lenOf u).run P w=.ok n w) (hc:(Builtin.firstCells i.size n u).run P w=.ok vs.toArray w) (q:len+n<=cap) (y:match base with|none=>w'=w|some a=>(storeCells (a.add (len*i.size)) vs).run P w=.ok () w'): (Builtin.append_ #[t,tx] ty #[.slice base len cap,u]).run P w=.ok (.slice base (len+n) cap) w':=by
 cases base with
 |none=>
  simp only at y;subst y;cases E<;>first
   |(cases C;done)
   |simp[Builtin.append_,run_underlying ht,run_underlying B,sizeOf,typeInfo,hi,J,hc,q]
 |some a=>
  simp only at y;cases E<;>first
   |(cases C;done)
   |simp[Builtin.append_,run_underlying ht,run_underlying B,sizeOf,typeInfo,hi,J,hc,q,y]
set_option maxHeartbeats 1000000 in
theorem V2 {P:Program} {t tx ty el:TypeId} {C:TypeDesc} {i:TypeInfo} {z:Value} (ht:P.underlying t=some (.slice el)) (E:P.underlying tx=some C) (J:fP C=true) (hi:P.info? el=some i) (hz:i.zero=some z) {base:Option Addr} {len cap n:Nat} {u:Value} {olds vs:List Value} {w:World} (L:(Builtin.lenOf u).run P w=.ok n w) (K:(Builtin.firstCells i.size len (.slice base len cap)).run P w.drew=.ok olds.toArray w.drew) (hc:(Builtin.firstCells i.size n u).run P w.drew=.ok vs.toArray w.drew) (q:cap<len+n) (M:len+n<=9223372036854775807) (hb:(len+n)*i.bytes<=140737488355328): (Builtin.append_ #[t,tx] ty #[.slice base len cap,u]).run P w=.ok (.slice (some ⟨w.heap.size,0,none⟩) (len+n) (grownCap w (len+n) cap el)) (w.drew.alloc (.cells ((olds++vs).toArray++Builtin.zeroCells z.cells (grownCap w (len+n) cap el-(len+n))) el)):=by
 have hn:¬(len+n<=cap):=by omega
 have y:¬(9223372036854775807<((len:Int)+(n:Int))):=by omega
 have O:=growslice_fits q hb;have B:¬(281474976710656<Builtin.nextslicecap (len+n) cap*i.bytes):=by omega
 cases C<;>first
  |(cases J;done)
  |skip
 all_goals
  simp[Builtin.append_,run_underlying ht,run_underlying E,sizeOf,typeInfo,zeroValue,hi,hz,L,hn,y,B,Question.forced,K,hc,newRow,grownCap];congr 2;apply Array.ext';simp[List.append_assoc]
theorem Ab9 (z:Array Value) (n:Nat):(Builtin.zeroCells z n).size=n*z.size:=by simp[Builtin.zeroCells]
theorem k6 {E:Env} {F:Nat->Option Obj} {nx nx':Nat} {ρ:Af} {h:Nat->Option Ac} {w:World} (r:Rel E F nx ρ h w) {ni:Nat} (B:ρ ni=none) (W:nx<=nx') (L:ni<nx') {el size A6:Nat} {cs:List AV} {vs:List Value} {S H':Tr Ac} {a:AV} (C:0<size) (K:AF ρ cs vs) (ab:cs.length=A6*size) (hH:∀i o,S.get i=some o->h i=some o) (y:SK ni el size A6 cs S=some (a,H')) {cap:Nat} (M:A6<=cap) (O:Array Value) (U:O.size=(cap-A6)*size): ∃q,Rel E F nx' q H'.get (w.drew.alloc (.cells (vs.toArray++O) el))/\(ρ.le q/\∀x,x≠ni->q x=ρ x)/\VR q a (.slice (some ⟨w.heap.size,0,none⟩) A6 cap):=by
 simp only[SK,Bu]at y;injection y with y;injection y with R Z;subst R;subst Z;have ad:=K.length;have aa:(cap-A6)*size=cap*size-A6*size:=Nat.sub_mul _ _ _;have J:A6*size<=cap*size:=Nat.mul_le_mul_right _ M;have V:OR (ρ.put ni ⟨w.heap.size,0,cap*size⟩) ⟨w.heap.size,0,cap*size⟩ (.cells el .leaf (.CC cs) (A6*size) true) (.cells (vs.toArray++O) el (0,0)):=by
  refine .cells el .leaf (.CC cs) (A6*size) true _ (0,0) (by simp[U];omega) J (by simp) (.inl rfl) λk b hk hb=>?_;unfold cellOf at hb;rw[Tr.Em]at hb;have Y:cs[k]? =some b:=by have:cs[k %cs.length]? =some b:=hb;rwa[Nat.mod_eq_of_lt (by omega)]at this
  obtain⟨v,hv,hr⟩:=(K.mono (Af.Li B ⟨w.heap.size,0,cap*size⟩)).get k b Y;refine⟨v,?_,hr⟩;simp only[Nat.zero_add];rw[Array.getElem?_append,if_pos (by simp;omega)];simpa using hv
 obtain⟨R,Z⟩:=(r.drew.less (h':=S.get) hH).alloc B W L V;refine⟨ρ.put ni ⟨w.heap.size,0,cap*size⟩,?_,⟨Af.Li B _,λx hx=>Af.GR hx _⟩,?_⟩
 ·rw[H5];exact R
 ·have:=VR.Bw (ρ:=ρ.put ni ⟨w.heap.size,0,cap*size⟩) ni 0 A6 size ⟨w.heap.size,0,cap*size⟩ (Af.Fx _ _ _) C (by simpa using J);simpa[Nat.mul_div_cancel _ C]using this
theorem Z9 (H:Tr Ac) (i:Nat):∀j o,(H.del i).get j=some o->H.get j=some o:=λj o h=>by
 rw[Tr.H4]at h;split at h
 ·cases h
 ·exact h
theorem Rel.rename {E:Env} {F:Nat->Option Obj} {nx nx':Nat} {ρ:Af} {H:Tr Ac} {w w':World} (r:Rel E F nx ρ H.get w) {id ni:Nat} {o a:Ac} {b W:CM} {c:Obj} (L:H.get id=some o) (hb:ρ id=some b) (Z:ρ ni=none) (ae:nx<=nx') (ah:ni<nx') (R:W.b=b.b) (Y:OR (ρ.put ni W) W a c) (hw:∀k,w'.heap[k]? =if k=b.b then some c else w.heap[k]?) (ht:w'.tape=w.tape) (ad:w'.os=w.os) (aa:w'.output=w.output): Rel E F nx' (ρ.put ni W) ((H.del id).set ni a).get w':=by
 have af:=Af.Li (ρ:=ρ) Z W;have ai:id≠ni:=λe=>by subst e;rw[Z]at hb;cases hb
 have hF:=r.dj id o b L hb;have J:∀j x,((H.del id).set ni a).get j=some x->(j=ni/\x=a)\/(j≠ni/\j≠id/\H.get j=some x):=λj x C=>by
  rw[Tr.F6]at C;by_cases K:ni=j
  ·rw[if_pos K]at C;injection C with C;exact .inl ⟨K.symm,C.symm⟩
  ·rw[if_neg K,Tr.H4]at C;by_cases S:id=j
   ·rw[if_pos S]at C;cases C
   ·rw[if_neg S]at C;exact .inr ⟨λe=>K e.symm,λe=>S e.symm,C⟩
 have B:∀j,j≠ni->(ρ.put ni W) j=ρ j:=λj C=>by simp[Af.put,C]
 refine⟨ht.trans r.tape,ad.trans r.os,aa.trans r.output,?_,?_,?_,?_,?_,λg l hg=>?_,r.bs,λk x V=>?_,λj x U C q=>?_,r.sf⟩
 rotate_right
 rotate_right
 rotate_right
 ·rcases J g _ hg with⟨rfl,rfl⟩|⟨_,_,O⟩
  ·cases Y
  ·exact r.gl g l O
 ·have hS:=r.sd id o b L hb;rw[hw,if_neg (λe=>by subst e;rw[show ρ.st b.b=some x from V]at hS;cases hS)];exact r.st k x V
 ·rcases J j x C with⟨rfl,rfl⟩|⟨K,S,O⟩
  ·rw[Af.Fx]at q;cases q;rw[R];exact r.sd id o b L hb
  ·rw[B j K]at q;exact r.sd j x U O q
 ·intro k x V;rw[hw,if_neg (λe=>by subst e;rw[hF]at V;cases V)];exact r.fr k x V
 ·intro j x U C q;rcases J j x C with⟨rfl,rfl⟩|⟨K,S,O⟩
  ·rw[Af.Fx]at q;cases q;exact⟨c,by rw[hw,if_pos R],Y⟩
  ·rw[B j K]at q;obtain⟨cj,ag,ab⟩:=r.ob j x U O q;refine⟨cj,?_,ab.mono af⟩;rw[hw,if_neg (λe=>S (r.inj j id x o U b O L q hb e))];exact ag
 ·intro j x U C q;rcases J j x C with⟨rfl,rfl⟩|⟨K,S,O⟩
  ·rw[Af.Fx]at q;cases q;rw[R];exact hF
  ·rw[B j K]at q;exact r.dj j x U O q
 ·intro j k x y U bk C V q M he;rcases J j x C with⟨rfl,rfl⟩|⟨K,S,O⟩<;>rcases J k y V with⟨rfl,rfl⟩|⟨h4,h5,h6⟩
  ·rfl
  ·rw[Af.Fx]at q;cases q;rw[B k h4]at M;exact absurd (r.inj k id y o bk b h6 L M hb (by rw[<-he,R])) h5
  ·rw[Af.Fx]at M;cases M;rw[B j K]at q;exact absurd (r.inj j id x o U b O L q hb (by rw[he,R])) S
  ·rw[B j K]at q;rw[B k h4]at M;exact r.inj j k x y U bk O h6 q M he
 ·intro j C;rw[B j (by omega)];exact r.new j (Nat.le_trans ae C)
theorem VZ {ρ:Af} {l:List AV} {vs:List Value} (h:AF ρ l vs) (y:l.all AV.one=true):∀v∈vs,v.oneCell'=true:=by
 intro v hv;obtain⟨i,hi,rfl⟩:=List.getElem_of_mem hv;have q:i<l.length:=by rw[h.length];exact hi
 rw[(h.Tq (List.getElem?_eq_getElem q) (List.getElem?_eq_getElem hi)).one];exact List.all_eq_true.1 y _ (List.getElem_mem q)
theorem AeE {P:Program} {E:Env} {F:Nat->Option Obj} {nx nx':Nat} {ρ:Af} {w:World} {H H':Tr Ac} (r:Rel E F nx ρ H.get w) {ni:Nat} (ad:ρ ni=none) (S:nx<=nx') (Y:ni<nx') {ts:List TypeId} {xs:List AV} {us:List Value} {a:AV} (hx:AF ρ xs us) (af:mN P H ni ts xs=some (a,H')) (ty:TypeId): ∃v w' C,(Builtin.append_ ts.toArray ty us.toArray).run P w=.ok v w'/\Rel E F nx' C H'.get w'/\(ρ.le C/\∀x,x≠ni->C x=ρ x)/\VR C a v:=by
 unfold mN at af;split at af
 ·rename_i t tx s x;cases hx with
  |cons _ a4 _ _ au aN=>cases aN with
   |cons _ ux _ _ aQ aJ=>
    cases aJ;obtain⟨d,hd,h1⟩:=Ae.1 af;clear af;cases d with
    |slice el=>
     obtain⟨dx,V,h2⟩:=Ae.1 h1;obtain⟨O,h3⟩:=AK.1 h2;obtain⟨i,hi,h4⟩:=Ae.1 h3;obtain⟨z,hz,h5⟩:=Ae.1 h4;obtain⟨aa,h6⟩:=AK.1 h5;obtain⟨⟨n,l⟩,aH,M⟩:=Ae.1 h6;clear h1 h2 h3 h4 h5 h6;rw[Bool.and_eq_true,Nat.blt_eq,Nat.beq_eq]at aa;obtain⟨aa,aM⟩:=aa;obtain⟨vs,J,ar,aD⟩:=xJ (P:=P) r (HS.refl ρ H) aQ aH;obtain⟨U,al⟩:=aD w (λ_=>rfl);obtain⟨_,aA⟩:=aD w.drew (λ_=>rfl);have aq:∀m,(Builtin.zeroCells z.cells m).size=m*i.size:=λm=>by rw[Ab9,aM]
     cases s with
     |As=>
      cases au;cases K:Nat.beq n 0 with
      |true=>simp only[K,cond_true]at M;injection M with M;injection M with M B;subst M;subst B;rw[Nat.beq_eq]at K;subst K;refine⟨_,w,ρ,SL (base:=none) (len:=0) (cap:=0) (ty:=ty) hd V O hi U al (by omega) rfl,r.Ff S,⟨Af.le_refl ρ,λ_ _=>rfl⟩,.As⟩
      |false=>
       simp only[K,cond_false]at M;obtain⟨hg,B⟩:=AK.1 M;simp only[Bool.and_eq_true,Nat.ble_eq]at hg;obtain⟨⟨_,ak⟩,ae⟩:=hg;have a2:n≠0:=λe=>by rw[<-Nat.beq_eq,K]at e;cases e
       have L:=V2 (base:=none) (len:=0) (cap:=0) (ty:=ty) (olds:=[]) hd V O hi hz U (by simp[Builtin.firstCells]) aA (by omega) (by omega) (by simpa using ae);simp only[Nat.zero_add,List.nil_append]at L;obtain⟨C,h9,y,W⟩:=k6 r ad S Y aa J (by rw[J.length,ar]) (λ_ _ h=>h) B (cap:=grownCap w n 0 el) (by simp[grownCap,Question.cut]) (Builtin.zeroCells z.cells (grownCap w n 0 el-n)) (aq _);exact⟨_,_,C,L,h9,y,W⟩
     |sl id off len cap=>
      cases au with
      |sl _ _ _ _ b hb=>
       cases q:Nat.ble (len+n) cap with
       |true=>simp only[q,cond_true]at M;obtain⟨H1,aV,B⟩:=Ae.1 M;rw[Bu]at B;injection B with B;injection B with B h9;subst B;subst h9;rw[Nat.ble_eq]at q;obtain⟨w',aP,aO⟩:=mu (P:=P) r hb J aV;refine⟨_,w',ρ,SL (base:=some ⟨b.b,b.ob+off,none⟩) (ty:=ty) hd V O hi U al q ?_,aO.Ff S,⟨Af.le_refl ρ,λ_ _=>rfl⟩,.sl _ _ _ _ b hb⟩;simp only[Dk,Nat.add_assoc];exact aP
       |false=>
        simp only[q,cond_false]at M;obtain⟨hg,B⟩:=AK.1 M;obtain⟨Z,hold,h9⟩:=Ae.1 B;simp only[Bool.and_eq_true,Nat.ble_eq]at hg;obtain⟨⟨_,ak⟩,ae⟩:=hg;have ay:cap<len+n:=by
         rcases Nat.lt_or_ge cap (len+n)with h|h
         ·exact h
         ·have h':Nat.ble (len+n) cap=true:=by rw[Nat.ble_eq];exact h
          rw[h']at q;cases q
        obtain⟨os,R,ab,aj⟩:=H3 r (HS.refl ρ H) hb hold;have av:(Builtin.firstCells i.size len (.slice (some ⟨b.b,b.ob+off,none⟩) len cap)).run P w.drew=.ok os.toArray w.drew:=by have:=run_loadCells_list (P:=P) w.drew ⟨b.b,b.ob+off,none⟩ os (λj v hj=>aj j v hj);rw[ab]at this;simp[Builtin.firstCells,this]
        have L:=V2 (base:=some ⟨b.b,b.ob+off,none⟩) (ty:=ty) hd V O hi hz U av aA ay ak ae;obtain⟨C,y,W,aB⟩:=k6 r ad S Y aa (R.append J) (by rw[(R.append J).length,List.length_append,ab,ar,Nat.add_mul]) (λ_ _ h=>h) h9 (cap:=grownCap w (len+n) cap el) (by simp[grownCap,Question.cut]) (Builtin.zeroCells z.cells (grownCap w (len+n) cap el-(len+n))) (aq _);exact⟨_,_,C,L,y,W,aB⟩
     |Bw id off len Ar=>
      obtain⟨aG,B⟩:=AK.1 M;clear M;rw[Nat.beq_eq]at aG;subst aG;cases au with
      |Bw _ _ _ _ b hb he aS=>
       have aZ:len<=(b.cap-off)/i.size:=by rw[Nat.le_div_iff_mul_le he];omega
       cases K:Nat.beq n 0 with
       |true=>simp only[K,cond_true]at B;injection B with B;injection B with B h9;subst B;subst h9;rw[Nat.beq_eq]at K;subst K;have At:vs=[]:=List.eq_nil_of_length_eq_zero (by omega);subst At;refine⟨_,w,ρ,SL (base:=some ⟨b.b,b.ob+off,none⟩) (ty:=ty) hd V O hi U al (by omega) ?_,r.Ff S,⟨Af.le_refl ρ,λ_ _=>rfl⟩,.Bw _ _ _ _ b hb he aS⟩;simp[storeCells]
       |false=>
        simp only[K,cond_false]at B;obtain⟨hg,aW⟩:=AK.1 B;obtain⟨az,h9⟩:=AK.1 aW;obtain⟨Z,hold,y⟩:=Ae.1 h9;simp only[Bool.and_eq_true,Nat.ble_eq]at hg;obtain⟨⟨aU,ak⟩,ae⟩:=hg;obtain⟨os,R,ab,aj⟩:=H3 r (HS.refl ρ H) hb hold;have aC:(Z++l).length=(len+n)*i.size:=by rw[(R.append J).length,List.length_append,ab,ar,Nat.add_mul]
        rcases Nat.lt_or_ge ((b.cap-off)/i.size) (len+n)with ay|aE
        ·have av:(Builtin.firstCells i.size len (.slice (some ⟨b.b,b.ob+off,none⟩) len ((b.cap-off)/i.size))).run P w.drew=.ok os.toArray w.drew:=by have:=run_loadCells_list (P:=P) w.drew ⟨b.b,b.ob+off,none⟩ os (λj v hj=>aj j v hj);rw[ab]at this;simp[Builtin.firstCells,this]
         have L:=V2 (base:=some ⟨b.b,b.ob+off,none⟩) (ty:=ty) hd V O hi hz U av aA ay ak ae;obtain⟨C,W,aB,aX⟩:=k6 r ad S Y aa (R.append J) aC (Z9 H id) y (cap:=grownCap w (len+n) ((b.cap-off)/i.size) el) (by simp[grownCap,Question.cut]) (Builtin.zeroCells z.cells (grownCap w (len+n) ((b.cap-off)/i.size) el-(len+n))) (aq _);exact⟨_,_,C,L,W,aB,aX⟩
        ·have ao:(len+n)*i.size<=b.cap-off:=(Nat.le_div_iff_mul_le he).1 aE;have a6:=J.length;have a3:(len+n)*i.size=len*i.size+n*i.size:=Nat.add_mul _ _ _;obtain⟨aL,ah,hh⟩:=Ae.1 hold;cases aL with
         |cells ag c z0 n0 a5=>
          obtain⟨oc,aw,aR⟩:=r.ob _ _ b ah hb;cases aR with
          |cells _ _ _ _ _ cs fz C0 hn a7 aF aY=>
           obtain⟨cs',e1,e2,e3⟩:=XJ (P:=P) b.b (b.ob+(off+len*i.size)) ag fz vs 0 cs w aw aF (by omega) (VZ J aU);simp only[SK,Bu]at y;injection y with y;injection y with y W;subst y;subst W;let b':CM:=⟨b.b,b.ob+off,b.cap-off⟩;have ai:=Af.Li (ρ:=ρ) ad b';have aI:OR (ρ.put ni b') b' (.cells el .leaf (.CC (Z++l)) ((len+n)*i.size) true) (.cells cs' ag fz):=by
            have aK:ag=el:=by unfold w8 at az;rw[ah]at az;exact Nat.beq_eq▸az
            subst aK;have a8:=R.length;refine .cells ag .leaf _ _ true cs' fz (by show _=b.ob+off+(b.cap-off);omega) ao (by simp) (by rcases aF with hz|hz;exact .inl hz;exact .inr (by omega)) λk a hk ha=>?_;unfold cellOf at ha;rw[Tr.Em]at ha;have an:(Z++l)[k]? =some a:=by have:(Z++l)[k %(Z++l).length]? =some a:=ha;rwa[Nat.mod_eq_of_lt (by omega)]at this
            show∃v,cs'[b.ob+off+k]? =some v/\VR (ρ.put ni b') a v;rw[List.getElem?_append]at an;split at an
            ·rename_i aT;obtain⟨v,hv,hr⟩:=R.get k a an;refine⟨v,?_,hr.mono ai⟩;rw[e3,if_neg (by omega)];have:=aj k v hv;rw[Dk]at this;simpa[World.cell?,aw]using this
            ·rename_i aT;obtain⟨v,hv,hr⟩:=J.get _ a an;refine⟨v,?_,hr.mono ai⟩;rw[e3,if_pos (by omega),<-hv];congr 1;omega
           refine⟨.slice (some ⟨b.b,b.ob+off,none⟩) (len+n) ((b.cap-off)/i.size),World.ES w b.b (.cells cs' ag fz),ρ.put ni b',?_,?_,⟨ai,λx hx=>Af.GR hx _⟩,?_⟩
           ·refine SL (base:=some ⟨b.b,b.ob+off,none⟩) (ty:=ty) hd V O hi U al aE ?_;simp only[Dk,Nat.add_assoc];exact e1
           ·exact r.rename ah hb ad S Y rfl aI (M7 w b.b _ _ aw) rfl rfl rfl
           ·have:=VR.Bw (ρ:=ρ.put ni b') ni 0 (len+n) i.size b' (Af.Fx _ _ _) he (by simpa using ao);simpa[b']using this
         |_=>cases hh
     |_=>cases M
    |_=>cases h1
 ·cases af
end Go.Ev
end
end
