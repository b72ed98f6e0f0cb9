/- Laid by program out of its parts: EvA, EvB, EvC, EvD, EvE, EvF, EvG. -/
import Derived.Calls
import Derived.Orders
import Derived.Laws.Sem
import Derived.Laws.World
import Derived.Laws.StructEq
import Derived.Laws.Slices
import Derived.Lib.Strings
import Derived.ChangeKeysEq
import Derived.Laws.Cells
import Derived.Lib.Bytealg
import Derived.Laws.BytesString
noncomputable section
set_option linter.unusedVariables false
set_option linter.unusedSimpArgs false
section
namespace Go.Ev
theorem B2:type_of%@List.getD_eq_getElem?_getD:=@List.getD_eq_getElem?_getD
theorem Ad:type_of%@if_neg:=@if_neg
theorem Am:type_of%@if_pos:=@if_pos
theorem AM:type_of%@Nat.le_refl:=@Nat.le_refl
theorem BV:type_of%@decide_eq_true_eq:=@decide_eq_true_eq
theorem CC:type_of%@List.getElem?_eq_getElem:=@List.getElem?_eq_getElem
theorem EG:type_of%@Bool.not_eq_false':=@Bool.not_eq_false'
theorem EH:type_of%@Bool.not_eq_true':=@Bool.not_eq_true'
theorem AN:type_of%@Nat.beq_eq:=@Nat.beq_eq
theorem Bi:type_of%@decide_eq_true:=@decide_eq_true
theorem Kt:type_of%@decide_eq_false_iff_not:=@decide_eq_false_iff_not
theorem C5:type_of%@Bool.and_eq_true:=@Bool.and_eq_true
theorem CL:type_of%@Nat.zero_le:=@Nat.zero_le
theorem DP:type_of%@Nat.eq_of_beq_eq_true:=@Nat.eq_of_beq_eq_true
theorem AE:type_of%@List.length_cons:=@List.length_cons
theorem Ca:type_of%@List.mem_cons_of_mem:=@List.mem_cons_of_mem
theorem BN:type_of%@List.mem_cons_self:=@List.mem_cons_self
theorem DE:type_of%@List.mem_singleton:=@List.mem_singleton
theorem Ei:type_of%@List.nil_append:=@List.nil_append
theorem AK:type_of%@List.length_append:=@List.length_append
theorem Gj:type_of%@of_decide_eq_false:=@of_decide_eq_false
theorem Bt:type_of%@of_decide_eq_true:=@of_decide_eq_true
theorem FL:type_of%@List.length_map:=@List.length_map
theorem HB:type_of%@List.getElem?_map:=@List.getElem?_map
theorem HC:type_of%@List.length_drop:=@List.length_drop
theorem Co:type_of%@Nat.blt_eq:=@Nat.blt_eq
theorem G3:type_of%@Nat.le_trans:=@Nat.le_trans
theorem JU:type_of%@Int.le_refl:=@Int.le_refl
theorem It:type_of%@List.getElem?_eq_some_iff:=@List.getElem?_eq_some_iff
theorem CS:type_of%@List.mem_cons:=@List.mem_cons
theorem MG:type_of%@Nat.lt_or_ge:=@Nat.lt_or_ge
theorem OI:type_of%@List.getElem?_range:=@List.getElem?_range
theorem Lc:type_of%@Nat.sub_self:=@Nat.sub_self
theorem Fy:type_of%@Nat.add_assoc:=@Nat.add_assoc
theorem A7:type_of%@List.append_assoc:=@List.append_assoc
theorem HD:type_of%@List.append_nil:=@List.append_nil
theorem Ej:type_of%@decide_eq_false:=@decide_eq_false
theorem IV:type_of%@Classical.choose_spec:=@Classical.choose_spec
theorem LQ:type_of%@Bool.eq_false_iff:=@Bool.eq_false_iff
abbrev AP:=List Int
abbrev Ac:=List UInt8
@[reducible] def Af {α:Sort _} (a:α):Prop:=a=a
@[reducible] def Aa:Prop:=true=true
inductive Tr (α:Type) where
 |leaf
 |node (v:Option α) (l r:Tr α)
namespace Tr
variable {α:Type}
def root (t:Tr α):Option α:=Tr.rec (motive:=λ_=>Option α) none (λv _ _ _ _=>v) t
def H9 (b:Bool) (t:Tr α):Tr α:=Tr.rec (motive:=λ_=>Tr α) .leaf (λ_ l r _ _=>cond b l r) t
def gp (p:List Bool):Tr α->Option α:=List.rec (motive:=λ_=>Tr α->Option α) root (λb _ q t=>q (H9 b t)) p
def sp (x:Option α) (p:List Bool):Tr α->Tr α:=List.rec (motive:=λ_=>Tr α->Tr α) (λt=>Tr.rec (motive:=λ_=>Tr α) (.node x .leaf .leaf) (λ_ l r _ _=>.node x l r) t) (λb _ q t=>Tr.rec (motive:=λ_=>Tr α) (cond b (.node none (q .leaf) .leaf) (.node none .leaf (q .leaf))) (λv l r _ _=>cond b (.node v (q l) r) (.node v l (q r))) t) p
theorem SE (q:List Bool):gp q (.leaf:Tr α)=none:=by
 induction q with
 |nil=>rfl
 |cons b q y=>exact y
theorem tE (x:Option α):∀(p q:List Bool) (t:Tr α),gp q (sp x p t)=if p=q then x else gp q t:=by
 intro p
 induction p with
 |nil=>
  intro q t;cases q with
  |nil=>cases t<;>rfl
  |cons c q=>
   rw[Ad (by simp)];cases t with
   |leaf=>cases c<;>rfl
   |node v l r=>rfl
 |cons b p C=>
  intro q t;cases q with
  |nil=>rw[Ad (by simp)];cases t<;>cases b<;>rfl
  |cons c q=>
   have key:gp (c::q) (sp x (b::p) t)=if b=c then gp q (sp x p (H9 b t))else gp (c::q) t:=by
    cases t with
    |leaf=>cases b<;>cases c<;>first|rfl|(show gp q (.leaf:Tr α)=_;exact(SE q).trans (SE q).symm)
    |node v l r=>cases b<;>cases c<;>rfl
   rw[key];by_cases B:b=c
   ·subst B;rw[Am rfl,C];by_cases y:p=q
    ·subst y;simp
    ·rw[Ad y,Ad (by simp[y])];rfl
   ·rw[Ad B,Ad (by simp[B])]
end Tr
def QL (f:Nat):Nat->List Bool:=Nat.rec (motive:=λ_=>Nat->List Bool) (λ_=>[]) (λ_ q n=>cond (Nat.beq n 0) [] (Nat.beq (n %2) 1::q ((n-1)/2))) f
theorem Zp (f n:Nat):QL (f+1) n=cond (Nat.beq n 0) [] (Nat.beq (n %2) 1::QL f ((n-1)/2)):=rfl
theorem Agh:∀(f n g m:Nat),n<=f->m<=g->QL f n=QL g m->n=m:=by
 intro f
 induction f with
 |zero=>
  intro n g m hn y h;have:n=0:=by omega
  subst this;cases g with
  |zero=>omega
  |succ g=>
   rw[Zp]at h;cases m with
   |zero=>rfl
   |succ m=>simp[QL,Nat.beq]at h
 |succ f q=>
  intro n g m hn y h;rw[Zp]at h;cases n with
  |zero=>
   cases g with
   |zero=>omega
   |succ g=>
    rw[Zp]at h;cases m with
    |zero=>rfl
    |succ m=>simp[Nat.beq]at h
  |succ n=>
   cases g with
   |zero=>
    have:m=0:=by omega
    subst this;simp[QL,Nat.beq]at h
   |succ g=>
    rw[Zp]at h;cases m with
    |zero=>simp[Nat.beq]at h
    |succ m=>
     simp only[Nat.beq,cond_false,List.cons.injEq]at h;obtain⟨C,B⟩:=h;have J:=q _ _ _ (by omega) (by omega) B;have E:((n+1)%2=1)↔((m+1)%2=1):=by rw[<-AN,<-AN,C]
     omega
def path (n:Nat):List Bool:=QL n n
theorem w8 {n m:Nat} (h:path n=path m):n=m:=Agh n n m m (AM _) (AM _) h
namespace Tr
variable {α:Type}
def get (t:Tr α) (n:Nat):Option α:=gp (path n) t
def set (t:Tr α) (n:Nat) (x:α):Tr α:=sp (some x) (path n) t
def del (t:Tr α) (n:Nat):Tr α:=sp none (path n) t
theorem EK (n:Nat):(Tr.leaf:Tr α).get n=none:=SE _
theorem Hl (t:Tr α) (n m:Nat) (x:α):(t.set n x).get m=if n=m then some x else t.get m:=by
 unfold get set;rw[tE];by_cases h:n=m
 ·subst h;simp
 ·rw[Ad (λh'=>h (w8 h')),Ad h]
theorem GG (t:Tr α) (n:Nat) (x:α):(t.set n x).get n=some x:=by rw[Hl,Am rfl]
theorem KE (t:Tr α) {n m:Nat} (h:n≠m) (x:α):(t.set n x).get m=t.get m:=by rw[Hl,Ad h]
theorem H6 (t:Tr α) (n m:Nat):(t.del n).get m=if n=m then none else t.get m:=by
 unfold get del;rw[tE];by_cases h:n=m
 ·subst h;simp
 ·rw[Ad (λh'=>h (w8 h')),Ad h]
end Tr
inductive CW where
 |str (l:List UInt8)
 |int (n:Int)
inductive AV where
 |bool (b:Bool)
 |int (k:IntKind) (n:Int)
 |str (len n:Nat)
 |EC
 |ptr (id off:Nat)
 |Ay
 |sl (id off len cap:Nat)
 |BF (id off len Ap:Nat)
 |sle (id:Nat)
 |E8
 |map (id:Nat)
 |fn (f:Fn) (first captured:List AV)
 |GD
 |Dx (id:Nat)
 |iface (t:Nat) (v:AV)
 |EL
 |agg (cs:List AV)
 |AO (vs:List AV)
 |Gp (g off:Nat)
 |ML
 |chan (id:Nat)
 |bs (l:List UInt8)
 |bv (l:List UInt8)
 |vec (Ap n:Nat) (f:Nat->List AV)
 |pv (cs:List AV)
 |GM (id Ap i j:Nat)
 |AY (id n Ap:Nat)
 |FY (has:CW->Bool) (val:CW->AV) (z:AV)
abbrev Aj:=List AV
def BB:Nat->Nat->Ac
 |0,_=>[]
 |l+1,n=>UInt8.ofNat n::BB l (n/256)
def BA (len n:Nat):ByteArray:=⟨(BB len n).toArray⟩
structure C3 where
 b:Nat
 ob:Nat
 cap:Nat
structure Ai where
 nm:Nat->Option C3
 st:Nat->Option Obj
instance:CoeFun Ai (λ_=>Nat->Option C3):=⟨Ai.nm⟩
structure Ai.le (ρ ρ':Ai):Prop where
 nm:∀i b,ρ i=some b->ρ' i=some b
 st:∀b o,ρ.st b=some o->ρ'.st b=some o
instance {ρ q:Ai}:CoeFun (Ai.le ρ q) (λ_=>∀i b,ρ i=some b->q i=some b):=⟨Ai.le.nm⟩
theorem Ai.le_refl (ρ:Ai):ρ.le ρ:=⟨λ_ _ h=>h,λ_ _ h=>h⟩
theorem Ai.le_trans {a b c:Ai} (h:a.le b) (k:b.le c):a.le c:=⟨λi x q=>k i x (h i x q),λi x q=>k.st i x (h.st i x q)⟩
def Ai.put (ρ:Ai) (i:Nat) (b:C3):Ai:=⟨λj=>if j=i then some b else ρ j,ρ.st⟩
theorem Ai.FF (ρ:Ai) (i:Nat) (b:C3):(ρ.put i b) i=some b:=Am rfl
theorem Ai.Ha {ρ:Ai} {i j:Nat} (h:j≠i) (b:C3):(ρ.put i b) j=ρ j:=Ad h
theorem Ai.Lp {ρ:Ai} {i:Nat} (h:ρ i=none) (b:C3):ρ.le (ρ.put i b):=⟨λj x q=>by
  have:j≠i:=λe=>by subst e;rw[h]at q;cases q
  rw[Ai.Ha this];exact q,λ_ _ h=>h⟩
structure RX (n n':Nat) (ρ ρ':Ai):Prop where
 le:ρ.le ρ'
 lo:∀i,i<n->ρ' i=ρ i
 nn:n<=n'
theorem RX.refl (n:Nat) (ρ:Ai):RX n n ρ ρ:=⟨Ai.le_refl ρ,λ_ _=>rfl,AM _⟩
theorem RX.trans {a b c:Nat} {ρ y q:Ai} (h:RX a b ρ y) (k:RX b c y q):RX a c ρ q:=⟨Ai.le_trans h.le k.le,λi hi=>(k.lo i (Nat.lt_of_lt_of_le hi h.nn)).trans (h.lo i hi),G3 h.nn k.nn⟩
theorem RX.cz {a C b B:Nat} {ρ q:Ai} (h:RX a b ρ q) (y:C<=a) (E:b<=B):RX C B ρ q:=⟨h.le,λi hi=>h.lo i (Nat.lt_of_lt_of_le hi y),G3 y (G3 h.nn E)⟩
structure RY (ni n n':Nat) (ρ ρ':Ai):Prop where
 le:ρ.le ρ'
 lo:∀i,i<n->i≠ni->ρ' i=ρ i
 nn:n<=n'
theorem RX.ry {ni a b:Nat} {ρ q:Ai} (h:RX a b ρ q):RY ni a b ρ q:=⟨h.le,λi hi _=>h.lo i hi,h.nn⟩
theorem RY.rx {a b:Nat} {ρ q:Ai} (h:RY a a b ρ q):RX a b ρ q:=⟨h.le,λi hi=>h.lo i hi (Nat.ne_of_lt hi),h.nn⟩
inductive KR:TypeDesc->CW->Value->Prop where
 |str (l:List UInt8):KR .string (.str l) (.string ⟨l.toArray⟩)
 |int (k:IntKind) (n:Int):KR (.int k) (.int n) (.int k n)
def bT:Int:=1180591620717411303424
def bS:IntKind->Int
 |.i8=>1180591620717411303425
 |.i16=>1180591620717411303426
 |.i32=>1180591620717411303427
 |.i64=>1180591620717411303428
 |.u8=>1180591620717411303429
 |.u16=>1180591620717411303430
 |.u32=>1180591620717411303431
 |.u64=>1180591620717411303432
def Qu (has:CW->Bool) (kd:TypeDesc) (k:CW):Prop:=match kd,k with
 |.string,.str _=>has (.int bT)=false
 |.int q,.int n=>has (.int (bS q))=true/\n<bT
 |_,_=>False
def dC (z a:AV):Prop:=a=z\/(z=.Ay/\∃e f,a=.vec e 0 f)
mutual
inductive VR (ρ:Ai):AV->Value->Prop where
 |bool (b:Bool):VR ρ (.bool b) (.bool b)
 |int (k:IntKind) (n:Int):VR ρ (.int k n) (.int k n)
 |str (len n:Nat) (h:n<256^len):VR ρ (.str len n) (.string (BA len n))
 |EC:VR ρ .EC (.pointer none)
 |ptr (id off:Nat) (b:C3) (h:ρ id=some b):VR ρ (.ptr id off) (.pointer (some ⟨b.b,b.ob+off,none⟩))
 |Ay:VR ρ .Ay (.slice none 0 0)
 |sl (id off len cap:Nat) (b:C3) (h:ρ id=some b):VR ρ (.sl id off len cap) (.slice (some ⟨b.b,b.ob+off,none⟩) len cap)
 |BF (id off len Ap:Nat) (b:C3) (h:ρ id=some b) (he:0<Ap) (hl:off+len*Ap<=b.cap):VR ρ (.BF id off len Ap) (.slice (some ⟨b.b,b.ob+off,none⟩) len ((b.cap-off)/Ap))
 |sle (id:Nat) (b:C3) (o c:Nat) (h:ρ id=some b):VR ρ (.sle id) (.slice (some ⟨b.b,o,none⟩) 0 c)
 |E8:VR ρ .E8 (.map none)
 |map (id:Nat) (b:C3) (h:ρ id=some b):VR ρ (.map id) (.map (some b.b))
 |fn (f:Fn) (a c:List AV) (va vc:List Value) (ha:AG ρ a va) (hc:AG ρ c vc):VR ρ (.fn f a c) (.func f va.toArray vc.toArray)
 |GD:VR ρ .GD .nilFunc
 |Dx (id:Nat) (b:C3) (h:ρ id=some b):VR ρ (.Dx id) (.func (.yield b.b) #[] #[])
 |iface (t:Nat) (a:AV) (v:Value) (h:VR ρ a v):VR ρ (.iface t a) (.iface t v)
 |EL:VR ρ .EL .nilIface
 |agg (l:List AV) (vs:List Value) (h:AG ρ l vs):VR ρ (.agg l) (.agg vs.toArray)
 |AO (l:List AV) (vs:List Value) (h:AG ρ l vs):VR ρ (.AO l) (.tuple vs.toArray)
 |Gp (g off:Nat):VR ρ (.Gp g off) (.pointer (some ⟨g,off,none⟩))
 |ML:VR ρ .ML (.chan none)
 |chan (id:Nat) (b:C3) (h:ρ id=some b):VR ρ (.chan id) (.chan (some b.b))
 |bs (l:List UInt8):VR ρ (.bs l) (.string ⟨l.toArray⟩)
 |bv (l:List UInt8) (b o cap:Nat) (cs:Array Value) (el:Nat) (fz:Nat×Nat) (hs:ρ.st b=some (.cells cs el fz)) (hcap:l.length<=cap)
   (hc:∀i,i<l.length->cs[o+i]? =some (.int .u8 (l.getD i 0).toNat)):VR ρ (.bv l) (.slice (some ⟨b,o,none⟩) l.length cap)
 |Iu (l:List UInt8) (h:l=[]) (base:Option Addr) (cap:Nat):VR ρ (.bv l) (.slice base 0 cap)
 |vec (Ap n:Nat) (f:Nat->List AV) (b o cap:Nat) (cs:Array Value) (el:Nat) (fz:Nat×Nat) (g:Nat->List Value) (hs:ρ.st b=some (.cells cs el fz)) (he:0<Ap) (hcap:n<=cap)
   (hv:∀i,i<n->AG ρ (f i) (g i)) (hc:∀i,i<n->∀j v,(g i)[j]? =some v->cs[o+i*Ap+j]? =some v):VR ρ (.vec Ap n f) (.slice (some ⟨b,o,none⟩) n cap)
 |Gt (Ap n:Nat) (f:Nat->List AV) (h:n=0) (base:Option Addr) (cap:Nat):VR ρ (.vec Ap n f) (.slice base 0 cap)
 |pv (l:List AV) (vs:List Value) (b o:Nat) (cs:Array Value) (el:Nat) (fz:Nat×Nat) (hs:ρ.st b=some (.cells cs el fz)) (hv:AG ρ l vs)
   (hc:∀j v,vs[j]? =some v->cs[o+j]? =some v):VR ρ (.pv l) (.pointer (some ⟨b,o,none⟩))
 |GM (id Ap i j:Nat) (b:C3) (h:ρ id=some b):VR ρ (.GM id Ap i j) (.pointer (some ⟨b.b,b.ob+(i*Ap+j),none⟩))
 |AY (id n Ap:Nat) (b:C3) (h:ρ id=some b) (he:0<Ap) (hl:n*Ap<=b.cap):VR ρ (.AY id n Ap) (.slice (some ⟨b.b,b.ob,none⟩) n (b.cap/Ap))
 |He (id n Ap:Nat) (hn:n=0) (base:Option Addr):VR ρ (.AY id n Ap) (.slice base 0 0)
 |FY (has:CW->Bool) (val:CW->AV) (z:AV) (b:Nat) (es:Array MapEntry) (clock:Nat) (g:CW->Value) (hs:ρ.st b=some (.map es clock))
   (hn:∀(kd:TypeDesc) (k:CW) (u:Value),KR kd k u->Qu has kd k->has k=false->Instr.findNow kd u es.toList 0=some none)
   (hy:∀(kd:TypeDesc) (k:CW) (u:Value),KR kd k u->Qu has kd k->has k=true->∃j,Instr.findNow kd u es.toList 0=some (some (j,g k)))
   (hz:∀k,has k=false->dC z (val k)) (hg:∀(k:CW),has k=true->VR ρ (val k) (g k)):VR ρ (.FY has val z) (.map (some b))
inductive AG (ρ:Ai):List AV->List Value->Prop where
 |nil:AG ρ [] []
 |cons (a:AV) (v:Value) (l:List AV) (vs:List Value) (h:VR ρ a v) (hs:AG ρ l vs):AG ρ (a::l) (v::vs)
end
theorem AlK {ρ:Ai} {z a:AV} {v:Value} (h:dC z a) (hv:VR ρ z v):VR ρ a v:=by
 rcases h with rfl|⟨rfl,e,f,rfl⟩
 ·exact hv
 ·cases hv;exact .Gt _ _ _ rfl _ _
theorem VR.mono {ρ C:Ai} (q:ρ.le C) {a:AV} {v:Value} (h:VR ρ a v):VR C a v:=VR.rec (ρ:=ρ) (motive_1:=λa v _=>VR C a v) (motive_2:=λl vs _=>AG C l vs) .bool .int .str .EC (λid off b h=>.ptr id off b (q _ _ h)) .Ay (λid off len cap b h=>.sl id off len cap b (q _ _ h)) (λid off len Ap b h K L=>.BF id off len Ap b (q _ _ h) K L) (λid b o c h=>.sle id b o c (q _ _ h)) .E8 (λid b h=>.map id b (q _ _ h)) (λf a c va O _ _ S R=>.fn f a c va O S R) .GD (λid b h=>.Dx id b (q _ _ h)) (λt a v _ y=>.iface t a v y) .EL (λl vs _ y=>.agg l vs y) (λl vs _ y=>.AO l vs y) .Gp .ML (λid b h=>.chan id b (q _ _ h)) .bs (λl b o cap cs el fz E B hc=>.bv l b o cap cs el fz (q.st _ _ E) B hc) .Iu (λAp n f b o cap cs el fz g E K B _ hc y=>.vec Ap n f b o cap cs el fz g (q.st _ _ E) K B y hc) .Gt (λl vs b o cs el fz E _ hc y=>.pv l vs b o cs el fz (q.st _ _ E) y hc) (λid Ap i j b h=>.GM id Ap i j b (q _ _ h)) (λid n Ap b h K L=>.AY id n Ap b (q _ _ h) K L) .He (λhas val z b U J g E hn hy hz _ y=>.FY has val z b U J g (q.st _ _ E) hn hy hz y) .nil (λa v l vs _ _ y M=>.cons a v l vs y M) h
theorem AG.mono {ρ q:Ai} (y:ρ.le q):∀ {l:Aj} {vs:List Value},AG ρ l vs->AG q l vs
 |_,_,.nil=>.nil
 |_,_,.cons a v l vs h B=>.cons a v l vs (h.mono y) (AG.mono y B)
theorem AG.length {ρ:Ai}:∀ {l:Aj} {vs:List Value},AG ρ l vs->l.length=vs.length
 |_,_,.nil=>rfl
 |_,_,.cons _ _ _ _ _ q=>by simp[AG.length q]
theorem AG.get {ρ:Ai}:∀ {l:Aj} {vs:List Value},AG ρ l vs->∀(i:Nat) (a:AV),l[i]? =some a->∃v,vs[i]? =some v/\VR ρ a v
 |_,_,.nil,i,a,h=>by simp at h
 |_,_,.cons B v l vs h q,0,a,hi=>by simp at hi;subst hi;exact⟨v,rfl,h⟩
 |_,_,.cons B v l vs h q,i+1,a,hi=>by simp at hi;obtain⟨u,hu,y⟩:=AG.get q i a hi;exact⟨u,by simpa using hu,y⟩
theorem AG.append {ρ:Ai}:∀ {l y:Aj} {vs q:List Value},AG ρ l vs->AG ρ y q->AG ρ (l++y) (vs++q)
 |_,_,_,_,.nil,h'=>h'
 |_,_,_,_,.cons a v l vs h B,h'=>.cons _ _ _ _ h (B.append h')
theorem AG.drop {ρ:Ai}:∀(k:Nat) {l:Aj} {vs:List Value},AG ρ l vs->AG ρ (l.drop k) (vs.drop k)
 |0,_,_,h=>h
 |_+1,_,_,.nil=>.nil
 |k+1,_,_,.cons _ _ _ _ _ q=>AG.drop k q
theorem AG.take {ρ:Ai}:∀(k:Nat) {l:Aj} {vs:List Value},AG ρ l vs->AG ρ (l.take k) (vs.take k)
 |0,_,_,_=>.nil
 |_+1,_,_,.nil=>.nil
 |k+1,_,_,.cons _ _ _ _ h q=>.cons _ _ _ _ h (AG.take k q)
def AV.one:AV->Bool
 |.agg _=>false
 |.AO _=>false
 |_=>true
theorem VR.one {ρ:Ai} {a:AV} {v:Value} (h:VR ρ a v):v.oneCell'=a.one:=by cases h<;>rfl
def AV.cells:AV->Aj
 |.agg cs=>cs
 |v=>[v]
theorem VR.cells {ρ:Ai} {a:AV} {v:Value} (h:VR ρ a v):AG ρ a.cells v.cells.toList:=by
 cases h with
 |agg l vs h=>simpa[AV.cells,Value.cells]using h
 |bool b=>exact .cons _ _ _ _ (.bool b) .nil
 |int k n=>exact .cons _ _ _ _ (.int k n) .nil
 |str l n h=>exact .cons _ _ _ _ (.str l n h) .nil
 |EC=>exact .cons _ _ _ _ .EC .nil
 |ptr i o b h=>exact .cons _ _ _ _ (.ptr i o b h) .nil
 |Ay=>exact .cons _ _ _ _ .Ay .nil
 |sl i o l c b h=>exact .cons _ _ _ _ (.sl i o l c b h) .nil
 |BF i o l c b h C E=>exact .cons _ _ _ _ (.BF i o l c b h C E) .nil
 |sle i b o c h=>exact .cons _ _ _ _ (.sle i b o c h) .nil
 |E8=>exact .cons _ _ _ _ .E8 .nil
 |map i b h=>exact .cons _ _ _ _ (.map i b h) .nil
 |fn f a c va J L hc=>exact .cons _ _ _ _ (.fn f a c va J L hc) .nil
 |GD=>exact .cons _ _ _ _ .GD .nil
 |Dx i b h=>exact .cons _ _ _ _ (.Dx i b h) .nil
 |iface t a v h=>exact .cons _ _ _ _ (.iface t a v h) .nil
 |EL=>exact .cons _ _ _ _ .EL .nil
 |AO l vs h=>exact .cons _ _ _ _ (.AO l vs h) .nil
 |Gp g o=>exact .cons _ _ _ _ (.Gp g o) .nil
 |ML=>exact .cons _ _ _ _ .ML .nil
 |chan i b h=>exact .cons _ _ _ _ (.chan i b h) .nil
 |bs l=>exact .cons _ _ _ _ (.bs l) .nil
 |bv l b o cap cs el fz y q hc=>exact .cons _ _ _ _ (.bv l b o cap cs el fz y q hc) .nil
 |Iu l h base cap=>exact .cons _ _ _ _ (.Iu l h base cap) .nil
 |vec Ap n f b o cap cs el fz g y C q hv hc=>exact .cons _ _ _ _ (.vec Ap n f b o cap cs el fz g y C q hv hc) .nil
 |Gt Ap n f h base cap=>exact .cons _ _ _ _ (.Gt Ap n f h base cap) .nil
 |pv l vs b o cs el fz y hv hc=>exact .cons _ _ _ _ (.pv l vs b o cs el fz y hv hc) .nil
 |GM id Ap i j b h=>exact .cons _ _ _ _ (.GM id Ap i j b h) .nil
 |AY id n Ap b h C E=>exact .cons _ _ _ _ (.AY id n Ap b h C E) .nil
 |He id n Ap hn base=>exact .cons _ _ _ _ (.He id n Ap hn base) .nil
 |FY has val z b M B g y hn hy hz K=>exact .cons _ _ _ _ (.FY has val z b M B g y hn hy hz K) .nil
inductive CB where
 |Dw (z:List AV)
 |rows (Ap:Nat) (f:Nat->List AV)
structure DW where
 key:AV
 val:AV
 born:Nat
inductive Ae where
 |cells (elem:Nat) (c:Tr AV) (z:CB) (n:Nat) (op:Bool)
 |map (es:List DW) (clock:Nat)
 |Df (op:Bool)
 |loop (st:LoopState) (Dv:Option Code) (T:Tr AV) (N:Nat) (ps:Array Tmp) (asg body:Code) (d:Nat)
 |Jo (l:List AV)
 |chan (cap:Nat) (buf:List AV)
 |Mt (l n pos:Nat)
 |O3
 |IA (id since:Nat) (seen:List Nat) (last:Nat)
def Ae.Ady:Ae->Bool
 |.Jo _=>true
 |_=>false
def CB.at (z:CB) (k:Nat):Option AV:=CB.rec (motive:=λ_=>Option AV) (λl=>l[k %l.length]?) (λAp f=>(f (k/Ap))[k %Ap]?) z
def cellOf (c:Tr AV) (z:CB) (k:Nat):Option AV:=Option.rec (motive:=λ_=>Option AV) (z.at k) (λv=>some v) (c.get k)
theorem Abn (c:Tr AV) (z:CB) (k:Nat) (v:AV):cellOf (c.set k v) z k=some v:=by unfold cellOf;rw[Tr.GG]
theorem Abm (c:Tr AV) (z:CB) {k j:Nat} (h:k≠j) (v:AV):cellOf (c.set k v) z j=cellOf c z j:=by unfold cellOf;rw[Tr.KE _ h]
def TR (ρ:Ai) (T:Tr AV) (tmps:Array Value):Prop:=∀t a,T.get t=some a->∃v,tmps[t]? =some v/\VR ρ a v
theorem TR.mono {ρ q:Ai} (y:ρ.le q) {T:Tr AV} {tmps:Array Value} (h:TR ρ T tmps):TR q T tmps:=λt a ht=>let ⟨v,C,B⟩:=h t a ht;⟨v,C,B.mono y⟩
def ER (ρ:Ai) (a:DW) (e:MapEntry):Prop:=VR ρ a.key e.key/\VR ρ a.val e.val/\a.born=e.born
inductive Ey (ρ:Ai):List DW->List MapEntry->Prop where
 |nil:Ey ρ [] []
 |cons (a:DW) (e:MapEntry) (l:List DW) (es:List MapEntry) (h:ER ρ a e) (hs:Ey ρ l es):Ey ρ (a::l) (e::es)
theorem Ey.mono {ρ y:Ai} (q:ρ.le y):∀ {l:List DW} {B:List MapEntry},Ey ρ l B->Ey y l B
 |_,_,.nil=>.nil
 |_,_,.cons a e l B h C=>.cons a e l B ⟨h.1.mono q,h.2.1.mono q,h.2.2⟩ (Ey.mono q C)
theorem Ey.length {ρ:Ai}:∀ {l:List DW} {vs:List MapEntry},Ey ρ l vs->l.length=vs.length
 |_,_,.nil=>rfl
 |_,_,.cons _ _ _ _ _ q=>by simp[Ey.length q]
def Yx (c:Array Value) (fz:Nat×Nat):Prop:=fz=(0,0)\/c.size<=fz.1
inductive OR (ρ:Ai) (b:C3):Ae->Obj->Prop where
 |cells (elem:Nat) (c:Tr AV) (z:CB) (n:Nat) (op:Bool) (cs:Array Value) (fz:Nat×Nat)
   (Dt:cs.size=b.ob+b.cap) (hn:n<=b.cap) (hop:op=false->n=b.cap) (hfz:Yx cs fz)
   (h:∀k a,k<n->cellOf c z k=some a->∃v,cs[b.ob+k]? =some v/\VR ρ a v):OR ρ b (.cells elem c z n op) (.cells cs elem fz)
 |map (es:List DW) (clock:Nat) (l:List MapEntry) (h:Ey ρ es l):OR ρ b (.map es clock) (.map l.toArray clock)
 |Df (op:Bool):OR ρ b (.Df op) (.deferred (if op then some []else none))
 |loop (st:LoopState) (Dv:Option Code) (T:Tr AV) (N:Nat) (ps:Array Tmp) (asg body:Code) (d fn:Nat) (tmps:Array Value) (bd:C3)
   (hT:TR ρ T tmps) (hN:tmps.size=N) (hd:ρ d=some bd):OR ρ b (.loop st Dv T N ps asg body d) (.loop {state:=st,pending:=Dv,fn,tmps,params:=ps,assign:=asg,body,defers:=bd.b})
 |chan (cap:Nat) (buf:List AV) (vs:List Value) (s r:Nat) (h:AG ρ buf vs):OR ρ b (.chan cap buf) (.chan cap vs.toArray false s r false)
 |Mt (l n pos:Nat) (hob:b.ob=0) (hn:n<256^l):OR ρ b (.Mt l n pos) (.stringIter (BA l n) pos)
 |O3 (s:Nat) (seen:Array Nat) (last:Nat) (hob:b.ob=0):OR ρ b .O3 (.mapIter none s seen last)
 |IA (id since:Nat) (seen:List Nat) (last:Nat) (bm:C3) (hob:b.ob=0) (hm:ρ id=some bm):OR ρ b (.IA id since seen last) (.mapIter (some bm.b) since seen.toArray last)
theorem OR.mono {ρ E:Ai} (q:ρ.le E) {b:C3} {a:Ae} {o:Obj} (h:OR ρ b a o):OR E b a o:=by
 cases h with
 |cells J c z n op cs fz Dt hn K L h=>exact .cells J c z n op cs fz Dt hn K L λk a U V=>let ⟨v,Z,Y⟩:=h k a U V;⟨v,Z,Y.mono q⟩
 |map es C l h=>exact .map es C l (h.mono q)
 |Df op=>exact .Df op
 |loop st Dv T N R O body d fn tmps bd hT W hd=>exact .loop st Dv T N R O body d fn tmps bd (hT.mono q) W (q _ _ hd)
 |chan cap M vs s r h=>exact .chan cap M vs s r (h.mono q)
 |Mt l n pos y hn=>exact .Mt l n pos y hn
 |O3 s seen last y=>exact .O3 s seen last y
 |IA id B seen last bm y S=>exact .IA id B seen last bm y (q _ _ S)
structure Env where
 tape:Nat->Question->Nat
 os:Os
 output:Array (Nat×ByteArray)
 base:Nat->Option Obj
 fs:Nat->Bool
structure Rel (E:Env) (F:Nat->Option Obj) (nx:Nat) (ρ:Ai) (h:Nat->Option Ae) (w:World):Prop where
 tape:w.tape=E.tape
 os:w.os=E.os
 output:w.output=E.output
 fr:∀b o,F b=some o->w.heap[b]? =some o
 ob:∀i o b,h i=some o->ρ i=some b->∃c,w.heap[b.b]? =some c/\OR ρ b o c
 dj:∀i o b,h i=some o->ρ i=some b->F b.b=none
 inj:∀i j o o' b b',h i=some o->h j=some o'->ρ i=some b->ρ j=some b'->b.b=b'.b->i=j
 new:∀i,nx<=i->ρ i=none
 gl:∀g l,h g=some (.Jo l)->∃cs e fz,E.base g=some (.cells cs e fz)/\∀ρ',AG ρ' l cs.toList
 bs:∀b o,E.base b=some o->F b=some o
 st:∀b o,ρ.st b=some o->w.heap[b]? =some o
 sd:∀i o b,h i=some o->ρ i=some b->ρ.st b.b=none
 sf:∀b o o',F b=some o->ρ.st b=some o'->E.fs b=true
theorem Rel.drew {E:Env} {F:Nat->Option Obj} {nx:Nat} {ρ:Ai} {h:Nat->Option Ae} {w:World} (r:Rel E F nx ρ h w):Rel E F nx ρ h w.drew:=⟨r.tape,r.os,r.output,r.fr,r.ob,r.dj,r.inj,r.new,r.gl,r.bs,r.st,r.sd,r.sf⟩
theorem Rel.less {E:Env} {F:Nat->Option Obj} {nx:Nat} {ρ:Ai} {h h':Nat->Option Ae} {w:World} (r:Rel E F nx ρ h w) (q:∀i o,h' i=some o->h i=some o):Rel E F nx ρ h' w:=⟨r.tape,r.os,r.output,r.fr,λi o b hi=>r.ob i o b (q i o hi),λi o b hi=>r.dj i o b (q i o hi),λi j o y b J hi B=>r.inj i j o y b J (q i o hi) (q j y B),r.new,λg l C=>r.gl g l (q g _ C),r.bs,r.st,λi o b hi=>r.sd i o b (q i o hi),r.sf⟩
theorem Rel.Fp {E:Env} {F:Nat->Option Obj} {nx nx':Nat} {ρ:Ai} {h:Nat->Option Ae} {w:World} (r:Rel E F nx ρ h w) (hn:nx<=nx'): Rel E F nx' ρ h w:={r with new:=λi hi=>r.new i (G3 hn hi)}
theorem M4 {w:World} {b:Nat} {o:Obj} (h:w.heap[b]? =some o):b<w.heap.size:=(Array.getElem?_eq_some_iff.1 h).1
theorem Rel.alloc {E:Env} {F:Nat->Option Obj} {nx nx':Nat} {ρ:Ai} {h:Nat->Option Ae} {w:World} (r:Rel E F nx ρ h w) {i:Nat} (hi:ρ i=none) (aa:nx<=nx') (ab:i<nx') {cap:Nat} {a:Ae} {o:Obj} (S:OR (ρ.put i ⟨w.heap.size,0,cap⟩) ⟨w.heap.size,0,cap⟩ a o): Rel E F nx' (ρ.put i ⟨w.heap.size,0,cap⟩) (λj=>if j=i then some a else h j) (w.alloc o)/\ ρ.le (ρ.put i ⟨w.heap.size,0,cap⟩):=by
 have U:ρ.le (ρ.put i ⟨w.heap.size,0,cap⟩):=Ai.Lp hi _;have J:∀b C,w.heap[b]? =some C->(w.alloc o).heap[b]? =some C:=λb C y=>by have:=M4 y;show(w.heap.push o)[b]? =_;rw[Array.getElem?_push,Ad (by omega)];exact y
 have W:(w.alloc o).heap[w.heap.size]? =some o:=by show(w.heap.push o)[w.heap.size]? =_;rw[Array.getElem?_push,Am rfl]
 refine⟨⟨r.tape,r.os,r.output,λb C y=>J b C (r.fr b C y),?_,?_,?_,?_,λg l Y=>?_,r.bs,λb C y=>J b C (r.st b C y),?_,r.sf⟩,U⟩
 rotate_right
 rotate_right
 ·by_cases V:g=i
  ·subst V;simp only[if_true,Option.some.injEq]at Y;subst Y;cases S
  ·simp only[V,if_false]at Y;exact r.gl g l Y
 ·intro j C b B y;by_cases q:j=i
  ·subst q;simp only[Ai.put,if_true,Option.some.injEq]at y;subst y;cases Z:ρ.st w.heap.size with
   |none=>exact Z
   |some x=>exact absurd (M4 (r.st _ _ Z)) (Nat.lt_irrefl _)
  ·simp only[Ai.put,q,if_false]at B y;exact r.sd j C b B y
 ·intro j C b B y;by_cases q:j=i
  ·subst q;simp only[Ai.put,if_true,Option.some.injEq]at B y;subst B;subst y;exact⟨o,W,S⟩
  ·simp only[Ai.put,q,if_false]at B y;obtain⟨c,hc,hr⟩:=r.ob j C b B y;exact⟨c,J _ _ hc,hr.mono U⟩
 ·intro j C b B y;by_cases q:j=i
  ·subst q;simp only[Ai.put,if_true,Option.some.injEq]at B y;subst y;cases Z:F w.heap.size with
   |none=>rfl
   |some x=>exact absurd (M4 (r.fr _ _ Z)) (Nat.lt_irrefl _)
  ·simp only[Ai.put,q,if_false]at B y;exact r.dj j C b B y
 ·intro j k o1 o2 b1 b2 B R L K O;by_cases q:j=i<;>by_cases M:k=i
  ·rw[q,M]
  ·simp only[Ai.put,q,M,if_true,if_false,Option.some.injEq]at B R L K;subst L;obtain⟨c,hc,_⟩:=r.ob k o2 b2 R K;have:=M4 hc;simp only at O;omega
  ·simp only[Ai.put,q,M,if_true,if_false,Option.some.injEq]at B R L K;subst K;obtain⟨c,hc,_⟩:=r.ob j o1 b1 B L;have:=M4 hc;simp only at O;omega
  ·simp only[Ai.put,q,M,if_false]at B R L K;exact r.inj j k o1 o2 b1 b2 B R L K O
 ·intro j B;have:j≠i:=by omega
  simp only[Ai.put,this,if_false];exact r.new j (G3 aa B)
theorem Rel.put {E:Env} {F:Nat->Option Obj} {nx:Nat} {ρ:Ai} {h:Nat->Option Ae} {w w':World} (r:Rel E F nx ρ h w) {i:Nat} {b:C3} {o a:Ae} {c:Obj} (hi:h i=some o) (L:ρ i=some b) (U:OR ρ b a c) (Y:∀k,w'.heap[k]? =if k=b.b then some c else w.heap[k]?) (ht:w'.tape=w.tape) (aa:w'.os=w.os) (W:w'.output=w.output): Rel E F nx ρ (λj=>if j=i then some a else h j) w':=by
 have hF:=r.dj i o b hi L;refine⟨ht.trans r.tape,aa.trans r.os,W.trans r.output,?_,?_,?_,?_,r.new,λg l Z=>?_,r.bs,λk J C=>?_,λj J S B y=>?_,r.sf⟩
 rotate_right
 rotate_right
 rotate_right
 ·by_cases V:g=i
  ·subst V;simp only[if_true,Option.some.injEq]at Z;subst Z;cases U
  ·simp only[V,if_false]at Z;exact r.gl g l Z
 ·have hS:=r.sd i o b hi L;rw[Y,Ad (λe=>by subst e;rw[hS]at C;cases C)];exact r.st k J C
 ·by_cases q:j=i
  ·subst q;rw[L]at y;cases y;exact r.sd j o b hi L
  ·simp only[q,if_false]at B;exact r.sd j J S B y
 ·intro k J C;rw[Y,Ad (λe=>by subst e;rw[hF]at C;cases C)];exact r.fr k J C
 ·intro j J S B y;by_cases q:j=i
  ·subst q;simp only[if_true,Option.some.injEq]at B;subst B;rw[L]at y;cases y;exact⟨c,by rw[Y,Am rfl],U⟩
  ·simp only[q,if_false]at B;obtain⟨c',ab,hr⟩:=r.ob j J S B y;refine⟨c',?_,hr⟩;rw[Y,Ad (λe=>q (r.inj j i J o S b B hi y L e))];exact ab
 ·intro j J S B y;by_cases q:j=i
  ·subst q;rw[L]at y;cases y;exact hF
  ·simp only[q,if_false]at B;exact r.dj j J S B y
 ·intro j k o1 o2 b1 b2 B C R O M;by_cases q:j=i<;>by_cases K:k=i
  ·rw[q,K]
  ·simp only[K,if_false]at C;subst q;exact r.inj _ k o o2 b1 b2 hi C R O M
  ·simp only[q,if_false]at B;subst K;exact r.inj j _ o1 o b1 b2 B hi R O M
  ·simp only[q,K,if_false]at B C;exact r.inj j k o1 o2 b1 b2 B C R O M
end Go.Ev
end
section
namespace Go.Ev
def ob.{u,v} {α:Type u} {q:Type v} (x:Option α) (f:α->Option q):Option q:=Option.rec (motive:=λ_=>Option q) none f x
def gd {q:Type} (b:Bool) (x:Option q):Option q:=cond b x none
theorem Ag.{u,v} {α:Type u} {q:Type v} {x:Option α} {f:α->Option q} {y:q}:ob x f=some y↔∃a,x=some a/\f a=some y:=by
 cases x with
 |none=>simp[ob]
 |some a=>simp[ob]
theorem AL {q:Type} {b:Bool} {x:Option q} {y:q}:gd b x=some y↔b=true/\x=some y:=by cases b<;>simp[gd]
def fN {q:Type} (n:Nat) (k:Nat->q):q:=Nat.rec (motive:=λ_=>q) (k 0) (λm _=>k (Nat.succ m)) n
theorem Bv {q:Type} (n:Nat) (k:Nat->q):fN n k=k n:=by cases n<;>rfl
def fI {q:Type} (n:Int) (k:Int->q):q:=Int.rec (motive:=λ_=>q) (λm=>fN m λm=>k (Int.ofNat m)) (λm=>fN m λm=>k (Int.negSucc m)) n
theorem MT {q:Type} (n:Int) (k:Int->q):fI n k=k n:=by
 cases n with
 |ofNat m=>exact Bv m λm=>k (Int.ofNat m)
 |negSucc m=>exact Bv m λm=>k (Int.negSucc m)
def j9:IntKind->Nat
 |.i8=>0|.i16=>1|.i32=>2|.i64=>3|.u8=>4|.u16=>5|.u32=>6|.u64=>7
def MY (a b:IntKind):Bool:=Nat.beq (j9 a) (j9 b)
theorem O0 {a b:IntKind} (h:MY a b=true):a=b:=by cases a<;>cases b<;>first|rfl|(exact absurd h (by decide))
def An:Int->Int->Bool
 |.ofNat a,.ofNat b=>Nat.beq a b
 |.negSucc a,.negSucc b=>Nat.beq a b
 |_,_=>false
def AQ:Int->Int->Bool
 |.ofNat a,.ofNat b=>Nat.blt a b
 |.negSucc _,.ofNat _=>true
 |.ofNat _,.negSucc _=>false
 |.negSucc a,.negSucc b=>Nat.blt b a
theorem SY (a b:Nat):Nat.blt a b=decide (a<b):=by rw[Bool.eq_iff_iff,Co];simp
theorem DU (a b:Int):An a b=(a==b):=by
 cases a with
 |ofNat a=>cases b with
  |ofNat b=>rw[Bool.eq_iff_iff];simp only[An,AN,beq_iff_eq];simp only[Int.ofNat_eq_natCast];omega
  |negSucc b=>simp[An]
 |negSucc a=>cases b with
  |ofNat b=>simp[An]
  |negSucc b=>rw[Bool.eq_iff_iff];simp only[An,AN,beq_iff_eq];simp
theorem EM (a b:Int):AQ a b=decide (a<b):=by
 cases a with
 |ofNat a=>cases b with
  |ofNat b=>simp only[AQ,SY];simp
  |negSucc b=>simp[AQ];omega
 |negSucc a=>cases b with
  |ofNat b=>simp[AQ];omega
  |negSucc b=>simp only[AQ,SY];rw[decide_eq_decide];omega
theorem wrap_i64 {n:Int} (y:-9223372036854775808<=n) (q:n<9223372036854775808):IntKind.i64.wrap n=n:=by
 simp only[IntKind.wrap,IntKind.bits,IntKind.signed,Bool.true_and];by_cases h:0<=n
 ·rw[Ad (by simp;omega)];omega
 ·rw[Am (by simp;omega)];omega
theorem wrap_u8 {n:Int} (y:0<=n) (q:n<256):IntKind.u8.wrap n=n:=by simp[IntKind.wrap,IntKind.bits,IntKind.signed];omega
def wr (k:IntKind) (n:Int):Int:=
 match k,n with
 |.i64,.ofNat m=>cond (Nat.blt m 9223372036854775808) (.ofNat m) (k.wrap n)
 |.i64,.negSucc m=>cond (Nat.blt m 9223372036854775808) (.negSucc m) (k.wrap n)
 |.u8,.ofNat m=>cond (Nat.blt m 256) (.ofNat m) (k.wrap n)
 |k,n=>k.wrap n
theorem WV (k:IntKind) (n:Int):wr k n=k.wrap n:=by
 unfold wr;split
 ·rename_i m;rw[SY];by_cases h:m<9223372036854775808
  ·rw[Bi h,cond_true,wrap_i64]
   ·simp only[Int.ofNat_eq_natCast];omega
   ·simp only[Int.ofNat_eq_natCast];omega
  ·rw[Ej h,cond_false]
 ·rename_i m;rw[SY];by_cases h:m<9223372036854775808
  ·rw[Bi h,cond_true,wrap_i64]<;>omega
  ·rw[Ej h,cond_false]
 ·rename_i m;rw[SY];by_cases h:m<256
  ·rw[Bi h,cond_true,wrap_u8]
   ·simp only[Int.ofNat_eq_natCast];omega
   ·simp only[Int.ofNat_eq_natCast];omega
  ·rw[Ej h,cond_false]
 ·rfl
theorem ON:∀(l n:Nat),(BB l n).length=l
 |0,_=>rfl
 |l+1,n=>by simp[BB,ON l]
theorem MK (l n:Nat):(BA l n).size=l:=by show(BB l n).toArray.size=l;simp[ON]
theorem P6 (l n:Nat):(BA l n).data.toList=BB l n:=rfl
theorem fS (l n:Nat):(BA l n).toList=BB l n:=by rw[ByteArray.toList_eq,P6]
theorem HT (n:Nat):(UInt8.ofNat n).toNat=n %256:=by simp
theorem pE:∀(l n m:Nat),n<256^l->m<256^l->BB l n=BB l m->n=m
 |0,n,m,hn,hm,_=>by simp at hn hm;omega
 |l+1,n,m,hn,hm,h=>by
  simp only[BB,List.cons.injEq]at h;have y:n %256=m %256:=by rw[<-HT,<-HT,h.1]
  have q:=pE l (n/256) (m/256) (Nat.div_lt_of_lt_mul (by rw[Nat.pow_succ]at hn;omega)) (Nat.div_lt_of_lt_mul (by rw[Nat.pow_succ]at hm;omega)) h.2;omega
theorem XI:∀(l n i:Nat),i<l->(BB l n)[i]? =some (UInt8.ofNat (n/256^i))
 |0,_,_,h=>by omega
 |l+1,n,0,_=>by simp[BB]
 |l+1,n,i+1,h=>by simp only[BB,List.getElem?_cons_succ];rw[XI l (n/256) i (by omega),Nat.div_div_eq_div_mul,Nat.pow_succ,Nat.mul_comm]
theorem pC:∀(l n y q:Nat),n<256^l->BB (l+y) (n+q*256^l)=BB l n++BB y q
 |0,n,y,q,h=>by
  have:n=0:=by simpa using h
  simp[BB,this]
 |l+1,n,y,q,h=>by
  rw[show l+1+y=(l+y)+1 by omega];simp only[BB,List.cons_append];have B:q*256^(l+1)=256*(q*256^l):=by rw[Nat.pow_succ];ac_rfl
  have E:(n+q*256^(l+1))/256=n/256+q*256^l:=by rw[B];omega
  have C:UInt8.ofNat (n+q*256^(l+1))=UInt8.ofNat n:=by apply UInt8.toNat_inj.1;rw[HT,HT,B];omega
  rw[E,C,pC l (n/256) y q (Nat.div_lt_of_lt_mul (by rw[Nat.pow_succ]at h;omega))]
theorem pD:∀(k l n:Nat),(BB l n).drop k=BB (l-k) (n/256^k)
 |0,l,n=>by simp
 |k+1,0,n=>by simp[BB]
 |k+1,l+1,n=>by simp only[BB,List.drop_succ_cons];rw[pD k l (n/256),Nat.div_div_eq_div_mul,Nat.pow_succ,Nat.mul_comm,show l+1-(k+1)=l-k by omega]
theorem pF:∀(k l n:Nat),k<=l->(BB l n).take k=BB k (n %256^k)
 |0,l,n,_=>by simp[BB]
 |k+1,0,n,h=>by omega
 |k+1,l+1,n,h=>by
  simp only[BB,List.take_succ_cons];have y:UInt8.ofNat (n %256^(k+1))=UInt8.ofNat n:=by apply UInt8.toNat_inj.1;rw[HT,HT,Nat.pow_succ,Nat.mul_comm,Nat.mod_mul_right_mod]
  have q:n %256^(k+1)/256=n/256%256^k:=by rw[Nat.pow_succ,Nat.mul_comm,Nat.mod_mul_right_div_self]
  rw[pF k l (n/256) (by omega),y,q]
theorem AaX (l n y q:Nat) (h:n<256^l):BA l n++BA y q=BA (l+y) (n+q*256^l):=by
 have:(BA l n++BA y q).data=(BA (l+y) (n+q*256^l)).data:=by rw[ByteArray.data_append];show(BB l n).toArray++(BB y q).toArray=(BB (l+y) (n+q*256^l)).toArray;rw[pC _ _ _ _ h];simp
 cases C:(BA l n++BA y q);cases B:BA (l+y) (n+q*256^l);rw[C,B]at this;simpa using this
theorem AaY (l n a b:Nat) (B:b<=l) (y:a<=b):(BA l n).extract a b=BA (b-a) (n/256^a %256^(b-a)):=by
 have h:((BA l n).extract a b).data.toList=BB (b-a) (n/256^a %256^(b-a)):=by rw[Lib.extract_data,P6];rw[List.take_drop,show a+(b-a)=b by omega]at*;rw[show(List.take b (BB l n)).drop a=((BB l n).drop a).take (b-a) by rw[List.drop_take]];rw[pD,pF _ _ _ (by omega)]
 cases q:(BA l n).extract a b with
 |mk d=>rw[q]at h;unfold BA;rw[<-h]
def HH (l:Ac):Nat:=List.rec (motive:=λ_=>Nat) 0 (λc _ q=>c.toNat+256*q) l
theorem wX:∀(l:Ac),HH l<256^l.length
 | []=>by simp[HH]
 |c::l=>by have h:=wX l;have hc:=c.toNat_lt;show c.toNat+256*HH l<256^(l.length+1);rw[Nat.pow_succ];omega
theorem Vd:∀(l:Ac),BB l.length (HH l)=l
 | []=>rfl
 |c::l=>by
  have hc:=c.toNat_lt;show UInt8.ofNat (c.toNat+256*HH l)::BB l.length ((c.toNat+256*HH l)/256)=c::l;have e:(c.toNat+256*HH l)/256=HH l:=by omega
  have q:UInt8.ofNat (c.toNat+256*HH l)=c:=by apply UInt8.toNat_inj.1;rw[HT];omega
  rw[e,q,Vd l]
def Ov:Nat->Nat->Nat->Nat->Bool
 |_,_,0,_=>false
 |0,_,_+1,_=>true
 |l+1,n,y+1,q=>cond (Nat.blt (n %256) (q %256)) true (cond (Nat.beq (n %256) (q %256)) (Ov l (n/256) y (q/256)) false)
theorem yV:∀(l n y q:Nat),Ov l n y q=Op.bytesLess (BB l n) (BB y q)
 |l,n,0,_=>by cases l<;>simp[Ov,BB,Op.bytesLess]
 |0,n,y+1,q=>by simp[Ov,BB,Op.bytesLess]
 |l+1,n,y+1,q=>by
  simp only[Ov,BB,Op.bytesLess];rw[yV l (n/256) y (q/256)];have C:decide (UInt8.ofNat n<UInt8.ofNat q)=Nat.blt (n %256) (q %256):=by rw[Bool.eq_iff_iff];simp[UInt8.lt_iff_toNat_lt,Co]
  have B:(UInt8.ofNat n==UInt8.ofNat q)=Nat.beq (n %256) (q %256):=by rw[Bool.eq_iff_iff,beq_iff_eq,AN,<-UInt8.toNat_inj];simp
  rw[C,B];cases Nat.blt (n %256) (q %256)<;>cases Nat.beq (n %256) (q %256)<;>simp
def V3:Value->Option AV
 |.bool b=>some (.bool b)
 |.int k n=>some (.int k n)
 |.string s=>some (.str s.data.toList.length (HH s.data.toList))
 |.pointer none=>some .EC
 |.slice none 0 0=>some .Ay
 |.map none=>some .E8
 |.nilFunc=>some .GD
 |.nilIface=>some .EL
 |.chan none=>some .ML
 |_=>none
def kY (l:List Value):Option Aj:=List.rec (motive:=λ_=>Option Aj) (some []) (λv _ q=>ob (V3 v) λa=>ob q λr=>some (a::r)) l
def ofValue:Value->Option AV
 |.agg cs=>(kY cs.toList).map .agg
 |.tuple vs=>match vs.toList with
  | []=>some (.AO [])
  |_=>none
 |v=>V3 v
theorem AaZ (s:ByteArray):BA s.data.toList.length (HH s.data.toList)=s:=by unfold BA;rw[Vd]
theorem wA {ρ:Ai} {v:Value} {a:AV} (h:V3 v=some a):VR ρ a v:=by
 unfold V3 at h;split at h<;>first|(cases h;done)|skip
 all_goals (injection h with h;subst h)
 ·exact .bool _
 ·exact .int _ _
 ·rename_i s;have:=VR.str (ρ:=ρ) s.data.toList.length (HH s.data.toList) (wX _);rwa[AaZ]at this
 ·exact .EC
 ·exact .Ay
 ·exact .E8
 ·exact .GD
 ·exact .EL
 ·exact .ML
theorem wB {ρ:Ai}:∀ {l:List Value} {r:Aj},kY l=some r->AG ρ r l
 | [],r,h=>by injection h with h;subst h;exact .nil
 |v::l,r,h=>by obtain⟨a,y,h⟩:=Ag.1 (show ob (V3 v) (λa=>ob (kY l) λr=>some (a::r))=some r from h);obtain⟨B,q,h⟩:=Ag.1 h;injection h with h;subst h;exact .cons _ _ _ _ (wA y) (wB q)
theorem wC {ρ:Ai} {v:Value} {a:AV} (h:ofValue v=some a):VR ρ a v:=by
 unfold ofValue at h;split at h
 ·rename_i cs;obtain⟨r,q,h⟩:=Option.map_eq_some_iff.1 h;subst h;exact .agg _ _ (wB q)
 ·rename_i vs;split at h
  ·rename_i hv;injection h with h;subst h;have:vs= #[]:=by simpa using hv
   subst this;exact .AO _ _ .nil
  ·cases h
 ·exact wA h
def B6 (T:Tr AV):Operand->Option AV
 |.tmp t=>T.get t
 |.const v=>ofValue v
 |.func f=>some (.fn (.func f) [] [])
 |.global g=>some (.Gp g 0)
def XR (ρ:Ai) (X:Operand->Option AV) (f:Operand->Value):Prop:=∀x a,X x=some a->VR ρ a (f x)
theorem TR.xr {ρ:Ai} {T:Tr AV} {a:Act} (h:TR ρ T a.tmps):XR ρ (B6 T) a.eval:=by
 intro x v q;cases x with
 |tmp t=>
  obtain⟨u,B,y⟩:=h t v q;have:a.eval (.tmp t)=u:=by simp[Act.eval,B]
  rw[this];exact y
 |const c=>exact wC q
 |func f=>injection q with q;subst q;exact .fn (.func f) [] [] [] [] .nil .nil
 |global g=>injection q with q;subst q;exact .Gp g 0
def Jt (n:Nat):AV:=.int .i64 (.ofNat n)
def Yq (op:UnOp) (x:AV):Option AV:=
 match op,x with
 |.not,.bool b=>some (.bool (!b))
 |.neg,.int k n=>fI (wr k (0-n)) λr=>some (.int k r)
 |_,_=>none
theorem sU {P:Program} {ρ:Ai} {op:UnOp} {x r:AV} {v:Value} (h:Yq op x=some r) (q:VR ρ x v) (w:World): ∃u,(Op.unary op v).run P w=.ok u w/\VR ρ r u:=by
 unfold Yq at h;split at h
 ·injection h with h;subst h;cases q;exact⟨_,by simp[Op.unary],.bool _⟩
 ·rw[MT]at h;injection h with h;subst h;cases q;refine⟨_,by simp[Op.unary,Op.intArith];rfl,?_⟩;rw[WV,Int.zero_sub];exact .int _ _
 ·cases h
def So (op:BinOp) (k:IntKind) (a b:Int):Option AV:=
 match op with
 |.add=>fI (wr k (a+b)) λn=>some (.int k n)
 |.sub=>fI (wr k (a-b)) λn=>some (.int k n)
 |.mul=>fI (wr k (a*b)) λn=>some (.int k n)
 |.quo=>gd (!An b 0) (fI (k.wrap (a.tdiv b)) λn=>some (.int k n))
 |.rem=>gd (!An b 0) (fI (a.tmod b) λn=>some (.int k n))
 |.and=>fI (k.wrap (BitVec.ofInt k.bits a&&& BitVec.ofInt k.bits b).toNat) λn=>some (.int k n)
 |.or=>fI (k.wrap (BitVec.ofInt k.bits a|||BitVec.ofInt k.bits b).toNat) λn=>some (.int k n)
 |.xor=>fI (k.wrap (BitVec.ofInt k.bits a^^^BitVec.ofInt k.bits b).toNat) λn=>some (.int k n)
 |.andNot=>fI (k.wrap (BitVec.ofInt k.bits a&&& ~~~(BitVec.ofInt k.bits b)).toNat) λn=>some (.int k n)
 |.eql=>some (.bool (An a b))
 |.neq=>some (.bool (!An a b))
 |.lss=>some (.bool (AQ a b))
 |.leq=>some (.bool (!AQ b a))
 |.gtr=>some (.bool (AQ b a))
 |.geq=>some (.bool (!AQ a b))
 |.shl|.shr=>none
def Su (op:BinOp) (k:IntKind) (a b:Int):Option AV:=gd (!AQ b 0) (match op with
 |.shl=>fI (k.wrap (a*2^(min b.toNat k.bits))) λn=>some (.int k n)
 |.shr=>fI (a.fdiv (2^(min b.toNat k.bits))) λn=>some (.int k n)
 |_=>none)
def ig (op:BinOp) (l n q y:Nat):Option AV:=
 match op with
 |.add=>gd (Nat.blt (l+q) 9223372036854775808) (fN (l+q) λsl=>fN (n+y*256^l) λB=>some (.str sl B))
 |.eql=>some (.bool (cond (Nat.beq l q) (Nat.beq n y) false))
 |.neq=>some (.bool (!(cond (Nat.beq l q) (Nat.beq n y) false)))
 |.lss=>some (.bool (Ov l n q y))
 |.leq=>some (.bool (Ov l n q y||cond (Nat.beq l q) (Nat.beq n y) false))
 |.gtr=>some (.bool (!(Ov l n q y||cond (Nat.beq l q) (Nat.beq n y) false)))
 |.geq=>some (.bool (!Ov l n q y))
 |_=>none
end Go.Ev
end
section
namespace Go.Ev
def HS (ρ:Ai) (H:Tr Ae) (h:Nat->Option Ae):Prop:=∀i o,H.get i=some o->(∃b,ρ i=some b)\/o.Ady=true->h i=some o
theorem HS.refl (ρ:Ai) (H:Tr Ae):HS ρ H H.get:=λ_ _ h _=>h
theorem Dj {P:Program} {s:Sem Value} {w w':World} {v:Value} (h:s.run P w=.ok v w'): (do pure (Next.value (<-s)):Sem Next).run P w=.ok (.value v) w':=by simp[h]
theorem cell_of {E:Env} {F:Nat->Option Obj} {nx:Nat} {ρ:Ai} {h:Nat->Option Ae} {w:World} (r:Rel E F nx ρ h w) {i:Nat} {b:C3} {el n:Nat} {c:Tr AV} {z:CB} {op:Bool} (hi:h i=some (.cells el c z n op)) (K:ρ i=some b) {k:Nat} {a:AV} (J:k<n) (L:cellOf c z k=some a):∃v,w.cell? ⟨b.b,b.ob+k,none⟩=some v/\VR ρ a v:=by
 obtain⟨o,C,q⟩:=r.ob i _ b hi K;cases q with
 |cells y c z n op cs fz Dt hn M O hc=>obtain⟨v,hv,B⟩:=hc k a J L;exact⟨v,by simp[World.cell?,C,hv],B⟩
def L9:TypeDesc->Bool
 |.struct _=>true
 |.array _ _=>true
 |_=>false
theorem Rd {P:Program} {t:TypeId} {d:TypeDesc} (h:P.underlying t=some d) (w:World):(isAgg t).run P w=.ok (L9 d) w:=by cases d<;>simp[isAgg,run_underlying h,L9]
theorem info_of_underlying {P:Program} {t:TypeId} {d:TypeDesc} (h:P.underlying t=some d):∃i,P.info? t=some i:=by
 unfold Program.underlying at h;split at h
 ·exact⟨_,by assumption⟩
 ·exact⟨_,by assumption⟩
 ·cases h
theorem Er {P:Program} {t:TypeId} {d:TypeDesc} (h:P.underlying t=some d) (w:World):(sizeOf t).run P w=.ok (P.cellsOf t) w:=by obtain⟨i,hi⟩:=info_of_underlying h;exact run_sizeOf w hi
def Mp (c:Tr AV) (z:CB) (q:Nat):Nat->Option Aj:=Nat.rec (motive:=λ_=>Nat->Option Aj) (λ_=>some []) (λ_ y k=>ob (cellOf c z k) λa=>ob (fN (k+1) y) λl=>some (a::l)) q
theorem Ui (c:Tr AV) (z:CB):∀(cnt k:Nat) (l:Aj),Mp c z cnt k=some l-> l.length=cnt/\∀j a,l[j]? =some a->cellOf c z (k+j)=some a
 |0,k,l,h=>by injection h with h;subst h;simp
 |cnt+1,k,l,h=>by
  obtain⟨a,C,h⟩:=Ag.1 (show ob (cellOf c z k) (λa=>ob (fN (k+1) (Mp c z cnt)) λl=>some (a::l))=some l from h);obtain⟨B,y,h⟩:=Ag.1 h;rw[Bv]at y;injection h with h;subst h;obtain⟨J,E⟩:=Ui c z cnt (k+1) B y;refine⟨by simp[J],λj b q=>?_⟩;cases j with
  |zero=>simp at q;subst q;exact C
  |succ j=>have:=E j b (by simpa using q);rwa[show k+1+j=k+(j+1) by omega]at this
theorem AG.S1 {ρ:Ai}:∀ {l:Aj} (f:Nat->Value->Prop),(∀j a,l[j]? =some a->∃v,f j v/\VR ρ a v)-> ∃vs,AG ρ l vs/\∀j v,vs[j]? =some v->f j v
 | [],f,_=>⟨[],.nil,by simp⟩
 |a::l,f,h=>by
  obtain⟨v,hv,y⟩:=h 0 a rfl;obtain⟨vs,E,C⟩:=AG.S1 (l:=l) (λj=>f (j+1)) λj b B=>h (j+1) b (by simpa using B);refine⟨v::vs,.cons _ _ _ _ y E,λj u q=>?_⟩;cases j with
  |zero=>simp at q;subst q;exact hv
  |succ j=>exact C j u (by simpa using q)
theorem Dq (b o k:Nat):(⟨b,o,none⟩:Addr).add k=⟨b,o+k,none⟩:=by
 unfold Addr.add;split
 ·subst_vars;rfl
 ·rfl
def GB (H:Tr Ae) (id off q:Nat):Option Aj:=ob (H.get id) λo=>match o with
  |.cells _ c z n _=>gd (Nat.ble (off+q) n) (Mp c z q off)
  |_=>none
theorem HZ {E:Env} {F:Nat->Option Obj} {nx:Nat} {ρ:Ai} {h:Nat->Option Ae} {w:World} {H:Tr Ae} (r:Rel E F nx ρ h w) (O:HS ρ H h) {id off B:Nat} {l:Aj} {b:C3} (L:ρ id=some b) (q:GB H id off B=some l): ∃vs,AG ρ l vs/\vs.length=B/\∀j v,vs[j]? =some v->w.cell? (Addr.add ⟨b.b,b.ob+off,none⟩ j)=some v:=by
 obtain⟨o,R,q⟩:=Ag.1 q;have hi:=O id o R (.inl ⟨b,L⟩);split at q
 ·obtain⟨J,q⟩:=AL.1 q;rw[Nat.ble_eq]at J;obtain⟨U,S⟩:=Ui _ _ _ _ _ q;obtain⟨vs,y,C⟩:=AG.S1 (ρ:=ρ) (l:=l) (λj v=>w.cell? ⟨b.b,b.ob+(off+j),none⟩=some v) λj a M=>by have K:j<l.length:=(It.1 M).1;exact cell_of r hi L (by omega) (S j a M)
  refine⟨vs,y,by rw[<-y.length,U],λj v K=>?_⟩;rw[Dq,Fy];exact C j v K
 ·cases q
def sE (H:Tr Ae) (id off:Nat):Option AV:=ob (H.get id) λo=>match o with
  |.cells _ c z n _=>gd (Nat.blt off n) (cellOf c z off)
  |_=>none
theorem Ab6 {E:Env} {F:Nat->Option Obj} {nx:Nat} {ρ:Ai} {h:Nat->Option Ae} {w:World} {H:Tr Ae} (r:Rel E F nx ρ h w) (C:HS ρ H h) {id off:Nat} {a:AV} {b:C3} (B:ρ id=some b) (q:sE H id off=some a):∃v,w.cell? ⟨b.b,b.ob+off,none⟩=some v/\VR ρ a v:=by
 obtain⟨o,J,q⟩:=Ag.1 q;have hi:=C id o J (.inl ⟨b,B⟩);split at q
 ·obtain⟨y,q⟩:=AL.1 q;rw[Co]at y;exact cell_of r hi B y q
 ·cases q
def sH (H:Tr Ae) (g off:Nat):Option AV:=ob (H.get g) λo=>match o with
  |.Jo l=>l[off]?
  |_=>none
theorem Acf {E:Env} {F:Nat->Option Obj} {nx:Nat} {ρ:Ai} {h:Nat->Option Ae} {w:World} {H:Tr Ae} (r:Rel E F nx ρ h w) (y:HS ρ H h) {g off:Nat} {a:AV} (q:sH H g off=some a):∃v,w.cell? ⟨g,off,none⟩=some v/\VR ρ a v:=by
 obtain⟨o,C,q⟩:=Ag.1 q;split at q
 ·have hi:=y g _ C (.inr rfl);obtain⟨cs,e,fz,K,J⟩:=r.gl g _ hi;obtain⟨v,hv,B⟩:=(J ρ).get off a q;have:=r.fr g _ (r.bs g _ K);refine⟨v,?_,B⟩;simp only[Array.getElem?_toList]at hv;simp[World.cell?,this,hv]
 ·cases q
def Vq (P:Program) (H:Tr Ae) (t:TypeId) (x:AV):Option AV:=
 match x with
 |.ptr id off=>ob (P.underlying t) λd=>cond (L9 d) (ob (GB H id off (P.cellsOf t)) λl=>some (.agg l)) (sE H id off)
 |.Gp g off=>ob (P.underlying t) λd=>gd (!L9 d) (sH H g off)
 |_=>none
theorem sM {P:Program} {E:Env} {F:Nat->Option Obj} {nx:Nat} {ρ:Ai} {h:Nat->Option Ae} {w:World} {H:Tr Ae} (r:Rel E F nx ρ h w) (J:HS ρ H h) {t:TypeId} {x a:AV} {u:Value} (L:VR ρ x u) (q:Vq P H t x=some a):∃v,(Instr.loadAt t u).run P w=.ok v w/\VR ρ a v:=by
 unfold Vq at q;split at q
 ·rename_i id off;cases L with
  |ptr id off b M=>
   obtain⟨d,hd,q⟩:=Ag.1 q;cases y:L9 d with
   |true=>rw[y,cond_true]at q;obtain⟨l,O,q⟩:=Ag.1 q;injection q with q;subst q;obtain⟨vs,U,S,R⟩:=HZ r J M O;refine⟨.agg vs.toArray,?_,.agg _ _ U⟩;have B:=run_loadCells_list (P:=P) w ⟨b.b,b.ob+off,none⟩ vs R;rw[S]at B;simp[Instr.loadAt,Instr.sureAddr,loadVar,Rd hd,y,Er hd,B]
   |false=>rw[y,cond_false]at q;obtain⟨v,hv,K⟩:=Ab6 r J M q;exact⟨v,by simp[Instr.loadAt,Instr.sureAddr,loadVar,Rd hd,y,hv],K⟩
 ·rename_i g off;cases L with
  |Gp g off=>
   obtain⟨d,hd,q⟩:=Ag.1 q;obtain⟨y,q⟩:=AL.1 q;obtain⟨v,hv,K⟩:=Acf r J q;have C:L9 d=false:=by simpa using y
   exact⟨v,by simp[Instr.loadAt,Instr.sureAddr,loadVar,Rd hd,C,hv],K⟩
 ·cases q
def KA (P:Program) (t:TypeId) (cs:Aj) (off:Nat):Option AV:=ob (P.underlying t) λd=>cond (L9 d) (some (.agg ((cs.drop off).take (P.cellsOf t)))) (cs[off]?)
theorem Ym {P:Program} {ρ:Ai} {t:TypeId} {cs:Aj} {off:Nat} {a:AV} {vs:List Value} (hc:AG ρ cs vs) (q:KA P t cs off=some a) (w:World): ∃v,(part t vs.toArray off).run P w=.ok v w/\VR ρ a v:=by
 obtain⟨d,hd,q⟩:=Ag.1 q;cases y:L9 d with
 |true=>rw[y,cond_true]at q;injection q with q;subst q;refine⟨.agg ((vs.drop off).take (P.cellsOf t)).toArray,?_,.agg _ _ ((hc.drop off).take _)⟩;simp[part,Rd hd,y,Er hd]
 |false=>rw[y,cond_false]at q;obtain⟨v,hv,B⟩:=hc.get off a q;exact⟨v,by simp[part,Rd hd,y,hv],B⟩
def Qf (P:Program) (eq:TypeId->AV->AV->Option Bool) (xs ys:Aj) (fs:List Field):Option Bool:=List.rec (motive:=λ_=>Option Bool) (some true)
  (fun f _ ih => cond (decide (f.name = "_")) ih (ob (KA P f.type xs f.offset) fun a => ob (KA P f.type ys f.offset) fun b => ob (eq f.type a b) fun r => cond r ih (some false))) fs
def Yl (P:Program) (f:Nat):TypeId->AV->AV->Option Bool:=Nat.rec (motive:=λ_=>TypeId->AV->AV->Option Bool) (λ_ _ _=>none) (λ_ q t x y=>ob (P.underlying t) λd=>
   match d,x,y with
   |.bool,.bool a,.bool b=>some (cond a b (!b))
   |.int _,.int k a,.int M b=>gd (MY k M) (some (An a b))
   |.string,.str l n,.str L K=>some (cond (Nat.beq l L) (Nat.beq n K) false)
   |.pointer _,.EC,.EC=>some true
   |.pointer _,.EC,.ptr _ _=>some false
   |.pointer _,.ptr _ _,.EC=>some false
   |.pointer e,.ptr i o,.ptr j p=>gd (Nat.beq i j) (ob (P.underlying e) λ_=>gd (!Nat.beq (P.cellsOf e) 0) (some (Nat.beq o p)))
   |.interface _,.EL,.EL=>some true
   |.interface _,.EL,.iface _ _=>some false
   |.interface _,.iface _ _,.EL=>some false
   |.interface _,.iface tx J,.iface ty E=>cond (Nat.beq tx ty) (ob (P.info? tx) λi=>gd i.comparable (q tx J E)) (some false)
   |.slice _,.Ay,.Ay=>some true
   |.slice _,.Ay,.sl _ _ _ _=>some false
   |.slice _,.Ay,.BF _ _ _ _=>some false
   |.slice _,.sl _ _ _ _,.Ay=>some false
   |.slice _,.BF _ _ _ _,.Ay=>some false
   |.slice _,.Ay,.sle _=>some false
   |.slice _,.sle _,.Ay=>some false
   |.map _ _,.E8,.E8=>some true
   |.map _ _,.E8,.map _=>some false
   |.map _ _,.map _,.E8=>some false
   |.func _ _ _,.GD,.GD=>some true
   |.func _ _ _,.GD,.fn _ _ _=>some false
   |.func _ _ _,.fn _ _ _,.GD=>some false
   |.struct fs,.agg C,.agg B=>gd (!P.stoodInHeld t) (Qf P q C B fs.toList)
   |_,_,_=>none) f
theorem fR {l n B C:Nat} (h:n<256^l) (h':C<256^B): ((BA l n).toList==(BA B C).toList)=cond (Nat.beq l B) (Nat.beq n C) false:=by
 rw[fS,fS,Bool.eq_iff_iff,beq_iff_eq];constructor
 ·intro q;have y:l=B:=by have:=congrArg List.length q;rwa[ON,ON]at this
  subst y;have hn:=pE l n C h h' q;subst hn;simp
 ·intro q;cases y:Nat.beq l B with
  |false=>rw[y]at q;cases q
  |true=>rw[y,cond_true,AN]at q;rw[AN]at y;rw[y,q]
theorem rq {P:Program} {ρ:Ai} {eq:TypeId->AV->AV->Option Bool} {D:Nat} {w:World} (hq:∀t x y b u v,eq t x y=some b->VR ρ x u->VR ρ y v->(Op.equalIn D t u v).run P w=.ok b w) {xs ys:Aj} {us vs:List Value} (hx:AG ρ xs us) (hy:AG ρ ys vs):∀(fs:List Field) (b:Bool),Qf P eq xs ys fs=some b->(Op.eqFields D us.toArray vs.toArray fs).run P w=.ok b w:=by
 intro fs
 induction fs with
 |nil=>intro b h;injection h with h;subst h;simp[Op.eqFields]
 |cons f fs ih=>
  intro b h
  have h' : cond (decide (f.name = "_")) (Qf P eq xs ys fs) (ob (KA P f.type xs f.offset) fun a => ob (KA P f.type ys f.offset) fun b => ob (eq f.type a b) fun r => cond r (Qf P eq xs ys fs) (some false)) = some b := h
  by_cases hn : f.name = "_"
  ·rw[Bi hn,cond_true]at h';simp[Op.eqFields,hn,ih b h']
  ·rw[Ej hn,cond_false]at h';obtain⟨a,ha,h'⟩:=Ag.1 h';obtain⟨c,hc,h'⟩:=Ag.1 h';obtain⟨r,hr,h'⟩:=Ag.1 h';obtain⟨va,ha1,ha2⟩:=Ym hx ha w;obtain⟨vc,hc1,hc2⟩:=Ym hy hc w;have he:=hq _ _ _ _ _ _ hr ha2 hc2;cases r with
   |true=>simp[Op.eqFields,hn,ha1,hc1,he,ih b h']
   |false=>injection h' with h';subst h';simp[Op.eqFields,hn,ha1,hc1,he]
theorem sX {P:Program} {t:TypeId} {fs:Array Field} (h:P.underlying t=some (.struct fs)):P.fieldsOf t=fs:=by simp[Program.fieldsOf,h]
set_option maxHeartbeats 1000000 in
theorem iN {P:Program} {ρ:Ai} {w:World}:∀(f D:Nat),f<=D->∀(t:TypeId) (x y:AV) (b:Bool) (u v:Value),Yl P f t x y=some b-> VR ρ x u->VR ρ y v->(Op.equalIn D t u v).run P w=.ok b w:=by
 intro f
 induction f with
 |zero=>intro D _ t x y b u v h;cases h
 |succ f ih=>
  intro D hD t x y b u v h q hy;cases D with
  |zero=>omega
  |succ D=>
   have h0:=Ag.1 h;clear h;obtain⟨d,hd,h⟩:=h0;have B:=ih D (by omega);split at h
   ·injection h with h;subst h;cases q;cases hy;rename_i a b;simp[Op.equalIn,run_underlying hd];cases a<;>cases b<;>rfl
   ·obtain⟨hk,h⟩:=AL.1 h;injection h with h;subst h;cases q;cases hy;have:=O0 hk;subst this;simp[Op.equalIn,run_underlying hd,DU]
   ·injection h with h;subst h;cases q;cases hy;rename_i R O;rw[<-fR R O];simp[Op.equalIn,run_underlying hd,beq_toListBytes]
   ·injection h with h;subst h;cases q;cases hy;simp[Op.equalIn,run_underlying hd]
   ·injection h with h;subst h;cases q;cases hy;simp[Op.equalIn,run_underlying hd]
   ·injection h with h;subst h;cases q;cases hy;simp[Op.equalIn,run_underlying hd]
   ·rename_i e i o j p;obtain⟨C,h⟩:=AL.1 h;obtain⟨de,Z,h⟩:=Ag.1 h;obtain⟨hz,h⟩:=AL.1 h;injection h with h;subst h;rw[AN]at C;subst C;cases q with
    |ptr _ _ M aa=>cases hy with
     |ptr _ _ b2 J=>
      rw[aa]at J;cases J;have S:P.cellsOf e≠0:=λL=>by rw[L]at hz;simp at hz
      have K:((⟨M.b,M.ob+o,none⟩:Addr)==⟨M.b,M.ob+p,none⟩)=Nat.beq o p:=by rw[Bool.eq_iff_iff,AN];simp
      simp[Op.equalIn,run_underlying hd,Er Z,S,sameAddr,K]
   ·injection h with h;subst h;cases q;cases hy;simp[Op.equalIn,run_underlying hd]
   ·injection h with h;subst h;cases q;cases hy;simp[Op.equalIn,run_underlying hd]
   ·injection h with h;subst h;cases q;cases hy;simp[Op.equalIn,run_underlying hd]
   ·rename_i tx vx ty vy;cases q with
    |iface _ _ ux V=>cases hy with
     |iface _ _ uy U=>
      cases ht:Nat.beq tx ty with
      |false=>
       rw[ht,cond_false]at h;injection h with h;subst h;have:tx≠ty:=λL=>by rw[<-AN,ht]at L;cases L
       simp[Op.equalIn,run_underlying hd,this]
      |true=>rw[ht,cond_true]at h;rw[AN]at ht;subst ht;obtain⟨i,hi,h⟩:=Ag.1 h;obtain⟨hc,h⟩:=AL.1 h;have:=B _ _ _ _ _ _ h V U;simp[Op.equalIn,run_underlying hd,run_typeInfo w hi,hc,this]
   all_goals first
    |(injection h with h;subst h;cases q;cases hy;simp[Op.equalIn,run_underlying hd];done)
    |skip
   ·obtain⟨hs,h⟩:=AL.1 h;cases q with
    |agg _ us W=>cases hy with
     |agg _ vs Ax=>
      have E:=sX hd;have Y:P.stoodInHeld t=false:=by simpa using hs
      rw[run_equalIn_struct w D t us.toArray vs.toArray (by rw[E];exact hd) Y,E];exact rq (λt x y b u v R O h3=>B t x y b u v R O h3) W Ax _ _ h
   ·cases h
end Go.Ev
end
section
namespace Go.Ev
def plain:AV->AV->Bool
 |.int _ _,.int _ _=>false
 |.str _ _,.str _ _=>false
 |.bs _,_=>false
 |_,.bs _=>false
 |_,_=>true
theorem binOp_eql {ρ:Ai} {a b:AV} {u v:Value} (q:VR ρ a u) (hy:VR ρ b v) (y:plain a b=true) (t:TypeId): binOp .eql t u v=(do pure (.bool (<-Op.equal t u v))):=by cases q<;>cases hy<;>first|rfl|(simp[plain]at y;done)
theorem binOp_neq {ρ:Ai} {a b:AV} {u v:Value} (q:VR ρ a u) (hy:VR ρ b v) (y:plain a b=true) (t:TypeId): binOp .neq t u v=(do pure (.bool (!(<-Op.equal t u v)))):=by cases q<;>cases hy<;>first|rfl|(simp[plain]at y;done)
def Lk:Operand->Bool
 |.const _=>true
 |_=>false
def Sk:BinOp->Bool
 |.eql|.neq=>true
 |_=>false
def Qg (P:Program) (op:BinOp) (t:TypeId) (cx q:Bool) (a b:AV):Bool:=
 match a,b with
 |.EL,.EL=>!Sk op||cx||q
 |.agg _,.agg _=>!Sk op|| !P.eqGuardType P.depth t
 |_,_=>true
theorem sI {P:Program} {ρ:Ai} {op:BinOp} {t:TypeId} {x y:Operand} {a b:AV} {u v:Value} (B:VR ρ a u) (hy:VR ρ b v) (h:Qg P op t (Lk x) (Lk y) a b=true) (w:World):(eqGuard op t x y u v).run P w=.ok () w:=by
 cases op
 case eql=>
  cases B<;>cases hy<;>first
   |(simp[eqGuard];done)
   |skip
  ·cases x<;>cases y<;>first|(simp[Qg,Sk,Lk]at h;done)|simp[eqGuard]
  ·simp only[Qg,Sk,Bool.not_true,Bool.false_or]at h;have q:P.eqGuardType P.depth t=false:=by simpa using h
   exact run_eqGuard_agg w .eql t x y _ _ q
 case neq=>
  cases B<;>cases hy<;>first
   |(simp[eqGuard];done)
   |skip
  ·cases x<;>cases y<;>first|(simp[Qg,Sk,Lk]at h;done)|simp[eqGuard]
  ·simp only[Qg,Sk,Bool.not_true,Bool.false_or]at h;have q:P.eqGuardType P.depth t=false:=by simpa using h
   exact run_eqGuard_agg w .neq t x y _ _ q
 all_goals simp[eqGuard]
def sC (P:Program) (op:BinOp) (t:TypeId) (cx C:Bool) (a b:AV):Option AV:=gd (Qg P op t cx C a b) (match a,b with
  |.int k m,.int B n=>match op with
   |.shl=>Su .shl k m n
   |.shr=>Su .shr k m n
   |op=>gd (MY k B) (So op k m n)
  |.str l n,.str y q=>ig op l n y q
  |a,b=>gd (plain a b) (match op with
   |.eql=>ob (Yl P 8 t a b) λr=>some (.bool r)
   |.neq=>ob (Yl P 8 t a b) λr=>some (.bool (!r))
   |_=>none))
theorem iT {P:Program} {ρ:Ai} {op:BinOp} {t:TypeId} {k:IntKind} {m n:Int} {r:AV} (C:op≠.shl) (y:op≠.shr) (h:So op k m n=some r) (w:World): ∃u,(binOp op t (.int k m) (.int k n)).run P w=.ok u w/\VR ρ r u:=by
 cases op<;>simp only[So,MT,WV,DU,EM]at h<;>first
  |(exact absurd rfl C)
  |(exact absurd rfl y)
  |(injection h with h;subst h;refine⟨_,?_,VR.int _ _⟩;simp[binOp,Op.intArith,Op.intBits];done)
  |(injection h with h;subst h;refine⟨_,?_,VR.bool _⟩;simp[binOp,Op.intCmp];done)
  |skip
 ·have q:=AL.1 h;clear h;obtain⟨hz,h⟩:=q;injection h with h;subst h;have hn:n≠0:=by simpa using hz
  exact⟨_,by simp[binOp,Op.intDiv,hn],VR.int _ _⟩
 ·have q:=AL.1 h;clear h;obtain⟨hz,h⟩:=q;injection h with h;subst h;have hn:n≠0:=by simpa using hz
  exact⟨_,by simp[binOp,Op.intDiv,hn],VR.int _ _⟩
 all_goals
  injection h with h;subst h;refine⟨_,?_,VR.bool _⟩;simp[binOp,Op.intCmp]
  try rfl
  try (by_cases E:m<n<;>by_cases B:n<m<;>simp[E,B]<;>omega)
theorem Yo {P:Program} {ρ:Ai} {op:BinOp} {t:TypeId} {k q:IntKind} {m n:Int} {r:AV} (h:Su op k m n=some r) (w:World): ∃u,(binOp op t (.int k m) (.int q n)).run P w=.ok u w/\VR ρ r u:=by
 unfold Su at h;have y:=AL.1 h;clear h;obtain⟨hz,h⟩:=y;have hn:¬n<0:=by simpa[EM]using hz
 split at h
 ·rw[MT]at h;injection h with h;subst h;exact⟨_,by simp[binOp,Op.shift,hn],VR.int _ _⟩
 ·rw[MT]at h;injection h with h;subst h;exact⟨_,by simp[binOp,Op.shift,hn],VR.int _ _⟩
 ·cases h
theorem Acz {P:Program} {ρ:Ai} {op:BinOp} {t:TypeId} {l n q y:Nat} {r:AV} (E:n<256^l) (C:y<256^q) (h:ig op l n q y=some r) (w:World): ∃u,(binOp op t (.string (BA l n)) (.string (BA q y))).run P w=.ok u w/\VR ρ r u:=by
 cases op<;>simp only[ig,Bv,<-fR E C]at h<;>first
  |(cases h;done)
  |(injection h with h;subst h;refine⟨_,?_,VR.bool _⟩;simp only[binOp,Op.stringOp,yV,fS,Sem.run_pure];done)
  |skip
 ·have J:=AL.1 h;clear h;obtain⟨B,h⟩:=J;injection h with h;subst h;rw[SY]at B;have K:l+q<9223372036854775808:=by simpa using B
  refine⟨_,?_,VR.str _ _ ?_⟩
  ·have:¬(((BA l n).size+(BA q y).size:Nat):Int)>IntKind.i64.max:=by rw[MK,MK];show¬((l+q:Nat):Int)>9223372036854775807;omega
   simp only[binOp,Op.stringOp,this,if_false,AaX _ _ _ _ E,Sem.run_pure]
  ·rw[Nat.pow_add];have:y+1<=256^q:=C
   calc n+y*256^l<256^l+y*256^l:=by omega
    _=(y+1)*256^l:=by rw[Nat.add_mul,Nat.one_mul,Nat.add_comm]
    _<=256^q*256^l:=Nat.mul_le_mul_right _ this
    _=256^l*256^q:=Nat.mul_comm _ _
theorem Ab2 {P:Program} {ρ:Ai} {op:BinOp} {t:TypeId} {x y:Operand} {a b r:AV} {u v:Value} (C:VR ρ a u) (hy:VR ρ b v) (h:sC P op t (Lk x) (Lk y) a b=some r) (w:World): ∃z,(do eqGuard op t x y u v;binOp op t u v:Sem Value).run P w=.ok z w/\VR ρ r z:=by
 have B:=AL.1 h;clear h;obtain⟨U,h⟩:=B;have O:=sI C hy U w;have fin:(∃z,(binOp op t u v).run P w=.ok z w/\VR ρ r z)->∃z,(do eqGuard op t x y u v;binOp op t u v:Sem Value).run P w=.ok z w/\VR ρ r z:=by rintro⟨z,K,J⟩;exact⟨z,by simp[O,K],J⟩
 apply fin;split at h
 ·cases C;cases hy;split at h
  ·exact Yo h w
  ·exact Yo h w
  ·rename_i M L;have B:=AL.1 h;clear h;obtain⟨S,h⟩:=B;have:=O0 S;subst this;exact iT (λe=>M e) (λe=>L e) h w
 ·cases C with
  |str _ _ K=>cases hy with
   |str _ _ J=>exact Acz K J h w
 ·have B:=AL.1 h;clear h;obtain⟨R,h⟩:=B;split at h
  ·have B:=Ag.1 h;clear h;obtain⟨q,E,h⟩:=B;injection h with h;subst h;have:=iN (w:=w) 8 10000 (by omega) t _ _ q u v E C hy;exact⟨.bool q,by rw[binOp_eql C hy R];simp[Op.equal,Op.maxDepth,this],.bool _⟩
  ·have B:=Ag.1 h;clear h;obtain⟨q,E,h⟩:=B;injection h with h;subst h;have:=iN (w:=w) 8 10000 (by omega) t _ _ q u v E C hy;exact⟨.bool (!q),by rw[binOp_neq C hy R];simp[Op.equal,Op.maxDepth,this],.bool _⟩
  ·cases h
def sG (P:Program) (t:TypeId) (x:AV) (f:Nat):Option AV:=ob (P.underlying t) λd=>match d,x with
  |.struct fs,.agg cs=>ob (fs[f]?) λq=>KA P q.type cs q.offset
  |_,_=>none
theorem Ace {P:Program} {ρ:Ai} {t:TypeId} {x r:AV} {f:Nat} {u:Value} (y:VR ρ x u) (h:sG P t x f=some r) (w:World): ∃v,(Instr.field t u f).run P w=.ok v w/\VR ρ r v:=by
 have q:=Ag.1 h;clear h;obtain⟨d,hd,h⟩:=q;split at h
 ·have q:=Ag.1 h;clear h;obtain⟨J,B,h⟩:=q;cases y with
  |agg _ vs Ax=>obtain⟨v,E,C⟩:=Ym Ax h w;exact⟨v,by simp[Instr.field,run_underlying hd,B,asAgg,E],C⟩
 ·cases h
def iQ (P:Program) (t:TypeId) (x:AV) (f:Nat):Option AV:=
 match x with
 |.ptr id off=>ob (P.underlying t) λd=>match d with
  |.struct fs=>ob (fs[f]?) λq=>ob (P.underlying q.type) λ_=>gd (!Nat.beq (P.cellsOf q.type) 0) (fN (off+q.offset) λo=>some (.ptr id o))
  |_=>none
 |_=>none
theorem Acd {P:Program} {ρ:Ai} {t:TypeId} {x r:AV} {f:Nat} {u:Value} (C:VR ρ x u) (h:iQ P t x f=some r) (w:World): ∃v,(Instr.fieldAt t u f).run P w=.ok v w/\VR ρ r v:=by
 unfold iQ at h;split at h
 ·cases C with
  |ptr id off b K=>
   have q:=Ag.1 h;clear h;obtain⟨d,hd,h⟩:=q;split at h
   ·have q:=Ag.1 h;clear h;obtain⟨L,J,h⟩:=q;obtain⟨M,B,h⟩:=Ag.1 h;have q:=AL.1 h;clear h;obtain⟨hz,h⟩:=q;rw[Bv]at h;injection h with h;subst h;have y:P.cellsOf L.type≠0:=λE=>by rw[E]at hz;simp at hz
    refine⟨_,?_,.ptr _ _ b K⟩;simp[Instr.fieldAt,run_underlying hd,J,Instr.sureAddr,fieldPlace,Er B,y,Dq,Fy]
   ·cases h
 ·cases h
def Sn (P:Program) (t:TypeId) (x q:AV):Option AV:=
 match q with
 |.int _ (.ofNat i)=>ob (P.underlying t) λd=>match d,x with
  |.slice e,.sl id off len _=>gd (Nat.blt i len) (ob (P.underlying e) λ_=>fN (off+i*P.cellsOf e) λo=>some (.ptr id o))
  |.slice e,.BF id off len _=>gd (Nat.blt i len) (ob (P.underlying e) λ_=>fN (off+i*P.cellsOf e) λo=>some (.ptr id o))
  |.array len e,.ptr id off=>gd (Nat.blt i len) (ob (P.underlying e) λ_=>fN (off+i*P.cellsOf e) λo=>some (.ptr id o))
  |.array len e,.Gp g off=>gd (Nat.blt i len) (ob (P.underlying e) λ_=>fN (off+i*P.cellsOf e) λo=>some (.Gp g o))
  |_,_=>none
 |_=>none
theorem Ach {P:Program} {ρ:Ai} {t:TypeId} {x J r:AV} {u v:Value} (E:VR ρ x u) (hi:VR ρ J v) (h:Sn P t x J=some r) (w:World): ∃z,(Instr.indexAt t u v).run P w=.ok z w/\VR ρ r z:=by
 unfold Sn at h;split at h
 ·rename_i k i;cases hi;have y:=Ag.1 h;clear h;obtain⟨d,hd,h⟩:=y;split at h
  ·have y:=AL.1 h;clear h;obtain⟨q,h⟩:=y;have y:=Ag.1 h;clear h;obtain⟨de,B,h⟩:=y;rw[Bv]at h;injection h with h;subst h;rw[Co]at q;cases E with
   |sl id off len cap b C=>refine⟨_,?_,.ptr _ _ b C⟩;simp[Instr.indexAt,asIntOf,run_underlying hd,Er B,q,Dq,Fy]
  ·have y:=AL.1 h;clear h;obtain⟨q,h⟩:=y;have y:=Ag.1 h;clear h;obtain⟨de,B,h⟩:=y;rw[Bv]at h;injection h with h;subst h;rw[Co]at q;cases E with
   |BF id off len Ap b C L K=>refine⟨_,?_,.ptr _ _ b C⟩;simp[Instr.indexAt,asIntOf,run_underlying hd,Er B,q,Dq,Fy]
  ·have y:=AL.1 h;clear h;obtain⟨q,h⟩:=y;have y:=Ag.1 h;clear h;obtain⟨de,B,h⟩:=y;rw[Bv]at h;injection h with h;subst h;rw[Co]at q;cases E with
   |ptr id off b C=>refine⟨_,?_,.ptr _ _ b C⟩;simp[Instr.indexAt,asIntOf,run_underlying hd,Er B,q,Dq,Fy,Instr.sureAddr]
  ·have y:=AL.1 h;clear h;obtain⟨q,h⟩:=y;have y:=Ag.1 h;clear h;obtain⟨de,B,h⟩:=y;rw[Bv]at h;injection h with h;subst h;rw[Co]at q;cases E with
   |Gp g off=>refine⟨_,?_,.Gp _ _⟩;simp[Instr.indexAt,asIntOf,run_underlying hd,Er B,q,Dq,Instr.sureAddr]
  ·cases h
 ·cases h
def iS (P:Program) (t:TypeId) (x q:AV):Option AV:=
 match q with
 |.int _ (.ofNat i)=>ob (P.underlying t) λd=>match d,x with
  |.string,.str l n=>gd (Nat.blt i l) (fN (n/256^i %256) λc=>some (.int .u8 (.ofNat c)))
  |.array len e,.agg cs=>gd (Nat.blt i len) (ob (P.underlying e) λ_=>KA P e cs (i*P.cellsOf e))
  |_,_=>none
 |_=>none
theorem Aci {P:Program} {ρ:Ai} {t:TypeId} {x K r:AV} {u v:Value} (L:VR ρ x u) (hi:VR ρ K v) (h:iS P t x K=some r) (w:World): ∃z,(Instr.index t u v).run P w=.ok z w/\VR ρ r z:=by
 unfold iS at h;split at h
 ·rename_i k i;cases hi;have y:=Ag.1 h;clear h;obtain⟨d,hd,h⟩:=y;split at h
  ·rename_i l n;have y:=AL.1 h;clear h;obtain⟨q,h⟩:=y;rw[Bv]at h;injection h with h;subst h;rw[Co]at q;cases L with
   |str _ _ hn=>
    refine⟨.int .u8 (Int.ofNat (n/256^i %256)),?_,.int _ _⟩;have B:=MK l n;have M:((BA l n)[i]'(by rw[B];exact q))=UInt8.ofNat (n/256^i):=by
     have E:=XI l n i q;rw[<-P6]at E;have C:(BA l n).data.toList[i]? =some ((BA l n)[i]'(by rw[B];exact q)):=by rw[CC (by rw[P6,ON];exact q)];rfl
     rw[E]at C;exact(Option.some.inj C).symm
    rw[run_index_string w t (BA l n) k (Int.ofNat i) hd,dif_pos (by rw[B];simp;exact q)];simp[M]
  ·have y:=AL.1 h;clear h;obtain⟨q,h⟩:=y;have y:=Ag.1 h;clear h;obtain⟨de,J,h⟩:=y;rw[Co]at q;cases L with
   |agg _ vs Ax=>obtain⟨z,E,C⟩:=Ym Ax h w;exact⟨z,by simp[Instr.index,asIntOf,run_underlying hd,Er J,q,E],C⟩
  ·cases h
 ·cases h
def iP (x:AV) (i:Nat):Option AV:=
 match x with
 |.AO vs=>vs[i]?
 |_=>none
theorem Acb {P:Program} {ρ:Ai} {x r:AV} {i:Nat} {u:Value} (q:VR ρ x u) (h:iP x i=some r) (w:World): ∃z,(Instr.extract u i).run P w=.ok z w/\VR ρ r z:=by
 unfold iP at h;split at h
 ·cases q with
  |AO _ vs Ax=>obtain⟨v,hv,y⟩:=Ax.get i r h;exact⟨v,by simp[Instr.extract,hv],y⟩
 ·cases h
end Go.Ev
end
section
namespace Go.Ev
def Gf (X:Operand->Option AV) (l:List Operand):Option Aj:=List.rec (motive:=λ_=>Option Aj) (some []) (λx _ q=>ob (X x) λa=>ob q λr=>some (a::r)) l
theorem Jh {ρ:Ai} {X:Operand->Option AV} {f:Operand->Value} (q:XR ρ X f):∀ {l:List Operand} {r:Aj},Gf X l=some r->AG ρ r (l.map f)
 | [],r,h=>by injection h with h;subst h;exact .nil
 |x::l,r,h=>by obtain⟨a,B,h⟩:=Ag.1 (show ob (X x) (λa=>ob (Gf X l) λr=>some (a::r))=some r from h);obtain⟨C,y,h⟩:=Ag.1 h;injection h with h;subst h;exact .cons _ _ _ _ (q _ _ B) (Jh q y)
def RR:AV->Option Nat
 |.int _ (.ofNat i)=>some i
 |_=>none
theorem fO {a:AV} {i:Nat} (h:RR a=some i):∃k,a=.int k (Int.ofNat i):=by
 unfold RR at h;split at h
 ·injection h with h;subst h;exact⟨_,rfl⟩
 ·cases h
def EZ (X:Operand->Option AV) (x:Option Operand) (q lim:Nat):Option Nat:=
 match x with
 |none=>some q
 |some o=>ob (X o) λa=>ob (RR a) λi=>gd (Nat.ble i lim) (some i)
theorem sB {X:Operand->Option AV} {o:Operand} {d lim i:Nat} (h:EZ X (some o) d lim=some i):i<=lim/\∃k,X o=some (.int k (Int.ofNat i)):=by obtain⟨a,E,K⟩:=Ag.1 (show(ob (X o) λa=>ob (RR a) λi=>gd (Nat.ble i lim) (some i))=some i from h);obtain⟨j,C,J⟩:=Ag.1 K;obtain⟨y,q⟩:=AL.1 J;injection q with q;subst q;obtain⟨k,B⟩:=fO C;exact⟨by rwa[Nat.ble_eq]at y,k,by rw[E,B]⟩
theorem Sm {P:Program} {ρ:Ai} {X:Operand->Option AV} {f:Operand->Value} (C:XR ρ X f) {o:Operand} {d lim i:Nat} (h:EZ X (some o) d lim=some i) (w:World) (y:Nat) (hy:lim<=y) (code:BoundsCode):(Instr.sliceBound (f o) y code).run P w=.ok i w:=by
 obtain⟨E,k,B⟩:=sB h;have q:=C _ _ B;generalize f o=v at q;cases q;have:((i:Int)<=(y:Int)):=by omega
 simp[Instr.sliceBound,asIntOf];omega
def YG (mx:Option Operand) (m lim:Nat):Nat:=
 match mx with
 |some _=>m
 |none=>lim
theorem Rg {P:Program} {ρ:Ai} {X:Operand->Option AV} {f:Operand->Value} (E:XR ρ X f) {lo hi mx:Option Operand} {len cap lim l h m:Nat} (As:Bool) (B:EZ X mx cap lim=some m) (C:lim<=cap) (y:EZ X hi len (YG mx m lim)=some h) (q:EZ X lo 0 h=some l) (K:mx.isSome=true->hi.isSome=true) (w:World): (Instr.sliceBounds As len cap (lo.map f) (hi.map f) (mx.map f)).run P w=.ok (l,h,m) w:=by
 unfold Instr.sliceBounds;cases mx with
 |none=>
  injection B with B;subst B;cases hi with
  |none=>
   injection y with y;subst y;cases lo with
   |none=>injection q with q;subst q;simp
   |some o=>simp[Sm E q w _ (AM _)]
  |some M=>
   have J:=λc=>Sm (P:=P) E y w cap C c;cases lo with
   |none=>injection q with q;subst q;simp[J]
   |some o=>simp[J,Sm E q w _ (AM _)]
 |some O=>
  have L:=λc=>Sm (P:=P) E B w cap C c;cases hi with
  |none=>exact absurd (K rfl) (by simp)
  |some M=>
   have J:=λc=>Sm (P:=P) E y w m (AM _) c;cases lo with
   |none=>injection q with q;subst q;simp[L,J]
   |some o=>simp[L,J,Sm E q w _ (AM _)]
def Vr (P:Program) (X:Operand->Option AV) (t:TypeId) (x:AV) (lo hi mx:Option Operand):Option AV:=ob (P.underlying t) λd=>gd (!mx.isSome||hi.isSome) (match d,x with
  |.string,.str len n=>gd (!mx.isSome) (ob (EZ X hi len len) λh=>ob (EZ X lo 0 h) λl=>fN (n/256^l %256^(h-l)) λs=>some (.str (h-l) s))
  |.slice e,.sl id off len cap=>ob (P.underlying e) λ_=>ob (EZ X mx cap cap) λm=>ob (EZ X hi len (YG mx m cap)) λh=>ob (EZ X lo 0 h) λl=>cond (Nat.beq m l) (fN (h-l) λq=>some (.sl id off q 0)) (fN (off+l*P.cellsOf e) λo=>fN (h-l) λq=>fN (m-l) λy=>some (.sl id o q y))
  |.slice e,.BF id off len Ap=>ob (P.underlying e) λ_=>gd (Nat.beq (P.cellsOf e) Ap) (match mx with
    |none=>ob (EZ X hi len len) λh=>ob (EZ X lo 0 h) λl=>cond (Nat.blt l len||Nat.beq l 0)
      (fN (off+l*Ap) λo=>fN (h-l) λq=>some (.BF id o q Ap)) (some (.sle id))
    |some _=>ob (EZ X mx 0 len) λm=>ob (EZ X hi len m) λh=>ob (EZ X lo 0 h) λl=>cond (Nat.beq m l) (fN (h-l) λq=>some (.sl id off q 0)) (fN (off+l*Ap) λo=>fN (h-l) λq=>fN (m-l) λy=>some (.sl id o q y)))
  |.slice e,.sle id=>ob (P.underlying e) λ_=>gd (!mx.isSome) (ob (EZ X hi 0 0) λh=>ob (EZ X lo 0 h) λ_=>some (.sle id))
  |.slice e,.Ay=>ob (P.underlying e) λ_=>ob (EZ X mx 0 0) λm=>ob (EZ X hi 0 (YG mx m 0)) λh=>ob (EZ X lo 0 h) λ_=>some .Ay
  |.array n e,.ptr id off=>ob (P.underlying e) λ_=>ob (EZ X mx n n) λm=>ob (EZ X hi n (YG mx m n)) λh=>ob (EZ X lo 0 h) λl=>cond (Nat.beq m l) (fN (h-l) λq=>some (.sl id off q 0)) (fN (off+l*P.cellsOf e) λo=>fN (h-l) λq=>fN (m-l) λy=>some (.sl id o q y))
  |_,_=>none)
theorem MO {X:Operand->Option AV} {x:Option Operand} {d lim i:Nat} (hd:d<=lim) (h:EZ X x d lim=some i):i<=lim:=by
 cases x with
 |none=>injection h with h;omega
 |some o=>exact(sB h).1
theorem me {ρ:Ai} {id off l m q Ap:Nat} {b:C3} {r:AV} (y:ρ id=some b) (h:cond (Nat.beq m l) (fN q λq=>some (AV.sl id off q 0)) (fN (off+l*Ap) λo=>fN q λq=>fN (m-l) λB=>some (AV.sl id o q B))=some r): VR ρ r (.slice (some (if m=l then⟨b.b,b.ob+off,none⟩else⟨b.b,b.ob+(off+l*Ap),none⟩)) q (m-l)):=by
 simp only[Bv]at h;cases hm:Nat.beq m l with
 |true=>rw[hm,cond_true]at h;injection h with h;subst h;rw[AN]at hm;subst hm;rw[Am rfl,Lc];exact .sl _ _ _ _ b y
 |false=>
  rw[hm,cond_false]at h;injection h with h;subst h;have:m≠l:=λe=>by rw[<-AN,hm]at e;cases e
  rw[Ad this];exact .sl _ _ _ _ b y
set_option maxHeartbeats 1000000 in
theorem Acx {P:Program} {ρ:Ai} {X:Operand->Option AV} {f:Operand->Value} (hX:XR ρ X f) {t:TypeId} {x r:AV} {lo hi mx:Option Operand} {u:Value} (hx:VR ρ x u) (h:Vr P X t x lo hi mx=some r) (w:World):∃z,(Instr.sliceAt t u (lo.map f) (hi.map f) (mx.map f)).run P w=.ok z w/\VR ρ r z:=by
 obtain⟨d,hd,V⟩:=Ag.1 h;clear h;obtain⟨Y,L⟩:=AL.1 V;clear V;have W:mx.isSome=true->hi.isSome=true:=by intro hm;rw[hm]at Y;simpa using Y
 split at L
 ·obtain⟨aa,M⟩:=AL.1 L;obtain⟨R,q,K⟩:=Ag.1 M;obtain⟨il,B,J⟩:=Ag.1 K;clear L M K;rw[Bv]at J;injection J with J;subst J;cases mx with
  |some _=>simp at aa
  |none=>
   cases hx with
   |str _ _ hn=>
    rename_i len n;have U:=Rg (P:=P) hX (lo:=lo) (hi:=hi) (mx:=none) (len:=len) (cap:=len) (lim:=len) false rfl (AM _) q B (by simp) w;have V:=MO (AM _) q;have L:=MO (CL _) B;refine⟨_,?_,.str _ _ (Nat.mod_lt _ (Nat.pow_pos (by decide)))⟩;have ae:(Instr.sliceBounds false (BA len n).size (BA len n).size (lo.map f) (hi.map f) none).run P w=.ok (il,R,len) w:=by rw[MK];exact U
    simp[Instr.sliceAt,Instr.slice,run_underlying hd,ae,AaY _ _ _ _ V L]
 ·obtain⟨de,C,M⟩:=Ag.1 L;obtain⟨m,hm,K⟩:=Ag.1 M;obtain⟨R,q,J⟩:=Ag.1 K;obtain⟨il,B,E⟩:=Ag.1 J;clear L M K J;cases hx with
  |sl _ _ _ _ b U=>have y:=Rg (P:=P) hX true hm (AM _) q B W w;refine⟨_,?_,me U E⟩;simp[Instr.sliceAt,Instr.slice,run_underlying hd,y,Er C,Dq,Fy];split<;>simp
 ·obtain⟨de,C,M⟩:=Ag.1 L;obtain⟨S,K⟩:=AL.1 M;clear L M;rw[AN]at S;cases hx with
  |BF _ _ _ _ b U he hl=>
   rename_i e id off len Ap;have Z:len<=(b.cap-off)/Ap:=by rw[Nat.le_div_iff_mul_le he];omega
   split at K
   ·obtain⟨R,q,J⟩:=Ag.1 K;obtain⟨il,B,E⟩:=Ag.1 J;clear K J;have y:=Rg (P:=P) hX (lo:=lo) (hi:=hi) (mx:=none) (len:=len) (cap:=(b.cap-off)/Ap) (lim:=len) true rfl Z q B (by simp) w;simp only[Option.map_none]at y;have V:=MO (AM _) q;have L:=MO (CL _) B;cases O:(Nat.blt il len||Nat.beq il 0)with
    |true=>
     rw[O,cond_true]at E;have ad:=O;simp only[Bv]at E;injection E with E;subst E;have ah:il*Ap<=R*Ap:=Nat.mul_le_mul_right _ L;have ag:R*Ap<=len*Ap:=Nat.mul_le_mul_right _ V;have af:(R-il)*Ap=R*Ap-il*Ap:=Nat.sub_mul _ _ _;have hv:=VR.BF (ρ:=ρ) id (off+il*Ap) (R-il) Ap b U he (by omega);have hc:(b.cap-(off+il*Ap))/Ap=(b.cap-off)/Ap-il:=by rw[show b.cap-(off+il*Ap)=b.cap-off-il*Ap by omega,Nat.mul_comm,Nat.sub_mul_div]
     rw[hc]at hv;refine⟨_,?_,hv⟩;by_cases h0:(b.cap-off)/Ap=il
     ·have:il=0:=by
       rcases Bool.or_eq_true _ _▸ad with h|h
       ·rw[Co]at h;omega
       ·rwa[AN]at h
      subst this;simp[Instr.sliceAt,Instr.slice,run_underlying hd,y,Er C,Dq,Fy,S]
     ·simp[Instr.sliceAt,Instr.slice,run_underlying hd,y,Er C,Dq,Fy,S,h0]
    |false=>
     rw[O,cond_false]at E;injection E with E;subst E;have hz:¬il<len:=λhh=>by rw[<-Co]at hh;rw[hh]at O;cases O
     have e1:R-il=0:=by omega
     refine⟨.slice (some ⟨b.b,if(b.cap-off)/Ap=il then b.ob+off else b.ob+(off+il*Ap),none⟩) 0 ((b.cap-off)/Ap-il),?_,.sle _ _ _ _ U⟩;by_cases h0:(b.cap-off)/Ap=il
     ·rw[h0]at y;simp[Instr.sliceAt,Instr.slice,run_underlying hd,y,Er C,Dq,Fy,S,h0,e1]
     ·simp[Instr.sliceAt,Instr.slice,run_underlying hd,y,Er C,Dq,Fy,S,h0,e1]
   ·rename_i om;obtain⟨m,hm,J⟩:=Ag.1 K;obtain⟨R,q,E⟩:=Ag.1 J;obtain⟨il,B,h7⟩:=Ag.1 E;clear K J E;have ab:EZ X (some om) ((b.cap-off)/Ap) len=some m:=hm;have y:=Rg (P:=P) hX (len:=len) true ab Z q B W w;refine⟨_,?_,me U h7⟩;simp only[Option.map_some]at y;simp[Instr.sliceAt,Instr.slice,run_underlying hd,y,Er C,Dq,Fy,S];split<;>simp
 ·obtain⟨de,C,M⟩:=Ag.1 L;obtain⟨aa,K⟩:=AL.1 M;obtain⟨R,q,J⟩:=Ag.1 K;obtain⟨il,B,E⟩:=Ag.1 J;clear L M K J;injection E with E;subst E;cases mx with
  |some _=>simp at aa
  |none=>
   cases hx with
   |sle _ b o c U=>
    have y:=Rg (P:=P) hX (lo:=lo) (hi:=hi) (mx:=none) (len:=0) (cap:=c) (lim:=0) true rfl (CL _) q B (by simp) w;simp only[Option.map_none]at y;have V:=MO (AM _) q;have L:=MO (CL _) B;have e1:R=0:=by omega
    have e2:il=0:=by omega
    subst e1;subst e2;refine⟨.slice (some ⟨b.b,o,none⟩) 0 c,?_,.sle _ _ _ _ U⟩;simp[Instr.sliceAt,Instr.slice,run_underlying hd,y,Er C,Dq]
 ·obtain⟨de,C,M⟩:=Ag.1 L;obtain⟨m,hm,K⟩:=Ag.1 M;obtain⟨R,q,J⟩:=Ag.1 K;obtain⟨il,B,E⟩:=Ag.1 J;clear L M K J;injection E with E;subst E;cases hx;have y:=Rg (P:=P) hX true hm (AM _) q B W w;have V:=MO (AM _) hm;have L:R<=0:=by
   cases mx with
   |none=>exact MO (AM _) q
   |some _=>exact G3 (MO (CL _) q) V
  have M:=MO (CL _) B;have e1:m=0:=by omega
  have e2:R=0:=by omega
  have e3:il=0:=by omega
  subst e1;subst e2;subst e3;refine⟨_,?_,.Ay⟩;simp[Instr.sliceAt,Instr.slice,run_underlying hd,y,Er C]
 ·obtain⟨de,C,M⟩:=Ag.1 L;obtain⟨m,hm,K⟩:=Ag.1 M;obtain⟨R,q,J⟩:=Ag.1 K;obtain⟨il,B,E⟩:=Ag.1 J;clear L M K J;cases hx with
  |ptr _ _ b U=>have y:=Rg (P:=P) hX false hm (AM _) q B W w;refine⟨_,?_,me U E⟩;simp[Instr.sliceAt,Instr.sureAddr,run_underlying hd,y,Er C,Dq,Fy]
 ·cases L
def iJ (P:Program) (q dst:TypeId) (x:AV):Option AV:=ob (P.underlying q) λ_=>ob (P.underlying dst) λd=>match d,x with
  |.int k,.int _ n=>fI (wr k n) λr=>some (.int k r)
  |.string,.str l n=>some (.str l n)
  |_,_=>none
theorem sF {P:Program} {ρ:Ai} {y dst:TypeId} {x r:AV} {u:Value} (E:VR ρ x u) (h:iJ P y dst x=some r) (w:World): ∃z,(convert y dst u).run P w=.ok z w/\VR ρ r z:=by
 obtain⟨K,B,J⟩:=Ag.1 h;obtain⟨L,C,q⟩:=Ag.1 J;clear h J;split at q
 ·rw[MT,WV]at q;injection q with q;subst q;cases E;exact⟨_,by simp[convert,run_underlying B,run_underlying C,Conv.intToInt],.int _ _⟩
 ·injection q with q;subst q;cases E with
  |str _ _ hn=>exact⟨_,by simp[convert,run_underlying B,run_underlying C],.str _ _ hn⟩
 ·cases q
def bN (kd:TypeDesc) (a b:AV):Option Bool:=
 match kd,a,b with
 |.int _,.int k a,.int B b=>gd (MY k B) (some (An a b))
 |.string,.str l n,.str y q=>some (cond (Nat.beq l y) (Nat.beq n q) false)
 |.bool,.bool a,.bool b=>some (cond a b (!b))
 |_,_,_=>none
theorem AjV {ρ:Ai} {kd:TypeDesc} {a b:AV} {u v:Value} {r:Bool} (B:VR ρ a u) (y:VR ρ b v) (h:bN kd a b=some r):Instr.sameNow kd u v=some r:=by
 unfold bN at h;split at h
 ·obtain⟨E,q⟩:=AL.1 h;clear h;have C:=O0 E;subst C;injection q with q;subst q;cases B;cases y;simp[Instr.sameNow,DU]
 ·injection h with h;subst h;cases B with
  |str _ _ q=>cases y with
   |str _ _ J=>rw[<-fR q J];simp[Instr.sameNow,beq_toListBytes]
 ·injection h with h;subst h;cases B;cases y;rename_i a b;cases a<;>cases b<;>rfl
 ·cases h
def Yu (kd:TypeDesc) (k:AV) (y:List DW):Nat->Option (Option (Nat×AV)):=List.rec (motive:=λ_=>Nat->Option (Option (Nat×AV))) (λ_=>some none) (λe _ q i=>ob (bN kd k e.key) λr=>cond r (some (some (i,e.val))) (q (i+1))) y
theorem iy {ρ:Ai} {kd:TypeDesc} {k:AV} {u:Value} (E:VR ρ k u):∀ {B:List DW} {l:List MapEntry},Ey ρ B l->∀(i:Nat) (r:Option (Nat×AV)),Yu kd k B i=some r->∃q,Instr.findNow kd u l i=some q/\(match r with|none=>q=none|some (j,a)=>∃v,q=some (j,v)/\VR ρ a v)
 |_,_,.nil,i,r,h=>by injection h with h;subst h;exact⟨none,rfl,rfl⟩
 |_,_,.cons e m B l J K,i,r,h=>by
  obtain⟨s,C,y⟩:=Ag.1 (show ob (bN kd k e.key) (λr=>cond r (some (some (i,e.val))) (Yu kd k B (i+1)))=some r from h);have hn:=AjV E J.1 C;cases s with
  |true=>injection y with y;subst y;exact⟨some (i,m.val),by simp[Instr.findNow,hn],m.val,rfl,J.2.1⟩
  |false=>obtain⟨q,M,L⟩:=iy E K (i+1) r y;exact⟨q,by simp[Instr.findNow,hn,M],L⟩
def VJ:TypeDesc->Bool
 |.int _|.string|.bool=>true
 |_=>false
theorem XW {P:Program} {t:TypeId} {d:TypeDesc} (hd:P.underlying t=some d) (q:VJ d=true) (e:Bool) (n:Nat) (v:Value) (w:World): (Instr.checkKey e (n+1) t v).run P w=.ok () w:=by cases d<;>first|(cases q;done)|(simp[Instr.checkKey,run_underlying hd])
def Ru (P:Program) (t:TypeId):Option AV:=ob (P.info? t) λi=>ob i.zero λz=>ofValue z
theorem Rv {P:Program} {t:TypeId} {a:AV} (h:Ru P t=some a) (w:World):∃z,(zeroValue t).run P w=.ok z w/\∀ρ:Ai,VR ρ a z:=by obtain⟨i,hi,y⟩:=Ag.1 h;obtain⟨z,hz,q⟩:=Ag.1 y;exact⟨z,by simp[zeroValue,run_typeInfo w hi,hz],λρ=>wC q⟩
def sN (P:Program) (H:Tr Ae) (t:TypeId) (m k:AV) (ok:Bool):Option AV:=ob (P.underlying t) λd=>match d with
  |.map key q=>ob (P.underlying key) λkd=>gd (VJ kd) (ob (match m with
    |.E8=>some []
    |.map id=>ob (H.get id) λo=>match o with
     |.map y _=>some y
     |_=>none
    |_=>none) λy=>ob (Yu kd k y 0) λr=>ob (match r with
     |some (_,v)=>some (v,true)
     |none=>ob (Ru P q) λz=>some (z,false)) λp=>some (cond ok (.AO [p.1,.bool p.2]) p.1))
  |_=>none
theorem Ack {P:Program} {E:Env} {F:Nat->Option Obj} {nx:Nat} {ρ:Ai} {h:Nat->Option Ae} {w:World} {H:Tr Ae} (r:Rel E F nx ρ h w) (hs:HS ρ H h) {t:TypeId} {m k a:AV} {ok:Bool} {u v:Value} (hm:VR ρ m u) (hk:VR ρ k v) (R:sN P H t m k ok=some a):∃z,(Instr.lookup t u v ok).run P w=.ok z w/\VR ρ a z:=by
 obtain⟨d,hd,U⟩:=Ag.1 R;clear R;split at U
 ·rename_i key af;obtain⟨kd,q,h2⟩:=Ag.1 U;obtain⟨ad,h3⟩:=AL.1 h2;obtain⟨es,C,h4⟩:=Ag.1 h3;obtain⟨fr,ae,h5⟩:=Ag.1 h4;obtain⟨p,hp,Z⟩:=Ag.1 h5;clear U h2 h3 h4 h5;injection Z with Z;subst Z;have fin:∀l:List MapEntry,Ey ρ es l->(u=.map none/\l=[]\/∃b clock,u=.map (some b)/\w.heap[b]? =some (.map l.toArray clock))-> ∃z,(Instr.lookup t u v ok).run P w=.ok z w/\VR ρ (cond ok (.AO [p.1,.bool p.2]) p.1) z:=by
   intro l W S;obtain⟨r',y,O⟩:=iy hk W 0 fr ae;have B:=λe=>XW (P:=P) q ad e 9999 v w;split at hp
   ·rename_i j val;injection hp with hp;subst hp;obtain⟨z,hz,J⟩:=O;subst hz;cases ok with
    |true=>
     refine⟨.tuple #[z,.bool true],?_,.AO _ [z,.bool true] (.cons _ _ _ _ J (.cons _ _ _ _ (.bool true) .nil))⟩;rcases S with⟨rfl,rfl⟩|⟨b,clock,rfl,K⟩
     ·simp[Instr.lookup,run_underlying hd,B,Instr.findKey,run_underlying q,y]
     ·simp[Instr.lookup,run_underlying hd,B,Instr.findKey,run_underlying q,y,getObj,Sem.run,K]
    |false=>
     refine⟨z,?_,J⟩;rcases S with⟨rfl,rfl⟩|⟨b,clock,rfl,K⟩
     ·simp[Instr.lookup,run_underlying hd,B,Instr.findKey,run_underlying q,y]
     ·simp[Instr.lookup,run_underlying hd,B,Instr.findKey,run_underlying q,y,getObj,Sem.run,K]
   ·obtain⟨z,hz,Y⟩:=Ag.1 hp;injection Y with Y;subst Y;have aa:r'=none:=O;subst aa;obtain⟨V,L,J⟩:=Rv hz w;cases ok with
    |true=>
     refine⟨.tuple #[V,.bool false],?_,.AO _ [V,.bool false] (.cons _ _ _ _ (J ρ) (.cons _ _ _ _ (.bool false) .nil))⟩;rcases S with⟨rfl,rfl⟩|⟨b,clock,rfl,K⟩
     ·simp[Instr.lookup,run_underlying hd,B,Instr.findKey,run_underlying q,y,L]
     ·simp[Instr.lookup,run_underlying hd,B,Instr.findKey,run_underlying q,y,getObj,Sem.run,K,L]
    |false=>
     refine⟨V,?_,J ρ⟩;rcases S with⟨rfl,rfl⟩|⟨b,clock,rfl,K⟩
     ·simp[Instr.lookup,run_underlying hd,B,Instr.findKey,run_underlying q,y,L]
     ·simp[Instr.lookup,run_underlying hd,B,Instr.findKey,run_underlying q,y,getObj,Sem.run,K,L]
  split at C
  ·injection C with C;subst C;cases hm;exact fin [] .nil (.inl ⟨rfl,rfl⟩)
  ·obtain⟨o,ho,M⟩:=Ag.1 C;cases hm with
   |map _ b K=>
    obtain⟨c,hc,ab⟩:=r.ob _ o b (hs _ o ho (.inl ⟨b,K⟩)) K;split at M
    ·injection M with M;subst M;cases ab with
     |map es clock l W=>exact fin l W (.inr ⟨_,_,rfl,hc⟩)
    ·cases M
  ·cases C
 ·cases U
end Go.Ev
end
section
namespace Go.Ev
def sL (P:Program) (H:Tr Ae) (t:TypeId) (x:AV):Option AV:=ob (P.underlying t) λd=>match d,x with
  |.string,.str l _=>some (Jt l)
  |.slice _,.Ay=>some (Jt 0)
  |.slice _,.sl _ _ n _=>some (Jt n)
  |.slice _,.BF _ _ n _=>some (Jt n)
  |.slice _,.sle _=>some (Jt 0)
  |.array n _,_=>some (Jt n)
  |.map _ _,.E8=>some (Jt 0)
  |.map _ _,.map id=>ob (H.get id) λo=>match o with
   |.map es _=>some (Jt es.length)
   |_=>none
  |_,_=>none
theorem Acj {P:Program} {E:Env} {F:Nat->Option Obj} {nx:Nat} {ρ:Ai} {h:Nat->Option Ae} {w:World} {H:Tr Ae} (r:Rel E F nx ρ h w) (R:HS ρ H h) {t:TypeId} {x a:AV} {u:Value} (y:VR ρ x u) (C:sL P H t x=some a) (M L:Array _) (ty:TypeId) (ht:M[0]? =some t) (hu:L[0]? =some u): ∃z,(Builtin.len_ M ty L).run P w=.ok z w/\VR ρ a z:=by
 obtain⟨d,hd,q⟩:=Ag.1 C;clear C;split at q
 ·injection q with q;subst q;cases y;exact⟨_,by simp[Builtin.len_,ht,hu,run_underlying hd,MK,goInt],.int _ _⟩
 ·injection q with q;subst q;cases y;exact⟨_,by simp[Builtin.len_,ht,hu,run_underlying hd,goInt],.int _ _⟩
 ·injection q with q;subst q;cases y;exact⟨_,by simp[Builtin.len_,ht,hu,run_underlying hd,goInt],.int _ _⟩
 ·injection q with q;subst q;cases y;exact⟨_,by simp[Builtin.len_,ht,hu,run_underlying hd,goInt],.int _ _⟩
 ·injection q with q;subst q;cases y;exact⟨_,by simp[Builtin.len_,ht,hu,run_underlying hd,goInt],.int _ _⟩
 ·injection q with q;subst q;exact⟨_,by simp[Builtin.len_,ht,hu,run_underlying hd,goInt],.int _ _⟩
 ·injection q with q;subst q;cases y;exact⟨_,by simp[Builtin.len_,ht,hu,run_underlying hd,goInt],.int _ _⟩
 ·obtain⟨o,S,B⟩:=Ag.1 q;cases y with
  |map _ b O=>
   obtain⟨c,hc,J⟩:=r.ob _ o b (R _ o S (.inl ⟨b,O⟩)) O;split at B
   ·injection B with B;subst B;cases J with
    |map V K l U=>exact⟨_,by simp[Builtin.len_,ht,hu,run_underlying hd,goInt,getObj,Sem.run,hc,<-U.length],.int _ _⟩
   ·cases B
 ·cases q
def sD (P:Program) (t:TypeId) (x:AV):Option AV:=ob (P.underlying t) λd=>match d,x with
  |.slice _,.Ay=>some (Jt 0)
  |.slice _,.sl _ _ _ c=>some (Jt c)
  |_,_=>none
theorem Ab5 {P:Program} {ρ:Ai} {t:TypeId} {x a:AV} {u:Value} (E:VR ρ x u) (y:sD P t x=some a) (C B:Array _) (ty:TypeId) (ht:C[0]? =some t) (hu:B[0]? =some u) (w:World): ∃z,(Builtin.cap_ C ty B).run P w=.ok z w/\VR ρ a z:=by
 obtain⟨d,hd,q⟩:=Ag.1 y;clear y;split at q
 ·injection q with q;subst q;cases E;exact⟨_,by simp[Builtin.cap_,ht,hu,run_underlying hd,goInt],.int _ _⟩
 ·injection q with q;subst q;cases E;exact⟨_,by simp[Builtin.cap_,ht,hu,run_underlying hd,goInt],.int _ _⟩
 ·cases q
def iW (q:Aj):Option AV:=
 match q with
 | [.int k x,.int _ y]=>some (.int k (cond (AQ y x) y x))
 |_=>none
def iV (q:Aj):Option AV:=
 match q with
 | [.int k x,.int _ y]=>some (.int k (cond (AQ x y) y x))
 |_=>none
theorem Acm {P:Program} {ρ:Ai} {y:Aj} {a:AV} {B:List Value} (E:AG ρ y B) (h:iW y=some a) (C:Array TypeId) (ty:TypeId) (w:World): ∃z,(Builtin.min_ C ty B.toArray).run P w=.ok z w/\VR ρ a z:=by
 unfold iW at h;split at h
 ·injection h with h;subst h;cases E with
  |cons _ _ _ _ K q=>cases q with
   |cons _ _ _ _ J q=>cases q;cases K;cases J;exact⟨_,by simp[Builtin.min_,Builtin.min2,EM,Bool.cond_eq_ite],.int _ _⟩
 ·cases h
theorem Acl {P:Program} {ρ:Ai} {y:Aj} {a:AV} {B:List Value} (E:AG ρ y B) (h:iV y=some a) (C:Array TypeId) (ty:TypeId) (w:World): ∃z,(Builtin.max_ C ty B.toArray).run P w=.ok z w/\VR ρ a z:=by
 unfold iV at h;split at h
 ·injection h with h;subst h;cases E with
  |cons _ _ _ _ K q=>cases q with
   |cons _ _ _ _ J q=>cases q;cases K;cases J;exact⟨_,by simp[Builtin.max_,Builtin.max2,EM,Bool.cond_eq_ite],.int _ _⟩
 ·cases h
def iF (P:Program) (H:Tr Ae) (b:Builtin) (y:List TypeId) (q:Aj):Option AV:=
 match b with
 |.len=>ob (y[0]?) λt=>ob (q[0]?) λx=>sL P H t x
 |.cap=>ob (y[0]?) λt=>ob (q[0]?) λx=>sD P t x
 |.min=>iW q
 |.max=>iV q
 |_=>none
theorem Ab1 {P:Program} {E:Env} {F:Nat->Option Obj} {nx:Nat} {ρ:Ai} {h:Nat->Option Ae} {w:World} {H:Tr Ae} (r:Rel E F nx ρ h w) (U:HS ρ H h) {b:Builtin} {J:List TypeId} {S:Aj} {a:AV} {K:List Value} (L:AG ρ S K) (q:iF P H b J S=some a) (ty:TypeId) (cs:Array Bool): ∃z,(builtin b J.toArray ty cs K.toArray).run P w=.ok (.value z) w/\VR ρ a z:=by
 unfold iF at q;split at q
 ·obtain⟨t,ht,R⟩:=Ag.1 q;obtain⟨x,C,O⟩:=Ag.1 R;obtain⟨u,hu,M⟩:=L.get 0 x C;obtain⟨z,B,y⟩:=Acj r U M O J.toArray K.toArray ty (by simpa using ht) (by simpa using hu);exact⟨z,by simp[builtin,B],y⟩
 ·obtain⟨t,ht,R⟩:=Ag.1 q;obtain⟨x,C,O⟩:=Ag.1 R;obtain⟨u,hu,M⟩:=L.get 0 x C;obtain⟨z,B,y⟩:=Ab5 (P:=P) M O J.toArray K.toArray ty (by simpa using ht) (by simpa using hu) w;exact⟨z,by simp[builtin,B],y⟩
 ·obtain⟨z,B,y⟩:=Acm (P:=P) L q J.toArray ty w;exact⟨z,by simp[builtin,B],y⟩
 ·obtain⟨z,B,y⟩:=Acl (P:=P) L q J.toArray ty w;exact⟨z,by simp[builtin,B],y⟩
 ·cases q
theorem map_toArray {α q:Type} (a:Array α) (f:α->q):(a.toList.map f).toArray=a.map f:=by rw[<-Array.toList_map,Array.toArray_toList]
def uB:Fn->Bool
 |.method _=>true
 |_=>false
def iY (x:AV):Option AV:=
 match x with
 |.ptr id off=>some (.ptr id off)
 |.iface t v=>some (.iface t v)
 |.fn f a c=>gd (!uB f) (some (.fn f a c))
 |.Dx id=>some (.Dx id)
 |_=>none
theorem Acp {ρ:Ai} {a r:AV} {u:Value} (C:VR ρ a u) (h:iY a=some r): r=a/\∀(o:Oper) (f:Operand->Value) (x:Operand),o.op=.nilCheck x->f x=u->execOp f o=pure (.value u):=by
 cases C<;>simp only[iY]at h<;>first|(cases h;done)|skip
 ·injection h with h;subst h;exact⟨rfl,λo f x q y=>by simp[execOp,q,y]⟩
 ·rename_i fn _ _ _ _ _ _;obtain⟨B,h⟩:=AL.1 h;injection h with h;subst h;refine⟨rfl,λo f x q y=>?_⟩;cases fn<;>first|(simp[uB]at B;done)|simp[execOp,q,y]
 ·injection h with h;subst h;exact⟨rfl,λo f x q y=>by simp[execOp,q,y]⟩
 ·injection h with h;subst h;exact⟨rfl,λo f x q y=>by simp[execOp,q,y]⟩
def Qt:TypeDesc->Bool
 |.interface _=>true
 |_=>false
def Qh (P:Program) (H:Tr Ae) (X:Operand->Option AV) (op:Op):Option AV:=
 match op with
 |.move x=>X x
 |.assign x=>X x
 |.pick c a b=>ob (X c) λv=>match v with
  |.bool t=>cond t (X a) (X b)
  |_=>none
 |.load t a=>ob (X a) λx=>Vq P H t x
 |.nilCheck x=>ob (X x) iY
 |.binOp op t x y _=>ob (X x) λa=>ob (X y) λb=>sC P op t (Lk x) (Lk y) a b
 |.unOp op _ x=>ob (X x) λa=>Yq op a
 |.convert s d x=>ob (X x) λa=>iJ P s d a
 |.makeInterface t x=>ob (X x) λa=>ob (P.underlying t) λd=>gd (!Qt d) (some (.iface t a))
 |.makeFunc fn first captured=>ob (Gf X first.toList) λa=>ob (Gf X captured.toList) λc=>some (.fn fn a c)
 |.slice t x lo hi mx=>ob (X x) λa=>Vr P X t a lo hi mx
 |.fieldAddr t x f=>ob (X x) λa=>iQ P t a f
 |.field t x f=>ob (X x) λa=>sG P t a f
 |.indexAddr t x i=>ob (X x) λa=>ob (X i) λb=>Sn P t a b
 |.index t x i=>ob (X x) λa=>ob (X i) λb=>iS P t a b
 |.lookup t x i ok=>ob (X x) λa=>ob (X i) λb=>sN P H t a b ok
 |.extract x i=>ob (X x) λa=>iP a i
 |.call c=>match c.callee with
  |.builtin b=>ob (Gf X c.args.toList) λq=>iF P H b c.argTypes.toList q
  |_=>none
 |_=>none
set_option maxHeartbeats 1000000 in
theorem ia {P:Program} {E:Env} {F:Nat->Option Obj} {nx:Nat} {ρ:Ai} {h:Nat->Option Ae} {w:World} {H:Tr Ae} (r:Rel E F nx ρ h w) (W:HS ρ H h) {X:Operand->Option AV} {f:Operand->Value} (J:XR ρ X f) (o:Oper) {a:AV} (q:Qh P H X o.op=some a): ∃v,(execOp f o).run P w=.ok (.value v) w/\VR ρ a v:=by
 obtain⟨dst,op,type,pos,after,guard⟩:=o;simp only at q;cases op<;>simp only[Qh]at q<;>first|(cases q;done)|skip
 case move x=>exact⟨_,rfl,J _ _ q⟩
 case assign x=>exact⟨_,rfl,J _ _ q⟩
 case pick c x y=>
  obtain⟨v,hv,B⟩:=Ag.1 q;have hc:=J _ _ hv;split at B
  ·rename_i t;generalize S:f c=u at hc;cases hc;cases t
   ·exact⟨_,by simp[execOp,S,asBool],J _ _ B⟩
   ·exact⟨_,by simp[execOp,S,asBool],J _ _ B⟩
  ·cases B
 case load t x=>
  obtain⟨v,hv,B⟩:=Ag.1 q;obtain⟨z,K,C⟩:=sM r W (J _ _ hv) B;exact⟨z,Dj K,C⟩
 case nilCheck x=>
  obtain⟨v,hv,B⟩:=Ag.1 q;have hc:=J _ _ hv;obtain⟨rfl,K⟩:=Acp hc B;exact⟨f x,by rw[K {dst,op:=.nilCheck x,type,pos,after,guard} f x rfl rfl];rfl,hc⟩
 case binOp op t x y yt=>
  obtain⟨v,hv,B⟩:=Ag.1 q;obtain⟨V,M,K⟩:=Ag.1 B;obtain⟨z,C,L⟩:=Ab2 (P:=P) (J _ _ hv) (J _ _ M) K w;exact⟨z,Dj C,L⟩
 case unOp op t x=>
  obtain⟨v,hv,B⟩:=Ag.1 q;obtain⟨z,C,L⟩:=sU (P:=P) B (J _ _ hv) w;exact⟨z,Dj C,L⟩
 case convert s d x=>
  obtain⟨v,hv,B⟩:=Ag.1 q;obtain⟨z,C,L⟩:=sF (P:=P) (J _ _ hv) B w;exact⟨z,Dj C,L⟩
 case makeInterface t x=>
  obtain⟨v,hv,B⟩:=Ag.1 q;obtain⟨d,hd,K⟩:=Ag.1 B;obtain⟨hi,C⟩:=AL.1 K;injection C with C;subst C;refine⟨_,Dj ?_,.iface _ _ _ (J _ _ hv)⟩;cases d<;>first|(simp[Qt]at hi;done)|simp[Instr.makeInterface,run_underlying hd]
 case makeFunc fn first captured=>
  obtain⟨Z,O,B⟩:=Ag.1 q;obtain⟨ys,Y,K⟩:=Ag.1 B;injection K with K;subst K;have C:=VR.fn (ρ:=ρ) fn Z ys _ _ (Jh J O) (Jh J Y);rw[map_toArray,map_toArray]at C;exact⟨_,Dj rfl,C⟩
 case slice t x lo hi mx=>
  obtain⟨v,hv,B⟩:=Ag.1 q;obtain⟨z,C,L⟩:=Acx (P:=P) J (J _ _ hv) B w;exact⟨z,Dj C,L⟩
 case fieldAddr t x i=>
  obtain⟨v,hv,B⟩:=Ag.1 q;obtain⟨z,C,L⟩:=Acd (P:=P) (J _ _ hv) B w;exact⟨z,Dj C,L⟩
 case field t x i=>
  obtain⟨v,hv,B⟩:=Ag.1 q;obtain⟨z,C,L⟩:=Ace (P:=P) (J _ _ hv) B w;exact⟨z,Dj C,L⟩
 case indexAddr t x i=>
  obtain⟨v,hv,B⟩:=Ag.1 q;obtain⟨V,M,K⟩:=Ag.1 B;obtain⟨z,C,L⟩:=Ach (P:=P) (J _ _ hv) (J _ _ M) K w;exact⟨z,Dj C,L⟩
 case index t x i=>
  obtain⟨v,hv,B⟩:=Ag.1 q;obtain⟨V,M,K⟩:=Ag.1 B;obtain⟨z,C,L⟩:=Aci (P:=P) (J _ _ hv) (J _ _ M) K w;exact⟨z,Dj C,L⟩
 case lookup t x i ok=>
  obtain⟨v,hv,B⟩:=Ag.1 q;obtain⟨V,M,K⟩:=Ag.1 B;obtain⟨z,C,L⟩:=Ack r W (J _ _ hv) (J _ _ M) K;exact⟨z,Dj C,L⟩
 case extract x i=>
  obtain⟨v,hv,B⟩:=Ag.1 q;obtain⟨z,C,L⟩:=Acb (P:=P) (J _ _ hv) B w;exact⟨z,Dj C,L⟩
 case call c=>
  obtain⟨U,args,R⟩:=c;simp only at q;split at q
  ·obtain⟨Z,O,B⟩:=Ag.1 q;obtain⟨z,K,C⟩:=Ab1 r W (Jh J O) B type (args.map λ |.const _=>true|_=>false);refine⟨z,?_,C⟩;rw[map_toArray,Array.toArray_toList]at K;simp only[execOp,resolve,Sem.run_bind,Sem.run_pure,Result.andThen_ok,invoke];exact K
  ·cases q
end Go.Ev
end
section
namespace Go.Ev
theorem AG.Ze {ρ:Ai}:∀ {l:Aj} {vs:List Value},l.length=vs.length->(∀(i:Nat) (a:AV) (v:Value),l[i]? =some a->vs[i]? =some v->VR ρ a v)->AG ρ l vs
 | [],[],_,_=>.nil
 | [],_::_,h,_=>by simp at h
 |_::_,[],h,_=>by simp at h
 |a::l,v::vs,h,q=>.cons _ _ _ _ (q 0 a v rfl rfl) (AG.Ze (by simpa using h) λi b u B y=>q (i+1) b u (by simpa using B) (by simpa using y))
theorem AG.SA {ρ:Ai} {l:Aj} {vs:List Value} (h:AG ρ l vs) {i:Nat} {a:AV} {v:Value} (y:l[i]? =some a) (hv:vs[i]? =some v):VR ρ a v:=by obtain⟨u,hu,q⟩:=h.get i a y;rw[hv]at hu;cases hu;exact q
def Mu (l:Aj) (off:Nat) (vs:Aj):Aj:=l.take off++(vs++l.drop (off+vs.length))
theorem yW (l vs:Aj) (off i:Nat) (h:off+vs.length<=l.length): (Mu l off vs)[i]? =if off<=i/\i<off+vs.length then vs[i-off]? else l[i]?:=by
 have y:(l.take off).length=off:=by simp;omega
 unfold Mu;rw[List.getElem?_append,y];split
 ·rename_i hi;rw[Ad (by omega),List.getElem?_take,Am hi]
 ·rename_i hi;rw[List.getElem?_append];split
  ·rename_i q;rw[Am (by omega)]
  ·rename_i q;rw[Ad (by omega),List.getElem?_drop];congr 1;omega
theorem Akg (l vs:Aj) (off:Nat) (h:off+vs.length<=l.length):(Mu l off vs).length=l.length:=by unfold Mu;simp;omega
theorem si (off:Nat):∀(vs:List Value) (j:Nat) (cs:Array Value),off+j+vs.length<=cs.size-> ∃cs',(vs.zipIdx j).foldl (λ(cs:Array Value) (x:Value×Nat)=>cs.setIfInBounds (off+x.2) x.1) cs=cs'/\cs'.size=cs.size/\ ∀i,cs'[i]? =if off+j<=i/\i<off+j+vs.length then vs[i-(off+j)]? else cs[i]?
 | [],j,cs,_=>⟨cs,rfl,rfl,λi=>by rw[Ad (by simp)]⟩
 |v::vs,j,cs,h=>by
  simp only[AE]at h;obtain⟨cs',E,C,B⟩:=si off vs (j+1) (cs.setIfInBounds (off+j) v) (by simp;omega);refine⟨cs',by simpa using E,by simpa using C,λi=>?_⟩;rw[B i];simp only[AE];by_cases q:off+(j+1)<=i/\i<off+(j+1)+vs.length
  ·rw[Am q,Am (by omega),show i-(off+j)=(i-(off+(j+1)))+1 by omega];simp
  ·rw[Ad q];by_cases y:i=off+j
   ·subst y;rw[Am (by omega),Lc,Array.getElem?_setIfInBounds_self_of_lt (by omega)];rfl
   ·rw[Ad (by omega),Array.getElem?_setIfInBounds_ne (by omega)]
def Vt (y:Nat->Option (Nat×Nat)):List (Nat×AV)->Aj->Option Aj:=List.rec (motive:=λ_=>Aj->Option Aj) (λcs=>some cs) (λp _ B cs=>ob (y p.1) λq=>gd (Nat.beq p.2.cells.length q.2&&Nat.ble (q.1+q.2) cs.length) (B (Mu cs q.1 p.2.cells)))
inductive UU (ρ:Ai):List (Nat×AV)->List (Nat×Value)->Prop where
 |nil:UU ρ [] []
 |cons (i:Nat) (a:AV) (v:Value) (l:List (Nat×AV)) (vs:List (Nat×Value)) (h:VR ρ a v) (hs:UU ρ l vs):UU ρ ((i,a)::l) ((i,v)::vs)
theorem Yt {ρ:Ai} {y:Nat->Option (Nat×Nat)}:∀ {O:List (Nat×AV)} {R:List (Nat×Value)},UU ρ O R->∀ {cs r:Aj} {us:Array Value},AG ρ cs us.toList->Vt y O cs=some r->∃J,Instr.fill y us R=some J/\AG ρ r J.toList
 |_,_,.nil,cs,r,us,hc,h=>by injection h with h;subst h;exact⟨us,rfl,hc⟩
 |_,_,.cons i a v O R hv Y,cs,r,us,hc,h=>by
  obtain⟨⟨off,size⟩,Z,h1⟩:=Ag.1 (show(ob (y i) λq=>gd (Nat.beq a.cells.length q.2&&Nat.ble (q.1+q.2) cs.length) (Vt y O (Mu cs q.1 a.cells)))=some r from h);obtain⟨K,h2⟩:=AL.1 h1;rw[C5,AN,Nat.ble_eq]at K;obtain⟨ad,ab⟩:=K;have M:=hv.cells;have C:=M.length;have B:=hc.length;obtain⟨L,e1,e2,e3⟩:=si off v.cells.toList 0 us (by simp at C B⊢;omega);have U:AG ρ (Mu cs off a.cells) L.toList:=by
   refine AG.Ze ?_ λk b u K W=>?_
   ·rw[Akg _ _ _ (by omega)];simp[e2];simpa using B
   ·rw[yW _ _ _ _ (by omega)]at K;have E:L[k]? =some u:=by simpa using W
    rw[e3 k]at E;by_cases V:off<=k/\k<off+a.cells.length
    ·rw[Am V]at K;rw[Am (by simp at C⊢;omega)]at E;exact M.SA K (by simpa using E)
    ·rw[Ad V]at K;rw[Ad (by simp at C⊢;omega)]at E;exact hc.SA K (by simpa using E)
  obtain⟨J,h3,h4⟩:=Yt Y U h2;refine⟨J,?_,h4⟩;have S:v.cells.size=size:=by simp at C;omega
  have aa:¬(off+v.cells.size>us.size):=by simp at B;omega
  have hf:v.cells.zipIdx.foldl (λ(cs:Array Value) (x:Value×Nat)=>cs.setIfInBounds (off+x.2) x.1) us=L:=by rw[<-e1,<-Array.foldl_toList,Array.toList_zipIdx]
  simp only[Instr.fill,Z,S,ne_eq,not_true,decide_false,Bool.false_or];rw[Ad (by simp only[BV];omega)];rw[<-h3,<-hf]
def O6 (X:Operand->Option AV) (l:List (Nat×Operand)):Option (List (Nat×AV)):=List.rec (motive:=λ_=>Option (List (Nat×AV))) (some []) (λx _ q=>ob (X x.2) λa=>ob q λr=>some ((x.1,a)::r)) l
theorem kn {ρ:Ai} {X:Operand->Option AV} {f:Operand->Value} (y:XR ρ X f):∀ {l:List (Nat×Operand)} {r:List (Nat×AV)},O6 X l=some r-> UU ρ r (l.map λx=>(x.1,f x.2))
 | [],r,h=>by injection h with h;subst h;exact .nil
 |x::l,r,h=>by obtain⟨a,C,E⟩:=Ag.1 (show ob (X x.2) (λa=>ob (O6 X l) λr=>some ((x.1,a)::r))=some r from h);obtain⟨J,B,q⟩:=Ag.1 E;injection q with q;subst q;exact .cons _ _ _ _ _ (y _ _ C) (kn y B)
theorem run_places {P:Program} (w:World):∀(fs:List Field),(fs.all λf=>(P.info? f.type).isSome)=true-> (fs.mapM λf=>(do pure (f.offset,<-sizeOf f.type):Sem (Nat×Nat))).run P w=.ok (fs.map λf=>(f.offset,P.cellsOf f.type)) w
 | [],_=>by simp
 |f::fs,h=>by simp only[List.all_cons,C5]at h;obtain⟨i,hi⟩:=Option.isSome_iff_exists.1 h.1;have q:=run_places w fs h.2;simp only[List.mapM_cons,Sem.run_bind,run_sizeOf w hi,Result.andThen_ok,Sem.run_pure,q,List.map_cons]
def UH (P:Program) (t:TypeId):Option Aj:=ob (Ru P t) λz=>some z.cells
def iG (P:Program) (X:Operand->Option AV) (t:TypeId) (q:List (Nat×Operand)):Option AV:=ob (UH P t) λy=>ob (P.underlying t) λd=>ob (O6 X q) λB=>match d with
  |.struct fs=>gd (fs.toList.all λf=>(P.info? f.type).isSome)
    (ob (Vt (λi=>ob (fs[i]?) λf=>some (f.offset,P.cellsOf f.type)) B y) λl=>some (.agg l))
  |.array _ e=>ob (P.info? e) λ_=>ob (Vt (λi=>some (i*P.cellsOf e,P.cellsOf e)) B y) λl=>some (.agg l)
  |_=>none
theorem Zo (q:Array (Nat×Operand)) (f:Operand->Value):(q.map λ(i,x)=>(i,f x)).toList=q.toList.map λx=>(x.1,f x.2):=by rw[Array.toList_map]
theorem Ab3 {P:Program} {ρ:Ai} {X:Operand->Option AV} {f:Operand->Value} (hX:XR ρ X f) {t:TypeId} {B:Array (Nat×Operand)} {a:AV} (h:iG P X t B.toList=some a) (w:World):∃v,(Instr.build t (B.map λ(i,x)=>(i,f x))).run P w=.ok v w/\VR ρ a v:=by
 obtain⟨zs,hz,h1⟩:=Ag.1 h;obtain⟨d,hd,h2⟩:=Ag.1 h1;obtain⟨ps,W,S⟩:=Ag.1 h2;clear h h1 h2;obtain⟨za,V,E⟩:=Ag.1 hz;injection E with E;subst E;obtain⟨z,J,U⟩:=Rv (P:=P) V w;have q:=(U ρ).cells;have hp:=kn hX W;cases d with
 |struct fs=>
  obtain⟨K,R⟩:=AL.1 S;obtain⟨l,M,C⟩:=Ag.1 R;injection C with C;subst C;obtain⟨y,L,O⟩:=Yt hp q M;refine⟨.agg y,?_,?_⟩
  ·have Y:=run_places (P:=P) w fs.toList K;have Z:(fs.mapM λf=>(do pure (f.offset,<-sizeOf f.type):Sem (Nat×Nat))).run P w=.ok (fs.map λf=>(f.offset,P.cellsOf f.type)) w:=by rw[Array.mapM_eq_mapM_toList];simp only[Sem.run_map,Y,Result.andThen_ok];rw[map_toArray]
   have e:(λ(i:Nat)=>ob (fs[i]?) λ(f:Field)=>some (f.offset,P.cellsOf f.type))=λ(i:Nat)=>(fs.map λ(f:Field)=>(f.offset,P.cellsOf f.type))[i]?:=by funext i;rw[Array.getElem?_map];cases fs[i]? <;>rfl
   rw[e]at L;unfold Instr.build;simp only[Sem.run_bind,J,Result.andThen_ok,run_underlying hd,Z,Zo,L,Sem.run_pure]
  ·have:=VR.agg (ρ:=ρ) l y.toList O;simpa using this
 |array n e=>
  obtain⟨i,hi,R⟩:=Ag.1 S;obtain⟨l,M,C⟩:=Ag.1 R;injection C with C;subst C;obtain⟨y,L,O⟩:=Yt hp q M;refine⟨.agg y,?_,?_⟩
  ·unfold Instr.build;simp only[Sem.run_bind,J,Result.andThen_ok,run_underlying hd,run_sizeOf w hi,Zo,L,Sem.run_pure]
  ·have:=VR.agg (ρ:=ρ) l y.toList O;simpa using this
 |_=>cases S
theorem OR.ofList {ρ:Ai} {b:Nat} {l:Aj} {vs:List Value} (h:AG ρ l vs) (el:TypeId): OR ρ ⟨b,0,l.length⟩ (.cells el .leaf (.Dw l) l.length false) (.cells vs.toArray el (0,0)):=by
 refine .cells el .leaf (.Dw l) l.length false vs.toArray (0,0) (by simp[h.length]) (AM _) (λ_=>rfl) (.inl rfl) λk a C q=>?_;unfold cellOf at q;rw[Tr.EK]at q;have y:l[k]? =some a:=by have:l[k %l.length]? =some a:=q;rwa[Nat.mod_eq_of_lt C]at this
 obtain⟨v,hv,B⟩:=h.get k a y;exact⟨v,by simpa using hv,B⟩
theorem z9 (z:Array Value) (n k:Nat) (q:k<n) (hz:0<z.size): ((Array.range n).map (λi=>z[i %z.size]!))[k]? =z[k %z.size]?:=by rw[Array.getElem?_map,Array.getElem?_range,Am q];have:k %z.size<z.size:=Nat.mod_lt _ hz;simp[this]
theorem OR.wD {ρ:Ai} {b:Nat} {l:Aj} {z:Array Value} (h:AG ρ l z.toList) (el:TypeId) (n:Nat) (hz:n=0\/0<l.length): OR ρ ⟨b,0,n⟩ (.cells el .leaf (.Dw l) n false) (.cells ((Array.range n).map (λi=>z[i %z.size]!)) el (0,0)):=by
 have C:l.length=z.size:=by simpa using h.length
 refine .cells el .leaf (.Dw l) n false _ (0,0) (by simp) (AM _) (λ_=>rfl) (.inl rfl) λk a E q=>?_;unfold cellOf at q;rw[Tr.EK]at q;have y:l[k %l.length]? =some a:=q;obtain⟨v,hv,B⟩:=h.get _ a y;refine⟨v,?_,B⟩;simp only[Nat.zero_add];rw[z9 z n k E (by omega),<-C];simpa using hv
def Ix (P:Program) (X:Operand->Option AV) (ni:Nat) (op:Op):Option (AV×Ae):=
 match op with
 |.alloc el=>ob (UH P el) λcs=>fN cs.length λn=>some (.ptr ni 0,.cells el .leaf (.Dw cs) n false)
 |.box el x=>ob (X x) λv=>fN v.cells.length λn=>some (.ptr ni 0,.cells el .leaf (.Dw v.cells) n false)
 |.makeMap _ none=>some (.map ni,.map [] 0)
 |.makeSlice t l c=>ob (X l) λl=>ob (RR l) λl=>ob (X c) λc=>ob (RR c) λc=>ob (P.underlying t) λd=>match d with
  |.slice el=>ob (P.info? el) λi=>gd (Nat.ble l c&&Nat.ble c 9223372036854775807&&Nat.ble (i.bytes*c) 281474976710656) (ob (UH P el) λcs=>gd (Nat.blt 0 cs.length&&Nat.beq cs.length i.size) (fN (c*i.size) λn=>fN l λl=>fN c λc=>some (.sl ni 0 l c,.cells el .leaf (.Dw cs) n false)))
  |_=>none
 |.buildSlice t len q=>ob (P.underlying t) λd=>match d with
  |.slice el=>ob (P.info? el) λi=>gd (Nat.ble (len*i.size) 16777216) (ob (UH P el) λy=>gd (Nat.blt 0 y.length&&Nat.beq y.length i.size)
    (ob (O6 X q.toList) λB=>ob (Vt (λj=>some (j*i.size,i.size)) B ((List.replicate len y).flatten)) λcs=>fN cs.length λn=>some (.sl ni 0 len len,.cells el .leaf (.Dw cs) n false)))
  |_=>none
 |.convert s t x=>ob (X x) λv=>ob (P.underlying s) λ_=>ob (P.underlying t) λd=>match d,v with
  |.slice el,.str l n=>ob (P.underlying el) λde=>match de with
   |.int .u8=>gd (Nat.ble l 140737488355328) (fN l λl=>some (.BF ni 0 l 1,.cells el .leaf (.Dw ((List.range l).map λi=>.int .u8 (.ofNat (n/256^i %256)))) l true))
   |_=>none
  |_,_=>none
 |.makeChan t x=>ob (X x) λa=>match a with
  |.int _ (.ofNat n)=>ob (P.underlying t) λd=>match d with
   |.chan _ el=>ob (P.info? el) λi=>gd (Nat.ble n 1000000) (gd (Nat.ble (i.bytes*n) 1000000) (some (.chan ni,.chan n [])))
   |_=>none
  |_=>none
 |.range t x=>ob (X x) λa=>ob (P.underlying t) λd=>match d,a with
  |.string,.str l n=>some (.ptr ni 0,.Mt l n 0)
  |.map _ _,.E8=>some (.ptr ni 0,.O3)
  |_,_=>none
 |_=>none
theorem dD {P:Program} {t:TypeId} {l:Aj} (h:UH P t=some l) (w:World):∃z,(zeroValue t).run P w=.ok z w/\∀ρ:Ai,AG ρ l z.cells.toList:=by obtain⟨a,y,q⟩:=Ag.1 h;injection q with q;subst q;obtain⟨z,C,B⟩:=Rv (P:=P) y w;exact⟨z,C,λρ=>(B ρ).cells⟩
def dK (P:Program) (w:World) (ρ:Ai) (ni:Nat) (s:Sem Next) (a:AV) (o:Ae):Prop:=∃v q c cap,s.run P w=.ok (.value v) (q.alloc c)/\(q=w\/q=w.drew)/\OR (ρ.put ni ⟨w.heap.size,0,cap⟩) ⟨w.heap.size,0,cap⟩ o c/\VR (ρ.put ni ⟨w.heap.size,0,cap⟩) a v
theorem AcU {ρ:Ai} (l:Aj) (z:Array Value) (h:AG ρ l z.toList) (hz:0<z.size) (len:Nat): AG ρ ((List.replicate len l).flatten) ((Array.range (len*z.size)).map (λi=>z[i %z.size]!)).toList:=by
 have C:l.length=z.size:=by simpa using h.length
 have q:∀n,((List.replicate n l).flatten).length=n*l.length:=λn=>by
  induction n with
  |zero=>simp
  |succ n E=>rw[List.replicate_succ,List.flatten_cons,AK,E,Nat.succ_mul,Nat.add_comm]
 have B:∀n i,i<n*l.length->((List.replicate n l).flatten)[i]? =l[i %l.length]?:=λn=>by
  induction n with
  |zero=>intro i hi;simp at hi
  |succ n E=>
   intro i hi;rw[List.replicate_succ,List.flatten_cons,List.getElem?_append];split
   ·rename_i K;rw[Nat.mod_eq_of_lt K]
   ·rename_i K;rw[Nat.succ_mul]at hi;have L:=Nat.mod_eq_sub_mod (a:=i) (b:=l.length) (by omega);rw[E _ (by omega),<-L]
 refine AG.Ze (by rw[q];simp[C]) λi a v J hv=>?_;have hi:i<len*z.size:=by have:=(It.1 J).1;rw[q,C]at this;exact this
 rw[B len i (by rw[C];exact hi)]at J;have y:((Array.range (len*z.size)).map (λi=>z[i %z.size]!))[i]? =some v:=by rw[<-Array.getElem?_toList];exact hv
 rw[z9 z _ _ hi hz,<-C]at y;exact h.SA J (by simpa using y)
theorem yO (w:World) (c:Array Value) (e:TypeId):(w.alloc (.cells c e)).shape? w.heap.size=some (e,c.size):=by simp only[World.shape?,World.alloc,Array.getElem?_push_size]
theorem oe (w:World) (c:Array Value) (e:TypeId): (w.alloc (.cells c e)).freeze ⟨w.heap.size,c.size,none⟩ 1=w.alloc (.cells c e (c.size,c.size+1)):=by
 unfold World.freeze World.alloc;rw[Ad (by decide)];congr 1;apply Array.ext_getElem?;intro i;rw[Array.getElem?_modify,Array.getElem?_push,Array.getElem?_push];by_cases h:w.heap.size=i
 ·subst h;simp
 ·rw[Ad h,Ad (λe=>h e.symm),Ad (λe=>h e.symm)]
theorem pG {ρ:Ai} (l n:Nat):AG ρ ((List.range l).map λi=>AV.int .u8 (.ofNat (n/256^i %256))) ((BB l n).map λb=>Value.int .u8 b.toNat):=by
 refine AG.Ze (by simp[ON]) λi a v q hv=>?_;have hi:i<l:=by have:=(It.1 q).1;simpa using this
 rw[HB,OI hi]at q;rw[HB,XI l n i hi]at hv;simp only[Option.map_some,Option.some.injEq]at q hv;subst q;subst hv;rw[HT];exact .int _ _
set_option maxHeartbeats 1000000 in
theorem sO {P:Program} {ρ:Ai} {w:World} {X:Operand->Option AV} {f:Operand->Value} (hX:XR ρ X f) {ni:Nat} (az:ρ ni=none) (o:Oper) {a:AV} {af:Ae} (y:Ix P X ni o.op=some (a,af)):dK P w ρ ni (execOp f o) a af:=by
 obtain⟨dst,op,type,pos,after,guard⟩:=o;simp only at y;have ag:=λb=>Ai.Lp (ρ:=ρ) (i:=ni) az b;cases op<;>simp only[Ix]at y<;>first|(cases y;done)|skip
 case alloc el=>
  obtain⟨cs,S,q⟩:=Ag.1 y;rw[Bv]at q;injection q with q;injection q with q B;subst q;subst B;obtain⟨z,hz,V⟩:=dD (P:=P) S w;refine⟨.pointer (some ⟨w.heap.size,0,none⟩),w,.cells z.cells el,cs.length,?_,.inl rfl,?_,?_⟩
  ·exact Dj (by simp[Instr.alloc,hz,newVar,newRow])
  ·have:=OR.ofList (b:=w.heap.size) (V (ρ.put ni ⟨w.heap.size,0,cs.length⟩)) el;simpa using this
  ·exact .ptr ni 0 ⟨w.heap.size,0,cs.length⟩ (Ai.FF _ _ _)
 case box el x=>
  obtain⟨v,hv,q⟩:=Ag.1 y;rw[Bv]at q;injection q with q;injection q with q B;subst q;subst B;have V:=(hX _ _ hv).cells;refine⟨.pointer (some ⟨w.heap.size,0,none⟩),w,.cells (f x).cells el,v.cells.length,?_,.inl rfl,?_,?_⟩
  ·exact Dj (by simp[Instr.box,newVar,newRow])
  ·have:=OR.ofList (b:=w.heap.size) (V.mono (ag ⟨w.heap.size,0,v.cells.length⟩)) el;simpa using this
  ·exact .ptr ni 0 ⟨w.heap.size,0,v.cells.length⟩ (Ai.FF _ _ _)
 case makeMap t r=>
  cases r with
  |some _=>cases y
  |none=>
   injection y with q;injection q with q B;subst q;subst B;refine⟨.map (some w.heap.size),w,.map #[] 0,0,?_,.inl rfl,.map [] 0 [] .nil,?_⟩
   ·exact Dj (by simp[Instr.makeMap])
   ·exact .map ni ⟨w.heap.size,0,0⟩ (Ai.FF _ _ _)
 case makeSlice t l c=>
  obtain⟨lv,aA,q⟩:=Ag.1 y;obtain⟨ln,aB,B⟩:=Ag.1 q;obtain⟨cv,aG,J⟩:=Ag.1 B;obtain⟨K,aH,M⟩:=Ag.1 J;obtain⟨d,hd,E⟩:=Ag.1 M;clear y q B J M;obtain⟨kl,rfl⟩:=fO aB;obtain⟨kc,rfl⟩:=fO aH;have rl:=hX _ _ aA;have rc:=hX _ _ aG;generalize ah:f l=vl at rl;generalize ai:f c=vc at rc;cases rl;cases rc;cases d with
  |slice el=>
   obtain⟨i,hi,h6⟩:=Ag.1 E;obtain⟨hb,h7⟩:=AL.1 h6;obtain⟨cs,S,h8⟩:=Ag.1 h7;obtain⟨hz,W⟩:=AL.1 h8;simp only[Bv]at W;injection W with W;injection W with W ad;subst W;subst ad;simp only[C5,Nat.ble_eq]at hb;obtain⟨⟨ak,aj⟩,aJ⟩:=hb;rw[C5,Co,AN]at hz;obtain⟨z,ab,V⟩:=dD (P:=P) S (w:World);have O:z.cells.size=i.size:=by have:=(V ρ).length;simp at this;omega
   refine⟨.slice (some ⟨w.heap.size,0,none⟩) ln K,w,.cells ((Array.range (K*i.size)).map (λj=>z.cells[j %z.cells.size]!)) el,K*i.size,?_,.inl rfl,?_,?_⟩
   ·refine Dj ?_;have e1:IntKind.i64.wrap (ln:Int)=ln:=wrap_i64 (by omega) (by omega);have e2:IntKind.i64.wrap (K:Int)=K:=wrap_i64 (by omega) (by omega);have e3:¬((i.bytes:Int)*(K:Int)>281474976710656):=by have h0:((i.bytes*K:Nat):Int)<=((281474976710656:Nat):Int):=Int.ofNat_le.2 aJ;rw[Int.natCast_mul]at h0;omega
    have e4:¬((ln:Int)>(K:Int)):=by omega
    have R:P.cellsOf el=i.size:=by simp[Program.cellsOf,hi]
    have e5:¬((K:Int)<0\/(ln:Int)<0):=by omega
    by_cases hn:K*i.size=0
    ·have Y:∀g:Nat->Value,(Array.range (K*i.size)).map g= #[]:=λg=>by rw[hn];simp
     rw[Y];have aw:∀g:Nat->Value,(Array.range 0).map g= #[]:=λg=>by simp
     simp[Instr.makeSlice,run_underlying hd,ah,ai,asInt,asIntOf,run_typeInfo w hi,e1,e2,e3,e4,e5,run_sizeOf w hi,R,hn,newRow,aw]
    ·simp[Instr.makeSlice,run_underlying hd,ah,ai,asInt,asIntOf,run_typeInfo w hi,e1,e2,e3,e4,e5,run_sizeOf w hi,R,hn,ab,newRow]
   ·exact OR.wD (V _) el _ (.inr hz.1)
   ·exact .sl ni 0 ln K ⟨w.heap.size,0,K*i.size⟩ (Ai.FF _ _ _)
  |_=>cases E
 case buildSlice t len parts=>
  obtain⟨d,hd,q⟩:=Ag.1 y;clear y;cases d with
  |slice el=>
   obtain⟨i,hi,B⟩:=Ag.1 q;obtain⟨hb,J⟩:=AL.1 B;obtain⟨zs,ar,M⟩:=Ag.1 J;obtain⟨hz,E⟩:=AL.1 M;obtain⟨ps,ay,h6⟩:=Ag.1 E;obtain⟨cs,S,h7⟩:=Ag.1 h6;clear q B J M E h6;rw[Bv]at h7;injection h7 with h7;injection h7 with h7 h8;subst h7;subst h8;rw[Nat.ble_eq]at hb;rw[C5,Co,AN]at hz;obtain⟨z,ab,V⟩:=dD (P:=P) ar w;have O:z.cells.size=i.size:=by have:=(V ρ).length;simp at this;omega
   have U:=AcU zs z.cells (V ρ) (by omega) len;rw[O]at U;obtain⟨aq,W,ad⟩:=Yt (kn hX ay) U S;refine⟨.slice (some ⟨w.heap.size,0,none⟩) len len,w,.cells aq el,cs.length,?_,.inl rfl,?_,?_⟩
   ·refine Dj ?_;have R:P.cellsOf el=i.size:=by simp[Program.cellsOf,hi]
    have Z:¬(len*i.size>16777216):=by omega
    unfold Instr.buildSlice;by_cases hn:len*i.size=0
    ·have Y:∀g:Nat->Value,(Array.range (len*i.size)).map g= #[]:=λg=>by rw[hn];simp
     have al:=W;rw[Y]at al;simp only[Sem.run_bind,run_underlying hd,Result.andThen_ok,run_sizeOf w hi,R,Zo];rw[Ad Z,Am hn];simp[Y,al,newRow]
    ·simp only[Sem.run_bind,run_underlying hd,Result.andThen_ok,run_sizeOf w hi,R,Zo];rw[Ad Z,Ad hn];simp[ab,W,newRow,O]
   ·have:=OR.ofList (b:=w.heap.size) (ad.mono (ag ⟨w.heap.size,0,cs.length⟩)) el;simpa using this
   ·exact .sl ni 0 len len ⟨w.heap.size,0,cs.length⟩ (Ai.FF _ _ _)
  |_=>cases q
 case convert s t x=>
  obtain⟨v,hv,q⟩:=Ag.1 y;obtain⟨ds,aE,B⟩:=Ag.1 q;obtain⟨dt,aD,J⟩:=Ag.1 B;clear y q B;have hc:=hX _ _ hv;cases dt with
  |slice el=>
   cases v with
   |str l n=>
   obtain⟨de,aF,M⟩:=Ag.1 J;split at M
   ·obtain⟨hb,E⟩:=AL.1 M;rw[Bv]at E;injection E with E;injection E with E h6;subst E;subst h6;rw[Nat.ble_eq]at hb;generalize L:f x=vx at hc;cases hc with
    |str _ _ hn=>
     let cap:=Question.cut (.appendCap l 0 el) (w.tape w.drawn (.appendCap l 0 el));have aa:l<=cap:=by show l<=l+_;omega
     let C:Array Value:=((BA l n).data.map λb=>Value.int .u8 b.toNat)++Array.replicate (cap-l) (.int .u8 0);have Dt:C.size=cap:=by have q:(BA l n).data.size=l:=MK l n;simp[C,q];omega
     refine⟨.slice (some ⟨w.heap.size,0,none⟩) l cap,w.drew,.cells C el (C.size,C.size+1),cap,?_,.inr rfl,?_,?_⟩
     ·refine Dj ?_;have O:(BA l n).size=l:=MK l n;have aI:(choose (.appendCap l 0 el)).run P w=.ok cap w.drew:=by simp[Question.forced,cap]
      have aC:=oe w.drew C el;have ao:(Conv.stringToBytes el (BA l n)).run P w=.ok (.slice (some ⟨w.heap.size,0,none⟩) l cap) (w.drew.alloc (.cells C el (C.size,C.size+1))):=by rw[<-aC];unfold Conv.stringToBytes;rw[O];simp only[Sem.run_bind,aI,Result.andThen_ok];have av:=yO w.drew C el;simp only[newRow,Sem.run_bind,run_newObj,Result.andThen_ok,Sem.run_pure,markStringish,run_shape];have an:World.shape? {w.drew with heap:=w.drew.heap.push (.cells C el)} w.drew.heap.size=some (el,C.size):=av;rw[an];rfl
      rw[L];simp only[convert,Sem.run_bind,run_underlying aE,run_underlying aD,Result.andThen_ok,run_underlying aF];cases ds<;>simp[ao]
     ·refine .cells el .leaf (.Dw _) l true C (C.size,C.size+1) (by simp[Dt]) aa (by simp) (.inr (AM _)) λk a hk ha=>?_;unfold cellOf at ha;rw[Tr.EK]at ha;have aK:((List.range l).map λi=>AV.int .u8 (.ofNat (n/256^i %256)))[k]? =some a:=by have:((List.range l).map λi=>AV.int .u8 (.ofNat (n/256^i %256)))[k %((List.range l).map λi=>AV.int .u8 (.ofNat (n/256^i %256))).length]? =some a:=ha;simpa[Nat.mod_eq_of_lt hk]using this
      obtain⟨u,hu,au⟩:=(pG (ρ:=ρ.put ni ⟨w.heap.size,0,cap⟩) l n).get k a aK;refine⟨u,?_,au⟩;have q:((BA l n).data.map λb=>Value.int .u8 b.toNat)[k]? =some u:=by rw[<-Array.getElem?_toList,Array.toList_map,P6];exact hu
      simp only[Nat.zero_add];show(((BA l n).data.map λb=>Value.int .u8 b.toNat)++Array.replicate (cap-l) (.int .u8 0))[k]? =some u;rw[Array.getElem?_append,Am (by rw[Array.size_map];have:(BA l n).data.size=l:=MK l n;omega)];exact q
     ·have:=VR.BF (ρ:=ρ.put ni ⟨w.heap.size,0,cap⟩) ni 0 l 1 ⟨w.heap.size,0,cap⟩ (Ai.FF _ _ _) (by decide) (by simpa using aa);simpa using this
   ·cases M
   |_=>cases J
  |_=>cases J
 case makeChan t x=>
  obtain⟨v,hv,q⟩:=Ag.1 y;have hc:=hX _ _ hv;clear y;split at q
  ·rename_i k n;obtain⟨d,hd,B⟩:=Ag.1 q;split at B
   ·rename_i aL el;obtain⟨i,hi,J⟩:=Ag.1 B;obtain⟨ak,M⟩:=AL.1 J;obtain⟨aj,E⟩:=AL.1 M;injection E with E;injection E with E h6;subst E;subst h6;rw[Nat.ble_eq]at ak aj;generalize L:f x=vx at hc;cases hc;refine⟨.chan (some w.heap.size),w,.chan n #[] false 0 0 false,0,?_,.inl rfl,.chan n [] [] 0 0 .nil,.chan ni ⟨w.heap.size,0,0⟩ (Ai.FF _ _ _)⟩;refine Dj ?_;rw[L];have hm:IntKind.i64.max=9223372036854775807:=rfl;have ae:(i.bytes:Int)*(n:Int)=((i.bytes*n:Nat):Int):=by simp
    have Z:¬((Int.ofNat n)<0\/(Int.ofNat n)>IntKind.i64.max\/(i.bytes:Int)*(Int.ofNat n)>2^48-112):=by rw[hm];simp only[Int.ofNat_eq_natCast];rw[ae];omega
    unfold Instr.makeChan;simp only[asInt,asIntOf,Sem.run_bind,Sem.run_pure,Result.andThen_ok,run_underlying hd,run_typeInfo w hi];rw[Ad Z];simp[Result.andThen_ok]
   ·cases B
  ·cases q
 case range t x=>
  obtain⟨v,hv,q⟩:=Ag.1 y;obtain⟨d,hd,B⟩:=Ag.1 q;have hc:=hX _ _ hv;clear y q;generalize L:f x=vx at hc;split at B
  ·rename_i l n;injection B with B;injection B with B J;subst B;subst J;cases hc with
   |str _ _ hn=>refine⟨.pointer (some ⟨w.heap.size,0,none⟩),w,.stringIter (BA l n) 0,0,?_,.inl rfl,.Mt l n 0 rfl hn,.ptr ni 0 ⟨w.heap.size,0,0⟩ (Ai.FF _ _ _)⟩;refine Dj ?_;rw[L];simp[Instr.range,run_underlying hd]
  ·injection B with B;injection B with B J;subst B;subst J;cases hc;refine⟨.pointer (some ⟨w.heap.size,0,none⟩),w,.mapIter none 0 #[] 0,0,?_,.inl rfl,.O3 0 #[] 0 rfl,.ptr ni 0 ⟨w.heap.size,0,0⟩ (Ai.FF _ _ _)⟩;refine Dj ?_;rw[L];simp[Instr.range,run_underlying hd]
  ·cases B
def O5 (l:Aj):Option Nat:=List.rec (motive:=λ_=>Option Nat) (some 0) (λa _ q=>match a with
  |.int .u8 (.ofNat c)=>gd (Nat.blt c 256) (ob q λn=>fN (c+256*n) λm=>some m)
  |_=>none) l
theorem kg {ρ:Ai}:∀ {l:Aj} {vs:List Value} {n:Nat},AG ρ l vs->O5 l=some n-> n<256^l.length/\∃ns:AP,vs=ns.map (Value.int .u8)/\ns.map (λn=>UInt8.ofNat n.toNat)=BB l.length n
 |_,_,n,.nil,h=>by injection h with h;subst h;exact⟨by simp,[],rfl,rfl⟩
 |_,_,n,.cons a v l vs hv C,h=>by
  cases hv with
  |int k m=>
   cases k<;>first|(cases h;done)|skip
   cases m with
   |negSucc _=>cases h
   |ofNat c=>obtain⟨hc,K⟩:=AL.1 (show gd (Nat.blt c 256) (ob (O5 l) λn=>fN (c+256*n) λm=>some m)=some n from h);obtain⟨B,y,q⟩:=Ag.1 K;rw[Bv]at q;injection q with q;subst q;rw[Co]at hc;obtain⟨L,ns,J,E⟩:=kg C y;refine⟨by simp only[AE,Nat.pow_succ];omega,Int.ofNat c::ns,by rw[J];rfl,?_⟩;simp only[List.map_cons,AE,BB];rw[E,show(c+256*B)/256=B by omega];congr 1;apply UInt8.toNat_inj.1;rw[HT,HT];show c %256=_;omega
  |_=>cases h
theorem fold_push:∀(ns:AP) (s:ByteArray),ns.foldl (λr n=>r.push (UInt8.ofNat n.toNat)) s=⟨s.data++(ns.map (λn=>UInt8.ofNat n.toNat)).toArray⟩
 | [],s=>by cases s;simp
 |n::ns,s=>by
  simp only[List.foldl_cons,List.map_cons];rw[fold_push ns];cases s with
  |mk d=>simp only[ByteArray.push];congr 1;apply Array.ext';simp
def sA (P:Program) (H:Tr Ae) (q dst:TypeId) (x:AV):Option AV:=ob (P.underlying q) λy=>ob (P.underlying dst) λB=>match y,B with
  |.slice e,.string=>ob (P.underlying e) λde=>match de with
   |.int .u8=>match x with
    |.Ay=>some (.str 0 0)
    |.sl id off n _=>ob (GB H id off n) λl=>ob (O5 l) λm=>some (.str l.length m)
    |.BF id off n _=>ob (GB H id off n) λl=>ob (O5 l) λm=>some (.str l.length m)
    |.sle _=>some (.str 0 0)
    |_=>none
   |_=>none
  |_,_=>none
theorem Ab0 {P:Program} {E:Env} {F:Nat->Option Obj} {nx:Nat} {ρ:Ai} {h:Nat->Option Ae} {w:World} {H:Tr Ae} (r:Rel E F nx ρ h w) (hs:HS ρ H h) {y dst:TypeId} {x a:AV} {u:Value} (S:VR ρ x u) (R:sA P H y dst x=some a):∃v,(convert y dst u).run P w=.ok v w/\VR ρ a v:=by
 obtain⟨ds,C,h1⟩:=Ag.1 R;obtain⟨dd,K,Z⟩:=Ag.1 h1;clear R h1;have key:∀(e:TypeId) (ad:Addr) (n c:Nat) (l:Aj) (vs:List Value) (m:Nat),P.underlying y=some (.slice e)->P.underlying dst=some .string->P.underlying e=some (.int .u8)-> AG ρ l vs->vs.length=n->(∀j v,vs[j]? =some v->w.cell? (ad.add j)=some v)->O5 l=some m->∃v,(convert y dst (.slice (some ad) n c)).run P w=.ok v w/\VR ρ (.str l.length m) v:=by intro e ad n c l vs m ab aa he L hn hc hp;obtain⟨q,ns,M,B⟩:=kg L hp;have O:=run_loadCells_list (P:=P) w ad vs hc;rw[hn]at O;subst M;refine⟨.string (BA l.length m),?_,.str _ _ q⟩;rw[run_convert_bytes_string w y dst e (some ad) n c ab he aa,run_bytesToString w ad n c ns O,fold_push,B];have ae:ByteArray.empty.data= #[]:=rfl;rw[ae,Array.empty_append];rfl
 split at Z
 ·obtain⟨de,J,q⟩:=Ag.1 Z;split at q
  ·split at q
   ·injection q with q;subst q;cases S;refine⟨.string (BA 0 0),?_,.str 0 0 (by simp)⟩;rw[run_convert_bytes_string w y dst _ none 0 0 C J K];simp[Conv.bytesToString];rfl
   ·obtain⟨l,L,M⟩:=Ag.1 q;obtain⟨m,hm,B⟩:=Ag.1 M;injection B with B;subst B;cases S with
    |sl _ _ _ _ b U=>obtain⟨vs,Y,W,V⟩:=HZ r hs U L;exact key _ _ _ _ l vs m C K J Y W V hm
   ·obtain⟨l,L,M⟩:=Ag.1 q;obtain⟨m,hm,B⟩:=Ag.1 M;injection B with B;subst B;cases S with
    |BF _ _ _ _ b U _ _=>obtain⟨vs,Y,W,V⟩:=HZ r hs U L;exact key _ _ _ _ l vs m C K J Y W V hm
   ·injection q with q;subst q;cases S with
    |sle _ b o c U=>exact key _ _ _ _ [] [] 0 C K J .nil rfl (λj v hj=>by simp at hj) rfl
   ·cases q
  ·cases q
 ·cases Z
def jc:AV->Bool
 |.Ay=>true
 |.sl _ _ _ _=>true
 |.BF _ _ _ _=>true
 |.sle _=>true
 |_=>false
def rz (P:Program) (q:TypeId) (ok:Bool) (a:AV):Option AV:=ob (P.underlying q) λd=>gd (!Qt d) (match a with
  |.EL=>gd ok (ob (Ru P q) λz=>some (.AO [z,.bool false]))
  |.iface t v=>cond (Nat.beq t q) (some (cond ok (.AO [v,.bool true]) v)) (gd ok (ob (Ru P q) λz=>some (.AO [z,.bool false])))
  |_=>none)
theorem AbZ {P:Program} {ρ:Ai} {t q:TypeId} {ok:Bool} {x a:AV} {u:Value} (R:VR ρ x u) (h:rz P q ok x=some a) (w:World): ∃v,(Instr.typeAssert u t q ok).run P w=.ok v w/\VR ρ a v:=by
 obtain⟨d,hd,U⟩:=Ag.1 h;obtain⟨hi,y⟩:=AL.1 U;clear h U;split at y
 ·obtain⟨AA,L⟩:=AL.1 y;obtain⟨z,hz,B⟩:=Ag.1 L;injection B with B;subst B;subst AA;obtain⟨J,C,E⟩:=Rv hz w;cases R;refine⟨.tuple #[J,.bool false],?_,.AO _ [J,.bool false] (.cons _ _ _ _ (E ρ) (.cons _ _ _ _ (.bool _) .nil))⟩;cases d<;>first|(simp[Qt]at hi;done)|simp[Instr.typeAssert,run_underlying hd,C]
 ·rename_i O v;cases R with
  |iface _ _ u S=>
   cases K:Nat.beq O q with
   |true=>
    rw[K,cond_true]at y;rw[AN]at K;subst K;injection y with y;cases ok with
    |true=>simp only[cond_true]at y;subst y;refine⟨.tuple #[u,.bool true],?_,.AO _ [u,.bool true] (.cons _ _ _ _ S (.cons _ _ _ _ (.bool _) .nil))⟩;cases d<;>first|(simp[Qt]at hi;done)|simp[Instr.typeAssert,run_underlying hd]
    |false=>simp only[cond_false]at y;subst y;refine⟨u,?_,S⟩;cases d<;>first|(simp[Qt]at hi;done)|simp[Instr.typeAssert,run_underlying hd]
   |false=>
    rw[K,cond_false]at y;obtain⟨AA,L⟩:=AL.1 y;obtain⟨z,hz,B⟩:=Ag.1 L;injection B with B;subst B;subst AA;obtain⟨J,C,E⟩:=Rv hz w;have M:¬O=q:=λe=>by rw[<-AN,K]at e;cases e
    refine⟨.tuple #[J,.bool false],?_,.AO _ [J,.bool false] (.cons _ _ _ _ (E ρ) (.cons _ _ _ _ (.bool _) .nil))⟩;cases d<;>first|(simp[Qt]at hi;done)|simp[Instr.typeAssert,run_underlying hd,C,M]
 ·cases y
def iH (H:Tr Ae) (x:AV):Option (Nat×Nat):=
 match x with
 |.str l n=>some (l,n)
 |.Ay=>some (0,0)
 |.sl id off n _=>ob (GB H id off n) λl=>ob (O5 l) λm=>some (l.length,m)
 |.BF id off n _=>ob (GB H id off n) λl=>ob (O5 l) λm=>some (l.length,m)
 |.sle _=>some (0,0)
 |_=>none
theorem Z9 {P:Program} (w:World):∀(ns:AP) (a:Addr) (acc:ByteArray),(∀j v,(ns.map (Value.int .u8))[j]? =some v->w.cell? (a.add j)=some v)-> (Extern.Bytes.loadBytes a ns.length acc).run P w=.ok ⟨acc.data++(ns.map λn=>UInt8.ofNat n.toNat).toArray⟩ w
 | [],a,acc,_=>by cases acc;simp[Extern.Bytes.loadBytes]
 |n::ns,a,acc,h=>by
  have C:w.cell? a=some (.int .u8 n):=by have:=h 0 _ rfl;simpa[Addr.add]using this
  have y:=Z9 (P:=P) w ns (a.add 1) (acc.push n.toNat.toUInt8) λj v q=>by
   have:=h (j+1) v (by simpa using q);have e:(a.add 1).add j=a.add (j+1):=by
    unfold Addr.add;by_cases q:j=0
    ·subst q;simp
    ·simp[q];omega
   rw[e];exact this
  simp only[AE,Extern.Bytes.loadBytes,Sem.run_bind];have B:(load a).run P w=.ok (.int .u8 n) w:=by simp[C]
  rw[B];simp only[Result.andThen_ok];rw[y];congr 1;cases acc with
  |mk d=>simp only[ByteArray.push,List.map_cons];congr 1;apply Array.ext';simp
theorem Ab4 {P:Program} {E:Env} {F:Nat->Option Obj} {nx:Nat} {ρ:Ai} {h:Nat->Option Ae} {w:World} {H:Tr Ae} (r:Rel E F nx ρ h w) (V:HS ρ H h) {x:AV} {u:Value} {l n:Nat} (K:VR ρ x u) (q:iH H x=some (l,n)):(Extern.Bytes.bytesOf u).run P w=.ok (BA l n) w:=by
 have key:∀(ad:Addr) (c:Nat) (J:Aj) (vs:List Value) (m:Nat),AG ρ J vs->(∀j v,vs[j]? =some v->w.cell? (ad.add j)=some v)->O5 J=some m-> (Extern.Bytes.bytesOf (.slice (some ad) vs.length c)).run P w=.ok (BA J.length m) w:=by intro ad c J vs m L hc W;obtain⟨Z,ns,M,y⟩:=kg L W;subst M;have:=Z9 (P:=P) w ns ad .empty hc;simp only[Extern.Bytes.bytesOf,FL];rw[this,y];congr 1;show(⟨#[]++(BB J.length m).toArray⟩:ByteArray)=_;rw[Array.empty_append];rfl
 unfold iH at q;split at q
 ·injection q with q;injection q with C B;subst C;subst B;cases K;rfl
 ·injection q with q;injection q with C B;subst C;subst B;cases K;rfl
 ·obtain⟨J,L,M⟩:=Ag.1 q;obtain⟨m,hm,y⟩:=Ag.1 M;injection y with y;injection y with C B;subst C;subst B;cases K with
  |sl _ _ _ _ b O=>obtain⟨vs,U,S,R⟩:=HZ r V O L;rw[<-S];exact key _ _ _ vs _ U R hm
 ·obtain⟨J,L,M⟩:=Ag.1 q;obtain⟨m,hm,y⟩:=Ag.1 M;injection y with y;injection y with C B;subst C;subst B;cases K with
  |BF _ _ _ _ b O _ _=>obtain⟨vs,U,S,R⟩:=HZ r V O L;rw[<-S];exact key _ _ _ vs _ U R hm
 ·injection q with q;injection q with C B;subst C;subst B;cases K with
  |sle _ b o c O=>exact key _ _ [] [] 0 .nil (λj v Y=>by simp at Y) rfl
 ·cases q
def Vj (c l:Nat):Nat->Nat:=Nat.rec (motive:=λ_=>Nat->Nat) (λ_=>0) (λ_ q n=>cond (Nat.beq (n %256) c) (fN (n/256) q+1) (fN (n/256) q)) l
theorem pg {c:Nat} (hc:c<256):∀(l n:Nat),Lib.countByte (BB l n) (UInt8.ofNat c)=Vj c l n
 |0,_=>rfl
 |l+1,n=>by
  have B:=pg hc l (n/256);unfold Lib.countByte at B⊢;show List.count _ (UInt8.ofNat n::BB l (n/256))=cond (Nat.beq (n %256) c) (fN (n/256) (Vj c l)+1) (fN (n/256) (Vj c l));rw[Bv,List.count_cons,B];by_cases h:n %256=c
  ·have y:UInt8.ofNat n=UInt8.ofNat c:=by apply UInt8.toNat_inj.1;rw[HT,HT];omega
   have q:Nat.beq (n %256) c=true:=by rw[AN];exact h
   rw[y,q,cond_true];simp
  ·have y:UInt8.ofNat n≠UInt8.ofNat c:=λe=>h (by have:=congrArg UInt8.toNat e;rw[HT,HT]at this;omega);have q:Nat.beq (n %256) c=false:=by
    cases C:Nat.beq (n %256) c with
    |false=>rfl
    |true=>rw[AN]at C;exact absurd C h
   rw[q,cond_false];simp[y]
def YI (c l:Nat):Nat->Nat->Int:=Nat.rec (motive:=λ_=>Nat->Nat->Int) (λ_ _=>-1) (λ_ B n k=>cond (Nat.beq (n %256) c) (Int.ofNat k) (fN (n/256) λq=>fN (k+1) λy=>B q y)) l
theorem tq {c:Nat} (hc:c<256):∀(l n k:Nat),YI c l n k=if Lib.indexByte (BB l n) (UInt8.ofNat c)= -1 then-1 else Lib.indexByte (BB l n) (UInt8.ofNat c)+k
 |0,_,_=>rfl
 |l+1,n,k=>by
  have K:=tq hc l (n/256) (k+1);show cond (Nat.beq (n %256) c) (Int.ofNat k) (fN (n/256) λE=>fN (k+1) λJ=>YI c l E J)=if Lib.indexByte (UInt8.ofNat n::BB l (n/256)) _= -1 then-1 else Lib.indexByte (UInt8.ofNat n::BB l (n/256)) _+k
  have L:Lib.indexByte (UInt8.ofNat n::BB l (n/256)) (UInt8.ofNat c)=if UInt8.ofNat n==UInt8.ofNat c then 0 else if Lib.indexByte (BB l (n/256)) (UInt8.ofNat c)== -1 then-1 else Lib.indexByte (BB l (n/256)) (UInt8.ofNat c)+1:=rfl
  rw[Bv,Bv,K,L];by_cases h:n %256=c
  ·have B:UInt8.ofNat n=UInt8.ofNat c:=by apply UInt8.toNat_inj.1;rw[HT,HT];omega
   have y:Nat.beq (n %256) c=true:=by rw[AN];exact h
   rw[B,y,cond_true];simp
  ·have B:UInt8.ofNat n≠UInt8.ofNat c:=λe=>h (by have:=congrArg UInt8.toNat e;rw[HT,HT]at this;omega);have y:Nat.beq (n %256) c=false:=by
    cases C:Nat.beq (n %256) c with
    |false=>rfl
    |true=>rw[AN]at C;exact absurd C h
   have M:=Lib.indexByte_ge (BB l (n/256)) (UInt8.ofNat c);rw[y,cond_false];simp only[B,beq_iff_eq,if_false];by_cases q:Lib.indexByte (BB l (n/256)) (UInt8.ofNat c)= -1
   ·simp[q]
   ·rw[Ad q,Ad q,Ad (by omega)];omega
def MQ (name:String):Nat:=
 cond (name == "internal/bytealg.Count") 1 (cond (name == "internal/bytealg.CountString") 1 (cond (name == "internal/bytealg.IndexByte") 2 (cond (name == "internal/bytealg.IndexByteString") 2 0)))
theorem sV {fn : Func} (ho : fn.origin = "") (h : MQ fn.name = 1) : Extern.findNext fn = none ∧ Extern.find fn = some Extern.BytealgCount.count ∧ (fn.name == "runtime.NumGoroutine") = false := by
 have hn : fn.name = "internal/bytealg.Count" ∨ fn.name = "internal/bytealg.CountString" := by
  unfold MQ at h
  by_cases h1 : fn.name = "internal/bytealg.Count"
  ·exact .inl h1
  ·by_cases h2 : fn.name = "internal/bytealg.CountString"
   ·exact .inr h2
   ·exfalso
    have e1 : (fn.name == "internal/bytealg.Count") = false := by simpa using h1
    have e2 : (fn.name == "internal/bytealg.CountString") = false := by simpa using h2
    rw[e1,e2]at h
    cases h3 : (fn.name == "internal/bytealg.IndexByte") <;> cases h4 : (fn.name == "internal/bytealg.IndexByteString") <;> rw [h3] at h <;> simp [h4] at h
 obtain⟨name,origin⟩:=fn;simp only at ho hn;subst ho;rcases hn with rfl|rfl
 ·exact⟨by kernel_rfl,by kernel_rfl,by kernel_rfl⟩
 ·exact⟨by kernel_rfl,by kernel_rfl,by kernel_rfl⟩
theorem sW {fn : Func} (ho : fn.origin = "") (h : MQ fn.name = 2) : Extern.findNext fn = none ∧ Extern.find fn = some Extern.BytealgIndexByte.indexByte ∧ (fn.name == "runtime.NumGoroutine") = false := by
 have hn : fn.name = "internal/bytealg.IndexByte" ∨ fn.name = "internal/bytealg.IndexByteString" := by
  unfold MQ at h
  by_cases h1 : fn.name = "internal/bytealg.IndexByte"
  ·exact .inl h1
  ·by_cases h2 : fn.name = "internal/bytealg.IndexByteString"
   ·exact .inr h2
   ·exfalso
    have e1 : (fn.name == "internal/bytealg.IndexByte") = false := by simpa using h1
    have e2 : (fn.name == "internal/bytealg.IndexByteString") = false := by simpa using h2
    rw[e1,e2]at h
    cases h3 : (fn.name == "internal/bytealg.Count") <;> cases h4 : (fn.name == "internal/bytealg.CountString") <;> rw [h3] at h <;> simp [h4] at h
 obtain⟨name,origin⟩:=fn;simp only at ho hn;subst ho;rcases hn with rfl|rfl
 ·exact⟨by kernel_rfl,by kernel_rfl,by kernel_rfl⟩
 ·exact⟨by kernel_rfl,by kernel_rfl,by kernel_rfl⟩
def iO (P:Program) (H:Tr Ae) (f:AV) (xs:Aj):Option AV:=
 match f with
 | .fn (.func g) [] [] => ob (P.funcs[g]?) fun fn => gd fn.body.isNone (gd (fn.origin == "") (match xs with
  | [b,.int .u8 (.ofNat c)]=>gd (Nat.blt c 256) (ob (iH H b) λp=>fN (MQ fn.name) λk=>cond (Nat.beq k 1) (fN (Vj c p.1 p.2) λm=>some (.int .i64 (.ofNat m)))
    (gd (Nat.beq k 2) (fI (YI c p.1 p.2 0) λm=>some (.int .i64 m))))
  |_=>none))
 |_=>none
theorem Aca {P:Program} {E:Env} {F:Nat->Option Obj} {nx:Nat} {ρ:Ai} {h:Nat->Option Ae} {w:World} {H:Tr Ae} (r:Rel E F nx ρ h w) (hs:HS ρ H h) {f:AV} {xs:Aj} {a:AV} {us:List Value} (hx:AG ρ xs us) (hev:iO P H f xs=some a):∃g,f=.fn (.func g) [] []/\∃v,(callFunc g us.toArray).run P w=.ok (.value v) w/\VR ρ a v:=by
 unfold iO at hev;split at hev
 ·rename_i g;obtain⟨fn,hfn,h1⟩:=Ag.1 hev;obtain⟨hb,h2⟩:=AL.1 h1;obtain⟨ho,h3⟩:=AL.1 h2
  have ho' : fn.origin = "" := by simpa using ho
  refine⟨g,rfl,?_⟩;split at h3
  ·rename_i b c;obtain⟨hc,h4⟩:=AL.1 h3;rw[Co]at hc;obtain⟨⟨l,n⟩,hbs,h5⟩:=Ag.1 h4;simp only[Bv,MT]at h5;cases hx with
   |cons _ u1 _ us1 hu1 hus1=>cases hus1 with
    |cons _ u2 _ us2 hu2 hus2=>
     cases hus2;cases hu2;have hby:=Ab4 (P:=P) r hs hu1 hbs;have hdata:(BA l n).data.toList=BB l n:=by simp[BA]
     cases hk:Nat.beq (MQ fn.name) 1 with
     |true=>
      rw[hk,cond_true]at h5;injection h5 with h5;subst h5;obtain⟨e1,e2,e3⟩:=sV ho' (DP hk);refine⟨.int .i64 (Int.ofNat (Vj c l n)),?_,.int _ _⟩;rw[run_callFunc_extern hfn e3 hb e1 e2];have hs0:=Lib.run_countString (P:=P) (BA l n) (Int.ofNat c) w;have hrun:(Extern.BytealgCount.count #[u1,.int .u8 (Int.ofNat c)]).run P w=(Extern.BytealgCount.count #[.string (BA l n),.int .u8 (Int.ofNat c)]).run P w:=by
       change Sem.run P (do
        let b<-Extern.Bytes.bytesOf u1;let c'<-Extern.Bytes.asByte (.int .u8 (Int.ofNat c))
        pure (goInt (b.foldl (λn x=>if x==c' then n+1 else n) (0:Nat)))) w=Sem.run P (do
        let b<-Extern.Bytes.bytesOf (.string (BA l n));let c'<-Extern.Bytes.asByte (.int .u8 (Int.ofNat c))
        pure (goInt (b.foldl (λn x=>if x==c' then n+1 else n) (0:Nat)))) w
       have hst:(Extern.Bytes.bytesOf (.string (BA l n))).run P w=.ok (BA l n) w:=rfl;simp only[Sem.run_bind,hby,hst]
      rw[show [u1,Value.int .u8 (Int.ofNat c)].toArray= #[u1,.int .u8 (Int.ofNat c)]from rfl,hrun,hs0,hdata];have:(Int.ofNat c).toNat.toUInt8=UInt8.ofNat c:=rfl;rw[this,pg hc];rfl
     |false=>
      rw[hk,cond_false]at h5;obtain⟨hk2,h6⟩:=AL.1 h5;injection h6 with h6;subst h6;obtain⟨e1,e2,e3⟩:=sW ho' (DP hk2);refine⟨.int .i64 (YI c l n 0),?_,.int _ _⟩;rw[run_callFunc_extern hfn e3 hb e1 e2];have hs0:=Lib.run_indexByteString (P:=P) (BA l n) (Int.ofNat c) w;have hrun:(Extern.BytealgIndexByte.indexByte #[u1,.int .u8 (Int.ofNat c)]).run P w=(Extern.BytealgIndexByte.indexByte #[.string (BA l n),.int .u8 (Int.ofNat c)]).run P w:=by
       change Sem.run P (do
        let b<-Extern.Bytes.bytesOf u1;let c'<-Extern.Bytes.asByte (.int .u8 (Int.ofNat c))
        match(List.range b.size).find? λi=>b[i]! ==c' with
        |some i=>pure (goInt i)
        |none=>pure (goInt (-1))) w=Sem.run P (do
        let b<-Extern.Bytes.bytesOf (.string (BA l n));let c'<-Extern.Bytes.asByte (.int .u8 (Int.ofNat c))
        match(List.range b.size).find? λi=>b[i]! ==c' with
        |some i=>pure (goInt i)
        |none=>pure (goInt (-1))) w
       have hst:(Extern.Bytes.bytesOf (.string (BA l n))).run P w=.ok (BA l n) w:=rfl;simp only[Sem.run_bind,hby,hst]
      rw[show [u1,Value.int .u8 (Int.ofNat c)].toArray= #[u1,.int .u8 (Int.ofNat c)]from rfl,hrun,hs0,hdata];have:(Int.ofNat c).toNat.toUInt8=UInt8.ofNat c:=rfl;rw[this,tq hc];split
      ·rename_i e;rw[e];rfl
      ·simp
  ·cases h3
 ·cases hev
def iw (st:Nat) (y:List DW):Option DW:=List.rec (motive:=λ_=>Option DW) none (λe _ q=>cond (Nat.beq e.born st) (some e) q) y
theorem sZ {ρ:Ai} {st:Nat} {e:DW}:∀ {y:List DW} {l:List MapEntry},Ey ρ y l->iw st y=some e->∃m,l.find? (λm=>m.born==st)=some m/\ER ρ e m
 |_,_,.nil,h=>by cases h
 |_,_,.cons q m y l C K,h=>by
  have E:m.born=q.born:=C.2.2.symm;have h':cond (Nat.beq q.born st) (some q) (iw st y)=some e:=h;cases hc:Nat.beq q.born st with
  |true=>rw[hc,cond_true]at h';injection h' with h';subst h';rw[AN]at hc;exact⟨m,by simp[E,hc],C⟩
  |false=>
   rw[hc,cond_false]at h';obtain⟨J,M,L⟩:=sZ K h';have B:¬q.born=st:=λe=>by rw[<-AN,hc]at e;cases e
   exact⟨J,by simp[E,B,M],L⟩
def iM (H:Tr Ae) (a:AV):Option AV:=
 match a with
 |.ptr id 0=>ob (H.get id) λo=>match o with
  |.IA mid _ seen last=>ob (H.get mid) λm=>match m with
   |.map es q=>gd (Nat.beq q last) (ob seen.getLast? λst=>ob (iw st es) λe=>some (.AO [e.key,e.val]))
   |_=>none
  |_=>none
 |_=>none
theorem Ab9 {P:Program} {E:Env} {F:Nat->Option Obj} {nx:Nat} {ρ:Ai} {h:Nat->Option Ae} {w:World} {H:Tr Ae} (r:Rel E F nx ρ h w) (hs:HS ρ H h) {x a:AV} {u:Value} (hx:VR ρ x u) (y:iM H x=some a):∃v,(Instr.entry u).run P w=.ok v w/\VR ρ a v:=by
 unfold iM at y;split at y
 ·rename_i id;cases hx with
  |ptr _ _ b hb=>
  obtain⟨o,ho,V⟩:=Ag.1 y;obtain⟨co,hc,Y⟩:=r.ob _ _ b (hs _ _ ho (.inl ⟨b,hb⟩)) hb;split at V
  ·rename_i mid B seen last;cases Y with
   |IA _ _ _ _ R af L=>
   obtain⟨om,Z,U⟩:=Ag.1 V;obtain⟨cm,ad,M⟩:=r.ob _ _ R (hs _ _ Z (.inl ⟨R,L⟩)) L;split at U
   ·rename_i es q;cases M with
    |map _ _ l hl=>
    obtain⟨ae,h3⟩:=AL.1 U;obtain⟨st,W,h4⟩:=Ag.1 h3;obtain⟨e,he,S⟩:=Ag.1 h4;injection S with S;subst S;have O:=DP ae;subst O;obtain⟨m,hm,K⟩:=sZ hl he;have hz:b.ob+0=0:=by omega
    have aa:(getObj b.b).run P w=.ok (.mapIter (some R.b) B seen.toArray q) w:=by simp[getObj,Sem.run,hc]
    have ab:(getObj R.b).run P w=.ok (.map l.toArray q) w:=by simp[getObj,Sem.run,ad]
    have J:seen.toArray.back?=some st:=by simp[W]
    have C:l.toArray.find? (λm=>m.born==st)=some m:=by simp[hm]
    refine⟨.tuple #[m.key,m.val],?_,.AO _ [m.key,m.val] (.cons _ _ _ _ K.1 (.cons _ _ _ _ K.2.1 .nil))⟩;simp only[hz,Instr.entry,Sem.run_bind,aa,Result.andThen_ok,J,ab,bne_self_eq_false,Bool.false_eq_true,if_false,C,Sem.run_pure]
   ·cases U
  ·cases V
 ·cases y
def jd:UnOp->Bool
 |.xor=>true
 |_=>false
def im (x:AV):Option AV:=
 match x with
 |.int k n=>fI (cond k.signed (-1) k.max) λm=>So .xor k m n
 |_=>none
theorem AcB {P:Program} {ρ:Ai} {x a:AV} {u:Value} (q:VR ρ x u) (h:im x=some a) (w:World):∃v,(Op.unary .xor u).run P w=.ok v w/\VR ρ a v:=by
 unfold im at h;split at h
 ·rename_i k n;rw[MT]at h;cases q;obtain⟨v,hv,B⟩:=iT (P:=P) (ρ:=ρ) (t:=0) (by simp) (by simp) h w;refine⟨v,?_,B⟩;rw[<-hv];cases y:k.signed<;>simp[Op.unary,binOp,y]
 ·cases h
def Hk (P:Program) (H:Tr Ae) (X:Operand->Option AV) (op:Op):Option AV:=
 match op with
 |.build t y=>iG P X t y.toList
 |.convert s d x=>ob (X x) λv=>cond (jc v) (sA P H s d v) (iJ P s d v)
 |.typeAssert x _ q ok=>ob (X x) λv=>rz P q ok v
 |.entry x=>ob (X x) λv=>iM H v
 |.unOp op t x=>cond (jd op) (ob (X x) λv=>im v) (Qh P H X (.unOp op t x))
 |.call c=>match c.callee with
  |.value f=>ob (X f) λC=>ob (Gf X c.args.toList) λB=>iO P H C B
  |_=>Qh P H X (.call c)
 |op=>Qh P H X op
theorem sR {P:Program} {E:Env} {F:Nat->Option Obj} {nx:Nat} {ρ:Ai} {h:Nat->Option Ae} {w:World} {H:Tr Ae} (r:Rel E F nx ρ h w) (R:HS ρ H h) {X:Operand->Option AV} {f:Operand->Value} (J:XR ρ X f) (o:Oper) {a:AV} (q:Hk P H X o.op=some a): ∃v,(execOp f o).run P w=.ok (.value v) w/\VR ρ a v:=by
 unfold Hk at q;split at q
 ·rename_i t Z y;obtain⟨dst,op,type,pos,after,guard⟩:=o;simp only at y;subst y;obtain⟨v,C,B⟩:=Ab3 (P:=P) J q w;exact⟨v,Dj C,B⟩
 ·rename_i s d x y;obtain⟨dst,op,type,pos,after,guard⟩:=o;simp only at y;subst y;obtain⟨v,hv,C⟩:=Ag.1 q;cases U:jc v with
  |true=>rw[U,cond_true]at C;obtain⟨z,B,K⟩:=Ab0 (P:=P) r R (J _ _ hv) C;exact⟨z,Dj B,K⟩
  |false=>rw[U,cond_false]at C;obtain⟨z,B,K⟩:=sF (P:=P) (J _ _ hv) C w;exact⟨z,Dj B,K⟩
 ·rename_i x xt S ok y;obtain⟨dst,op,type,pos,after,guard⟩:=o;simp only at y;subst y;obtain⟨v,hv,C⟩:=Ag.1 q;obtain⟨z,B,K⟩:=AbZ (P:=P) (t:=xt) (J _ _ hv) C w;exact⟨z,Dj B,K⟩
 ·rename_i x y;obtain⟨dst,op,type,pos,after,guard⟩:=o;simp only at y;subst y;obtain⟨v,hv,C⟩:=Ag.1 q;obtain⟨z,B,K⟩:=Ab9 (P:=P) r R (J _ _ hv) C;exact⟨z,Dj B,K⟩
 ·rename_i L ut x y;obtain⟨dst,op,type,pos,after,guard⟩:=o;simp only at y;subst y;cases M:jd L with
  |true=>rw[M,cond_true]at q;obtain⟨v,hv,C⟩:=Ag.1 q;obtain⟨z,B,K⟩:=AcB (P:=P) (J _ _ hv) C w;cases L<;>first|(simp[jd]at M;done)|exact⟨z,Dj B,K⟩
  |false=>rw[M,cond_false]at q;exact ia r R J {dst,op:=.unOp L ut x,type,pos,after,guard} q
 ·rename_i c y;obtain⟨dst,op,type,pos,after,guard⟩:=o;simp only at y;subst y;obtain⟨callee,args,argTypes⟩:=c;simp only at q;split at q
  ·rename_i g;obtain⟨fv,Y,h0⟩:=Ag.1 q;obtain⟨xs,V,C⟩:=Ag.1 h0;obtain⟨k,hk,v,B,K⟩:=Aca r R (Jh J V) C;subst hk;refine⟨v,?_,K⟩;have W:f g=.func (.func k) #[] #[]:=by
    have:=J _ _ Y;generalize f g=u at this;cases this with
    |fn _ _ _ va vc ha hc=>cases ha;cases hc;rfl
   have O:(args.toList.map f).toArray=args.map f:=by rw[map_toArray]
   rw[O]at B;simp only[execOp,resolve,W,Deferred.ofValue,Sem.run_bind,Sem.run_pure,Result.andThen_ok,invoke,Array.append_empty,Array.empty_append];exact B
  ·exact ia r R J {dst,op:=.call {callee,args,argTypes},type,pos,after,guard} q
 ·exact ia r R J o q
end Go.Ev
end
end
