/- Laid by program out of its parts: EvA, EvB, EvC, EvD, EvE, EvF, EvG. -/
import Derived.Calls
import Derived.Orders
import Derived.Laws.Sem
import Derived.Laws.World
import Derived.Laws.StructEq
import Derived.Laws.Slices
import Derived.Lib.Strings
import Derived.ChangeKeysEq
import Derived.Laws.Cells
import Derived.Lib.Bytealg
import Derived.Laws.BytesString
noncomputable section
set_option linter.unusedVariables false
set_option linter.unusedSimpArgs false
section
namespace Go.Ev
theorem Bt:type_of%@List.getD_eq_getElem?_getD:=@List.getD_eq_getElem?_getD
theorem An:type_of%@if_neg:=@if_neg
theorem As:type_of%@if_pos:=@if_pos
theorem AH:type_of%@Nat.le_refl:=@Nat.le_refl
theorem Bn:type_of%@decide_eq_true_eq:=@decide_eq_true_eq
theorem Ce:type_of%@List.getElem?_eq_getElem:=@List.getElem?_eq_getElem
theorem BI:type_of%@Bool.not_eq_false':=@Bool.not_eq_false'
theorem BZ:type_of%@Bool.not_eq_true':=@Bool.not_eq_true'
theorem A0:type_of%@Nat.beq_eq:=@Nat.beq_eq
theorem BF:type_of%@decide_eq_true:=@decide_eq_true
theorem CU:type_of%@decide_eq_false_iff_not:=@decide_eq_false_iff_not
theorem B4:type_of%@Bool.and_eq_true:=@Bool.and_eq_true
theorem BL:type_of%@Nat.zero_le:=@Nat.zero_le
theorem D4:type_of%@Nat.eq_of_beq_eq_true:=@Nat.eq_of_beq_eq_true
theorem Dn:type_of%@List.length_cons:=@List.length_cons
theorem EF:type_of%@List.mem_cons_of_mem:=@List.mem_cons_of_mem
theorem EG:type_of%@List.mem_cons_self:=@List.mem_cons_self
theorem E5:type_of%@Nat.ble_eq_true_of_le:=@Nat.ble_eq_true_of_le
theorem I7:type_of%@List.mem_singleton:=@List.mem_singleton
theorem E6:type_of%@List.length_append:=@List.length_append
theorem HJ:type_of%@List.length_map:=@List.length_map
theorem I8:type_of%@List.getElem?_map:=@List.getElem?_map
theorem Iw:type_of%@List.length_drop:=@List.length_drop
theorem CE:type_of%@Nat.blt_eq:=@Nat.blt_eq
theorem Ho:type_of%@Nat.le_trans:=@Nat.le_trans
theorem Ja:type_of%@List.getElem?_eq_none:=@List.getElem?_eq_none
theorem H8:type_of%@Int.le_refl:=@Int.le_refl
theorem Ix:type_of%@List.getElem?_eq_some_iff:=@List.getElem?_eq_some_iff
theorem Dp:type_of%@List.mem_cons:=@List.mem_cons
theorem Ra:type_of%@List.length_eq_zero_iff:=@List.length_eq_zero_iff
theorem D9:type_of%@Nat.lt_or_ge:=@Nat.lt_or_ge
theorem Tn:type_of%@List.getElem?_range:=@List.getElem?_range
theorem Of:type_of%@Nat.sub_self:=@Nat.sub_self
theorem Fu:type_of%@Nat.add_assoc:=@Nat.add_assoc
theorem Og:type_of%@List.length_set:=@List.length_set
theorem E7:type_of%@decide_eq_false:=@decide_eq_false
theorem LU:type_of%@Classical.choose_spec:=@Classical.choose_spec
abbrev At:=List (Int×Int×Int)
abbrev Af:=List Int
abbrev Aj:=List UInt8
@[reducible] def Ae {α:Sort _} (a:α):Prop:=a=a
@[reducible] def Aa:Prop:=true=true
inductive Tr (α:Type) where
 |leaf
 |node (v:Option α) (l r:Tr α)
namespace Tr
variable {α:Type}
def root (t:Tr α):Option α:=Tr.rec (motive:=λ_=>Option α) none (λv _ _ _ _=>v) t
def Gn (b:Bool) (t:Tr α):Tr α:=Tr.rec (motive:=λ_=>Tr α) .leaf (λ_ l r _ _=>cond b l r) t
def gp (p:List Bool):Tr α->Option α:=List.rec (motive:=λ_=>Tr α->Option α) root (λb _ r t=>r (Gn b t)) p
def sp (x:Option α) (p:List Bool):Tr α->Tr α:=List.rec (motive:=λ_=>Tr α->Tr α) (λt=>Tr.rec (motive:=λ_=>Tr α) (.node x .leaf .leaf) (λ_ l r _ _=>.node x l r) t) (λb _ y t=>Tr.rec (motive:=λ_=>Tr α) (cond b (.node none (y .leaf) .leaf) (.node none .leaf (y .leaf))) (λv l r _ _=>cond b (.node v (y l) r) (.node v l (y r))) t) p
theorem Uy (q:List Bool):gp q (.leaf:Tr α)=none:=by
 induction q with
 |nil=>rfl
 |cons b q r=>exact r
theorem Aa6 (x:Option α):∀(p q:List Bool) (t:Tr α),gp q (sp x p t)=if p=q then x else gp q t:=by
 intro p
 induction p with
 |nil=>
  intro q t;cases q with
  |nil=>cases t<;>rfl
  |cons c q=>
   rw[An (by simp)];cases t with
   |leaf=>cases c<;>rfl
   |node v l r=>rfl
 |cons b p B=>
  intro q t;cases q with
  |nil=>rw[An (by simp)];cases t<;>cases b<;>rfl
  |cons c q=>
   have key:gp (c::q) (sp x (b::p) t)=if b=c then gp q (sp x p (Gn b t))else gp (c::q) t:=by
    cases t with
    |leaf=>cases b<;>cases c<;>first|rfl|(show gp q (.leaf:Tr α)=_;exact(Uy q).trans (Uy q).symm)
    |node v l r=>cases b<;>cases c<;>rfl
   rw[key];by_cases z:b=c
   ·subst z;rw[As rfl,B];by_cases y:p=q
    ·subst y;simp
    ·rw[An y,An (by simp[y])];rfl
   ·rw[An z,An (by simp[z])]
end Tr
def R6 (f:Nat):Nat->List Bool:=Nat.rec (motive:=λ_=>Nat->List Bool) (λ_=>[]) (λ_ r n=>cond (Nat.beq n 0) [] (Nat.beq (n %2) 1::r ((n-1)/2))) f
theorem fC (f n:Nat):R6 (f+1) n=cond (Nat.beq n 0) [] (Nat.beq (n %2) 1::R6 f ((n-1)/2)):=rfl
theorem Aly:∀(f n g m:Nat),n<=f->m<=g->R6 f n=R6 g m->n=m:=by
 intro f
 induction f with
 |zero=>
  intro n g m hn x h;have:n=0:=by omega
  subst this;cases g with
  |zero=>omega
  |succ g=>
   rw[fC]at h;cases m with
   |zero=>rfl
   |succ m=>simp[R6,Nat.beq]at h
 |succ f r=>
  intro n g m hn x h;rw[fC]at h;cases n with
  |zero=>
   cases g with
   |zero=>omega
   |succ g=>
    rw[fC]at h;cases m with
    |zero=>rfl
    |succ m=>simp[Nat.beq]at h
  |succ n=>
   cases g with
   |zero=>
    have:m=0:=by omega
    subst this;simp[R6,Nat.beq]at h
   |succ g=>
    rw[fC]at h;cases m with
    |zero=>simp[Nat.beq]at h
    |succ m=>
     simp only[Nat.beq,cond_false,List.cons.injEq]at h;obtain⟨z,y⟩:=h;have J:=r _ _ _ (by omega) (by omega) y;have B:((n+1)%2=1)↔((m+1)%2=1):=by rw[<-A0,<-A0,z]
     omega
def path (n:Nat):List Bool:=R6 n n
theorem Ado {n m:Nat} (h:path n=path m):n=m:=Aly n n m m (AH _) (AH _) h
namespace Tr
variable {α:Type}
def get (t:Tr α) (n:Nat):Option α:=gp (path n) t
def set (t:Tr α) (n:Nat) (x:α):Tr α:=sp (some x) (path n) t
def del (t:Tr α) (n:Nat):Tr α:=sp none (path n) t
theorem Cy (n:Nat):(Tr.leaf:Tr α).get n=none:=Uy _
theorem Gm (t:Tr α) (n m:Nat) (x:α):(t.set n x).get m=if n=m then some x else t.get m:=by
 unfold get set;rw[Aa6];by_cases h:n=m
 ·subst h;simp
 ·rw[An (λh'=>h (Ado h')),An h]
theorem PS (t:Tr α) (n:Nat) (x:α):(t.set n x).get n=some x:=by rw[Gm,As rfl]
theorem Uv (t:Tr α) {n m:Nat} (h:n≠m) (x:α):(t.set n x).get m=t.get m:=by rw[Gm,An h]
theorem JN (t:Tr α) (n m:Nat):(t.del n).get m=if n=m then none else t.get m:=by
 unfold get del;rw[Aa6];by_cases h:n=m
 ·subst h;simp
 ·rw[An (λh'=>h (Ado h')),An h]
end Tr
inductive Cn where
 |str (l:List UInt8)
 |int (n:Int)
inductive AV where
 |bool (b:Bool)
 |int (k:IntKind) (n:Int)
 |str (len n:Nat)
 |Ei
 |ptr (id off:Nat)
 |AW
 |sl (id off len cap:Nat)
 |BK (id off len Ax:Nat)
 |sle (id:Nat)
 |EY
 |map (id:Nat)
 |fn (f:Fn) (first captured:List AV)
 |F4
 |Cv (id:Nat)
 |iface (t:Nat) (v:AV)
 |DU
 |agg (cs:List AV)
 |AM (vs:List AV)
 |F6 (g off:Nat)
 |M0
 |chan (id:Nat)
 |bs (l:List UInt8)
 |bv (l:List UInt8)
 |vec (Ax n:Nat) (f:Nat->List AV)
 |pv (cs:List AV)
 |Gr (id Ax i j:Nat)
 |AR (id n Ax:Nat)
 |Fb (has:Cn->Bool) (val:Cn->AV) (z:AV)
abbrev Al:=List AV
def BO:Nat->Nat->Aj
 |0,_=>[]
 |l+1,n=>UInt8.ofNat n::BO l (n/256)
def BJ (len n:Nat):ByteArray:=⟨(BO len n).toArray⟩
structure CD where
 b:Nat
 ob:Nat
 cap:Nat
structure Ak where
 nm:Nat->Option CD
 st:Nat->Option Obj
instance:CoeFun Ak (λ_=>Nat->Option CD):=⟨Ak.nm⟩
structure Ak.le (ρ ρ':Ak):Prop where
 nm:∀i b,ρ i=some b->ρ' i=some b
 st:∀b o,ρ.st b=some o->ρ'.st b=some o
instance {ρ r:Ak}:CoeFun (Ak.le ρ r) (λ_=>∀i b,ρ i=some b->r i=some b):=⟨Ak.le.nm⟩
theorem Ak.le_refl (ρ:Ak):ρ.le ρ:=⟨λ_ _ h=>h,λ_ _ h=>h⟩
theorem Ak.le_trans {a b c:Ak} (h:a.le b) (k:b.le c):a.le c:=⟨λi x r=>k i x (h i x r),λi x r=>k.st i x (h.st i x r)⟩
def Ak.put (ρ:Ak) (i:Nat) (b:CD):Ak:=⟨λj=>if j=i then some b else ρ j,ρ.st⟩
theorem Ak.EO (ρ:Ak) (i:Nat) (b:CD):(ρ.put i b) i=some b:=As rfl
theorem Ak.GH {ρ:Ak} {i j:Nat} (h:j≠i) (b:CD):(ρ.put i b) j=ρ j:=An h
theorem Ak.JT {ρ:Ak} {i:Nat} (h:ρ i=none) (b:CD):ρ.le (ρ.put i b):=⟨λj x r=>by
  have:j≠i:=λe=>by subst e;rw[h]at r;cases r
  rw[Ak.GH this];exact r,λ_ _ h=>h⟩
structure RX (n n':Nat) (ρ ρ':Ak):Prop where
 le:ρ.le ρ'
 lo:∀i,i<n->ρ' i=ρ i
 nn:n<=n'
theorem RX.refl (n:Nat) (ρ:Ak):RX n n ρ ρ:=⟨Ak.le_refl ρ,λ_ _=>rfl,AH _⟩
theorem RX.trans {a b c:Nat} {ρ x r:Ak} (h:RX a b ρ x) (k:RX b c x r):RX a c ρ r:=⟨Ak.le_trans h.le k.le,λi hi=>(k.lo i (Nat.lt_of_lt_of_le hi h.nn)).trans (h.lo i hi),Ho h.nn k.nn⟩
theorem RX.Y3 {a z b y:Nat} {ρ r:Ak} (h:RX a b ρ r) (x:z<=a) (hb:b<=y):RX z y ρ r:=⟨h.le,λi hi=>h.lo i (Nat.lt_of_lt_of_le hi x),Ho x (Ho h.nn hb)⟩
structure RY (ni n n':Nat) (ρ ρ':Ak):Prop where
 le:ρ.le ρ'
 lo:∀i,i<n->i≠ni->ρ' i=ρ i
 nn:n<=n'
theorem RX.ry {ni a b:Nat} {ρ r:Ak} (h:RX a b ρ r):RY ni a b ρ r:=⟨h.le,λi hi _=>h.lo i hi,h.nn⟩
theorem RY.rx {a b:Nat} {ρ r:Ak} (h:RY a a b ρ r):RX a b ρ r:=⟨h.le,λi hi=>h.lo i hi (Nat.ne_of_lt hi),h.nn⟩
inductive KR:TypeDesc->Cn->Value->Prop where
 |str (l:List UInt8):KR .string (.str l) (.string ⟨l.toArray⟩)
 |int (k:IntKind) (n:Int):KR (.int k) (.int n) (.int k n)
def KV:Int:=1180591620717411303424
def N5:IntKind->Int
 |.i8=>1180591620717411303425
 |.i16=>1180591620717411303426
 |.i32=>1180591620717411303427
 |.i64=>1180591620717411303428
 |.u8=>1180591620717411303429
 |.u16=>1180591620717411303430
 |.u32=>1180591620717411303431
 |.u64=>1180591620717411303432
def PY (r:Cn->Bool) (kd:TypeDesc) (k:Cn):Prop:=match kd,k with
 |.string,.str _=>r (.int KV)=false
 |.int q,.int n=>r (.int (N5 q))=true/\n<KV
 |_,_=>False
def Y6 (z a:AV):Prop:=a=z\/(z=.AW/\∃e f,a=.vec e 0 f)
mutual
inductive VR (ρ:Ak):AV->Value->Prop where
 |bool (b:Bool):VR ρ (.bool b) (.bool b)
 |int (k:IntKind) (n:Int):VR ρ (.int k n) (.int k n)
 |str (len n:Nat) (h:n<256^len):VR ρ (.str len n) (.string (BJ len n))
 |Ei:VR ρ .Ei (.pointer none)
 |ptr (id off:Nat) (b:CD) (h:ρ id=some b):VR ρ (.ptr id off) (.pointer (some ⟨b.b,b.ob+off,none⟩))
 |AW:VR ρ .AW (.slice none 0 0)
 |sl (id off len cap:Nat) (b:CD) (h:ρ id=some b):VR ρ (.sl id off len cap) (.slice (some ⟨b.b,b.ob+off,none⟩) len cap)
 |BK (id off len Ax:Nat) (b:CD) (h:ρ id=some b) (he:0<Ax) (hl:off+len*Ax<=b.cap):VR ρ (.BK id off len Ax) (.slice (some ⟨b.b,b.ob+off,none⟩) len ((b.cap-off)/Ax))
 |sle (id:Nat) (b:CD) (o c:Nat) (h:ρ id=some b):VR ρ (.sle id) (.slice (some ⟨b.b,o,none⟩) 0 c)
 |EY:VR ρ .EY (.map none)
 |map (id:Nat) (b:CD) (h:ρ id=some b):VR ρ (.map id) (.map (some b.b))
 |fn (f:Fn) (a c:List AV) (va vc:List Value) (ha:AL ρ a va) (hc:AL ρ c vc):VR ρ (.fn f a c) (.func f va.toArray vc.toArray)
 |F4:VR ρ .F4 .nilFunc
 |Cv (id:Nat) (b:CD) (h:ρ id=some b):VR ρ (.Cv id) (.func (.yield b.b) #[] #[])
 |iface (t:Nat) (a:AV) (v:Value) (h:VR ρ a v):VR ρ (.iface t a) (.iface t v)
 |DU:VR ρ .DU .nilIface
 |agg (l:List AV) (vs:List Value) (h:AL ρ l vs):VR ρ (.agg l) (.agg vs.toArray)
 |AM (l:List AV) (vs:List Value) (h:AL ρ l vs):VR ρ (.AM l) (.tuple vs.toArray)
 |F6 (g off:Nat):VR ρ (.F6 g off) (.pointer (some ⟨g,off,none⟩))
 |M0:VR ρ .M0 (.chan none)
 |chan (id:Nat) (b:CD) (h:ρ id=some b):VR ρ (.chan id) (.chan (some b.b))
 |bs (l:List UInt8):VR ρ (.bs l) (.string ⟨l.toArray⟩)
 |bv (l:List UInt8) (b o cap:Nat) (cs:Array Value) (el:Nat) (fz:Nat×Nat) (hs:ρ.st b=some (.cells cs el fz)) (hcap:l.length<=cap)
   (hc:∀i,i<l.length->cs[o+i]? =some (.int .u8 (l.getD i 0).toNat)):VR ρ (.bv l) (.slice (some ⟨b,o,none⟩) l.length cap)
 |Hr (l:List UInt8) (h:l=[]) (base:Option Addr) (cap:Nat):VR ρ (.bv l) (.slice base 0 cap)
 |vec (Ax n:Nat) (f:Nat->List AV) (b o cap:Nat) (cs:Array Value) (el:Nat) (fz:Nat×Nat) (g:Nat->List Value) (hs:ρ.st b=some (.cells cs el fz)) (he:0<Ax) (hcap:n<=cap)
   (hv:∀i,i<n->AL ρ (f i) (g i)) (hc:∀i,i<n->∀j v,(g i)[j]? =some v->cs[o+i*Ax+j]? =some v):VR ρ (.vec Ax n f) (.slice (some ⟨b,o,none⟩) n cap)
 |GR (Ax n:Nat) (f:Nat->List AV) (h:n=0) (base:Option Addr) (cap:Nat):VR ρ (.vec Ax n f) (.slice base 0 cap)
 |pv (l:List AV) (vs:List Value) (b o:Nat) (cs:Array Value) (el:Nat) (fz:Nat×Nat) (hs:ρ.st b=some (.cells cs el fz)) (hv:AL ρ l vs)
   (hc:∀j v,vs[j]? =some v->cs[o+j]? =some v):VR ρ (.pv l) (.pointer (some ⟨b,o,none⟩))
 |Gr (id Ax i j:Nat) (b:CD) (h:ρ id=some b):VR ρ (.Gr id Ax i j) (.pointer (some ⟨b.b,b.ob+(i*Ax+j),none⟩))
 |AR (id n Ax:Nat) (b:CD) (h:ρ id=some b) (he:0<Ax) (hl:n*Ax<=b.cap):VR ρ (.AR id n Ax) (.slice (some ⟨b.b,b.ob,none⟩) n (b.cap/Ax))
 |GQ (id n Ax:Nat) (hn:n=0) (base:Option Addr):VR ρ (.AR id n Ax) (.slice base 0 0)
 |Fb (has:Cn->Bool) (val:Cn->AV) (z:AV) (b:Nat) (es:Array MapEntry) (clock:Nat) (g:Cn->Value) (hs:ρ.st b=some (.map es clock))
   (hn:∀(kd:TypeDesc) (k:Cn) (u:Value),KR kd k u->PY has kd k->has k=false->Instr.findNow kd u es.toList 0=some none)
   (hy:∀(kd:TypeDesc) (k:Cn) (u:Value),KR kd k u->PY has kd k->has k=true->∃j,Instr.findNow kd u es.toList 0=some (some (j,g k)))
   (hz:∀k,has k=false->Y6 z (val k)) (hg:∀(k:Cn),has k=true->VR ρ (val k) (g k)):VR ρ (.Fb has val z) (.map (some b))
inductive AL (ρ:Ak):List AV->List Value->Prop where
 |nil:AL ρ [] []
 |cons (a:AV) (v:Value) (l:List AV) (vs:List Value) (h:VR ρ a v) (hs:AL ρ l vs):AL ρ (a::l) (v::vs)
end
theorem AfD {ρ:Ak} {z a:AV} {v:Value} (h:Y6 z a) (hv:VR ρ z v):VR ρ a v:=by
 rcases h with rfl|⟨rfl,e,f,rfl⟩
 ·exact hv
 ·cases hv;exact .GR _ _ _ rfl _ _
theorem VR.mono {ρ B:Ak} (r:ρ.le B) {a:AV} {v:Value} (h:VR ρ a v):VR B a v:=VR.rec (ρ:=ρ) (motive_1:=λa v _=>VR B a v) (motive_2:=λl vs _=>AL B l vs) .bool .int .str .Ei (λid off b h=>.ptr id off b (r _ _ h)) .AW (λid off len cap b h=>.sl id off len cap b (r _ _ h)) (λid off len Ax b h L hl=>.BK id off len Ax b (r _ _ h) L hl) (λid b o c h=>.sle id b o c (r _ _ h)) .EY (λid b h=>.map id b (r _ _ h)) (λf a c va U _ _ W V=>.fn f a c va U W V) .F4 (λid b h=>.Cv id b (r _ _ h)) (λt a v _ x=>.iface t a v x) .DU (λl vs _ x=>.agg l vs x) (λl vs _ x=>.AM l vs x) .F6 .M0 (λid b h=>.chan id b (r _ _ h)) .bs (λl b o cap cs el fz J y hc=>.bv l b o cap cs el fz (r.st _ _ J) y hc) .Hr (λAx n f b o cap cs el fz g J L y _ hc x=>.vec Ax n f b o cap cs el fz g (r.st _ _ J) L y x hc) .GR (λl vs b o cs el fz J _ hc x=>.pv l vs b o cs el fz (r.st _ _ J) x hc) (λid Ax i j b h=>.Gr id Ax i j b (r _ _ h)) (λid n Ax b h L hl=>.AR id n Ax b (r _ _ h) L hl) .GQ (λS val z b Y K g J hn hy hz _ x=>.Fb S val z b Y K g (r.st _ _ J) hn hy hz x) .nil (λa v l vs _ _ x R=>.cons a v l vs x R) h
theorem AL.mono {ρ r:Ak} (x:ρ.le r):∀ {l:Al} {vs:List Value},AL ρ l vs->AL r l vs
 |_,_,.nil=>.nil
 |_,_,.cons a v l vs h y=>.cons a v l vs (h.mono x) (AL.mono x y)
theorem AL.length {ρ:Ak}:∀ {l:Al} {vs:List Value},AL ρ l vs->l.length=vs.length
 |_,_,.nil=>rfl
 |_,_,.cons _ _ _ _ _ r=>by simp[AL.length r]
theorem AL.get {ρ:Ak}:∀ {l:Al} {vs:List Value},AL ρ l vs->∀(i:Nat) (a:AV),l[i]? =some a->∃v,vs[i]? =some v/\VR ρ a v
 |_,_,.nil,i,a,h=>by simp at h
 |_,_,.cons y v l vs h r,0,a,hi=>by simp at hi;subst hi;exact⟨v,rfl,h⟩
 |_,_,.cons y v l vs h r,i+1,a,hi=>by simp at hi;obtain⟨u,hu,x⟩:=AL.get r i a hi;exact⟨u,by simpa using hu,x⟩
theorem AL.append {ρ:Ak}:∀ {l x:Al} {vs r:List Value},AL ρ l vs->AL ρ x r->AL ρ (l++x) (vs++r)
 |_,_,_,_,.nil,h'=>h'
 |_,_,_,_,.cons a v l vs h y,h'=>.cons _ _ _ _ h (y.append h')
theorem AL.drop {ρ:Ak}:∀(k:Nat) {l:Al} {vs:List Value},AL ρ l vs->AL ρ (l.drop k) (vs.drop k)
 |0,_,_,h=>h
 |_+1,_,_,.nil=>.nil
 |k+1,_,_,.cons _ _ _ _ _ r=>AL.drop k r
theorem AL.take {ρ:Ak}:∀(k:Nat) {l:Al} {vs:List Value},AL ρ l vs->AL ρ (l.take k) (vs.take k)
 |0,_,_,_=>.nil
 |_+1,_,_,.nil=>.nil
 |k+1,_,_,.cons _ _ _ _ h r=>.cons _ _ _ _ h (AL.take k r)
def AV.one:AV->Bool
 |.agg _=>false
 |.AM _=>false
 |_=>true
theorem VR.one {ρ:Ak} {a:AV} {v:Value} (h:VR ρ a v):v.oneCell'=a.one:=by cases h<;>rfl
def AV.cells:AV->Al
 |.agg cs=>cs
 |v=>[v]
theorem VR.cells {ρ:Ak} {a:AV} {v:Value} (h:VR ρ a v):AL ρ a.cells v.cells.toList:=by
 cases h with
 |agg l vs h=>simpa[AV.cells,Value.cells]using h
 |bool b=>exact .cons _ _ _ _ (.bool b) .nil
 |int k n=>exact .cons _ _ _ _ (.int k n) .nil
 |str l n h=>exact .cons _ _ _ _ (.str l n h) .nil
 |Ei=>exact .cons _ _ _ _ .Ei .nil
 |ptr i o b h=>exact .cons _ _ _ _ (.ptr i o b h) .nil
 |AW=>exact .cons _ _ _ _ .AW .nil
 |sl i o l c b h=>exact .cons _ _ _ _ (.sl i o l c b h) .nil
 |BK i o l c b h B hl=>exact .cons _ _ _ _ (.BK i o l c b h B hl) .nil
 |sle i b o c h=>exact .cons _ _ _ _ (.sle i b o c h) .nil
 |EY=>exact .cons _ _ _ _ .EY .nil
 |map i b h=>exact .cons _ _ _ _ (.map i b h) .nil
 |fn f a c va K R hc=>exact .cons _ _ _ _ (.fn f a c va K R hc) .nil
 |F4=>exact .cons _ _ _ _ .F4 .nil
 |Cv i b h=>exact .cons _ _ _ _ (.Cv i b h) .nil
 |iface t a v h=>exact .cons _ _ _ _ (.iface t a v h) .nil
 |DU=>exact .cons _ _ _ _ .DU .nil
 |AM l vs h=>exact .cons _ _ _ _ (.AM l vs h) .nil
 |F6 g o=>exact .cons _ _ _ _ (.F6 g o) .nil
 |M0=>exact .cons _ _ _ _ .M0 .nil
 |chan i b h=>exact .cons _ _ _ _ (.chan i b h) .nil
 |bs l=>exact .cons _ _ _ _ (.bs l) .nil
 |bv l b o cap cs el fz x r hc=>exact .cons _ _ _ _ (.bv l b o cap cs el fz x r hc) .nil
 |Hr l h base cap=>exact .cons _ _ _ _ (.Hr l h base cap) .nil
 |vec Ax n f b o cap cs el fz g x B r hv hc=>exact .cons _ _ _ _ (.vec Ax n f b o cap cs el fz g x B r hv hc) .nil
 |GR Ax n f h base cap=>exact .cons _ _ _ _ (.GR Ax n f h base cap) .nil
 |pv l vs b o cs el fz x hv hc=>exact .cons _ _ _ _ (.pv l vs b o cs el fz x hv hc) .nil
 |Gr id Ax i j b h=>exact .cons _ _ _ _ (.Gr id Ax i j b h) .nil
 |AR id n Ax b h B hl=>exact .cons _ _ _ _ (.AR id n Ax b h B hl) .nil
 |GQ id n Ax hn base=>exact .cons _ _ _ _ (.GQ id n Ax hn base) .nil
 |Fb J val z b S y g x hn hy hz L=>exact .cons _ _ _ _ (.Fb J val z b S y g x hn hy hz L) .nil
inductive CB where
 |Dv (z:List AV)
 |rows (Ax:Nat) (f:Nat->List AV)
structure Di where
 key:AV
 val:AV
 born:Nat
inductive Ah where
 |cells (elem:Nat) (c:Tr AV) (z:CB) (n:Nat) (op:Bool)
 |map (es:List Di) (clock:Nat)
 |Cf (op:Bool)
 |loop (st:LoopState) (Cq:Option Code) (T:Tr AV) (N:Nat) (ps:Array Tmp) (asg body:Code) (d:Nat)
 |Nd (l:List AV)
 |chan (cap:Nat) (buf:List AV)
 |MJ (l n pos:Nat)
 |P1
 |Ih (id since:Nat) (seen:List Nat) (last:Nat)
def Ah.AiJ:Ah->Bool
 |.Nd _=>true
 |_=>false
def CB.at (z:CB) (k:Nat):Option AV:=CB.rec (motive:=λ_=>Option AV) (λl=>l[k %l.length]?) (λAx f=>(f (k/Ax))[k %Ax]?) z
def cellOf (c:Tr AV) (z:CB) (k:Nat):Option AV:=Option.rec (motive:=λ_=>Option AV) (z.at k) (λv=>some v) (c.get k)
theorem Ag1 (c:Tr AV) (z:CB) (k:Nat) (v:AV):cellOf (c.set k v) z k=some v:=by unfold cellOf;rw[Tr.PS]
theorem Ag0 (c:Tr AV) (z:CB) {k j:Nat} (h:k≠j) (v:AV):cellOf (c.set k v) z j=cellOf c z j:=by unfold cellOf;rw[Tr.Uv _ h]
def TR (ρ:Ak) (T:Tr AV) (tmps:Array Value):Prop:=∀t a,T.get t=some a->∃v,tmps[t]? =some v/\VR ρ a v
theorem TR.mono {ρ r:Ak} (x:ρ.le r) {T:Tr AV} {tmps:Array Value} (h:TR ρ T tmps):TR r T tmps:=λt a ht=>let ⟨v,z,y⟩:=h t a ht;⟨v,z,y.mono x⟩
def ER (ρ:Ak) (a:Di) (e:MapEntry):Prop:=VR ρ a.key e.key/\VR ρ a.val e.val/\a.born=e.born
inductive D3 (ρ:Ak):List Di->List MapEntry->Prop where
 |nil:D3 ρ [] []
 |cons (a:Di) (e:MapEntry) (l:List Di) (es:List MapEntry) (h:ER ρ a e) (hs:D3 ρ l es):D3 ρ (a::l) (e::es)
theorem D3.mono {ρ x:Ak} (r:ρ.le x):∀ {l:List Di} {y:List MapEntry},D3 ρ l y->D3 x l y
 |_,_,.nil=>.nil
 |_,_,.cons a e l y h z=>.cons a e l y ⟨h.1.mono r,h.2.1.mono r,h.2.2⟩ (D3.mono r z)
theorem D3.length {ρ:Ak}:∀ {l:List Di} {vs:List MapEntry},D3 ρ l vs->l.length=vs.length
 |_,_,.nil=>rfl
 |_,_,.cons _ _ _ _ _ r=>by simp[D3.length r]
def dL (c:Array Value) (fz:Nat×Nat):Prop:=fz=(0,0)\/c.size<=fz.1
inductive OR (ρ:Ak) (b:CD):Ah->Obj->Prop where
 |cells (elem:Nat) (c:Tr AV) (z:CB) (n:Nat) (op:Bool) (cs:Array Value) (fz:Nat×Nat)
   (DT:cs.size=b.ob+b.cap) (hn:n<=b.cap) (hop:op=false->n=b.cap) (hfz:dL cs fz)
   (h:∀k a,k<n->cellOf c z k=some a->∃v,cs[b.ob+k]? =some v/\VR ρ a v):OR ρ b (.cells elem c z n op) (.cells cs elem fz)
 |map (es:List Di) (clock:Nat) (l:List MapEntry) (h:D3 ρ es l):OR ρ b (.map es clock) (.map l.toArray clock)
 |Cf (op:Bool):OR ρ b (.Cf op) (.deferred (if op then some []else none))
 |loop (st:LoopState) (Cq:Option Code) (T:Tr AV) (N:Nat) (ps:Array Tmp) (asg body:Code) (d fn:Nat) (tmps:Array Value) (bd:CD)
   (hT:TR ρ T tmps) (hN:tmps.size=N) (hd:ρ d=some bd):OR ρ b (.loop st Cq T N ps asg body d) (.loop {state:=st,pending:=Cq,fn,tmps,params:=ps,assign:=asg,body,defers:=bd.b})
 |chan (cap:Nat) (buf:List AV) (vs:List Value) (s r:Nat) (h:AL ρ buf vs):OR ρ b (.chan cap buf) (.chan cap vs.toArray false s r false)
 |MJ (l n pos:Nat) (hob:b.ob=0) (hn:n<256^l):OR ρ b (.MJ l n pos) (.stringIter (BJ l n) pos)
 |P1 (s:Nat) (seen:Array Nat) (last:Nat) (hob:b.ob=0):OR ρ b .P1 (.mapIter none s seen last)
 |Ih (id since:Nat) (seen:List Nat) (last:Nat) (bm:CD) (hob:b.ob=0) (hm:ρ id=some bm):OR ρ b (.Ih id since seen last) (.mapIter (some bm.b) since seen.toArray last)
theorem OR.mono {ρ K:Ak} (x:ρ.le K) {b:CD} {a:Ah} {o:Obj} (h:OR ρ b a o):OR K b a o:=by
 cases h with
 |cells L c z n op cs fz DT hn R S h=>exact .cells L c z n op cs fz DT hn R S λk a Z ha=>let ⟨v,h1,h2⟩:=h k a Z ha;⟨v,h1,h2.mono x⟩
 |map es J l h=>exact .map es J l (h.mono x)
 |Cf op=>exact .Cf op
 |loop st Cq T N W V body d fn tmps bd hT hN hd=>exact .loop st Cq T N W V body d fn tmps bd (hT.mono x) hN (x _ _ hd)
 |chan cap U vs s r h=>exact .chan cap U vs s r (h.mono x)
 |MJ l n pos y hn=>exact .MJ l n pos y hn
 |P1 s seen last y=>exact .P1 s seen last y
 |Ih id B seen last bm y Y=>exact .Ih id B seen last bm y (x _ _ Y)
structure Env where
 tape:Nat->Question->Nat
 os:Os
 output:Array (Nat×ByteArray)
 base:Nat->Option Obj
 fs:Nat->Bool
structure Rel (E:Env) (F:Nat->Option Obj) (nx:Nat) (ρ:Ak) (h:Nat->Option Ah) (w:World):Prop where
 tape:w.tape=E.tape
 os:w.os=E.os
 output:w.output=E.output
 fr:∀b o,F b=some o->w.heap[b]? =some o
 ob:∀i o b,h i=some o->ρ i=some b->∃c,w.heap[b.b]? =some c/\OR ρ b o c
 dj:∀i o b,h i=some o->ρ i=some b->F b.b=none
 inj:∀i j o o' b b',h i=some o->h j=some o'->ρ i=some b->ρ j=some b'->b.b=b'.b->i=j
 new:∀i,nx<=i->ρ i=none
 gl:∀g l,h g=some (.Nd l)->∃cs e fz,E.base g=some (.cells cs e fz)/\∀ρ',AL ρ' l cs.toList
 bs:∀b o,E.base b=some o->F b=some o
 st:∀b o,ρ.st b=some o->w.heap[b]? =some o
 sd:∀i o b,h i=some o->ρ i=some b->ρ.st b.b=none
 sf:∀b o o',F b=some o->ρ.st b=some o'->E.fs b=true
theorem Rel.drew {E:Env} {F:Nat->Option Obj} {nx:Nat} {ρ:Ak} {h:Nat->Option Ah} {w:World} (r:Rel E F nx ρ h w):Rel E F nx ρ h w.drew:=⟨r.tape,r.os,r.output,r.fr,r.ob,r.dj,r.inj,r.new,r.gl,r.bs,r.st,r.sd,r.sf⟩
theorem Rel.less {E:Env} {F:Nat->Option Obj} {nx:Nat} {ρ:Ak} {h h':Nat->Option Ah} {w:World} (r:Rel E F nx ρ h w) (hl:∀i o,h' i=some o->h i=some o):Rel E F nx ρ h' w:=⟨r.tape,r.os,r.output,r.fr,λi o b hi=>r.ob i o b (hl i o hi),λi o b hi=>r.dj i o b (hl i o hi),λi j o o' b z hi x=>r.inj i j o o' b z (hl i o hi) (hl j o' x),r.new,λg l y=>r.gl g l (hl g _ y),r.bs,r.st,λi o b hi=>r.sd i o b (hl i o hi),r.sf⟩
theorem Rel.EZ {E:Env} {F:Nat->Option Obj} {nx nx':Nat} {ρ:Ak} {h:Nat->Option Ah} {w:World} (r:Rel E F nx ρ h w) (hn:nx<=nx'): Rel E F nx' ρ h w:={r with new:=λi hi=>r.new i (Ho hn hi)}
theorem JV {w:World} {b:Nat} {o:Obj} (h:w.heap[b]? =some o):b<w.heap.size:=(Array.getElem?_eq_some_iff.1 h).1
theorem Rel.alloc {E:Env} {F:Nat->Option Obj} {nx nx':Nat} {ρ:Ak} {h:Nat->Option Ah} {w:World} (r:Rel E F nx ρ h w) {i:Nat} (hi:ρ i=none) (aa:nx<=nx') (ab:i<nx') {cap:Nat} {a:Ah} {o:Obj} (U:OR (ρ.put i ⟨w.heap.size,0,cap⟩) ⟨w.heap.size,0,cap⟩ a o): Rel E F nx' (ρ.put i ⟨w.heap.size,0,cap⟩) (λj=>if j=i then some a else h j) (w.alloc o)/\ ρ.le (ρ.put i ⟨w.heap.size,0,cap⟩):=by
 have V:ρ.le (ρ.put i ⟨w.heap.size,0,cap⟩):=Ak.JT hi _;have B:∀b o',w.heap[b]? =some o'->(w.alloc o).heap[b]? =some o':=λb o' hb=>by have:=JV hb;show(w.heap.push o)[b]? =_;rw[Array.getElem?_push,An (by omega)];exact hb
 have Y:(w.alloc o).heap[w.heap.size]? =some o:=by show(w.heap.push o)[w.heap.size]? =_;rw[Array.getElem?_push,As rfl]
 refine⟨⟨r.tape,r.os,r.output,λb o' hb=>B b o' (r.fr b o' hb),?_,?_,?_,?_,λg l Z=>?_,r.bs,λb o' hb=>B b o' (r.st b o' hb),?_,r.sf⟩,V⟩
 rotate_right
 rotate_right
 ·by_cases W:g=i
  ·subst W;simp only[if_true,Option.some.injEq]at Z;subst Z;cases U
  ·simp only[W,if_false]at Z;exact r.gl g l Z
 ·intro j o' b z hb;by_cases y:j=i
  ·subst y;simp only[Ak.put,if_true,Option.some.injEq]at hb;subst hb;cases hF:ρ.st w.heap.size with
   |none=>exact hF
   |some x=>exact absurd (JV (r.st _ _ hF)) (Nat.lt_irrefl _)
  ·simp only[Ak.put,y,if_false]at z hb;exact r.sd j o' b z hb
 ·intro j o' b z hb;by_cases y:j=i
  ·subst y;simp only[Ak.put,if_true,Option.some.injEq]at z hb;subst z;subst hb;exact⟨o,Y,U⟩
  ·simp only[Ak.put,y,if_false]at z hb;obtain⟨c,hc,hr⟩:=r.ob j o' b z hb;exact⟨c,B _ _ hc,hr.mono V⟩
 ·intro j o' b z hb;by_cases y:j=i
  ·subst y;simp only[Ak.put,if_true,Option.some.injEq]at z hb;subst hb;cases hF:F w.heap.size with
   |none=>rfl
   |some x=>exact absurd (JV (r.fr _ _ hF)) (Nat.lt_irrefl _)
  ·simp only[Ak.put,y,if_false]at z hb;exact r.dj j o' b z hb
 ·intro j k o1 o2 b1 b2 z S K J R;by_cases y:j=i<;>by_cases L:k=i
  ·rw[y,L]
  ·simp only[Ak.put,y,L,if_true,if_false,Option.some.injEq]at z S K J;subst K;obtain⟨c,hc,_⟩:=r.ob k o2 b2 S J;have:=JV hc;simp only at R;omega
  ·simp only[Ak.put,y,L,if_true,if_false,Option.some.injEq]at z S K J;subst J;obtain⟨c,hc,_⟩:=r.ob j o1 b1 z K;have:=JV hc;simp only at R;omega
  ·simp only[Ak.put,y,L,if_false]at z S K J;exact r.inj j k o1 o2 b1 b2 z S K J R
 ·intro j z;have:j≠i:=by omega
  simp only[Ak.put,this,if_false];exact r.new j (Ho aa z)
theorem Rel.put {E:Env} {F:Nat->Option Obj} {nx:Nat} {ρ:Ak} {h:Nat->Option Ah} {w w':World} (r:Rel E F nx ρ h w) {i:Nat} {b:CD} {o a:Ah} {c:Obj} (hi:h i=some o) (hb:ρ i=some b) (U:OR ρ b a c) (Y:∀k,w'.heap[k]? =if k=b.b then some c else w.heap[k]?) (ht:w'.tape=w.tape) (aa:w'.os=w.os) (W:w'.output=w.output): Rel E F nx ρ (λj=>if j=i then some a else h j) w':=by
 have hF:=r.dj i o b hi hb;refine⟨ht.trans r.tape,aa.trans r.os,W.trans r.output,?_,?_,?_,?_,r.new,λg l Z=>?_,r.bs,λk o' B=>?_,λj o' S z y=>?_,r.sf⟩
 rotate_right
 rotate_right
 rotate_right
 ·by_cases V:g=i
  ·subst V;simp only[if_true,Option.some.injEq]at Z;subst Z;cases U
  ·simp only[V,if_false]at Z;exact r.gl g l Z
 ·have hS:=r.sd i o b hi hb;rw[Y,An (λe=>by subst e;rw[hS]at B;cases B)];exact r.st k o' B
 ·by_cases x:j=i
  ·subst x;rw[hb]at y;cases y;exact r.sd j o b hi hb
  ·simp only[x,if_false]at z;exact r.sd j o' S z y
 ·intro k o' B;rw[Y,An (λe=>by subst e;rw[hF]at B;cases B)];exact r.fr k o' B
 ·intro j o' S z y;by_cases x:j=i
  ·subst x;simp only[if_true,Option.some.injEq]at z;subst z;rw[hb]at y;cases y;exact⟨c,by rw[Y,As rfl],U⟩
  ·simp only[x,if_false]at z;obtain⟨c',ab,hr⟩:=r.ob j o' S z y;refine⟨c',?_,hr⟩;rw[Y,An (λe=>x (r.inj j i o' o S b z hi y hb e))];exact ab
 ·intro j o' S z y;by_cases x:j=i
  ·subst x;rw[hb]at y;cases y;exact hF
  ·simp only[x,if_false]at z;exact r.dj j o' S z y
 ·intro j k o1 o2 b1 b2 z B R L K;by_cases x:j=i<;>by_cases J:k=i
  ·rw[x,J]
  ·simp only[J,if_false]at B;subst x;exact r.inj _ k o o2 b1 b2 hi B R L K
  ·simp only[x,if_false]at z;subst J;exact r.inj j _ o1 o b1 b2 z hi R L K
  ·simp only[x,J,if_false]at z B;exact r.inj j k o1 o2 b1 b2 z B R L K
end Go.Ev
end
section
namespace Go.Ev
def ob.{u,v} {α:Type u} {r:Type v} (x:Option α) (f:α->Option r):Option r:=Option.rec (motive:=λ_=>Option r) none f x
def gd {r:Type} (b:Bool) (x:Option r):Option r:=cond b x none
theorem Ai.{u,v} {α:Type u} {r:Type v} {x:Option α} {f:α->Option r} {y:r}:ob x f=some y↔∃a,x=some a/\f a=some y:=by
 cases x with
 |none=>simp[ob]
 |some a=>simp[ob]
theorem AQ {r:Type} {b:Bool} {x:Option r} {y:r}:gd b x=some y↔b=true/\x=some y:=by cases b<;>simp[gd]
def fN {r:Type} (n:Nat) (k:Nat->r):r:=Nat.rec (motive:=λ_=>r) (k 0) (λm _=>k (Nat.succ m)) n
theorem Bv {r:Type} (n:Nat) (k:Nat->r):fN n k=k n:=by cases n<;>rfl
def fI {r:Type} (n:Int) (k:Int->r):r:=Int.rec (motive:=λ_=>r) (λm=>fN m λm=>k (Int.ofNat m)) (λm=>fN m λm=>k (Int.negSucc m)) n
theorem Nb {r:Type} (n:Int) (k:Int->r):fI n k=k n:=by
 cases n with
 |ofNat m=>exact Bv m λm=>k (Int.ofNat m)
 |negSucc m=>exact Bv m λm=>k (Int.negSucc m)
def Md:IntKind->Nat
 |.i8=>0|.i16=>1|.i32=>2|.i64=>3|.u8=>4|.u16=>5|.u32=>6|.u64=>7
def Ni (a b:IntKind):Bool:=Nat.beq (Md a) (Md b)
theorem PW {a b:IntKind} (h:Ni a b=true):a=b:=by cases a<;>cases b<;>first|rfl|(exact absurd h (by decide))
def Au:Int->Int->Bool
 |.ofNat a,.ofNat b=>Nat.beq a b
 |.negSucc a,.negSucc b=>Nat.beq a b
 |_,_=>false
def AP:Int->Int->Bool
 |.ofNat a,.ofNat b=>Nat.blt a b
 |.negSucc _,.ofNat _=>true
 |.ofNat _,.negSucc _=>false
 |.negSucc a,.negSucc b=>Nat.blt b a
theorem UQ (a b:Nat):Nat.blt a b=decide (a<b):=by rw[Bool.eq_iff_iff,CE];simp
theorem DD (a b:Int):Au a b=(a==b):=by
 cases a with
 |ofNat a=>cases b with
  |ofNat b=>rw[Bool.eq_iff_iff];simp only[Au,A0,beq_iff_eq];simp only[Int.ofNat_eq_natCast];omega
  |negSucc b=>simp[Au]
 |negSucc a=>cases b with
  |ofNat b=>simp[Au]
  |negSucc b=>rw[Bool.eq_iff_iff];simp only[Au,A0,beq_iff_eq];simp
theorem EX (a b:Int):AP a b=decide (a<b):=by
 cases a with
 |ofNat a=>cases b with
  |ofNat b=>simp only[AP,UQ];simp
  |negSucc b=>simp[AP];omega
 |negSucc a=>cases b with
  |ofNat b=>simp[AP];omega
  |negSucc b=>simp only[AP,UQ];rw[decide_eq_decide];omega
theorem wrap_i64 {n:Int} (x:-9223372036854775808<=n) (r:n<9223372036854775808):IntKind.i64.wrap n=n:=by
 simp only[IntKind.wrap,IntKind.bits,IntKind.signed,Bool.true_and];by_cases h:0<=n
 ·rw[An (by simp;omega)];omega
 ·rw[As (by simp;omega)];omega
theorem wrap_u8 {n:Int} (x:0<=n) (r:n<256):IntKind.u8.wrap n=n:=by simp[IntKind.wrap,IntKind.bits,IntKind.signed];omega
def wr (k:IntKind) (n:Int):Int:=
 match k,n with
 |.i64,.ofNat m=>cond (Nat.blt m 9223372036854775808) (.ofNat m) (k.wrap n)
 |.i64,.negSucc m=>cond (Nat.blt m 9223372036854775808) (.negSucc m) (k.wrap n)
 |.u8,.ofNat m=>cond (Nat.blt m 256) (.ofNat m) (k.wrap n)
 |k,n=>k.wrap n
theorem Y4 (k:IntKind) (n:Int):wr k n=k.wrap n:=by
 unfold wr;split
 ·rename_i m;rw[UQ];by_cases h:m<9223372036854775808
  ·rw[BF h,cond_true,wrap_i64]
   ·simp only[Int.ofNat_eq_natCast];omega
   ·simp only[Int.ofNat_eq_natCast];omega
  ·rw[E7 h,cond_false]
 ·rename_i m;rw[UQ];by_cases h:m<9223372036854775808
  ·rw[BF h,cond_true,wrap_i64]<;>omega
  ·rw[E7 h,cond_false]
 ·rename_i m;rw[UQ];by_cases h:m<256
  ·rw[BF h,cond_true,wrap_u8]
   ·simp only[Int.ofNat_eq_natCast];omega
   ·simp only[Int.ofNat_eq_natCast];omega
  ·rw[E7 h,cond_false]
 ·rfl
theorem Pz:∀(l n:Nat),(BO l n).length=l
 |0,_=>rfl
 |l+1,n=>by simp[BO,Pz l]
theorem MZ (l n:Nat):(BJ l n).size=l:=by show(BO l n).toArray.size=l;simp[Pz]
theorem Rp (l n:Nat):(BJ l n).data.toList=BO l n:=rfl
theorem oH (l n:Nat):(BJ l n).toList=BO l n:=by rw[ByteArray.toList_eq,Rp]
theorem HF (n:Nat):(UInt8.ofNat n).toNat=n %256:=by simp
theorem yL:∀(l n m:Nat),n<256^l->m<256^l->BO l n=BO l m->n=m
 |0,n,m,hn,hm,_=>by simp at hn hm;omega
 |l+1,n,m,hn,hm,h=>by
  simp only[BO,List.cons.injEq]at h;have x:n %256=m %256:=by rw[<-HF,<-HF,h.1]
  have r:=yL l (n/256) (m/256) (Nat.div_lt_of_lt_mul (by rw[Nat.pow_succ]at hn;omega)) (Nat.div_lt_of_lt_mul (by rw[Nat.pow_succ]at hm;omega)) h.2;omega
theorem bV:∀(l n i:Nat),i<l->(BO l n)[i]? =some (UInt8.ofNat (n/256^i))
 |0,_,_,h=>by omega
 |l+1,n,0,_=>by simp[BO]
 |l+1,n,i+1,h=>by simp only[BO,List.getElem?_cons_succ];rw[bV l (n/256) i (by omega),Nat.div_div_eq_div_mul,Nat.pow_succ,Nat.mul_comm]
theorem yJ:∀(l n x r:Nat),n<256^l->BO (l+x) (n+r*256^l)=BO l n++BO x r
 |0,n,x,r,h=>by
  have:n=0:=by simpa using h
  simp[BO,this]
 |l+1,n,x,r,h=>by
  rw[show l+1+x=(l+x)+1 by omega];simp only[BO,List.cons_append];have y:r*256^(l+1)=256*(r*256^l):=by rw[Nat.pow_succ];ac_rfl
  have B:(n+r*256^(l+1))/256=n/256+r*256^l:=by rw[y];omega
  have z:UInt8.ofNat (n+r*256^(l+1))=UInt8.ofNat n:=by apply UInt8.toNat_inj.1;rw[HF,HF,y];omega
  rw[B,z,yJ l (n/256) x r (Nat.div_lt_of_lt_mul (by rw[Nat.pow_succ]at h;omega))]
theorem yK:∀(k l n:Nat),(BO l n).drop k=BO (l-k) (n/256^k)
 |0,l,n=>by simp
 |k+1,0,n=>by simp[BO]
 |k+1,l+1,n=>by simp only[BO,List.drop_succ_cons];rw[yK k l (n/256),Nat.div_div_eq_div_mul,Nat.pow_succ,Nat.mul_comm,show l+1-(k+1)=l-k by omega]
theorem yM:∀(k l n:Nat),k<=l->(BO l n).take k=BO k (n %256^k)
 |0,l,n,_=>by simp[BO]
 |k+1,0,n,h=>by omega
 |k+1,l+1,n,h=>by
  simp only[BO,List.take_succ_cons];have x:UInt8.ofNat (n %256^(k+1))=UInt8.ofNat n:=by apply UInt8.toNat_inj.1;rw[HF,HF,Nat.pow_succ,Nat.mul_comm,Nat.mod_mul_right_mod]
  have r:n %256^(k+1)/256=n/256%256^k:=by rw[Nat.pow_succ,Nat.mul_comm,Nat.mod_mul_right_div_self]
  rw[yM k l (n/256) (by omega),x,r]
theorem Agz (l n x r:Nat) (h:n<256^l):BJ l n++BJ x r=BJ (l+x) (n+r*256^l):=by
 have:(BJ l n++BJ x r).data=(BJ (l+x) (n+r*256^l)).data:=by rw[ByteArray.data_append];show(BO l n).toArray++(BO x r).toArray=(BO (l+x) (n+r*256^l)).toArray;rw[yJ _ _ _ _ h];simp
 cases z:(BJ l n++BJ x r);cases y:BJ (l+x) (n+r*256^l);rw[z,y]at this;simpa using this
theorem AgA (l n a b:Nat) (hb:b<=l) (x:a<=b):(BJ l n).extract a b=BJ (b-a) (n/256^a %256^(b-a)):=by
 have h:((BJ l n).extract a b).data.toList=BO (b-a) (n/256^a %256^(b-a)):=by rw[Lib.extract_data,Rp];rw[List.take_drop,show a+(b-a)=b by omega]at*;rw[show(List.take b (BO l n)).drop a=((BO l n).drop a).take (b-a) by rw[List.drop_take]];rw[yK,yM _ _ _ (by omega)]
 cases r:(BJ l n).extract a b with
 |mk d=>rw[r]at h;unfold BJ;rw[<-h]
def KB (l:Aj):Nat:=List.rec (motive:=λ_=>Nat) 0 (λc _ r=>c.toNat+256*r) l
theorem Adm:∀(l:Aj),KB l<256^l.length
 | []=>by simp[KB]
 |c::l=>by have h:=Adm l;have hc:=c.toNat_lt;show c.toNat+256*KB l<256^(l.length+1);rw[Nat.pow_succ];omega
theorem bW:∀(l:Aj),BO l.length (KB l)=l
 | []=>rfl
 |c::l=>by
  have hc:=c.toNat_lt;show UInt8.ofNat (c.toNat+256*KB l)::BO l.length ((c.toNat+256*KB l)/256)=c::l;have e:(c.toNat+256*KB l)/256=KB l:=by omega
  have r:UInt8.ofNat (c.toNat+256*KB l)=c:=by apply UInt8.toNat_inj.1;rw[HF];omega
  rw[e,r,bW l]
def Pc:Nat->Nat->Nat->Nat->Bool
 |_,_,0,_=>false
 |0,_,_+1,_=>true
 |l+1,n,x+1,r=>cond (Nat.blt (n %256) (r %256)) true (cond (Nat.beq (n %256) (r %256)) (Pc l (n/256) x (r/256)) false)
theorem AeA:∀(l n x r:Nat),Pc l n x r=Op.bytesLess (BO l n) (BO x r)
 |l,n,0,_=>by cases l<;>simp[Pc,BO,Op.bytesLess]
 |0,n,x+1,r=>by simp[Pc,BO,Op.bytesLess]
 |l+1,n,x+1,r=>by
  simp only[Pc,BO,Op.bytesLess];rw[AeA l (n/256) x (r/256)];have z:decide (UInt8.ofNat n<UInt8.ofNat r)=Nat.blt (n %256) (r %256):=by rw[Bool.eq_iff_iff];simp[UInt8.lt_iff_toNat_lt,CE]
  have y:(UInt8.ofNat n==UInt8.ofNat r)=Nat.beq (n %256) (r %256):=by rw[Bool.eq_iff_iff,beq_iff_eq,A0,<-UInt8.toNat_inj];simp
  rw[z,y];cases Nat.blt (n %256) (r %256)<;>cases Nat.beq (n %256) (r %256)<;>simp
def XK:Value->Option AV
 |.bool b=>some (.bool b)
 |.int k n=>some (.int k n)
 |.string s=>some (.str s.data.toList.length (KB s.data.toList))
 |.pointer none=>some .Ei
 |.slice none 0 0=>some .AW
 |.map none=>some .EY
 |.nilFunc=>some .F4
 |.nilIface=>some .DU
 |.chan none=>some .M0
 |_=>none
def tu (l:List Value):Option Al:=List.rec (motive:=λ_=>Option Al) (some []) (λv _ x=>ob (XK v) λa=>ob x λr=>some (a::r)) l
def ofValue:Value->Option AV
 |.agg cs=>(tu cs.toList).map .agg
 |.tuple vs=>match vs.toList with
  | []=>some (.AM [])
  |_=>none
 |v=>XK v
theorem AgB (s:ByteArray):BJ s.data.toList.length (KB s.data.toList)=s:=by unfold BJ;rw[bW]
theorem AcQ {ρ:Ak} {v:Value} {a:AV} (h:XK v=some a):VR ρ a v:=by
 unfold XK at h;split at h<;>first|(cases h;done)|skip
 all_goals (injection h with h;subst h)
 ·exact .bool _
 ·exact .int _ _
 ·rename_i s;have:=VR.str (ρ:=ρ) s.data.toList.length (KB s.data.toList) (Adm _);rwa[AgB]at this
 ·exact .Ei
 ·exact .AW
 ·exact .EY
 ·exact .F4
 ·exact .DU
 ·exact .M0
theorem AcR {ρ:Ak}:∀ {l:List Value} {r:Al},tu l=some r->AL ρ r l
 | [],r,h=>by injection h with h;subst h;exact .nil
 |v::l,r,h=>by obtain⟨a,y,h⟩:=Ai.1 (show ob (XK v) (λa=>ob (tu l) λr=>some (a::r))=some r from h);obtain⟨z,x,h⟩:=Ai.1 h;injection h with h;subst h;exact .cons _ _ _ _ (AcQ y) (AcR x)
theorem AcT {ρ:Ak} {v:Value} {a:AV} (h:ofValue v=some a):VR ρ a v:=by
 unfold ofValue at h;split at h
 ·rename_i cs;obtain⟨r,x,h⟩:=Option.map_eq_some_iff.1 h;subst h;exact .agg _ _ (AcR x)
 ·rename_i vs;split at h
  ·rename_i hv;injection h with h;subst h;have:vs= #[]:=by simpa using hv
   subst this;exact .AM _ _ .nil
  ·cases h
 ·exact AcQ h
def BR (T:Tr AV):Operand->Option AV
 |.tmp t=>T.get t
 |.const v=>ofValue v
 |.func f=>some (.fn (.func f) [] [])
 |.global g=>some (.F6 g 0)
def XR (ρ:Ak) (X:Operand->Option AV) (f:Operand->Value):Prop:=∀x a,X x=some a->VR ρ a (f x)
theorem TR.xr {ρ:Ak} {T:Tr AV} {a:Act} (h:TR ρ T a.tmps):XR ρ (BR T) a.eval:=by
 intro x v r;cases x with
 |tmp t=>
  obtain⟨u,z,y⟩:=h t v r;have:a.eval (.tmp t)=u:=by simp[Act.eval,z]
  rw[this];exact y
 |const c=>exact AcT r
 |func f=>injection r with r;subst r;exact .fn (.func f) [] [] [] [] .nil .nil
 |global g=>injection r with r;subst r;exact .F6 g 0
def Jk (n:Nat):AV:=.int .i64 (.ofNat n)
def dE (op:UnOp) (x:AV):Option AV:=
 match op,x with
 |.not,.bool b=>some (.bool (!b))
 |.neg,.int k n=>fI (wr k (0-n)) λr=>some (.int k r)
 |_,_=>none
theorem AaD {P:Program} {ρ:Ak} {op:UnOp} {x r:AV} {v:Value} (h:dE op x=some r) (y:VR ρ x v) (w:World): ∃u,(Op.unary op v).run P w=.ok u w/\VR ρ r u:=by
 unfold dE at h;split at h
 ·injection h with h;subst h;cases y;exact⟨_,by simp[Op.unary],.bool _⟩
 ·rw[Nb]at h;injection h with h;subst h;cases y;refine⟨_,by simp[Op.unary,Op.intArith];rfl,?_⟩;rw[Y4,Int.zero_sub];exact .int _ _
 ·cases h
def Um (op:BinOp) (k:IntKind) (a b:Int):Option AV:=
 match op with
 |.add=>fI (wr k (a+b)) λn=>some (.int k n)
 |.sub=>fI (wr k (a-b)) λn=>some (.int k n)
 |.mul=>fI (wr k (a*b)) λn=>some (.int k n)
 |.quo=>gd (!Au b 0) (fI (k.wrap (a.tdiv b)) λn=>some (.int k n))
 |.rem=>gd (!Au b 0) (fI (a.tmod b) λn=>some (.int k n))
 |.and=>fI (k.wrap (BitVec.ofInt k.bits a&&& BitVec.ofInt k.bits b).toNat) λn=>some (.int k n)
 |.or=>fI (k.wrap (BitVec.ofInt k.bits a|||BitVec.ofInt k.bits b).toNat) λn=>some (.int k n)
 |.xor=>fI (k.wrap (BitVec.ofInt k.bits a^^^BitVec.ofInt k.bits b).toNat) λn=>some (.int k n)
 |.andNot=>fI (k.wrap (BitVec.ofInt k.bits a&&& ~~~(BitVec.ofInt k.bits b)).toNat) λn=>some (.int k n)
 |.eql=>some (.bool (Au a b))
 |.neq=>some (.bool (!Au a b))
 |.lss=>some (.bool (AP a b))
 |.leq=>some (.bool (!AP b a))
 |.gtr=>some (.bool (AP b a))
 |.geq=>some (.bool (!AP a b))
 |.shl|.shr=>none
def Up (op:BinOp) (k:IntKind) (a b:Int):Option AV:=gd (!AP b 0) (match op with
 |.shl=>fI (k.wrap (a*2^(min b.toNat k.bits))) λn=>some (.int k n)
 |.shr=>fI (a.fdiv (2^(min b.toNat k.bits))) λn=>some (.int k n)
 |_=>none)
def sC (op:BinOp) (l n r x:Nat):Option AV:=
 match op with
 |.add=>gd (Nat.blt (l+r) 9223372036854775808) (fN (l+r) λsl=>fN (n+x*256^l) λy=>some (.str sl y))
 |.eql=>some (.bool (cond (Nat.beq l r) (Nat.beq n x) false))
 |.neq=>some (.bool (!(cond (Nat.beq l r) (Nat.beq n x) false)))
 |.lss=>some (.bool (Pc l n r x))
 |.leq=>some (.bool (Pc l n r x||cond (Nat.beq l r) (Nat.beq n x) false))
 |.gtr=>some (.bool (!(Pc l n r x||cond (Nat.beq l r) (Nat.beq n x) false)))
 |.geq=>some (.bool (!Pc l n r x))
 |_=>none
end Go.Ev
end
section
namespace Go.Ev
def HS (ρ:Ak) (H:Tr Ah) (h:Nat->Option Ah):Prop:=∀i o,H.get i=some o->(∃b,ρ i=some b)\/o.AiJ=true->h i=some o
theorem HS.refl (ρ:Ak) (H:Tr Ah):HS ρ H H.get:=λ_ _ h _=>h
theorem C1 {P:Program} {s:Sem Value} {w w':World} {v:Value} (h:s.run P w=.ok v w'): (do pure (Next.value (<-s)):Sem Next).run P w=.ok (.value v) w':=by simp[h]
theorem cell_of {E:Env} {F:Nat->Option Obj} {nx:Nat} {ρ:Ak} {h:Nat->Option Ah} {w:World} (r:Rel E F nx ρ h w) {i:Nat} {b:CD} {el n:Nat} {c:Tr AV} {z:CB} {op:Bool} (hi:h i=some (.cells el c z n op)) (hb:ρ i=some b) {k:Nat} {a:AV} (K:k<n) (L:cellOf c z k=some a):∃v,w.cell? ⟨b.b,b.ob+k,none⟩=some v/\VR ρ a v:=by
 obtain⟨o,J,x⟩:=r.ob i _ b hi hb;cases x with
 |cells y c z n op cs fz DT hn R S hc=>obtain⟨v,hv,B⟩:=hc k a K L;exact⟨v,by simp[World.cell?,J,hv],B⟩
def Me:TypeDesc->Bool
 |.struct _=>true
 |.array _ _=>true
 |_=>false
theorem S1 {P:Program} {t:TypeId} {d:TypeDesc} (h:P.underlying t=some d) (w:World):(isAgg t).run P w=.ok (Me d) w:=by cases d<;>simp[isAgg,run_underlying h,Me]
theorem info_of_underlying {P:Program} {t:TypeId} {d:TypeDesc} (h:P.underlying t=some d):∃i,P.info? t=some i:=by
 unfold Program.underlying at h;split at h
 ·exact⟨_,by assumption⟩
 ·exact⟨_,by assumption⟩
 ·cases h
theorem Ee {P:Program} {t:TypeId} {d:TypeDesc} (h:P.underlying t=some d) (w:World):(sizeOf t).run P w=.ok (P.cellsOf t) w:=by obtain⟨i,hi⟩:=info_of_underlying h;exact run_sizeOf w hi
def VI (c:Tr AV) (z:CB) (r:Nat):Nat->Option Al:=Nat.rec (motive:=λ_=>Nat->Option Al) (λ_=>some []) (λ_ x k=>ob (cellOf c z k) λa=>ob (fN (k+1) x) λl=>some (a::l)) r
theorem YG (c:Tr AV) (z:CB):∀(cnt k:Nat) (l:Al),VI c z cnt k=some l-> l.length=cnt/\∀j a,l[j]? =some a->cellOf c z (k+j)=some a
 |0,k,l,h=>by injection h with h;subst h;simp
 |cnt+1,k,l,h=>by
  obtain⟨a,x,h⟩:=Ai.1 (show ob (cellOf c z k) (λa=>ob (fN (k+1) (VI c z cnt)) λl=>some (a::l))=some l from h);obtain⟨r,hl,h⟩:=Ai.1 h;rw[Bv]at hl;injection h with h;subst h;obtain⟨B,y⟩:=YG c z cnt (k+1) r hl;refine⟨by simp[B],λj b hb=>?_⟩;cases j with
  |zero=>simp at hb;subst hb;exact x
  |succ j=>have:=y j b (by simpa using hb);rwa[show k+1+j=k+(j+1) by omega]at this
theorem AL.UX {ρ:Ak}:∀ {l:Al} (f:Nat->Value->Prop),(∀j a,l[j]? =some a->∃v,f j v/\VR ρ a v)-> ∃vs,AL ρ l vs/\∀j v,vs[j]? =some v->f j v
 | [],f,_=>⟨[],.nil,by simp⟩
 |a::l,f,h=>by
  obtain⟨v,hv,r⟩:=h 0 a rfl;obtain⟨vs,y,x⟩:=AL.UX (l:=l) (λj=>f (j+1)) λj b hb=>h (j+1) b (by simpa using hb);refine⟨v::vs,.cons _ _ _ _ r y,λj u hu=>?_⟩;cases j with
  |zero=>simp at hu;subst hu;exact hv
  |succ j=>exact x j u (by simpa using hu)
theorem Dd (b o k:Nat):(⟨b,o,none⟩:Addr).add k=⟨b,o+k,none⟩:=by
 unfold Addr.add;split
 ·subst_vars;rfl
 ·rfl
def EV (H:Tr Ah) (id off r:Nat):Option Al:=ob (H.get id) λo=>match o with
  |.cells _ c z n _=>gd (Nat.ble (off+r) n) (VI c z r off)
  |_=>none
theorem HQ {E:Env} {F:Nat->Option Obj} {nx:Nat} {ρ:Ak} {h:Nat->Option Ah} {w:World} {H:Tr Ah} (r:Rel E F nx ρ h w) (R:HS ρ H h) {id off z:Nat} {l:Al} {b:CD} (hb:ρ id=some b) (x:EV H id off z=some l): ∃vs,AL ρ l vs/\vs.length=z/\∀j v,vs[j]? =some v->w.cell? (Addr.add ⟨b.b,b.ob+off,none⟩ j)=some v:=by
 obtain⟨o,S,x⟩:=Ai.1 x;have hi:=R id o S (.inl ⟨b,hb⟩);split at x
 ·obtain⟨J,x⟩:=AQ.1 x;rw[Nat.ble_eq]at J;obtain⟨V,U⟩:=YG _ _ _ _ _ x;obtain⟨vs,y,B⟩:=AL.UX (ρ:=ρ) (l:=l) (λj v=>w.cell? ⟨b.b,b.ob+(off+j),none⟩=some v) λj a L=>by have K:j<l.length:=(Ix.1 L).1;exact cell_of r hi hb (by omega) (U j a L)
  refine⟨vs,y,by rw[<-y.length,V],λj v K=>?_⟩;rw[Dd,Fu];exact B j v K
 ·cases x
def Aah (H:Tr Ah) (id off:Nat):Option AV:=ob (H.get id) λo=>match o with
  |.cells _ c z n _=>gd (Nat.blt off n) (cellOf c z off)
  |_=>none
theorem AhC {E:Env} {F:Nat->Option Obj} {nx:Nat} {ρ:Ak} {h:Nat->Option Ah} {w:World} {H:Tr Ah} (r:Rel E F nx ρ h w) (z:HS ρ H h) {id off:Nat} {a:AV} {b:CD} (hb:ρ id=some b) (x:Aah H id off=some a):∃v,w.cell? ⟨b.b,b.ob+off,none⟩=some v/\VR ρ a v:=by
 obtain⟨o,B,x⟩:=Ai.1 x;have hi:=z id o B (.inl ⟨b,hb⟩);split at x
 ·obtain⟨y,x⟩:=AQ.1 x;rw[CE]at y;exact cell_of r hi hb y x
 ·cases x
def Aam (H:Tr Ah) (g off:Nat):Option AV:=ob (H.get g) λo=>match o with
  |.Nd l=>l[off]?
  |_=>none
theorem AhM {E:Env} {F:Nat->Option Obj} {nx:Nat} {ρ:Ak} {h:Nat->Option Ah} {w:World} {H:Tr Ah} (r:Rel E F nx ρ h w) (y:HS ρ H h) {g off:Nat} {a:AV} (x:Aam H g off=some a):∃v,w.cell? ⟨g,off,none⟩=some v/\VR ρ a v:=by
 obtain⟨o,B,x⟩:=Ai.1 x;split at x
 ·have hi:=y g _ B (.inr rfl);obtain⟨cs,e,fz,K,J⟩:=r.gl g _ hi;obtain⟨v,hv,z⟩:=(J ρ).get off a x;have:=r.fr g _ (r.bs g _ K);refine⟨v,?_,z⟩;simp only[Array.getElem?_toList]at hv;simp[World.cell?,this,hv]
 ·cases x
def W9 (P:Program) (H:Tr Ah) (t:TypeId) (x:AV):Option AV:=
 match x with
 |.ptr id off=>ob (P.underlying t) λd=>cond (Me d) (ob (EV H id off (P.cellsOf t)) λl=>some (.agg l)) (Aah H id off)
 |.F6 g off=>ob (P.underlying t) λd=>gd (!Me d) (Aam H g off)
 |_=>none
theorem Aar {P:Program} {E:Env} {F:Nat->Option Obj} {nx:Nat} {ρ:Ak} {h:Nat->Option Ah} {w:World} {H:Tr Ah} (r:Rel E F nx ρ h w) (K:HS ρ H h) {t:TypeId} {x a:AV} {u:Value} (R:VR ρ x u) (y:W9 P H t x=some a):∃v,(Instr.loadAt t u).run P w=.ok v w/\VR ρ a v:=by
 unfold W9 at y;split at y
 ·rename_i id off;cases R with
  |ptr id off b hb=>
   obtain⟨d,hd,y⟩:=Ai.1 y;cases z:Me d with
   |true=>rw[z,cond_true]at y;obtain⟨l,hl,y⟩:=Ai.1 y;injection y with y;subst y;obtain⟨vs,V,U,S⟩:=HQ r K hb hl;refine⟨.agg vs.toArray,?_,.agg _ _ V⟩;have B:=run_loadCells_list (P:=P) w ⟨b.b,b.ob+off,none⟩ vs S;rw[U]at B;simp[Instr.loadAt,Instr.sureAddr,loadVar,S1 hd,z,Ee hd,B]
   |false=>rw[z,cond_false]at y;obtain⟨v,hv,L⟩:=AhC r K hb y;exact⟨v,by simp[Instr.loadAt,Instr.sureAddr,loadVar,S1 hd,z,hv],L⟩
 ·rename_i g off;cases R with
  |F6 g off=>
   obtain⟨d,hd,y⟩:=Ai.1 y;obtain⟨z,y⟩:=AQ.1 y;obtain⟨v,hv,L⟩:=AhM r K y;have J:Me d=false:=by simpa using z
   exact⟨v,by simp[Instr.loadAt,Instr.sureAddr,loadVar,S1 hd,J,hv],L⟩
 ·cases y
def Kt (P:Program) (t:TypeId) (cs:Al) (off:Nat):Option AV:=ob (P.underlying t) λd=>cond (Me d) (some (.agg ((cs.drop off).take (P.cellsOf t)))) (cs[off]?)
theorem dB {P:Program} {ρ:Ak} {t:TypeId} {cs:Al} {off:Nat} {a:AV} {vs:List Value} (hc:AL ρ cs vs) (r:Kt P t cs off=some a) (w:World): ∃v,(part t vs.toArray off).run P w=.ok v w/\VR ρ a v:=by
 obtain⟨d,hd,r⟩:=Ai.1 r;cases x:Me d with
 |true=>rw[x,cond_true]at r;injection r with r;subst r;refine⟨.agg ((vs.drop off).take (P.cellsOf t)).toArray,?_,.agg _ _ ((hc.drop off).take _)⟩;simp[part,S1 hd,x,Ee hd]
 |false=>rw[x,cond_false]at r;obtain⟨v,hv,y⟩:=hc.get off a r;exact⟨v,by simp[part,S1 hd,x,hv],y⟩
def RB (P:Program) (eq:TypeId->AV->AV->Option Bool) (xs ys:Al) (fs:List Field):Option Bool:=List.rec (motive:=λ_=>Option Bool) (some true)
  (fun f _ ih => cond (decide (f.name = "_")) ih (ob (Kt P f.type xs f.offset) fun a => ob (Kt P f.type ys f.offset) fun b => ob (eq f.type a b) fun r => cond r ih (some false))) fs
def dA (P:Program) (f:Nat):TypeId->AV->AV->Option Bool:=Nat.rec (motive:=λ_=>TypeId->AV->AV->Option Bool) (λ_ _ _=>none) (λ_ r t x y=>ob (P.underlying t) λd=>
   match d,x,y with
   |.bool,.bool a,.bool b=>some (cond a b (!b))
   |.int _,.int k a,.int S b=>gd (Ni k S) (some (Au a b))
   |.string,.str l n,.str R L=>some (cond (Nat.beq l R) (Nat.beq n L) false)
   |.pointer _,.Ei,.Ei=>some true
   |.pointer _,.Ei,.ptr _ _=>some false
   |.pointer _,.ptr _ _,.Ei=>some false
   |.pointer e,.ptr i o,.ptr j p=>gd (Nat.beq i j) (ob (P.underlying e) λ_=>gd (!Nat.beq (P.cellsOf e) 0) (some (Nat.beq o p)))
   |.interface _,.DU,.DU=>some true
   |.interface _,.DU,.iface _ _=>some false
   |.interface _,.iface _ _,.DU=>some false
   |.interface _,.iface tx K,.iface ty J=>cond (Nat.beq tx ty) (ob (P.info? tx) λi=>gd i.comparable (r tx K J)) (some false)
   |.slice _,.AW,.AW=>some true
   |.slice _,.AW,.sl _ _ _ _=>some false
   |.slice _,.AW,.BK _ _ _ _=>some false
   |.slice _,.sl _ _ _ _,.AW=>some false
   |.slice _,.BK _ _ _ _,.AW=>some false
   |.slice _,.AW,.sle _=>some false
   |.slice _,.sle _,.AW=>some false
   |.map _ _,.EY,.EY=>some true
   |.map _ _,.EY,.map _=>some false
   |.map _ _,.map _,.EY=>some false
   |.func _ _ _,.F4,.F4=>some true
   |.func _ _ _,.F4,.fn _ _ _=>some false
   |.func _ _ _,.fn _ _ _,.F4=>some false
   |.struct fs,.agg B,.agg z=>gd (!P.stoodInHeld t) (RB P r B z fs.toList)
   |_,_,_=>none) f
theorem oG {l n x y:Nat} (h:n<256^l) (h':y<256^x): ((BJ l n).toList==(BJ x y).toList)=cond (Nat.beq l x) (Nat.beq n y) false:=by
 rw[oH,oH,Bool.eq_iff_iff,beq_iff_eq];constructor
 ·intro r;have hl:l=x:=by have:=congrArg List.length r;rwa[Pz,Pz]at this
  subst hl;have hn:=yL l n y h h' r;subst hn;simp
 ·intro r;cases hl:Nat.beq l x with
  |false=>rw[hl]at r;cases r
  |true=>rw[hl,cond_true,A0]at r;rw[A0]at hl;rw[hl,r]
theorem zy {P:Program} {ρ:Ak} {eq:TypeId->AV->AV->Option Bool} {D:Nat} {w:World} (hq:∀t x y b u v,eq t x y=some b->VR ρ x u->VR ρ y v->(Op.equalIn D t u v).run P w=.ok b w) {xs ys:Al} {us vs:List Value} (hx:AL ρ xs us) (hy:AL ρ ys vs):∀(fs:List Field) (b:Bool),RB P eq xs ys fs=some b->(Op.eqFields D us.toArray vs.toArray fs).run P w=.ok b w:=by
 intro fs
 induction fs with
 |nil=>intro b h;injection h with h;subst h;simp[Op.eqFields]
 |cons f fs ih=>
  intro b h
  have h' : cond (decide (f.name = "_")) (RB P eq xs ys fs) (ob (Kt P f.type xs f.offset) fun a => ob (Kt P f.type ys f.offset) fun b => ob (eq f.type a b) fun r => cond r (RB P eq xs ys fs) (some false)) = some b := h
  by_cases hn : f.name = "_"
  ·rw[BF hn,cond_true]at h';simp[Op.eqFields,hn,ih b h']
  ·rw[E7 hn,cond_false]at h';obtain⟨a,ha,h'⟩:=Ai.1 h';obtain⟨c,hc,h'⟩:=Ai.1 h';obtain⟨r,hr,h'⟩:=Ai.1 h';obtain⟨va,ha1,ha2⟩:=dB hx ha w;obtain⟨vc,hc1,hc2⟩:=dB hy hc w;have he:=hq _ _ _ _ _ _ hr ha2 hc2;cases r with
   |true=>simp[Op.eqFields,hn,ha1,hc1,he,ih b h']
   |false=>injection h' with h';subst h';simp[Op.eqFields,hn,ha1,hc1,he]
theorem AaL {P:Program} {t:TypeId} {fs:Array Field} (h:P.underlying t=some (.struct fs)):P.fieldsOf t=fs:=by simp[Program.fieldsOf,h]
set_option maxHeartbeats 1000000 in
theorem rZ {P:Program} {ρ:Ak} {w:World}:∀(f D:Nat),f<=D->∀(t:TypeId) (x y:AV) (b:Bool) (u v:Value),dA P f t x y=some b-> VR ρ x u->VR ρ y v->(Op.equalIn D t u v).run P w=.ok b w:=by
 intro f
 induction f with
 |zero=>intro D _ t x y b u v h;cases h
 |succ f ih=>
  intro D hD t x y b u v h r hy;cases D with
  |zero=>omega
  |succ D=>
   have h0:=Ai.1 h;clear h;obtain⟨d,hd,h⟩:=h0;have z:=ih D (by omega);split at h
   ·injection h with h;subst h;cases r;cases hy;rename_i a b;simp[Op.equalIn,run_underlying hd];cases a<;>cases b<;>rfl
   ·obtain⟨hk,h⟩:=AQ.1 h;injection h with h;subst h;cases r;cases hy;have:=PW hk;subst this;simp[Op.equalIn,run_underlying hd,DD]
   ·injection h with h;subst h;cases r;cases hy;rename_i V U;rw[<-oG V U];simp[Op.equalIn,run_underlying hd,beq_toListBytes]
   ·injection h with h;subst h;cases r;cases hy;simp[Op.equalIn,run_underlying hd]
   ·injection h with h;subst h;cases r;cases hy;simp[Op.equalIn,run_underlying hd]
   ·injection h with h;subst h;cases r;cases hy;simp[Op.equalIn,run_underlying hd]
   ·rename_i e i o j p;obtain⟨B,h⟩:=AQ.1 h;obtain⟨de,ad,h⟩:=Ai.1 h;obtain⟨hz,h⟩:=AQ.1 h;injection h with h;subst h;rw[A0]at B;subst B;cases r with
    |ptr _ _ S ae=>cases hy with
     |ptr _ _ b2 K=>
      rw[ae]at K;cases K;have W:P.cellsOf e≠0:=λR=>by rw[R]at hz;simp at hz
      have L:((⟨S.b,S.ob+o,none⟩:Addr)==⟨S.b,S.ob+p,none⟩)=Nat.beq o p:=by rw[Bool.eq_iff_iff,A0];simp
      simp[Op.equalIn,run_underlying hd,Ee ad,W,sameAddr,L]
   ·injection h with h;subst h;cases r;cases hy;simp[Op.equalIn,run_underlying hd]
   ·injection h with h;subst h;cases r;cases hy;simp[Op.equalIn,run_underlying hd]
   ·injection h with h;subst h;cases r;cases hy;simp[Op.equalIn,run_underlying hd]
   ·rename_i tx vx ty vy;cases r with
    |iface _ _ ux Z=>cases hy with
     |iface _ _ uy Y=>
      cases ht:Nat.beq tx ty with
      |false=>
       rw[ht,cond_false]at h;injection h with h;subst h;have:tx≠ty:=λR=>by rw[<-A0,ht]at R;cases R
       simp[Op.equalIn,run_underlying hd,this]
      |true=>rw[ht,cond_true]at h;rw[A0]at ht;subst ht;obtain⟨i,hi,h⟩:=Ai.1 h;obtain⟨hc,h⟩:=AQ.1 h;have:=z _ _ _ _ _ _ h Z Y;simp[Op.equalIn,run_underlying hd,run_typeInfo w hi,hc,this]
   all_goals first
    |(injection h with h;subst h;cases r;cases hy;simp[Op.equalIn,run_underlying hd];done)
    |skip
   ·obtain⟨hs,h⟩:=AQ.1 h;cases r with
    |agg _ us aa=>cases hy with
     |agg _ vs Az=>
      have J:=AaL hd;have ab:P.stoodInHeld t=false:=by simpa using hs
      rw[run_equalIn_struct w D t us.toArray vs.toArray (by rw[J];exact hd) ab,J];exact zy (λt x y b u v V U h3=>z t x y b u v V U h3) aa Az _ _ h
   ·cases h
end Go.Ev
end
section
namespace Go.Ev
def plain:AV->AV->Bool
 |.int _ _,.int _ _=>false
 |.str _ _,.str _ _=>false
 |.bs _,_=>false
 |_,.bs _=>false
 |_,_=>true
theorem binOp_eql {ρ:Ak} {a b:AV} {u v:Value} (r:VR ρ a u) (hy:VR ρ b v) (x:plain a b=true) (t:TypeId): binOp .eql t u v=(do pure (.bool (<-Op.equal t u v))):=by cases r<;>cases hy<;>first|rfl|(simp[plain]at x;done)
theorem binOp_neq {ρ:Ak} {a b:AV} {u v:Value} (r:VR ρ a u) (hy:VR ρ b v) (x:plain a b=true) (t:TypeId): binOp .neq t u v=(do pure (.bool (!(<-Op.equal t u v)))):=by cases r<;>cases hy<;>first|rfl|(simp[plain]at x;done)
def Ld:Operand->Bool
 |.const _=>true
 |_=>false
def Uh:BinOp->Bool
 |.eql|.neq=>true
 |_=>false
def RC (P:Program) (op:BinOp) (t:TypeId) (x r:Bool) (a b:AV):Bool:=
 match a,b with
 |.DU,.DU=>!Uh op||x||r
 |.agg _,.agg _=>!Uh op|| !P.eqGuardType P.depth t
 |_,_=>true
theorem Aan {P:Program} {ρ:Ak} {op:BinOp} {t:TypeId} {x y:Operand} {a b:AV} {u v:Value} (z:VR ρ a u) (hy:VR ρ b v) (h:RC P op t (Ld x) (Ld y) a b=true) (w:World):(eqGuard op t x y u v).run P w=.ok () w:=by
 cases op
 case eql=>
  cases z<;>cases hy<;>first
   |(simp[eqGuard];done)
   |skip
  ·cases x<;>cases y<;>first|(simp[RC,Uh,Ld]at h;done)|simp[eqGuard]
  ·simp only[RC,Uh,Bool.not_true,Bool.false_or]at h;have r:P.eqGuardType P.depth t=false:=by simpa using h
   exact run_eqGuard_agg w .eql t x y _ _ r
 case neq=>
  cases z<;>cases hy<;>first
   |(simp[eqGuard];done)
   |skip
  ·cases x<;>cases y<;>first|(simp[RC,Uh,Ld]at h;done)|simp[eqGuard]
  ·simp only[RC,Uh,Bool.not_true,Bool.false_or]at h;have r:P.eqGuardType P.depth t=false:=by simpa using h
   exact run_eqGuard_agg w .neq t x y _ _ r
 all_goals simp[eqGuard]
def Aaf (P:Program) (op:BinOp) (t:TypeId) (J B:Bool) (a b:AV):Option AV:=gd (RC P op t J B a b) (match a,b with
  |.int k m,.int z n=>match op with
   |.shl=>Up .shl k m n
   |.shr=>Up .shr k m n
   |op=>gd (Ni k z) (Um op k m n)
  |.str l n,.str y x=>sC op l n y x
  |a,b=>gd (plain a b) (match op with
   |.eql=>ob (dA P 8 t a b) λr=>some (.bool r)
   |.neq=>ob (dA P 8 t a b) λr=>some (.bool (!r))
   |_=>none))
theorem ra {P:Program} {ρ:Ak} {op:BinOp} {t:TypeId} {k:IntKind} {m n:Int} {r:AV} (B:op≠.shl) (y:op≠.shr) (h:Um op k m n=some r) (w:World): ∃u,(binOp op t (.int k m) (.int k n)).run P w=.ok u w/\VR ρ r u:=by
 cases op<;>simp only[Um,Nb,Y4,DD,EX]at h<;>first
  |(exact absurd rfl B)
  |(exact absurd rfl y)
  |(injection h with h;subst h;refine⟨_,?_,VR.int _ _⟩;simp[binOp,Op.intArith,Op.intBits];done)
  |(injection h with h;subst h;refine⟨_,?_,VR.bool _⟩;simp[binOp,Op.intCmp];done)
  |skip
 ·have x:=AQ.1 h;clear h;obtain⟨hz,h⟩:=x;injection h with h;subst h;have hn:n≠0:=by simpa using hz
  exact⟨_,by simp[binOp,Op.intDiv,hn],VR.int _ _⟩
 ·have x:=AQ.1 h;clear h;obtain⟨hz,h⟩:=x;injection h with h;subst h;have hn:n≠0:=by simpa using hz
  exact⟨_,by simp[binOp,Op.intDiv,hn],VR.int _ _⟩
 all_goals
  injection h with h;subst h;refine⟨_,?_,VR.bool _⟩;simp[binOp,Op.intCmp]
  try rfl
  try (by_cases J:m<n<;>by_cases z:n<m<;>simp[J,z]<;>omega)
theorem dC {P:Program} {ρ:Ak} {op:BinOp} {t:TypeId} {k x:IntKind} {m n:Int} {r:AV} (h:Up op k m n=some r) (w:World): ∃u,(binOp op t (.int k m) (.int x n)).run P w=.ok u w/\VR ρ r u:=by
 unfold Up at h;have y:=AQ.1 h;clear h;obtain⟨hz,h⟩:=y;have hn:¬n<0:=by simpa[EX]using hz
 split at h
 ·rw[Nb]at h;injection h with h;subst h;exact⟨_,by simp[binOp,Op.shift,hn],VR.int _ _⟩
 ·rw[Nb]at h;injection h with h;subst h;exact⟨_,by simp[binOp,Op.shift,hn],VR.int _ _⟩
 ·cases h
theorem Ah5 {P:Program} {ρ:Ak} {op:BinOp} {t:TypeId} {l n x y:Nat} {r:AV} (B:n<256^l) (z:y<256^x) (h:sC op l n x y=some r) (w:World): ∃u,(binOp op t (.string (BJ l n)) (.string (BJ x y))).run P w=.ok u w/\VR ρ r u:=by
 cases op<;>simp only[sC,Bv,<-oG B z]at h<;>first
  |(cases h;done)
  |(injection h with h;subst h;refine⟨_,?_,VR.bool _⟩;simp only[binOp,Op.stringOp,AeA,oH,Sem.run_pure];done)
  |skip
 ·have J:=AQ.1 h;clear h;obtain⟨hb,h⟩:=J;injection h with h;subst h;rw[UQ]at hb;have K:l+x<9223372036854775808:=by simpa using hb
  refine⟨_,?_,VR.str _ _ ?_⟩
  ·have:¬(((BJ l n).size+(BJ x y).size:Nat):Int)>IntKind.i64.max:=by rw[MZ,MZ];show¬((l+x:Nat):Int)>9223372036854775807;omega
   simp only[binOp,Op.stringOp,this,if_false,Agz _ _ _ _ B,Sem.run_pure]
  ·rw[Nat.pow_add];have:y+1<=256^x:=z
   calc n+y*256^l<256^l+y*256^l:=by omega
    _=(y+1)*256^l:=by rw[Nat.add_mul,Nat.one_mul,Nat.add_comm]
    _<=256^x*256^l:=Nat.mul_le_mul_right _ this
    _=256^l*256^x:=Nat.mul_comm _ _
theorem Ahy {P:Program} {ρ:Ak} {op:BinOp} {t:TypeId} {x y:Operand} {a b r:AV} {u v:Value} (J:VR ρ a u) (hy:VR ρ b v) (h:Aaf P op t (Ld x) (Ld y) a b=some r) (w:World): ∃z,(do eqGuard op t x y u v;binOp op t u v:Sem Value).run P w=.ok z w/\VR ρ r z:=by
 have B:=AQ.1 h;clear h;obtain⟨hg,h⟩:=B;have V:=Aan J hy hg w;have W:(∃z,(binOp op t u v).run P w=.ok z w/\VR ρ r z)->∃z,(do eqGuard op t x y u v;binOp op t u v:Sem Value).run P w=.ok z w/\VR ρ r z:=by rintro⟨z,R,L⟩;exact⟨z,by simp[V,R],L⟩
 apply W;split at h
 ·cases J;cases hy;split at h
  ·exact dC h w
  ·exact dC h w
  ·rename_i U S;have B:=AQ.1 h;clear h;obtain⟨Z,h⟩:=B;have:=PW Z;subst this;exact ra (λe=>U e) (λe=>S e) h w
 ·cases J with
  |str _ _ R=>cases hy with
   |str _ _ L=>exact Ah5 R L h w
 ·have B:=AQ.1 h;clear h;obtain⟨Y,h⟩:=B;split at h
  ·have B:=Ai.1 h;clear h;obtain⟨q,K,h⟩:=B;injection h with h;subst h;have:=rZ (w:=w) 8 10000 (by omega) t _ _ q u v K J hy;exact⟨.bool q,by rw[binOp_eql J hy Y];simp[Op.equal,Op.maxDepth,this],.bool _⟩
  ·have B:=Ai.1 h;clear h;obtain⟨q,K,h⟩:=B;injection h with h;subst h;have:=rZ (w:=w) 8 10000 (by omega) t _ _ q u v K J hy;exact⟨.bool (!q),by rw[binOp_neq J hy Y];simp[Op.equal,Op.maxDepth,this],.bool _⟩
  ·cases h
def Aaj (P:Program) (t:TypeId) (x:AV) (f:Nat):Option AV:=ob (P.underlying t) λd=>match d,x with
  |.struct fs,.agg cs=>ob (fs[f]?) λr=>Kt P r.type cs r.offset
  |_,_=>none
theorem AhL {P:Program} {ρ:Ak} {t:TypeId} {x r:AV} {f:Nat} {u:Value} (z:VR ρ x u) (h:Aaj P t x f=some r) (w:World): ∃v,(Instr.field t u f).run P w=.ok v w/\VR ρ r v:=by
 have y:=Ai.1 h;clear h;obtain⟨d,hd,h⟩:=y;split at h
 ·have y:=Ai.1 h;clear h;obtain⟨L,B,h⟩:=y;cases z with
  |agg _ vs Az=>obtain⟨v,K,J⟩:=dB Az h w;exact⟨v,by simp[Instr.field,run_underlying hd,B,asAgg,K],J⟩
 ·cases h
def r7 (P:Program) (t:TypeId) (x:AV) (f:Nat):Option AV:=
 match x with
 |.ptr id off=>ob (P.underlying t) λd=>match d with
  |.struct fs=>ob (fs[f]?) λr=>ob (P.underlying r.type) λ_=>gd (!Nat.beq (P.cellsOf r.type) 0) (fN (off+r.offset) λo=>some (.ptr id o))
  |_=>none
 |_=>none
theorem AhK {P:Program} {ρ:Ak} {t:TypeId} {x r:AV} {f:Nat} {u:Value} (J:VR ρ x u) (h:r7 P t x f=some r) (w:World): ∃v,(Instr.fieldAt t u f).run P w=.ok v w/\VR ρ r v:=by
 unfold r7 at h;split at h
 ·cases J with
  |ptr id off b hb=>
   have y:=Ai.1 h;clear h;obtain⟨d,hd,h⟩:=y;split at h
   ·have y:=Ai.1 h;clear h;obtain⟨R,L,h⟩:=y;obtain⟨S,B,h⟩:=Ai.1 h;have y:=AQ.1 h;clear h;obtain⟨hz,h⟩:=y;rw[Bv]at h;injection h with h;subst h;have z:P.cellsOf R.type≠0:=λK=>by rw[K]at hz;simp at hz
    refine⟨_,?_,.ptr _ _ b hb⟩;simp[Instr.fieldAt,run_underlying hd,L,Instr.sureAddr,fieldPlace,Ee B,z,Dd,Fu]
   ·cases h
 ·cases h
def Ul (P:Program) (t:TypeId) (x r:AV):Option AV:=
 match r with
 |.int _ (.ofNat i)=>ob (P.underlying t) λd=>match d,x with
  |.slice e,.sl id off len _=>gd (Nat.blt i len) (ob (P.underlying e) λ_=>fN (off+i*P.cellsOf e) λo=>some (.ptr id o))
  |.slice e,.BK id off len _=>gd (Nat.blt i len) (ob (P.underlying e) λ_=>fN (off+i*P.cellsOf e) λo=>some (.ptr id o))
  |.array len e,.ptr id off=>gd (Nat.blt i len) (ob (P.underlying e) λ_=>fN (off+i*P.cellsOf e) λo=>some (.ptr id o))
  |.array len e,.F6 g off=>gd (Nat.blt i len) (ob (P.underlying e) λ_=>fN (off+i*P.cellsOf e) λo=>some (.F6 g o))
  |_,_=>none
 |_=>none
theorem AhO {P:Program} {ρ:Ak} {t:TypeId} {x L r:AV} {u v:Value} (K:VR ρ x u) (hi:VR ρ L v) (h:Ul P t x L=some r) (w:World): ∃z,(Instr.indexAt t u v).run P w=.ok z w/\VR ρ r z:=by
 unfold Ul at h;split at h
 ·rename_i k i;cases hi;have B:=Ai.1 h;clear h;obtain⟨d,hd,h⟩:=B;split at h
  ·have B:=AQ.1 h;clear h;obtain⟨y,h⟩:=B;have B:=Ai.1 h;clear h;obtain⟨de,J,h⟩:=B;rw[Bv]at h;injection h with h;subst h;rw[CE]at y;cases K with
   |sl id off len cap b hb=>refine⟨_,?_,.ptr _ _ b hb⟩;simp[Instr.indexAt,asIntOf,run_underlying hd,Ee J,y,Dd,Fu]
  ·have B:=AQ.1 h;clear h;obtain⟨y,h⟩:=B;have B:=Ai.1 h;clear h;obtain⟨de,J,h⟩:=B;rw[Bv]at h;injection h with h;subst h;rw[CE]at y;cases K with
   |BK id off len Ax b hb R hl=>refine⟨_,?_,.ptr _ _ b hb⟩;simp[Instr.indexAt,asIntOf,run_underlying hd,Ee J,y,Dd,Fu]
  ·have B:=AQ.1 h;clear h;obtain⟨y,h⟩:=B;have B:=Ai.1 h;clear h;obtain⟨de,J,h⟩:=B;rw[Bv]at h;injection h with h;subst h;rw[CE]at y;cases K with
   |ptr id off b hb=>refine⟨_,?_,.ptr _ _ b hb⟩;simp[Instr.indexAt,asIntOf,run_underlying hd,Ee J,y,Dd,Fu,Instr.sureAddr]
  ·have B:=AQ.1 h;clear h;obtain⟨y,h⟩:=B;have B:=Ai.1 h;clear h;obtain⟨de,J,h⟩:=B;rw[Bv]at h;injection h with h;subst h;rw[CE]at y;cases K with
   |F6 g off=>refine⟨_,?_,.F6 _ _⟩;simp[Instr.indexAt,asIntOf,run_underlying hd,Ee J,y,Dd,Instr.sureAddr]
  ·cases h
 ·cases h
def r9 (P:Program) (t:TypeId) (x r:AV):Option AV:=
 match r with
 |.int _ (.ofNat i)=>ob (P.underlying t) λd=>match d,x with
  |.string,.str l n=>gd (Nat.blt i l) (fN (n/256^i %256) λc=>some (.int .u8 (.ofNat c)))
  |.array len e,.agg cs=>gd (Nat.blt i len) (ob (P.underlying e) λ_=>Kt P e cs (i*P.cellsOf e))
  |_,_=>none
 |_=>none
theorem AhP {P:Program} {ρ:Ak} {t:TypeId} {x S r:AV} {u v:Value} (U:VR ρ x u) (hi:VR ρ S v) (h:r9 P t x S=some r) (w:World): ∃z,(Instr.index t u v).run P w=.ok z w/\VR ρ r z:=by
 unfold r9 at h;split at h
 ·rename_i k i;cases hi;have B:=Ai.1 h;clear h;obtain⟨d,hd,h⟩:=B;split at h
  ·rename_i l n;have B:=AQ.1 h;clear h;obtain⟨y,h⟩:=B;rw[Bv]at h;injection h with h;subst h;rw[CE]at y;cases U with
   |str _ _ hn=>
    refine⟨.int .u8 (Int.ofNat (n/256^i %256)),?_,.int _ _⟩;have J:=MZ l n;have V:((BJ l n)[i]'(by rw[J];exact y))=UInt8.ofNat (n/256^i):=by
     have L:=bV l n i y;rw[<-Rp]at L;have K:(BJ l n).data.toList[i]? =some ((BJ l n)[i]'(by rw[J];exact y)):=by rw[Ce (by rw[Rp,Pz];exact y)];rfl
     rw[L]at K;exact(Option.some.inj K).symm
    rw[run_index_string w t (BJ l n) k (Int.ofNat i) hd,dif_pos (by rw[J];simp;exact y)];simp[V]
  ·have B:=AQ.1 h;clear h;obtain⟨y,h⟩:=B;have B:=Ai.1 h;clear h;obtain⟨de,R,h⟩:=B;rw[CE]at y;cases U with
   |agg _ vs Az=>obtain⟨z,L,K⟩:=dB Az h w;exact⟨z,by simp[Instr.index,asIntOf,run_underlying hd,Ee R,y,L],K⟩
  ·cases h
 ·cases h
def r6 (x:AV) (i:Nat):Option AV:=
 match x with
 |.AM vs=>vs[i]?
 |_=>none
theorem AhJ {P:Program} {ρ:Ak} {x r:AV} {i:Nat} {u:Value} (y:VR ρ x u) (h:r6 x i=some r) (w:World): ∃z,(Instr.extract u i).run P w=.ok z w/\VR ρ r z:=by
 unfold r6 at h;split at h
 ·cases y with
  |AM _ vs Az=>obtain⟨v,hv,B⟩:=Az.get i r h;exact⟨v,by simp[Instr.extract,hv],B⟩
 ·cases h
end Go.Ev
end
section
namespace Go.Ev
def F0 (X:Operand->Option AV) (l:List Operand):Option Al:=List.rec (motive:=λ_=>Option Al) (some []) (λx _ y=>ob (X x) λa=>ob y λr=>some (a::r)) l
theorem I6 {ρ:Ak} {X:Operand->Option AV} {f:Operand->Value} (y:XR ρ X f):∀ {l:List Operand} {r:Al},F0 X l=some r->AL ρ r (l.map f)
 | [],r,h=>by injection h with h;subst h;exact .nil
 |x::l,r,h=>by obtain⟨a,B,h⟩:=Ai.1 (show ob (X x) (λa=>ob (F0 X l) λr=>some (a::r))=some r from h);obtain⟨J,z,h⟩:=Ai.1 h;injection h with h;subst h;exact .cons _ _ _ _ (y _ _ B) (I6 y z)
def TP:AV->Option Nat
 |.int _ (.ofNat i)=>some i
 |_=>none
theorem oD {a:AV} {i:Nat} (h:TP a=some i):∃k,a=.int k (Int.ofNat i):=by
 unfold TP at h;split at h
 ·injection h with h;subst h;exact⟨_,rfl⟩
 ·cases h
def EJ (X:Operand->Option AV) (x:Option Operand) (r lim:Nat):Option Nat:=
 match x with
 |none=>some r
 |some o=>ob (X o) λa=>ob (TP a) λi=>gd (Nat.ble i lim) (some i)
theorem Aae {X:Operand->Option AV} {o:Operand} {d lim i:Nat} (h:EJ X (some o) d lim=some i):i<=lim/\∃k,X o=some (.int k (Int.ofNat i)):=by obtain⟨a,B,K⟩:=Ai.1 (show(ob (X o) λa=>ob (TP a) λi=>gd (Nat.ble i lim) (some i))=some i from h);obtain⟨j,z,J⟩:=Ai.1 K;obtain⟨x,r⟩:=AQ.1 J;injection r with r;subst r;obtain⟨k,y⟩:=oD z;exact⟨by rwa[Nat.ble_eq]at x,k,by rw[B,y]⟩
theorem Uk {P:Program} {ρ:Ak} {X:Operand->Option AV} {f:Operand->Value} (z:XR ρ X f) {o:Operand} {d lim i:Nat} (h:EJ X (some o) d lim=some i) (w:World) (y:Nat) (hy:lim<=y) (code:BoundsCode):(Instr.sliceBound (f o) y code).run P w=.ok i w:=by
 obtain⟨B,k,x⟩:=Aae h;have r:=z _ _ x;generalize f o=v at r;cases r;have:((i:Int)<=(y:Int)):=by omega
 simp[Instr.sliceBound,asIntOf];omega
def da (mx:Option Operand) (m lim:Nat):Nat:=
 match mx with
 |some _=>m
 |none=>lim
theorem S5 {P:Program} {ρ:Ak} {X:Operand->Option AV} {f:Operand->Value} (B:XR ρ X f) {lo hi mx:Option Operand} {len cap lim l h m:Nat} (A5:Bool) (y:EJ X mx cap lim=some m) (z:lim<=cap) (x:EJ X hi len (da mx m lim)=some h) (r:EJ X lo 0 h=some l) (K:mx.isSome=true->hi.isSome=true) (w:World): (Instr.sliceBounds A5 len cap (lo.map f) (hi.map f) (mx.map f)).run P w=.ok (l,h,m) w:=by
 unfold Instr.sliceBounds;cases mx with
 |none=>
  injection y with y;subst y;cases hi with
  |none=>
   injection x with x;subst x;cases lo with
   |none=>injection r with r;subst r;simp
   |some o=>simp[Uk B r w _ (AH _)]
  |some R=>
   have J:=λc=>Uk (P:=P) B x w cap z c;cases lo with
   |none=>injection r with r;subst r;simp[J]
   |some o=>simp[J,Uk B r w _ (AH _)]
 |some S=>
  have L:=λc=>Uk (P:=P) B y w cap z c;cases hi with
  |none=>exact absurd (K rfl) (by simp)
  |some R=>
   have J:=λc=>Uk (P:=P) B x w m (AH _) c;cases lo with
   |none=>injection r with r;subst r;simp[L,J]
   |some o=>simp[L,J,Uk B r w _ (AH _)]
def Xc (P:Program) (X:Operand->Option AV) (t:TypeId) (x:AV) (lo hi mx:Option Operand):Option AV:=ob (P.underlying t) λd=>gd (!mx.isSome||hi.isSome) (match d,x with
  |.string,.str len n=>gd (!mx.isSome) (ob (EJ X hi len len) λh=>ob (EJ X lo 0 h) λl=>fN (n/256^l %256^(h-l)) λs=>some (.str (h-l) s))
  |.slice e,.sl id off len cap=>ob (P.underlying e) λ_=>ob (EJ X mx cap cap) λm=>ob (EJ X hi len (da mx m cap)) λh=>ob (EJ X lo 0 h) λl=>cond (Nat.beq m l) (fN (h-l) λr=>some (.sl id off r 0)) (fN (off+l*P.cellsOf e) λo=>fN (h-l) λr=>fN (m-l) λy=>some (.sl id o r y))
  |.slice e,.BK id off len Ax=>ob (P.underlying e) λ_=>gd (Nat.beq (P.cellsOf e) Ax) (match mx with
    |none=>ob (EJ X hi len len) λh=>ob (EJ X lo 0 h) λl=>cond (Nat.blt l len||Nat.beq l 0)
      (fN (off+l*Ax) λo=>fN (h-l) λr=>some (.BK id o r Ax)) (some (.sle id))
    |some _=>ob (EJ X mx 0 len) λm=>ob (EJ X hi len m) λh=>ob (EJ X lo 0 h) λl=>cond (Nat.beq m l) (fN (h-l) λr=>some (.sl id off r 0)) (fN (off+l*Ax) λo=>fN (h-l) λr=>fN (m-l) λy=>some (.sl id o r y)))
  |.slice e,.sle id=>ob (P.underlying e) λ_=>gd (!mx.isSome) (ob (EJ X hi 0 0) λh=>ob (EJ X lo 0 h) λ_=>some (.sle id))
  |.slice e,.AW=>ob (P.underlying e) λ_=>ob (EJ X mx 0 0) λm=>ob (EJ X hi 0 (da mx m 0)) λh=>ob (EJ X lo 0 h) λ_=>some .AW
  |.array n e,.ptr id off=>ob (P.underlying e) λ_=>ob (EJ X mx n n) λm=>ob (EJ X hi n (da mx m n)) λh=>ob (EJ X lo 0 h) λl=>cond (Nat.beq m l) (fN (h-l) λr=>some (.sl id off r 0)) (fN (off+l*P.cellsOf e) λo=>fN (h-l) λr=>fN (m-l) λy=>some (.sl id o r y))
  |_,_=>none)
theorem M9 {X:Operand->Option AV} {x:Option Operand} {d lim i:Nat} (hd:d<=lim) (h:EJ X x d lim=some i):i<=lim:=by
 cases x with
 |none=>injection h with h;omega
 |some o=>exact(Aae h).1
theorem wM {ρ:Ak} {id off l m x Ax:Nat} {b:CD} {r:AV} (hb:ρ id=some b) (h:cond (Nat.beq m l) (fN x λx=>some (AV.sl id off x 0)) (fN (off+l*Ax) λo=>fN x λx=>fN (m-l) λy=>some (AV.sl id o x y))=some r): VR ρ r (.slice (some (if m=l then⟨b.b,b.ob+off,none⟩else⟨b.b,b.ob+(off+l*Ax),none⟩)) x (m-l)):=by
 simp only[Bv]at h;cases hm:Nat.beq m l with
 |true=>rw[hm,cond_true]at h;injection h with h;subst h;rw[A0]at hm;subst hm;rw[As rfl,Of];exact .sl _ _ _ _ b hb
 |false=>
  rw[hm,cond_false]at h;injection h with h;subst h;have:m≠l:=λe=>by rw[<-A0,hm]at e;cases e
  rw[An this];exact .sl _ _ _ _ b hb
set_option maxHeartbeats 1000000 in
theorem Ah3 {P:Program} {ρ:Ak} {X:Operand->Option AV} {f:Operand->Value} (hX:XR ρ X f) {t:TypeId} {x r:AV} {lo hi mx:Option Operand} {u:Value} (hx:VR ρ x u) (h:Xc P X t x lo hi mx=some r) (w:World):∃z,(Instr.sliceAt t u (lo.map f) (hi.map f) (mx.map f)).run P w=.ok z w/\VR ρ r z:=by
 obtain⟨d,hd,h1⟩:=Ai.1 h;clear h;obtain⟨ab,U⟩:=AQ.1 h1;clear h1;have aa:mx.isSome=true->hi.isSome=true:=by intro hm;rw[hm]at ab;simpa using ab
 split at U
 ·obtain⟨ae,V⟩:=AQ.1 U;obtain⟨Y,y,S⟩:=Ai.1 V;obtain⟨il,J,R⟩:=Ai.1 S;clear U V S;rw[Bv]at R;injection R with R;subst R;cases mx with
  |some _=>simp at ae
  |none=>
   cases hx with
   |str _ _ hn=>
    rename_i len n;have hb:=S5 (P:=P) hX (lo:=lo) (hi:=hi) (mx:=none) (len:=len) (cap:=len) (lim:=len) false rfl (AH _) y J (by simp) w;have h1:=M9 (AH _) y;have U:=M9 (BL _) J;refine⟨_,?_,.str _ _ (Nat.mod_lt _ (Nat.pow_pos (by decide)))⟩;have ah:(Instr.sliceBounds false (BJ len n).size (BJ len n).size (lo.map f) (hi.map f) none).run P w=.ok (il,Y,len) w:=by rw[MZ];exact hb
    simp[Instr.sliceAt,Instr.slice,run_underlying hd,ah,AgA _ _ _ _ h1 U]
 ·obtain⟨de,K,V⟩:=Ai.1 U;obtain⟨m,hm,S⟩:=Ai.1 V;obtain⟨Y,y,R⟩:=Ai.1 S;obtain⟨il,J,L⟩:=Ai.1 R;clear U V S R;cases hx with
  |sl _ _ _ _ b hb=>have B:=S5 (P:=P) hX true hm (AH _) y J aa w;refine⟨_,?_,wM hb L⟩;simp[Instr.sliceAt,Instr.slice,run_underlying hd,B,Ee K,Dd,Fu];split<;>simp
 ·obtain⟨de,K,V⟩:=Ai.1 U;obtain⟨Z,S⟩:=AQ.1 V;clear U V;rw[A0]at Z;cases hx with
  |BK _ _ _ _ b hb he hl=>
   rename_i e id off len Ax;have ad:len<=(b.cap-off)/Ax:=by rw[Nat.le_div_iff_mul_le he];omega
   split at S
   ·obtain⟨Y,y,R⟩:=Ai.1 S;obtain⟨il,J,L⟩:=Ai.1 R;clear S R;have B:=S5 (P:=P) hX (lo:=lo) (hi:=hi) (mx:=none) (len:=len) (cap:=(b.cap-off)/Ax) (lim:=len) true rfl ad y J (by simp) w;simp only[Option.map_none]at B;have h1:=M9 (AH _) y;have U:=M9 (BL _) J;cases W:(Nat.blt il len||Nat.beq il 0)with
    |true=>
     rw[W,cond_true]at L;have ag:=W;simp only[Bv]at L;injection L with L;subst L;have ak:il*Ax<=Y*Ax:=Nat.mul_le_mul_right _ U;have aj:Y*Ax<=len*Ax:=Nat.mul_le_mul_right _ h1;have ai:(Y-il)*Ax=Y*Ax-il*Ax:=Nat.sub_mul _ _ _;have hv:=VR.BK (ρ:=ρ) id (off+il*Ax) (Y-il) Ax b hb he (by omega);have hc:(b.cap-(off+il*Ax))/Ax=(b.cap-off)/Ax-il:=by rw[show b.cap-(off+il*Ax)=b.cap-off-il*Ax by omega,Nat.mul_comm,Nat.sub_mul_div]
     rw[hc]at hv;refine⟨_,?_,hv⟩;by_cases h0:(b.cap-off)/Ax=il
     ·have:il=0:=by
       rcases Bool.or_eq_true _ _▸ag with h|h
       ·rw[CE]at h;omega
       ·rwa[A0]at h
      subst this;simp[Instr.sliceAt,Instr.slice,run_underlying hd,B,Ee K,Dd,Fu,Z]
     ·simp[Instr.sliceAt,Instr.slice,run_underlying hd,B,Ee K,Dd,Fu,Z,h0]
    |false=>
     rw[W,cond_false]at L;injection L with L;subst L;have hz:¬il<len:=λhh=>by rw[<-CE]at hh;rw[hh]at W;cases W
     have e1:Y-il=0:=by omega
     refine⟨.slice (some ⟨b.b,if(b.cap-off)/Ax=il then b.ob+off else b.ob+(off+il*Ax),none⟩) 0 ((b.cap-off)/Ax-il),?_,.sle _ _ _ _ hb⟩;by_cases h0:(b.cap-off)/Ax=il
     ·rw[h0]at B;simp[Instr.sliceAt,Instr.slice,run_underlying hd,B,Ee K,Dd,Fu,Z,h0,e1]
     ·simp[Instr.sliceAt,Instr.slice,run_underlying hd,B,Ee K,Dd,Fu,Z,h0,e1]
   ·rename_i om;obtain⟨m,hm,R⟩:=Ai.1 S;obtain⟨Y,y,L⟩:=Ai.1 R;obtain⟨il,J,h7⟩:=Ai.1 L;clear S R L;have af:EJ X (some om) ((b.cap-off)/Ax) len=some m:=hm;have B:=S5 (P:=P) hX (len:=len) true af ad y J aa w;refine⟨_,?_,wM hb h7⟩;simp only[Option.map_some]at B;simp[Instr.sliceAt,Instr.slice,run_underlying hd,B,Ee K,Dd,Fu,Z];split<;>simp
 ·obtain⟨de,K,V⟩:=Ai.1 U;obtain⟨ae,S⟩:=AQ.1 V;obtain⟨Y,y,R⟩:=Ai.1 S;obtain⟨il,J,L⟩:=Ai.1 R;clear U V S R;injection L with L;subst L;cases mx with
  |some _=>simp at ae
  |none=>
   cases hx with
   |sle _ b o c hb=>
    have B:=S5 (P:=P) hX (lo:=lo) (hi:=hi) (mx:=none) (len:=0) (cap:=c) (lim:=0) true rfl (BL _) y J (by simp) w;simp only[Option.map_none]at B;have h1:=M9 (AH _) y;have U:=M9 (BL _) J;have e1:Y=0:=by omega
    have e2:il=0:=by omega
    subst e1;subst e2;refine⟨.slice (some ⟨b.b,o,none⟩) 0 c,?_,.sle _ _ _ _ hb⟩;simp[Instr.sliceAt,Instr.slice,run_underlying hd,B,Ee K,Dd]
 ·obtain⟨de,K,V⟩:=Ai.1 U;obtain⟨m,hm,S⟩:=Ai.1 V;obtain⟨Y,y,R⟩:=Ai.1 S;obtain⟨il,J,L⟩:=Ai.1 R;clear U V S R;injection L with L;subst L;cases hx;have B:=S5 (P:=P) hX true hm (AH _) y J aa w;have h1:=M9 (AH _) hm;have U:Y<=0:=by
   cases mx with
   |none=>exact M9 (AH _) y
   |some _=>exact Ho (M9 (BL _) y) h1
  have V:=M9 (BL _) J;have e1:m=0:=by omega
  have e2:Y=0:=by omega
  have e3:il=0:=by omega
  subst e1;subst e2;subst e3;refine⟨_,?_,.AW⟩;simp[Instr.sliceAt,Instr.slice,run_underlying hd,B,Ee K]
 ·obtain⟨de,K,V⟩:=Ai.1 U;obtain⟨m,hm,S⟩:=Ai.1 V;obtain⟨Y,y,R⟩:=Ai.1 S;obtain⟨il,J,L⟩:=Ai.1 R;clear U V S R;cases hx with
  |ptr _ _ b hb=>have B:=S5 (P:=P) hX false hm (AH _) y J aa w;refine⟨_,?_,wM hb L⟩;simp[Instr.sliceAt,Instr.sureAddr,run_underlying hd,B,Ee K,Dd,Fu]
 ·cases U
def rV (P:Program) (y dst:TypeId) (x:AV):Option AV:=ob (P.underlying y) λ_=>ob (P.underlying dst) λd=>match d,x with
  |.int k,.int _ n=>fI (wr k n) λr=>some (.int k r)
  |.string,.str l n=>some (.str l n)
  |_,_=>none
theorem Aai {P:Program} {ρ:Ak} {B dst:TypeId} {x r:AV} {u:Value} (L:VR ρ x u) (h:rV P B dst x=some r) (w:World): ∃z,(convert B dst u).run P w=.ok z w/\VR ρ r z:=by
 obtain⟨S,J,R⟩:=Ai.1 h;obtain⟨U,K,y⟩:=Ai.1 R;clear h R;split at y
 ·rw[Nb,Y4]at y;injection y with y;subst y;cases L;exact⟨_,by simp[convert,run_underlying J,run_underlying K,Conv.intToInt],.int _ _⟩
 ·injection y with y;subst y;cases L with
  |str _ _ hn=>exact⟨_,by simp[convert,run_underlying J,run_underlying K],.str _ _ hn⟩
 ·cases y
def iA (kd:TypeDesc) (a b:AV):Option Bool:=
 match kd,a,b with
 |.int _,.int k a,.int y b=>gd (Ni k y) (some (Au a b))
 |.string,.str l n,.str x r=>some (cond (Nat.beq l x) (Nat.beq n r) false)
 |.bool,.bool a,.bool b=>some (cond a b (!b))
 |_,_,_=>none
theorem ApJ {ρ:Ak} {kd:TypeDesc} {a b:AV} {u v:Value} {r:Bool} (y:VR ρ a u) (hb:VR ρ b v) (h:iA kd a b=some r):Instr.sameNow kd u v=some r:=by
 unfold iA at h;split at h
 ·obtain⟨B,x⟩:=AQ.1 h;clear h;have z:=PW B;subst z;injection x with x;subst x;cases y;cases hb;simp[Instr.sameNow,DD]
 ·injection h with h;subst h;cases y with
  |str _ _ x=>cases hb with
   |str _ _ J=>rw[<-oG x J];simp[Instr.sameNow,beq_toListBytes]
 ·injection h with h;subst h;cases y;cases hb;rename_i a b;cases a<;>cases b<;>rfl
 ·cases h
def dH (kd:TypeDesc) (k:AV) (y:List Di):Nat->Option (Option (Nat×AV)):=List.rec (motive:=λ_=>Nat->Option (Option (Nat×AV))) (λ_=>some none) (λe _ x i=>ob (iA kd k e.key) λr=>cond r (some (some (i,e.val))) (x (i+1))) y
theorem sM {ρ:Ak} {kd:TypeDesc} {k:AV} {u:Value} (J:VR ρ k u):∀ {z:List Di} {l:List MapEntry},D3 ρ z l->∀(i:Nat) (r:Option (Nat×AV)),dH kd k z i=some r->∃x,Instr.findNow kd u l i=some x/\(match r with|none=>x=none|some (j,a)=>∃v,x=some (j,v)/\VR ρ a v)
 |_,_,.nil,i,r,h=>by injection h with h;subst h;exact⟨none,rfl,rfl⟩
 |_,_,.cons e m z l K L,i,r,h=>by
  obtain⟨s,B,y⟩:=Ai.1 (show ob (iA kd k e.key) (λr=>cond r (some (some (i,e.val))) (dH kd k z (i+1)))=some r from h);have hn:=ApJ J K.1 B;cases s with
  |true=>injection y with y;subst y;exact⟨some (i,m.val),by simp[Instr.findNow,hn],m.val,rfl,K.2.1⟩
  |false=>obtain⟨x,S,R⟩:=sM J L (i+1) r y;exact⟨x,by simp[Instr.findNow,hn,S],R⟩
def Xt:TypeDesc->Bool
 |.int _|.string|.bool=>true
 |_=>false
theorem cU {P:Program} {t:TypeId} {d:TypeDesc} (hd:P.underlying t=some d) (r:Xt d=true) (e:Bool) (n:Nat) (v:Value) (w:World): (Instr.checkKey e (n+1) t v).run P w=.ok () w:=by cases d<;>first|(cases r;done)|(simp[Instr.checkKey,run_underlying hd])
def Pl (P:Program) (t:TypeId):Option AV:=ob (P.info? t) λi=>ob i.zero λz=>ofValue z
theorem Pm {P:Program} {t:TypeId} {a:AV} (h:Pl P t=some a) (w:World):∃z,(zeroValue t).run P w=.ok z w/\∀ρ:Ak,VR ρ a z:=by obtain⟨i,hi,x⟩:=Ai.1 h;obtain⟨z,hz,r⟩:=Ai.1 x;exact⟨z,by simp[zeroValue,run_typeInfo w hi,hz],λρ=>AcT r⟩
def Aas (P:Program) (H:Tr Ah) (t:TypeId) (m k:AV) (ok:Bool):Option AV:=ob (P.underlying t) λd=>match d with
  |.map key x=>ob (P.underlying key) λkd=>gd (Xt kd) (ob (match m with
    |.EY=>some []
    |.map id=>ob (H.get id) λo=>match o with
     |.map y _=>some y
     |_=>none
    |_=>none) λy=>ob (dH kd k y 0) λr=>ob (match r with
     |some (_,v)=>some (v,true)
     |none=>ob (Pl P x) λz=>some (z,false)) λp=>some (cond ok (.AM [p.1,.bool p.2]) p.1))
  |_=>none
theorem AhR {P:Program} {E:Env} {F:Nat->Option Obj} {nx:Nat} {ρ:Ak} {h:Nat->Option Ah} {w:World} {H:Tr Ah} (r:Rel E F nx ρ h w) (hs:HS ρ H h) {t:TypeId} {m k a:AV} {ok:Bool} {u v:Value} (hm:VR ρ m u) (hk:VR ρ k v) (V:Aas P H t m k ok=some a):∃z,(Instr.lookup t u v ok).run P w=.ok z w/\VR ρ a z:=by
 obtain⟨d,hd,Y⟩:=Ai.1 V;clear V;split at Y
 ·rename_i key af;obtain⟨kd,x,h2⟩:=Ai.1 Y;obtain⟨ad,h3⟩:=AQ.1 h2;obtain⟨es,J,h4⟩:=Ai.1 h3;obtain⟨fr,ae,h5⟩:=Ai.1 h4;obtain⟨p,R,h6⟩:=Ai.1 h5;clear Y h2 h3 h4 h5;injection h6 with h6;subst h6;have W:∀l:List MapEntry,D3 ρ es l->(u=.map none/\l=[]\/∃b clock,u=.map (some b)/\w.heap[b]? =some (.map l.toArray clock))-> ∃z,(Instr.lookup t u v ok).run P w=.ok z w/\VR ρ (cond ok (.AM [p.1,.bool p.2]) p.1) z:=by
   intro l hl hu;obtain⟨r',y,U⟩:=sM hk hl 0 fr ae;have B:=λe=>cU (P:=P) x ad e 9999 v w;split at R
   ·rename_i j val;injection R with R;subst R;obtain⟨z,hz,K⟩:=U;subst hz;cases ok with
    |true=>
     refine⟨.tuple #[z,.bool true],?_,.AM _ [z,.bool true] (.cons _ _ _ _ K (.cons _ _ _ _ (.bool true) .nil))⟩;rcases hu with⟨rfl,rfl⟩|⟨b,clock,rfl,hb⟩
     ·simp[Instr.lookup,run_underlying hd,B,Instr.findKey,run_underlying x,y]
     ·simp[Instr.lookup,run_underlying hd,B,Instr.findKey,run_underlying x,y,getObj,Sem.run,hb]
    |false=>
     refine⟨z,?_,K⟩;rcases hu with⟨rfl,rfl⟩|⟨b,clock,rfl,hb⟩
     ·simp[Instr.lookup,run_underlying hd,B,Instr.findKey,run_underlying x,y]
     ·simp[Instr.lookup,run_underlying hd,B,Instr.findKey,run_underlying x,y,getObj,Sem.run,hb]
   ·obtain⟨z,hz,h8⟩:=Ai.1 R;injection h8 with h8;subst h8;have aa:r'=none:=U;subst aa;obtain⟨Z,L,K⟩:=Pm hz w;cases ok with
    |true=>
     refine⟨.tuple #[Z,.bool false],?_,.AM _ [Z,.bool false] (.cons _ _ _ _ (K ρ) (.cons _ _ _ _ (.bool false) .nil))⟩;rcases hu with⟨rfl,rfl⟩|⟨b,clock,rfl,hb⟩
     ·simp[Instr.lookup,run_underlying hd,B,Instr.findKey,run_underlying x,y,L]
     ·simp[Instr.lookup,run_underlying hd,B,Instr.findKey,run_underlying x,y,getObj,Sem.run,hb,L]
    |false=>
     refine⟨Z,?_,K ρ⟩;rcases hu with⟨rfl,rfl⟩|⟨b,clock,rfl,hb⟩
     ·simp[Instr.lookup,run_underlying hd,B,Instr.findKey,run_underlying x,y,L]
     ·simp[Instr.lookup,run_underlying hd,B,Instr.findKey,run_underlying x,y,getObj,Sem.run,hb,L]
  split at J
  ·injection J with J;subst J;cases hm;exact W [] .nil (.inl ⟨rfl,rfl⟩)
  ·obtain⟨o,ho,S⟩:=Ai.1 J;cases hm with
   |map _ b hb=>
    obtain⟨c,hc,ab⟩:=r.ob _ o b (hs _ o ho (.inl ⟨b,hb⟩)) hb;split at S
    ·injection S with S;subst S;cases ab with
     |map es clock l hl=>exact W l hl (.inr ⟨_,_,rfl,hc⟩)
    ·cases S
  ·cases J
 ·cases Y
end Go.Ev
end
section
namespace Go.Ev
def Aaq (P:Program) (H:Tr Ah) (t:TypeId) (x:AV):Option AV:=ob (P.underlying t) λd=>match d,x with
  |.string,.str l _=>some (Jk l)
  |.slice _,.AW=>some (Jk 0)
  |.slice _,.sl _ _ n _=>some (Jk n)
  |.slice _,.BK _ _ n _=>some (Jk n)
  |.slice _,.sle _=>some (Jk 0)
  |.array n _,_=>some (Jk n)
  |.map _ _,.EY=>some (Jk 0)
  |.map _ _,.map id=>ob (H.get id) λo=>match o with
   |.map es _=>some (Jk es.length)
   |_=>none
  |_,_=>none
theorem AhQ {P:Program} {E:Env} {F:Nat->Option Obj} {nx:Nat} {ρ:Ak} {h:Nat->Option Ah} {w:World} {H:Tr Ah} (r:Rel E F nx ρ h w) (V:HS ρ H h) {t:TypeId} {x a:AV} {u:Value} (B:VR ρ x u) (K:Aaq P H t x=some a) (U S:Array _) (ty:TypeId) (ht:U[0]? =some t) (hu:S[0]? =some u): ∃z,(Builtin.len_ U ty S).run P w=.ok z w/\VR ρ a z:=by
 obtain⟨d,hd,y⟩:=Ai.1 K;clear K;split at y
 ·injection y with y;subst y;cases B;exact⟨_,by simp[Builtin.len_,ht,hu,run_underlying hd,MZ,goInt],.int _ _⟩
 ·injection y with y;subst y;cases B;exact⟨_,by simp[Builtin.len_,ht,hu,run_underlying hd,goInt],.int _ _⟩
 ·injection y with y;subst y;cases B;exact⟨_,by simp[Builtin.len_,ht,hu,run_underlying hd,goInt],.int _ _⟩
 ·injection y with y;subst y;cases B;exact⟨_,by simp[Builtin.len_,ht,hu,run_underlying hd,goInt],.int _ _⟩
 ·injection y with y;subst y;cases B;exact⟨_,by simp[Builtin.len_,ht,hu,run_underlying hd,goInt],.int _ _⟩
 ·injection y with y;subst y;exact⟨_,by simp[Builtin.len_,ht,hu,run_underlying hd,goInt],.int _ _⟩
 ·injection y with y;subst y;cases B;exact⟨_,by simp[Builtin.len_,ht,hu,run_underlying hd,goInt],.int _ _⟩
 ·obtain⟨o,W,J⟩:=Ai.1 y;cases B with
  |map _ b hb=>
   obtain⟨c,hc,L⟩:=r.ob _ o b (V _ o W (.inl ⟨b,hb⟩)) hb;split at J
   ·injection J with J;subst J;cases L with
    |map Y R l hl=>exact⟨_,by simp[Builtin.len_,ht,hu,run_underlying hd,goInt,getObj,Sem.run,hc,<-hl.length],.int _ _⟩
   ·cases J
 ·cases y
def Aag (P:Program) (t:TypeId) (x:AV):Option AV:=ob (P.underlying t) λd=>match d,x with
  |.slice _,.AW=>some (Jk 0)
  |.slice _,.sl _ _ _ c=>some (Jk c)
  |_,_=>none
theorem AhB {P:Program} {ρ:Ak} {t:TypeId} {x a:AV} {u:Value} (K:VR ρ x u) (y:Aag P t x=some a) (J B:Array _) (ty:TypeId) (ht:J[0]? =some t) (hu:B[0]? =some u) (w:World): ∃z,(Builtin.cap_ J ty B).run P w=.ok z w/\VR ρ a z:=by
 obtain⟨d,hd,r⟩:=Ai.1 y;clear y;split at r
 ·injection r with r;subst r;cases K;exact⟨_,by simp[Builtin.cap_,ht,hu,run_underlying hd,goInt],.int _ _⟩
 ·injection r with r;subst r;cases K;exact⟨_,by simp[Builtin.cap_,ht,hu,run_underlying hd,goInt],.int _ _⟩
 ·cases r
def rj (r:Al):Option AV:=
 match r with
 | [.int k x,.int _ y]=>some (.int k (cond (AP y x) y x))
 |_=>none
def ri (r:Al):Option AV:=
 match r with
 | [.int k x,.int _ y]=>some (.int k (cond (AP x y) y x))
 |_=>none
theorem AhT {P:Program} {ρ:Ak} {x:Al} {a:AV} {y:List Value} (J:AL ρ x y) (h:rj x=some a) (B:Array TypeId) (ty:TypeId) (w:World): ∃z,(Builtin.min_ B ty y.toArray).run P w=.ok z w/\VR ρ a z:=by
 unfold rj at h;split at h
 ·injection h with h;subst h;cases J with
  |cons _ _ _ _ L r=>cases r with
   |cons _ _ _ _ K r=>cases r;cases L;cases K;exact⟨_,by simp[Builtin.min_,Builtin.min2,EX,Bool.cond_eq_ite],.int _ _⟩
 ·cases h
theorem AhS {P:Program} {ρ:Ak} {x:Al} {a:AV} {y:List Value} (J:AL ρ x y) (h:ri x=some a) (B:Array TypeId) (ty:TypeId) (w:World): ∃z,(Builtin.max_ B ty y.toArray).run P w=.ok z w/\VR ρ a z:=by
 unfold ri at h;split at h
 ·injection h with h;subst h;cases J with
  |cons _ _ _ _ L r=>cases r with
   |cons _ _ _ _ K r=>cases r;cases L;cases K;exact⟨_,by simp[Builtin.max_,Builtin.max2,EX,Bool.cond_eq_ite],.int _ _⟩
 ·cases h
def rP (P:Program) (H:Tr Ah) (b:Builtin) (y:List TypeId) (r:Al):Option AV:=
 match b with
 |.len=>ob (y[0]?) λt=>ob (r[0]?) λx=>Aaq P H t x
 |.cap=>ob (y[0]?) λt=>ob (r[0]?) λx=>Aag P t x
 |.min=>rj r
 |.max=>ri r
 |_=>none
theorem Ahx {P:Program} {E:Env} {F:Nat->Option Obj} {nx:Nat} {ρ:Ak} {h:Nat->Option Ah} {w:World} {H:Tr Ah} (r:Rel E F nx ρ h w) (Z:HS ρ H h) {b:Builtin} {L:List TypeId} {Y:Al} {a:AV} {R:List Value} (S:AL ρ Y R) (y:rP P H b L Y=some a) (ty:TypeId) (cs:Array Bool): ∃z,(builtin b L.toArray ty cs R.toArray).run P w=.ok (.value z) w/\VR ρ a z:=by
 unfold rP at y;split at y
 ·obtain⟨t,ht,W⟩:=Ai.1 y;obtain⟨x,K,V⟩:=Ai.1 W;obtain⟨u,hu,U⟩:=S.get 0 x K;obtain⟨z,J,B⟩:=AhQ r Z U V L.toArray R.toArray ty (by simpa using ht) (by simpa using hu);exact⟨z,by simp[builtin,J],B⟩
 ·obtain⟨t,ht,W⟩:=Ai.1 y;obtain⟨x,K,V⟩:=Ai.1 W;obtain⟨u,hu,U⟩:=S.get 0 x K;obtain⟨z,J,B⟩:=AhB (P:=P) U V L.toArray R.toArray ty (by simpa using ht) (by simpa using hu) w;exact⟨z,by simp[builtin,J],B⟩
 ·obtain⟨z,J,B⟩:=AhT (P:=P) S y L.toArray ty w;exact⟨z,by simp[builtin,J],B⟩
 ·obtain⟨z,J,B⟩:=AhS (P:=P) S y L.toArray ty w;exact⟨z,by simp[builtin,J],B⟩
 ·cases y
theorem map_toArray {α r:Type} (a:Array α) (f:α->r):(a.toList.map f).toArray=a.map f:=by rw[<-Array.toList_map,Array.toArray_toList]
def AbI:Fn->Bool
 |.method _=>true
 |_=>false
def rn (x:AV):Option AV:=
 match x with
 |.ptr id off=>some (.ptr id off)
 |.iface t v=>some (.iface t v)
 |.fn f a c=>gd (!AbI f) (some (.fn f a c))
 |.Cv id=>some (.Cv id)
 |_=>none
theorem AhW {ρ:Ak} {a r:AV} {u:Value} (J:VR ρ a u) (h:rn a=some r): r=a/\∀(o:Oper) (f:Operand->Value) (x:Operand),o.op=.nilCheck x->f x=u->execOp f o=pure (.value u):=by
 cases J<;>simp only[rn]at h<;>first|(cases h;done)|skip
 ·injection h with h;subst h;exact⟨rfl,λo f x y z=>by simp[execOp,y,z]⟩
 ·rename_i fn _ _ _ _ _ _;obtain⟨B,h⟩:=AQ.1 h;injection h with h;subst h;refine⟨rfl,λo f x y z=>?_⟩;cases fn<;>first|(simp[AbI]at B;done)|simp[execOp,y,z]
 ·injection h with h;subst h;exact⟨rfl,λo f x y z=>by simp[execOp,y,z]⟩
 ·injection h with h;subst h;exact⟨rfl,λo f x y z=>by simp[execOp,y,z]⟩
def RP:TypeDesc->Bool
 |.interface _=>true
 |_=>false
def RD (P:Program) (H:Tr Ah) (X:Operand->Option AV) (op:Op):Option AV:=
 match op with
 |.move x=>X x
 |.assign x=>X x
 |.pick c a b=>ob (X c) λv=>match v with
  |.bool t=>cond t (X a) (X b)
  |_=>none
 |.load t a=>ob (X a) λx=>W9 P H t x
 |.nilCheck x=>ob (X x) rn
 |.binOp op t x y _=>ob (X x) λa=>ob (X y) λb=>Aaf P op t (Ld x) (Ld y) a b
 |.unOp op _ x=>ob (X x) λa=>dE op a
 |.convert s d x=>ob (X x) λa=>rV P s d a
 |.makeInterface t x=>ob (X x) λa=>ob (P.underlying t) λd=>gd (!RP d) (some (.iface t a))
 |.makeFunc fn first captured=>ob (F0 X first.toList) λa=>ob (F0 X captured.toList) λc=>some (.fn fn a c)
 |.slice t x lo hi mx=>ob (X x) λa=>Xc P X t a lo hi mx
 |.fieldAddr t x f=>ob (X x) λa=>r7 P t a f
 |.field t x f=>ob (X x) λa=>Aaj P t a f
 |.indexAddr t x i=>ob (X x) λa=>ob (X i) λb=>Ul P t a b
 |.index t x i=>ob (X x) λa=>ob (X i) λb=>r9 P t a b
 |.lookup t x i ok=>ob (X x) λa=>ob (X i) λb=>Aas P H t a b ok
 |.extract x i=>ob (X x) λa=>r6 a i
 |.call c=>match c.callee with
  |.builtin b=>ob (F0 X c.args.toList) λr=>rP P H b c.argTypes.toList r
  |_=>none
 |_=>none
set_option maxHeartbeats 1000000 in
theorem rq {P:Program} {E:Env} {F:Nat->Option Obj} {nx:Nat} {ρ:Ak} {h:Nat->Option Ah} {w:World} {H:Tr Ah} (r:Rel E F nx ρ h w) (hs:HS ρ H h) {X:Operand->Option AV} {f:Operand->Value} (L:XR ρ X f) (o:Oper) {a:AV} (B:RD P H X o.op=some a): ∃v,(execOp f o).run P w=.ok (.value v) w/\VR ρ a v:=by
 obtain⟨dst,op,type,pos,after,guard⟩:=o;simp only at B;cases op<;>simp only[RD]at B<;>first|(cases B;done)|skip
 case move x=>exact⟨_,rfl,L _ _ B⟩
 case assign x=>exact⟨_,rfl,L _ _ B⟩
 case pick c x y=>
  obtain⟨v,hv,J⟩:=Ai.1 B;have hc:=L _ _ hv;split at J
  ·rename_i t;generalize Y:f c=u at hc;cases hc;cases t
   ·exact⟨_,by simp[execOp,Y,asBool],L _ _ J⟩
   ·exact⟨_,by simp[execOp,Y,asBool],L _ _ J⟩
  ·cases J
 case load t x=>
  obtain⟨v,hv,J⟩:=Ai.1 B;obtain⟨z,R,K⟩:=Aar r hs (L _ _ hv) J;exact⟨z,C1 R,K⟩
 case nilCheck x=>
  obtain⟨v,hv,J⟩:=Ai.1 B;have hc:=L _ _ hv;obtain⟨rfl,R⟩:=AhW hc J;exact⟨f x,by rw[R {dst,op:=.nilCheck x,type,pos,after,guard} f x rfl rfl];rfl,hc⟩
 case binOp op t x y yt=>
  obtain⟨v,hv,J⟩:=Ai.1 B;obtain⟨v',U,R⟩:=Ai.1 J;obtain⟨z,K,S⟩:=Ahy (P:=P) (L _ _ hv) (L _ _ U) R w;exact⟨z,C1 K,S⟩
 case unOp op t x=>
  obtain⟨v,hv,J⟩:=Ai.1 B;obtain⟨z,K,S⟩:=AaD (P:=P) J (L _ _ hv) w;exact⟨z,C1 K,S⟩
 case convert s d x=>
  obtain⟨v,hv,J⟩:=Ai.1 B;obtain⟨z,K,S⟩:=Aai (P:=P) (L _ _ hv) J w;exact⟨z,C1 K,S⟩
 case makeInterface t x=>
  obtain⟨v,hv,J⟩:=Ai.1 B;obtain⟨d,hd,R⟩:=Ai.1 J;obtain⟨hi,K⟩:=AQ.1 R;injection K with K;subst K;refine⟨_,C1 ?_,.iface _ _ _ (L _ _ hv)⟩;cases d<;>first|(simp[RP]at hi;done)|simp[Instr.makeInterface,run_underlying hd]
 case makeFunc fn first captured=>
  obtain⟨xs,V,J⟩:=Ai.1 B;obtain⟨ys,aa,R⟩:=Ai.1 J;injection R with R;subst R;have K:=VR.fn (ρ:=ρ) fn xs ys _ _ (I6 L V) (I6 L aa);rw[map_toArray,map_toArray]at K;exact⟨_,C1 rfl,K⟩
 case slice t x lo hi mx=>
  obtain⟨v,hv,J⟩:=Ai.1 B;obtain⟨z,K,S⟩:=Ah3 (P:=P) L (L _ _ hv) J w;exact⟨z,C1 K,S⟩
 case fieldAddr t x i=>
  obtain⟨v,hv,J⟩:=Ai.1 B;obtain⟨z,K,S⟩:=AhK (P:=P) (L _ _ hv) J w;exact⟨z,C1 K,S⟩
 case field t x i=>
  obtain⟨v,hv,J⟩:=Ai.1 B;obtain⟨z,K,S⟩:=AhL (P:=P) (L _ _ hv) J w;exact⟨z,C1 K,S⟩
 case indexAddr t x i=>
  obtain⟨v,hv,J⟩:=Ai.1 B;obtain⟨v',U,R⟩:=Ai.1 J;obtain⟨z,K,S⟩:=AhO (P:=P) (L _ _ hv) (L _ _ U) R w;exact⟨z,C1 K,S⟩
 case index t x i=>
  obtain⟨v,hv,J⟩:=Ai.1 B;obtain⟨v',U,R⟩:=Ai.1 J;obtain⟨z,K,S⟩:=AhP (P:=P) (L _ _ hv) (L _ _ U) R w;exact⟨z,C1 K,S⟩
 case lookup t x i ok=>
  obtain⟨v,hv,J⟩:=Ai.1 B;obtain⟨v',U,R⟩:=Ai.1 J;obtain⟨z,K,S⟩:=AhR r hs (L _ _ hv) (L _ _ U) R;exact⟨z,C1 K,S⟩
 case extract x i=>
  obtain⟨v,hv,J⟩:=Ai.1 B;obtain⟨z,K,S⟩:=AhJ (P:=P) (L _ _ hv) J w;exact⟨z,C1 K,S⟩
 case call c=>
  obtain⟨Z,args,W⟩:=c;simp only at B;split at B
  ·obtain⟨xs,V,J⟩:=Ai.1 B;obtain⟨z,R,K⟩:=Ahx r hs (I6 L V) J type (args.map λ |.const _=>true|_=>false);refine⟨z,?_,K⟩;rw[map_toArray,Array.toArray_toList]at R;simp only[execOp,resolve,Sem.run_bind,Sem.run_pure,Result.andThen_ok,invoke];exact R
  ·cases B
end Go.Ev
end
section
namespace Go.Ev
theorem AL.eZ {ρ:Ak}:∀ {l:Al} {vs:List Value},l.length=vs.length->(∀(i:Nat) (a:AV) (v:Value),l[i]? =some a->vs[i]? =some v->VR ρ a v)->AL ρ l vs
 | [],[],_,_=>.nil
 | [],_::_,h,_=>by simp at h
 |_::_,[],h,_=>by simp at h
 |a::l,v::vs,h,r=>.cons _ _ _ _ (r 0 a v rfl rfl) (AL.eZ (by simpa using h) λi b u hb hu=>r (i+1) b u (by simpa using hb) (by simpa using hu))
theorem AL.Uu {ρ:Ak} {l:Al} {vs:List Value} (h:AL ρ l vs) {i:Nat} {a:AV} {v:Value} (x:l[i]? =some a) (hv:vs[i]? =some v):VR ρ a v:=by obtain⟨u,hu,r⟩:=h.get i a x;rw[hv]at hu;cases hu;exact r
def MK (l:Al) (off:Nat) (vs:Al):Al:=l.take off++(vs++l.drop (off+vs.length))
theorem AeB (l vs:Al) (off i:Nat) (h:off+vs.length<=l.length): (MK l off vs)[i]? =if off<=i/\i<off+vs.length then vs[i-off]? else l[i]?:=by
 have hl:(l.take off).length=off:=by simp;omega
 unfold MK;rw[List.getElem?_append,hl];split
 ·rename_i hi;rw[An (by omega),List.getElem?_take,As hi]
 ·rename_i hi;rw[List.getElem?_append];split
  ·rename_i r;rw[As (by omega)]
  ·rename_i r;rw[An (by omega),List.getElem?_drop];congr 1;omega
theorem ApT (l vs:Al) (off:Nat) (h:off+vs.length<=l.length):(MK l off vs).length=l.length:=by unfold MK;simp;omega
theorem AaS (off:Nat):∀(vs:List Value) (j:Nat) (cs:Array Value),off+j+vs.length<=cs.size-> ∃cs',(vs.zipIdx j).foldl (λ(cs:Array Value) (x:Value×Nat)=>cs.setIfInBounds (off+x.2) x.1) cs=cs'/\cs'.size=cs.size/\ ∀i,cs'[i]? =if off+j<=i/\i<off+j+vs.length then vs[i-(off+j)]? else cs[i]?
 | [],j,cs,_=>⟨cs,rfl,rfl,λi=>by rw[An (by simp)]⟩
 |v::vs,j,cs,h=>by
  simp only[Dn]at h;obtain⟨cs',J,B,z⟩:=AaS off vs (j+1) (cs.setIfInBounds (off+j) v) (by simp;omega);refine⟨cs',by simpa using J,by simpa using B,λi=>?_⟩;rw[z i];simp only[Dn];by_cases r:off+(j+1)<=i/\i<off+(j+1)+vs.length
  ·rw[As r,As (by omega),show i-(off+j)=(i-(off+(j+1)))+1 by omega];simp
  ·rw[An r];by_cases y:i=off+j
   ·subst y;rw[As (by omega),Of,Array.getElem?_setIfInBounds_self_of_lt (by omega)];rfl
   ·rw[An (by omega),Array.getElem?_setIfInBounds_ne (by omega)]
def Xf (r:Nat->Option (Nat×Nat)):List (Nat×AV)->Al->Option Al:=List.rec (motive:=λ_=>Al->Option Al) (λcs=>some cs) (λp _ x cs=>ob (r p.1) λq=>gd (Nat.beq p.2.cells.length q.2&&Nat.ble (q.1+q.2) cs.length) (x (MK cs q.1 p.2.cells)))
inductive Wi (ρ:Ak):List (Nat×AV)->List (Nat×Value)->Prop where
 |nil:Wi ρ [] []
 |cons (i:Nat) (a:AV) (v:Value) (l:List (Nat×AV)) (vs:List (Nat×Value)) (h:VR ρ a v) (hs:Wi ρ l vs):Wi ρ ((i,a)::l) ((i,v)::vs)
theorem dG {ρ:Ak} {y:Nat->Option (Nat×Nat)}:∀ {S:List (Nat×AV)} {U:List (Nat×Value)},Wi ρ S U->∀ {cs r:Al} {us:Array Value},AL ρ cs us.toList->Xf y S cs=some r->∃K,Instr.fill y us U=some K/\AL ρ r K.toList
 |_,_,.nil,cs,r,us,hc,h=>by injection h with h;subst h;exact⟨us,rfl,hc⟩
 |_,_,.cons i a v S U hv Z,cs,r,us,hc,h=>by
  obtain⟨⟨off,size⟩,hq,h1⟩:=Ai.1 (show(ob (y i) λq=>gd (Nat.beq a.cells.length q.2&&Nat.ble (q.1+q.2) cs.length) (Xf y S (MK cs q.1 a.cells)))=some r from h);obtain⟨hb,h2⟩:=AQ.1 h1;rw[B4,A0,Nat.ble_eq]at hb;obtain⟨ad,ab⟩:=hb;have R:=hv.cells;have B:=R.length;have z:=hc.length;obtain⟨L,e1,e2,e3⟩:=AaS off v.cells.toList 0 us (by simp at B z⊢;omega);have W:AL ρ (MK cs off a.cells) L.toList:=by
   refine AL.eZ ?_ λk b u hb hu=>?_
   ·rw[ApT _ _ _ (by omega)];simp[e2];simpa using z
   ·rw[AeB _ _ _ _ (by omega)]at hb;have J:L[k]? =some u:=by simpa using hu
    rw[e3 k]at J;by_cases Y:off<=k/\k<off+a.cells.length
    ·rw[As Y]at hb;rw[As (by simp at B⊢;omega)]at J;exact R.Uu hb (by simpa using J)
    ·rw[An Y]at hb;rw[An (by simp at B⊢;omega)]at J;exact hc.Uu hb (by simpa using J)
  obtain⟨K,h3,h4⟩:=dG Z W h2;refine⟨K,?_,h4⟩;have V:v.cells.size=size:=by simp at B;omega
  have aa:¬(off+v.cells.size>us.size):=by simp at z;omega
  have hf:v.cells.zipIdx.foldl (λ(cs:Array Value) (x:Value×Nat)=>cs.setIfInBounds (off+x.2) x.1) us=L:=by rw[<-e1,<-Array.foldl_toList,Array.toList_zipIdx]
  simp only[Instr.fill,hq,V,ne_eq,not_true,decide_false,Bool.false_or];rw[An (by simp only[Bn];omega)];rw[<-h3,<-hf]
def P7 (X:Operand->Option AV) (l:List (Nat×Operand)):Option (List (Nat×AV)):=List.rec (motive:=λ_=>Option (List (Nat×AV))) (some []) (λx _ y=>ob (X x.2) λa=>ob y λr=>some ((x.1,a)::r)) l
theorem uK {ρ:Ak} {X:Operand->Option AV} {f:Operand->Value} (z:XR ρ X f):∀ {l:List (Nat×Operand)} {r:List (Nat×AV)},P7 X l=some r-> Wi ρ r (l.map λx=>(x.1,f x.2))
 | [],r,h=>by injection h with h;subst h;exact .nil
 |x::l,r,h=>by obtain⟨a,J,K⟩:=Ai.1 (show ob (X x.2) (λa=>ob (P7 X l) λr=>some ((x.1,a)::r))=some r from h);obtain⟨L,B,y⟩:=Ai.1 K;injection y with y;subst y;exact .cons _ _ _ _ _ (z _ _ J) (uK z B)
theorem run_places {P:Program} (w:World):∀(fs:List Field),(fs.all λf=>(P.info? f.type).isSome)=true-> (fs.mapM λf=>(do pure (f.offset,<-sizeOf f.type):Sem (Nat×Nat))).run P w=.ok (fs.map λf=>(f.offset,P.cellsOf f.type)) w
 | [],_=>by simp
 |f::fs,h=>by simp only[List.all_cons,B4]at h;obtain⟨i,hi⟩:=Option.isSome_iff_exists.1 h.1;have r:=run_places w fs h.2;simp only[List.mapM_cons,Sem.run_bind,run_sizeOf w hi,Result.andThen_ok,Sem.run_pure,r,List.map_cons]
def V5 (P:Program) (t:TypeId):Option Al:=ob (Pl P t) λz=>some z.cells
def rR (P:Program) (X:Operand->Option AV) (t:TypeId) (r:List (Nat×Operand)):Option AV:=ob (V5 P t) λx=>ob (P.underlying t) λd=>ob (P7 X r) λy=>match d with
  |.struct fs=>gd (fs.toList.all λf=>(P.info? f.type).isSome)
    (ob (Xf (λi=>ob (fs[i]?) λf=>some (f.offset,P.cellsOf f.type)) y x) λl=>some (.agg l))
  |.array _ e=>ob (P.info? e) λ_=>ob (Xf (λi=>some (i*P.cellsOf e,P.cellsOf e)) y x) λl=>some (.agg l)
  |_=>none
theorem fA (r:Array (Nat×Operand)) (f:Operand->Value):(r.map λ(i,x)=>(i,f x)).toList=r.toList.map λx=>(x.1,f x.2):=by rw[Array.toList_map]
theorem Ahz {P:Program} {ρ:Ak} {X:Operand->Option AV} {f:Operand->Value} (hX:XR ρ X f) {t:TypeId} {B:Array (Nat×Operand)} {a:AV} (h:rR P X t B.toList=some a) (w:World):∃v,(Instr.build t (B.map λ(i,x)=>(i,f x))).run P w=.ok v w/\VR ρ a v:=by
 obtain⟨zs,hz,h1⟩:=Ai.1 h;obtain⟨d,hd,h2⟩:=Ai.1 h1;obtain⟨ps,aa,W⟩:=Ai.1 h2;clear h h1 h2;obtain⟨za,Z,K⟩:=Ai.1 hz;injection K with K;subst K;obtain⟨z,L,Y⟩:=Pm (P:=P) Z w;have r:=(Y ρ).cells;have hp:=uK hX aa;cases d with
 |struct fs=>
  obtain⟨R,V⟩:=AQ.1 W;obtain⟨l,hl,J⟩:=Ai.1 V;injection J with J;subst J;obtain⟨y,S,U⟩:=dG hp r hl;refine⟨.agg y,?_,?_⟩
  ·have ab:=run_places (P:=P) w fs.toList R;have ad:(fs.mapM λf=>(do pure (f.offset,<-sizeOf f.type):Sem (Nat×Nat))).run P w=.ok (fs.map λf=>(f.offset,P.cellsOf f.type)) w:=by rw[Array.mapM_eq_mapM_toList];simp only[Sem.run_map,ab,Result.andThen_ok];rw[map_toArray]
   have e:(λ(i:Nat)=>ob (fs[i]?) λ(f:Field)=>some (f.offset,P.cellsOf f.type))=λ(i:Nat)=>(fs.map λ(f:Field)=>(f.offset,P.cellsOf f.type))[i]?:=by funext i;rw[Array.getElem?_map];cases fs[i]? <;>rfl
   rw[e]at S;unfold Instr.build;simp only[Sem.run_bind,L,Result.andThen_ok,run_underlying hd,ad,fA,S,Sem.run_pure]
  ·have:=VR.agg (ρ:=ρ) l y.toList U;simpa using this
 |array n e=>
  obtain⟨i,hi,V⟩:=Ai.1 W;obtain⟨l,hl,J⟩:=Ai.1 V;injection J with J;subst J;obtain⟨y,S,U⟩:=dG hp r hl;refine⟨.agg y,?_,?_⟩
  ·unfold Instr.build;simp only[Sem.run_bind,L,Result.andThen_ok,run_underlying hd,run_sizeOf w hi,fA,S,Sem.run_pure]
  ·have:=VR.agg (ρ:=ρ) l y.toList U;simpa using this
 |_=>cases W
theorem OR.ofList {ρ:Ak} {b:Nat} {l:Al} {vs:List Value} (h:AL ρ l vs) (el:TypeId): OR ρ ⟨b,0,l.length⟩ (.cells el .leaf (.Dv l) l.length false) (.cells vs.toArray el (0,0)):=by
 refine .cells el .leaf (.Dv l) l.length false vs.toArray (0,0) (by simp[h.length]) (AH _) (λ_=>rfl) (.inl rfl) λk a z r=>?_;unfold cellOf at r;rw[Tr.Cy]at r;have x:l[k]? =some a:=by have:l[k %l.length]? =some a:=r;rwa[Nat.mod_eq_of_lt z]at this
 obtain⟨v,hv,y⟩:=h.get k a x;exact⟨v,by simpa using hv,y⟩
theorem AfE (z:Array Value) (n k:Nat) (r:k<n) (hz:0<z.size): ((Array.range n).map (λi=>z[i %z.size]!))[k]? =z[k %z.size]?:=by rw[Array.getElem?_map,Array.getElem?_range,As r];have:k %z.size<z.size:=Nat.mod_lt _ hz;simp[this]
theorem OR.AcU {ρ:Ak} {b:Nat} {l:Al} {z:Array Value} (h:AL ρ l z.toList) (el:TypeId) (n:Nat) (hz:n=0\/0<l.length): OR ρ ⟨b,0,n⟩ (.cells el .leaf (.Dv l) n false) (.cells ((Array.range n).map (λi=>z[i %z.size]!)) el (0,0)):=by
 have hl:l.length=z.size:=by simpa using h.length
 refine .cells el .leaf (.Dv l) n false _ (0,0) (by simp) (AH _) (λ_=>rfl) (.inl rfl) λk a B r=>?_;unfold cellOf at r;rw[Tr.Cy]at r;have x:l[k %l.length]? =some a:=r;obtain⟨v,hv,y⟩:=h.get _ a x;refine⟨v,?_,y⟩;simp only[Nat.zero_add];rw[AfE z n k B (by omega),<-hl];simpa using hv
def Ic (P:Program) (X:Operand->Option AV) (ni:Nat) (op:Op):Option (AV×Ah):=
 match op with
 |.alloc el=>ob (V5 P el) λcs=>fN cs.length λn=>some (.ptr ni 0,.cells el .leaf (.Dv cs) n false)
 |.box el x=>ob (X x) λv=>fN v.cells.length λn=>some (.ptr ni 0,.cells el .leaf (.Dv v.cells) n false)
 |.makeMap _ none=>some (.map ni,.map [] 0)
 |.makeSlice t l c=>ob (X l) λl=>ob (TP l) λl=>ob (X c) λc=>ob (TP c) λc=>ob (P.underlying t) λd=>match d with
  |.slice el=>ob (P.info? el) λi=>gd (Nat.ble l c&&Nat.ble c 9223372036854775807&&Nat.ble (i.bytes*c) 281474976710656) (ob (V5 P el) λcs=>gd (Nat.blt 0 cs.length&&Nat.beq cs.length i.size) (fN (c*i.size) λn=>fN l λl=>fN c λc=>some (.sl ni 0 l c,.cells el .leaf (.Dv cs) n false)))
  |_=>none
 |.buildSlice t len r=>ob (P.underlying t) λd=>match d with
  |.slice el=>ob (P.info? el) λi=>gd (Nat.ble (len*i.size) 16777216) (ob (V5 P el) λy=>gd (Nat.blt 0 y.length&&Nat.beq y.length i.size)
    (ob (P7 X r.toList) λz=>ob (Xf (λj=>some (j*i.size,i.size)) z ((List.replicate len y).flatten)) λcs=>fN cs.length λn=>some (.sl ni 0 len len,.cells el .leaf (.Dv cs) n false)))
  |_=>none
 |.convert s t x=>ob (X x) λv=>ob (P.underlying s) λ_=>ob (P.underlying t) λd=>match d,v with
  |.slice el,.str l n=>ob (P.underlying el) λde=>match de with
   |.int .u8=>gd (Nat.ble l 140737488355328) (fN l λl=>some (.BK ni 0 l 1,.cells el .leaf (.Dv ((List.range l).map λi=>.int .u8 (.ofNat (n/256^i %256)))) l true))
   |_=>none
  |_,_=>none
 |.makeChan t x=>ob (X x) λa=>match a with
  |.int _ (.ofNat n)=>ob (P.underlying t) λd=>match d with
   |.chan _ el=>ob (P.info? el) λi=>gd (Nat.ble n 1000000) (gd (Nat.ble (i.bytes*n) 1000000) (some (.chan ni,.chan n [])))
   |_=>none
  |_=>none
 |.range t x=>ob (X x) λa=>ob (P.underlying t) λd=>match d,a with
  |.string,.str l n=>some (.ptr ni 0,.MJ l n 0)
  |.map _ _,.EY=>some (.ptr ni 0,.P1)
  |_,_=>none
 |_=>none
theorem iz {P:Program} {t:TypeId} {l:Al} (h:V5 P t=some l) (w:World):∃z,(zeroValue t).run P w=.ok z w/\∀ρ:Ak,AL ρ l z.cells.toList:=by obtain⟨a,x,r⟩:=Ai.1 h;injection r with r;subst r;obtain⟨z,B,y⟩:=Pm (P:=P) x w;exact⟨z,B,λρ=>(y ρ).cells⟩
def jF (P:Program) (w:World) (ρ:Ak) (ni:Nat) (s:Sem Next) (a:AV) (o:Ah):Prop:=∃v r c cap,s.run P w=.ok (.value v) (r.alloc c)/\(r=w\/r=w.drew)/\OR (ρ.put ni ⟨w.heap.size,0,cap⟩) ⟨w.heap.size,0,cap⟩ o c/\VR (ρ.put ni ⟨w.heap.size,0,cap⟩) a v
theorem Aie {ρ:Ak} (l:Al) (z:Array Value) (h:AL ρ l z.toList) (hz:0<z.size) (len:Nat): AL ρ ((List.replicate len l).flatten) ((Array.range (len*z.size)).map (λi=>z[i %z.size]!)).toList:=by
 have hl:l.length=z.size:=by simpa using h.length
 have r:∀n,((List.replicate n l).flatten).length=n*l.length:=λn=>by
  induction n with
  |zero=>simp
  |succ n B=>rw[List.replicate_succ,List.flatten_cons,E6,B,Nat.succ_mul,Nat.add_comm]
 have y:∀n i,i<n*l.length->((List.replicate n l).flatten)[i]? =l[i %l.length]?:=λn=>by
  induction n with
  |zero=>intro i hi;simp at hi
  |succ n B=>
   intro i hi;rw[List.replicate_succ,List.flatten_cons,List.getElem?_append];split
   ·rename_i K;rw[Nat.mod_eq_of_lt K]
   ·rename_i K;rw[Nat.succ_mul]at hi;have L:=Nat.mod_eq_sub_mod (a:=i) (b:=l.length) (by omega);rw[B _ (by omega),<-L]
 refine AL.eZ (by rw[r];simp[hl]) λi a v J hv=>?_;have hi:i<len*z.size:=by have:=(Ix.1 J).1;rw[r,hl]at this;exact this
 rw[y len i (by rw[hl];exact hi)]at J;have x:((Array.range (len*z.size)).map (λi=>z[i %z.size]!))[i]? =some v:=by rw[<-Array.getElem?_toList];exact hv
 rw[AfE z _ _ hi hz,<-hl]at x;exact h.Uu J (by simpa using x)
theorem Aex (w:World) (c:Array Value) (e:TypeId):(w.alloc (.cells c e)).shape? w.heap.size=some (e,c.size):=by simp only[World.shape?,World.alloc,Array.getElem?_push_size]
theorem yA (w:World) (c:Array Value) (e:TypeId): (w.alloc (.cells c e)).freeze ⟨w.heap.size,c.size,none⟩ 1=w.alloc (.cells c e (c.size,c.size+1)):=by
 unfold World.freeze World.alloc;rw[An (by decide)];congr 1;apply Array.ext_getElem?;intro i;rw[Array.getElem?_modify,Array.getElem?_push,Array.getElem?_push];by_cases h:w.heap.size=i
 ·subst h;simp
 ·rw[An h,An (λe=>h e.symm),An (λe=>h e.symm)]
theorem yN {ρ:Ak} (l n:Nat):AL ρ ((List.range l).map λi=>AV.int .u8 (.ofNat (n/256^i %256))) ((BO l n).map λb=>Value.int .u8 b.toNat):=by
 refine AL.eZ (by simp[Pz]) λi a v r hv=>?_;have hi:i<l:=by have:=(Ix.1 r).1;simpa using this
 rw[I8,Tn hi]at r;rw[I8,bV l n i hi]at hv;simp only[Option.map_some,Option.some.injEq]at r hv;subst r;subst hv;rw[HF];exact .int _ _
set_option maxHeartbeats 1000000 in
theorem Aat {P:Program} {ρ:Ak} {w:World} {X:Operand->Option AV} {f:Operand->Value} (hX:XR ρ X f) {ni:Nat} (aD:ρ ni=none) (o:Oper) {a:AV} {ai:Ah} (B:Ic P X ni o.op=some (a,ai)):jF P w ρ ni (execOp f o) a ai:=by
 obtain⟨dst,op,type,pos,after,guard⟩:=o;simp only at B;have aj:=λb=>Ak.JT (ρ:=ρ) (i:=ni) aD b;cases op<;>simp only[Ic]at B<;>first|(cases B;done)|skip
 case alloc el=>
  obtain⟨cs,Z,y⟩:=Ai.1 B;rw[Bv]at y;injection y with y;injection y with y J;subst y;subst J;obtain⟨z,hz,hr⟩:=iz (P:=P) Z w;refine⟨.pointer (some ⟨w.heap.size,0,none⟩),w,.cells z.cells el,cs.length,?_,.inl rfl,?_,?_⟩
  ·exact C1 (by simp[Instr.alloc,hz,newVar,newRow])
  ·have:=OR.ofList (b:=w.heap.size) (hr (ρ.put ni ⟨w.heap.size,0,cs.length⟩)) el;simpa using this
  ·exact .ptr ni 0 ⟨w.heap.size,0,cs.length⟩ (Ak.EO _ _ _)
 case box el x=>
  obtain⟨v,hv,y⟩:=Ai.1 B;rw[Bv]at y;injection y with y;injection y with y J;subst y;subst J;have hr:=(hX _ _ hv).cells;refine⟨.pointer (some ⟨w.heap.size,0,none⟩),w,.cells (f x).cells el,v.cells.length,?_,.inl rfl,?_,?_⟩
  ·exact C1 (by simp[Instr.box,newVar,newRow])
  ·have:=OR.ofList (b:=w.heap.size) (hr.mono (aj ⟨w.heap.size,0,v.cells.length⟩)) el;simpa using this
  ·exact .ptr ni 0 ⟨w.heap.size,0,v.cells.length⟩ (Ak.EO _ _ _)
 case makeMap t r=>
  cases r with
  |some _=>cases B
  |none=>
   injection B with y;injection y with y J;subst y;subst J;refine⟨.map (some w.heap.size),w,.map #[] 0,0,?_,.inl rfl,.map [] 0 [] .nil,?_⟩
   ·exact C1 (by simp[Instr.makeMap])
   ·exact .map ni ⟨w.heap.size,0,0⟩ (Ak.EO _ _ _)
 case makeSlice t l c=>
  obtain⟨lv,aE,y⟩:=Ai.1 B;obtain⟨ln,aF,J⟩:=Ai.1 y;obtain⟨cv,aK,R⟩:=Ai.1 J;obtain⟨S,aL,V⟩:=Ai.1 R;obtain⟨d,hd,L⟩:=Ai.1 V;clear B y J R V;obtain⟨kl,rfl⟩:=oD aF;obtain⟨kc,rfl⟩:=oD aL;have rl:=hX _ _ aE;have rc:=hX _ _ aK;generalize ak:f l=vl at rl;generalize an:f c=vc at rc;cases rl;cases rc;cases d with
  |slice el=>
   obtain⟨i,hi,h6⟩:=Ai.1 L;obtain⟨hb,h7⟩:=AQ.1 h6;obtain⟨cs,Z,h8⟩:=Ai.1 h7;obtain⟨hz,h9⟩:=AQ.1 h8;simp only[Bv]at h9;injection h9 with h9;injection h9 with h9 ag;subst h9;subst ag;simp only[B4,Nat.ble_eq]at hb;obtain⟨⟨aq,ao⟩,aN⟩:=hb;rw[B4,CE,A0]at hz;obtain⟨z,af,hr⟩:=iz (P:=P) Z (w:World);have W:z.cells.size=i.size:=by have:=(hr ρ).length;simp at this;omega
   refine⟨.slice (some ⟨w.heap.size,0,none⟩) ln S,w,.cells ((Array.range (S*i.size)).map (λj=>z.cells[j %z.cells.size]!)) el,S*i.size,?_,.inl rfl,?_,?_⟩
   ·refine C1 ?_;have e1:IntKind.i64.wrap (ln:Int)=ln:=wrap_i64 (by omega) (by omega);have e2:IntKind.i64.wrap (S:Int)=S:=wrap_i64 (by omega) (by omega);have e3:¬((i.bytes:Int)*(S:Int)>281474976710656):=by have h0:((i.bytes*S:Nat):Int)<=((281474976710656:Nat):Int):=Int.ofNat_le.2 aN;rw[Int.natCast_mul]at h0;omega
    have e4:¬((ln:Int)>(S:Int)):=by omega
    have Y:P.cellsOf el=i.size:=by simp[Program.cellsOf,hi]
    have e5:¬((S:Int)<0\/(ln:Int)<0):=by omega
    by_cases hn:S*i.size=0
    ·have ab:∀g:Nat->Value,(Array.range (S*i.size)).map g= #[]:=λg=>by rw[hn];simp
     rw[ab];have aB:∀g:Nat->Value,(Array.range 0).map g= #[]:=λg=>by simp
     simp[Instr.makeSlice,run_underlying hd,ak,an,asInt,asIntOf,run_typeInfo w hi,e1,e2,e3,e4,e5,run_sizeOf w hi,Y,hn,newRow,aB]
    ·simp[Instr.makeSlice,run_underlying hd,ak,an,asInt,asIntOf,run_typeInfo w hi,e1,e2,e3,e4,e5,run_sizeOf w hi,Y,hn,af,newRow]
   ·exact OR.AcU (hr _) el _ (.inr hz.1)
   ·exact .sl ni 0 ln S ⟨w.heap.size,0,S*i.size⟩ (Ak.EO _ _ _)
  |_=>cases L
 case buildSlice t len parts=>
  obtain⟨d,hd,y⟩:=Ai.1 B;clear B;cases d with
  |slice el=>
   obtain⟨i,hi,J⟩:=Ai.1 y;obtain⟨hb,R⟩:=AQ.1 J;obtain⟨zs,ay,V⟩:=Ai.1 R;obtain⟨hz,L⟩:=AQ.1 V;obtain⟨ps,aC,h6⟩:=Ai.1 L;obtain⟨cs,Z,h7⟩:=Ai.1 h6;clear y J R V L h6;rw[Bv]at h7;injection h7 with h7;injection h7 with h7 h8;subst h7;subst h8;rw[Nat.ble_eq]at hb;rw[B4,CE,A0]at hz;obtain⟨z,af,hr⟩:=iz (P:=P) ay w;have W:z.cells.size=i.size:=by have:=(hr ρ).length;simp at this;omega
   have aa:=Aie zs z.cells (hr ρ) (by omega) len;rw[W]at aa;obtain⟨aw,h9,ag⟩:=dG (uK hX aC) aa Z;refine⟨.slice (some ⟨w.heap.size,0,none⟩) len len,w,.cells aw el,cs.length,?_,.inl rfl,?_,?_⟩
   ·refine C1 ?_;have Y:P.cellsOf el=i.size:=by simp[Program.cellsOf,hi]
    have ad:¬(len*i.size>16777216):=by omega
    unfold Instr.buildSlice;by_cases hn:len*i.size=0
    ·have ab:∀g:Nat->Value,(Array.range (len*i.size)).map g= #[]:=λg=>by rw[hn];simp
     have ar:=h9;rw[ab]at ar;simp only[Sem.run_bind,run_underlying hd,Result.andThen_ok,run_sizeOf w hi,Y,fA];rw[An ad,As hn];simp[ab,ar,newRow]
    ·simp only[Sem.run_bind,run_underlying hd,Result.andThen_ok,run_sizeOf w hi,Y,fA];rw[An ad,An hn];simp[af,h9,newRow,W]
   ·have:=OR.ofList (b:=w.heap.size) (ag.mono (aj ⟨w.heap.size,0,cs.length⟩)) el;simpa using this
   ·exact .sl ni 0 len len ⟨w.heap.size,0,cs.length⟩ (Ak.EO _ _ _)
  |_=>cases y
 case convert s t x=>
  obtain⟨v,hv,y⟩:=Ai.1 B;obtain⟨ds,aI,J⟩:=Ai.1 y;obtain⟨dt,aH,R⟩:=Ai.1 J;clear B y J;have hc:=hX _ _ hv;cases dt with
  |slice el=>
   cases v with
   |str l n=>
   obtain⟨de,aJ,V⟩:=Ai.1 R;split at V
   ·obtain⟨hb,L⟩:=AQ.1 V;rw[Bv]at L;injection L with L;injection L with L h6;subst L;subst h6;rw[Nat.ble_eq]at hb;generalize U:f x=vx at hc;cases hc with
    |str _ _ hn=>
     let cap:=Question.cut (.appendCap l 0 el) (w.tape w.drawn (.appendCap l 0 el));have ae:l<=cap:=by show l<=l+_;omega
     let K:Array Value:=((BJ l n).data.map λb=>Value.int .u8 b.toNat)++Array.replicate (cap-l) (.int .u8 0);have DT:K.size=cap:=by have y:(BJ l n).data.size=l:=MZ l n;simp[K,y];omega
     refine⟨.slice (some ⟨w.heap.size,0,none⟩) l cap,w.drew,.cells K el (K.size,K.size+1),cap,?_,.inr rfl,?_,?_⟩
     ·refine C1 ?_;have W:(BJ l n).size=l:=MZ l n;have aM:(choose (.appendCap l 0 el)).run P w=.ok cap w.drew:=by simp[Question.forced,cap]
      have aG:=yA w.drew K el;have av:(Conv.stringToBytes el (BJ l n)).run P w=.ok (.slice (some ⟨w.heap.size,0,none⟩) l cap) (w.drew.alloc (.cells K el (K.size,K.size+1))):=by rw[<-aG];unfold Conv.stringToBytes;rw[W];simp only[Sem.run_bind,aM,Result.andThen_ok];have aA:=Aex w.drew K el;simp only[newRow,Sem.run_bind,run_newObj,Result.andThen_ok,Sem.run_pure,markStringish,run_shape];have au:World.shape? {w.drew with heap:=w.drew.heap.push (.cells K el)} w.drew.heap.size=some (el,K.size):=aA;rw[au];rfl
      rw[U];simp only[convert,Sem.run_bind,run_underlying aI,run_underlying aH,Result.andThen_ok,run_underlying aJ];cases ds<;>simp[av]
     ·refine .cells el .leaf (.Dv _) l true K (K.size,K.size+1) (by simp[DT]) ae (by simp) (.inr (AH _)) λk a hk ha=>?_;unfold cellOf at ha;rw[Tr.Cy]at ha;have aO:((List.range l).map λi=>AV.int .u8 (.ofNat (n/256^i %256)))[k]? =some a:=by have:((List.range l).map λi=>AV.int .u8 (.ofNat (n/256^i %256)))[k %((List.range l).map λi=>AV.int .u8 (.ofNat (n/256^i %256))).length]? =some a:=ha;simpa[Nat.mod_eq_of_lt hk]using this
      obtain⟨u,hu,az⟩:=(yN (ρ:=ρ.put ni ⟨w.heap.size,0,cap⟩) l n).get k a aO;refine⟨u,?_,az⟩;have y:((BJ l n).data.map λb=>Value.int .u8 b.toNat)[k]? =some u:=by rw[<-Array.getElem?_toList,Array.toList_map,Rp];exact hu
      simp only[Nat.zero_add];show(((BJ l n).data.map λb=>Value.int .u8 b.toNat)++Array.replicate (cap-l) (.int .u8 0))[k]? =some u;rw[Array.getElem?_append,As (by rw[Array.size_map];have:(BJ l n).data.size=l:=MZ l n;omega)];exact y
     ·have:=VR.BK (ρ:=ρ.put ni ⟨w.heap.size,0,cap⟩) ni 0 l 1 ⟨w.heap.size,0,cap⟩ (Ak.EO _ _ _) (by decide) (by simpa using ae);simpa using this
   ·cases V
   |_=>cases R
  |_=>cases R
 case makeChan t x=>
  obtain⟨v,hv,y⟩:=Ai.1 B;have hc:=hX _ _ hv;clear B;split at y
  ·rename_i k n;obtain⟨d,hd,J⟩:=Ai.1 y;split at J
   ·rename_i aP el;obtain⟨i,hi,R⟩:=Ai.1 J;obtain⟨aq,V⟩:=AQ.1 R;obtain⟨ao,L⟩:=AQ.1 V;injection L with L;injection L with L h6;subst L;subst h6;rw[Nat.ble_eq]at aq ao;generalize U:f x=vx at hc;cases hc;refine⟨.chan (some w.heap.size),w,.chan n #[] false 0 0 false,0,?_,.inl rfl,.chan n [] [] 0 0 .nil,.chan ni ⟨w.heap.size,0,0⟩ (Ak.EO _ _ _)⟩;refine C1 ?_;rw[U];have hm:IntKind.i64.max=9223372036854775807:=rfl;have ah:(i.bytes:Int)*(n:Int)=((i.bytes*n:Nat):Int):=by simp
    have ad:¬((Int.ofNat n)<0\/(Int.ofNat n)>IntKind.i64.max\/(i.bytes:Int)*(Int.ofNat n)>2^48-112):=by rw[hm];simp only[Int.ofNat_eq_natCast];rw[ah];omega
    unfold Instr.makeChan;simp only[asInt,asIntOf,Sem.run_bind,Sem.run_pure,Result.andThen_ok,run_underlying hd,run_typeInfo w hi];rw[An ad];simp[Result.andThen_ok]
   ·cases J
  ·cases y
 case range t x=>
  obtain⟨v,hv,y⟩:=Ai.1 B;obtain⟨d,hd,J⟩:=Ai.1 y;have hc:=hX _ _ hv;clear B y;generalize U:f x=vx at hc;split at J
  ·rename_i l n;injection J with J;injection J with J R;subst J;subst R;cases hc with
   |str _ _ hn=>refine⟨.pointer (some ⟨w.heap.size,0,none⟩),w,.stringIter (BJ l n) 0,0,?_,.inl rfl,.MJ l n 0 rfl hn,.ptr ni 0 ⟨w.heap.size,0,0⟩ (Ak.EO _ _ _)⟩;refine C1 ?_;rw[U];simp[Instr.range,run_underlying hd]
  ·injection J with J;injection J with J R;subst J;subst R;cases hc;refine⟨.pointer (some ⟨w.heap.size,0,none⟩),w,.mapIter none 0 #[] 0,0,?_,.inl rfl,.P1 0 #[] 0 rfl,.ptr ni 0 ⟨w.heap.size,0,0⟩ (Ak.EO _ _ _)⟩;refine C1 ?_;rw[U];simp[Instr.range,run_underlying hd]
  ·cases J
def P6 (l:Al):Option Nat:=List.rec (motive:=λ_=>Option Nat) (some 0) (λa _ r=>match a with
  |.int .u8 (.ofNat c)=>gd (Nat.blt c 256) (ob r λn=>fN (c+256*n) λm=>some m)
  |_=>none) l
theorem uH {ρ:Ak}:∀ {l:Al} {vs:List Value} {n:Nat},AL ρ l vs->P6 l=some n-> n<256^l.length/\∃ns:Af,vs=ns.map (Value.int .u8)/\ns.map (λn=>UInt8.ofNat n.toNat)=BO l.length n
 |_,_,n,.nil,h=>by injection h with h;subst h;exact⟨by simp,[],rfl,rfl⟩
 |_,_,n,.cons a v l vs hv z,h=>by
  cases hv with
  |int k m=>
   cases k<;>first|(cases h;done)|skip
   cases m with
   |negSucc _=>cases h
   |ofNat c=>obtain⟨hc,K⟩:=AQ.1 (show gd (Nat.blt c 256) (ob (P6 l) λn=>fN (c+256*n) λm=>some m)=some n from h);obtain⟨y,x,r⟩:=Ai.1 K;rw[Bv]at r;injection r with r;subst r;rw[CE]at hc;obtain⟨L,ns,J,B⟩:=uH z x;refine⟨by simp only[Dn,Nat.pow_succ];omega,Int.ofNat c::ns,by rw[J];rfl,?_⟩;simp only[List.map_cons,Dn,BO];rw[B,show(c+256*y)/256=y by omega];congr 1;apply UInt8.toNat_inj.1;rw[HF,HF];show c %256=_;omega
  |_=>cases h
theorem fold_push:∀(ns:Af) (s:ByteArray),ns.foldl (λr n=>r.push (UInt8.ofNat n.toNat)) s=⟨s.data++(ns.map (λn=>UInt8.ofNat n.toNat)).toArray⟩
 | [],s=>by cases s;simp
 |n::ns,s=>by
  simp only[List.foldl_cons,List.map_cons];rw[fold_push ns];cases s with
  |mk d=>simp only[ByteArray.push];congr 1;apply Array.ext';simp
def Aad (P:Program) (H:Tr Ah) (r dst:TypeId) (x:AV):Option AV:=ob (P.underlying r) λy=>ob (P.underlying dst) λz=>match y,z with
  |.slice e,.string=>ob (P.underlying e) λde=>match de with
   |.int .u8=>match x with
    |.AW=>some (.str 0 0)
    |.sl id off n _=>ob (EV H id off n) λl=>ob (P6 l) λm=>some (.str l.length m)
    |.BK id off n _=>ob (EV H id off n) λl=>ob (P6 l) λm=>some (.str l.length m)
    |.sle _=>some (.str 0 0)
    |_=>none
   |_=>none
  |_,_=>none
theorem Ahw {P:Program} {E:Env} {F:Nat->Option Obj} {nx:Nat} {ρ:Ak} {h:Nat->Option Ah} {w:World} {H:Tr Ah} (r:Rel E F nx ρ h w) (hs:HS ρ H h) {z dst:TypeId} {x a:AV} {u:Value} (V:VR ρ x u) (U:Aad P H z dst x=some a):∃v,(convert z dst u).run P w=.ok v w/\VR ρ a v:=by
 obtain⟨ds,J,h1⟩:=Ai.1 U;obtain⟨dd,L,h2⟩:=Ai.1 h1;clear U h1;have key:∀(e:TypeId) (ad:Addr) (n c:Nat) (l:Al) (vs:List Value) (m:Nat),P.underlying z=some (.slice e)->P.underlying dst=some .string->P.underlying e=some (.int .u8)-> AL ρ l vs->vs.length=n->(∀j v,vs[j]? =some v->w.cell? (ad.add j)=some v)->P6 l=some m->∃v,(convert z dst (.slice (some ad) n c)).run P w=.ok v w/\VR ρ (.str l.length m) v:=by intro e ad n c l vs m ab aa he hl hn hc hp;obtain⟨y,ns,R,B⟩:=uH hl hp;have S:=run_loadCells_list (P:=P) w ad vs hc;rw[hn]at S;subst R;refine⟨.string (BJ l.length m),?_,.str _ _ y⟩;rw[run_convert_bytes_string w z dst e (some ad) n c ab he aa,run_bytesToString w ad n c ns S,fold_push,B];have ae:ByteArray.empty.data= #[]:=rfl;rw[ae,Array.empty_append];rfl
 split at h2
 ·obtain⟨de,K,y⟩:=Ai.1 h2;split at y
  ·split at y
   ·injection y with y;subst y;cases V;refine⟨.string (BJ 0 0),?_,.str 0 0 (by simp)⟩;rw[run_convert_bytes_string w z dst _ none 0 0 J K L];simp[Conv.bytesToString];rfl
   ·obtain⟨l,hl,R⟩:=Ai.1 y;obtain⟨m,hm,B⟩:=Ai.1 R;injection B with B;subst B;cases V with
    |sl _ _ _ _ b hb=>obtain⟨vs,Z,Y,W⟩:=HQ r hs hb hl;exact key _ _ _ _ l vs m J L K Z Y W hm
   ·obtain⟨l,hl,R⟩:=Ai.1 y;obtain⟨m,hm,B⟩:=Ai.1 R;injection B with B;subst B;cases V with
    |BK _ _ _ _ b hb _ _=>obtain⟨vs,Z,Y,W⟩:=HQ r hs hb hl;exact key _ _ _ _ l vs m J L K Z Y W hm
   ·injection y with y;subst y;cases V with
    |sle _ b o c hb=>exact key _ _ _ _ [] [] 0 J L K .nil rfl (λj v hj=>by simp at hj) rfl
   ·cases y
  ·cases y
 ·cases h2
def Xq:AV->Bool
 |.AW=>true
 |.sl _ _ _ _=>true
 |.BK _ _ _ _=>true
 |.sle _=>true
 |_=>false
def Aac (P:Program) (r:TypeId) (ok:Bool) (a:AV):Option AV:=ob (P.underlying r) λd=>gd (!RP d) (match a with
  |.DU=>gd ok (ob (Pl P r) λz=>some (.AM [z,.bool false]))
  |.iface t v=>cond (Nat.beq t r) (some (cond ok (.AM [v,.bool true]) v)) (gd ok (ob (Pl P r) λz=>some (.AM [z,.bool false])))
  |_=>none)
theorem Ahv {P:Program} {ρ:Ak} {t r:TypeId} {ok:Bool} {x a:AV} {u:Value} (V:VR ρ x u) (h:Aac P r ok x=some a) (w:World): ∃v,(Instr.typeAssert u t r ok).run P w=.ok v w/\VR ρ a v:=by
 obtain⟨d,hd,W⟩:=Ai.1 h;obtain⟨hi,y⟩:=AQ.1 W;clear h W;split at y
 ·obtain⟨AA,R⟩:=AQ.1 y;obtain⟨z,hz,B⟩:=Ai.1 R;injection B with B;subst B;subst AA;obtain⟨L,J,K⟩:=Pm hz w;cases V;refine⟨.tuple #[L,.bool false],?_,.AM _ [L,.bool false] (.cons _ _ _ _ (K ρ) (.cons _ _ _ _ (.bool _) .nil))⟩;cases d<;>first|(simp[RP]at hi;done)|simp[Instr.typeAssert,run_underlying hd,J]
 ·rename_i U v;cases V with
  |iface _ _ u hu=>
   cases hb:Nat.beq U r with
   |true=>
    rw[hb,cond_true]at y;rw[A0]at hb;subst hb;injection y with y;cases ok with
    |true=>simp only[cond_true]at y;subst y;refine⟨.tuple #[u,.bool true],?_,.AM _ [u,.bool true] (.cons _ _ _ _ hu (.cons _ _ _ _ (.bool _) .nil))⟩;cases d<;>first|(simp[RP]at hi;done)|simp[Instr.typeAssert,run_underlying hd]
    |false=>simp only[cond_false]at y;subst y;refine⟨u,?_,hu⟩;cases d<;>first|(simp[RP]at hi;done)|simp[Instr.typeAssert,run_underlying hd]
   |false=>
    rw[hb,cond_false]at y;obtain⟨AA,R⟩:=AQ.1 y;obtain⟨z,hz,B⟩:=Ai.1 R;injection B with B;subst B;subst AA;obtain⟨L,J,K⟩:=Pm hz w;have S:¬U=r:=λe=>by rw[<-A0,hb]at e;cases e
    refine⟨.tuple #[L,.bool false],?_,.AM _ [L,.bool false] (.cons _ _ _ _ (K ρ) (.cons _ _ _ _ (.bool _) .nil))⟩;cases d<;>first|(simp[RP]at hi;done)|simp[Instr.typeAssert,run_underlying hd,J,S]
 ·cases y
def rT (H:Tr Ah) (x:AV):Option (Nat×Nat):=
 match x with
 |.str l n=>some (l,n)
 |.AW=>some (0,0)
 |.sl id off n _=>ob (EV H id off n) λl=>ob (P6 l) λm=>some (l.length,m)
 |.BK id off n _=>ob (EV H id off n) λl=>ob (P6 l) λm=>some (l.length,m)
 |.sle _=>some (0,0)
 |_=>none
theorem gv {P:Program} (w:World):∀(ns:Af) (a:Addr) (acc:ByteArray),(∀j v,(ns.map (Value.int .u8))[j]? =some v->w.cell? (a.add j)=some v)-> (Extern.Bytes.loadBytes a ns.length acc).run P w=.ok ⟨acc.data++(ns.map λn=>UInt8.ofNat n.toNat).toArray⟩ w
 | [],a,acc,_=>by cases acc;simp[Extern.Bytes.loadBytes]
 |n::ns,a,acc,h=>by
  have y:w.cell? a=some (.int .u8 n):=by have:=h 0 _ rfl;simpa[Addr.add]using this
  have x:=gv (P:=P) w ns (a.add 1) (acc.push n.toNat.toUInt8) λj v r=>by
   have:=h (j+1) v (by simpa using r);have e:(a.add 1).add j=a.add (j+1):=by
    unfold Addr.add;by_cases r:j=0
    ·subst r;simp
    ·simp[r];omega
   rw[e];exact this
  simp only[Dn,Extern.Bytes.loadBytes,Sem.run_bind];have hl:(load a).run P w=.ok (.int .u8 n) w:=by simp[y]
  rw[hl];simp only[Result.andThen_ok];rw[x];congr 1;cases acc with
  |mk d=>simp only[ByteArray.push,List.map_cons];congr 1;apply Array.ext';simp
theorem AhA {P:Program} {E:Env} {F:Nat->Option Obj} {nx:Nat} {ρ:Ak} {h:Nat->Option Ah} {w:World} {H:Tr Ah} (r:Rel E F nx ρ h w) (W:HS ρ H h) {x:AV} {u:Value} {l n:Nat} (L:VR ρ x u) (y:rT H x=some (l,n)):(Extern.Bytes.bytesOf u).run P w=.ok (BJ l n) w:=by
 have key:∀(ad:Addr) (c:Nat) (K:Al) (vs:List Value) (m:Nat),AL ρ K vs->(∀j v,vs[j]? =some v->w.cell? (ad.add j)=some v)->P6 K=some m-> (Extern.Bytes.bytesOf (.slice (some ad) vs.length c)).run P w=.ok (BJ K.length m) w:=by intro ad c K vs m hl hc Y;obtain⟨h3,ns,R,z⟩:=uH hl Y;subst R;have:=gv (P:=P) w ns ad .empty hc;simp only[Extern.Bytes.bytesOf,HJ];rw[this,z];congr 1;show(⟨#[]++(BO K.length m).toArray⟩:ByteArray)=_;rw[Array.empty_append];rfl
 unfold rT at y;split at y
 ·injection y with y;injection y with J B;subst J;subst B;cases L;rfl
 ·injection y with y;injection y with J B;subst J;subst B;cases L;rfl
 ·obtain⟨K,hl,R⟩:=Ai.1 y;obtain⟨m,hm,z⟩:=Ai.1 R;injection z with z;injection z with J B;subst J;subst B;cases L with
  |sl _ _ _ _ b hb=>obtain⟨vs,V,U,S⟩:=HQ r W hb hl;rw[<-U];exact key _ _ _ vs _ V S hm
 ·obtain⟨K,hl,R⟩:=Ai.1 y;obtain⟨m,hm,z⟩:=Ai.1 R;injection z with z;injection z with J B;subst J;subst B;cases L with
  |BK _ _ _ _ b hb _ _=>obtain⟨vs,V,U,S⟩:=HQ r W hb hl;rw[<-U];exact key _ _ _ vs _ V S hm
 ·injection y with y;injection y with J B;subst J;subst B;cases L with
  |sle _ b o c hb=>exact key _ _ [] [] 0 .nil (λj v Z=>by simp at Z) rfl
 ·cases y
def WU (c l:Nat):Nat->Nat:=Nat.rec (motive:=λ_=>Nat->Nat) (λ_=>0) (λ_ r n=>cond (Nat.beq (n %256) c) (fN (n/256) r+1) (fN (n/256) r)) l
theorem ym {c:Nat} (hc:c<256):∀(l n:Nat),Lib.countByte (BO l n) (UInt8.ofNat c)=WU c l n
 |0,_=>rfl
 |l+1,n=>by
  have y:=ym hc l (n/256);unfold Lib.countByte at y⊢;show List.count _ (UInt8.ofNat n::BO l (n/256))=cond (Nat.beq (n %256) c) (fN (n/256) (WU c l)+1) (fN (n/256) (WU c l));rw[Bv,List.count_cons,y];by_cases h:n %256=c
  ·have x:UInt8.ofNat n=UInt8.ofNat c:=by apply UInt8.toNat_inj.1;rw[HF,HF];omega
   have r:Nat.beq (n %256) c=true:=by rw[A0];exact h
   rw[x,r,cond_true];simp
  ·have x:UInt8.ofNat n≠UInt8.ofNat c:=λe=>h (by have:=congrArg UInt8.toNat e;rw[HF,HF]at this;omega);have r:Nat.beq (n %256) c=false:=by
    cases hb:Nat.beq (n %256) c with
    |false=>rfl
    |true=>rw[A0]at hb;exact absurd hb h
   rw[r,cond_false];simp[x]
def df (c l:Nat):Nat->Nat->Int:=Nat.rec (motive:=λ_=>Nat->Nat->Int) (λ_ _=>-1) (λ_ y n k=>cond (Nat.beq (n %256) c) (Int.ofNat k) (fN (n/256) λr=>fN (k+1) λx=>y r x)) l
theorem Abz {c:Nat} (hc:c<256):∀(l n k:Nat),df c l n k=if Lib.indexByte (BO l n) (UInt8.ofNat c)= -1 then-1 else Lib.indexByte (BO l n) (UInt8.ofNat c)+k
 |0,_,_=>rfl
 |l+1,n,k=>by
  have J:=Abz hc l (n/256) (k+1);show cond (Nat.beq (n %256) c) (Int.ofNat k) (fN (n/256) λz=>fN (k+1) λB=>df c l z B)=if Lib.indexByte (UInt8.ofNat n::BO l (n/256)) _= -1 then-1 else Lib.indexByte (UInt8.ofNat n::BO l (n/256)) _+k
  have hu:Lib.indexByte (UInt8.ofNat n::BO l (n/256)) (UInt8.ofNat c)=if UInt8.ofNat n==UInt8.ofNat c then 0 else if Lib.indexByte (BO l (n/256)) (UInt8.ofNat c)== -1 then-1 else Lib.indexByte (BO l (n/256)) (UInt8.ofNat c)+1:=rfl
  rw[Bv,Bv,J,hu];by_cases h:n %256=c
  ·have y:UInt8.ofNat n=UInt8.ofNat c:=by apply UInt8.toNat_inj.1;rw[HF,HF];omega
   have x:Nat.beq (n %256) c=true:=by rw[A0];exact h
   rw[y,x,cond_true];simp
  ·have y:UInt8.ofNat n≠UInt8.ofNat c:=λe=>h (by have:=congrArg UInt8.toNat e;rw[HF,HF]at this;omega);have x:Nat.beq (n %256) c=false:=by
    cases hb:Nat.beq (n %256) c with
    |false=>rfl
    |true=>rw[A0]at hb;exact absurd hb h
   have K:=Lib.indexByte_ge (BO l (n/256)) (UInt8.ofNat c);rw[x,cond_false];simp only[y,beq_iff_eq,if_false];by_cases r:Lib.indexByte (BO l (n/256)) (UInt8.ofNat c)= -1
   ·simp[r]
   ·rw[An r,An r,An (by omega)];omega
def PM (name:String):Nat:=
 cond (name == "internal/bytealg.Count") 1 (cond (name == "internal/bytealg.CountString") 1 (cond (name == "internal/bytealg.IndexByte") 2 (cond (name == "internal/bytealg.IndexByteString") 2 0)))
theorem AaJ {fn : Func} (ho : fn.origin = "") (h : PM fn.name = 1) : Extern.findNext fn = none ∧ Extern.find fn = some Extern.BytealgCount.count ∧ (fn.name == "runtime.NumGoroutine") = false := by
 have hn : fn.name = "internal/bytealg.Count" ∨ fn.name = "internal/bytealg.CountString" := by
  unfold PM at h
  by_cases h1 : fn.name = "internal/bytealg.Count"
  ·exact .inl h1
  ·by_cases h2 : fn.name = "internal/bytealg.CountString"
   ·exact .inr h2
   ·exfalso
    have e1 : (fn.name == "internal/bytealg.Count") = false := by simpa using h1
    have e2 : (fn.name == "internal/bytealg.CountString") = false := by simpa using h2
    rw[e1,e2]at h
    cases h3 : (fn.name == "internal/bytealg.IndexByte") <;> cases h4 : (fn.name == "internal/bytealg.IndexByteString") <;> rw [h3] at h <;> simp [h4] at h
 obtain⟨name,origin⟩:=fn;simp only at ho hn;subst ho;rcases hn with rfl|rfl
 ·exact⟨by kernel_rfl,by kernel_rfl,by kernel_rfl⟩
 ·exact⟨by kernel_rfl,by kernel_rfl,by kernel_rfl⟩
theorem AaK {fn : Func} (ho : fn.origin = "") (h : PM fn.name = 2) : Extern.findNext fn = none ∧ Extern.find fn = some Extern.BytealgIndexByte.indexByte ∧ (fn.name == "runtime.NumGoroutine") = false := by
 have hn : fn.name = "internal/bytealg.IndexByte" ∨ fn.name = "internal/bytealg.IndexByteString" := by
  unfold PM at h
  by_cases h1 : fn.name = "internal/bytealg.IndexByte"
  ·exact .inl h1
  ·by_cases h2 : fn.name = "internal/bytealg.IndexByteString"
   ·exact .inr h2
   ·exfalso
    have e1 : (fn.name == "internal/bytealg.IndexByte") = false := by simpa using h1
    have e2 : (fn.name == "internal/bytealg.IndexByteString") = false := by simpa using h2
    rw[e1,e2]at h
    cases h3 : (fn.name == "internal/bytealg.Count") <;> cases h4 : (fn.name == "internal/bytealg.CountString") <;> rw [h3] at h <;> simp [h4] at h
 obtain⟨name,origin⟩:=fn;simp only at ho hn;subst ho;rcases hn with rfl|rfl
 ·exact⟨by kernel_rfl,by kernel_rfl,by kernel_rfl⟩
 ·exact⟨by kernel_rfl,by kernel_rfl,by kernel_rfl⟩
def r5 (P:Program) (H:Tr Ah) (f:AV) (xs:Al):Option AV:=
 match f with
 | .fn (.func g) [] [] => ob (P.funcs[g]?) fun fn => gd fn.body.isNone (gd (fn.origin == "") (match xs with
  | [b,.int .u8 (.ofNat c)]=>gd (Nat.blt c 256) (ob (rT H b) λp=>fN (PM fn.name) λk=>cond (Nat.beq k 1) (fN (WU c p.1 p.2) λm=>some (.int .i64 (.ofNat m)))
    (gd (Nat.beq k 2) (fI (df c p.1 p.2 0) λm=>some (.int .i64 m))))
  |_=>none))
 |_=>none
theorem AhI {P:Program} {E:Env} {F:Nat->Option Obj} {nx:Nat} {ρ:Ak} {h:Nat->Option Ah} {w:World} {H:Tr Ah} (r:Rel E F nx ρ h w) (hs:HS ρ H h) {f:AV} {xs:Al} {a:AV} {us:List Value} (hx:AL ρ xs us) (hev:r5 P H f xs=some a):∃g,f=.fn (.func g) [] []/\∃v,(callFunc g us.toArray).run P w=.ok (.value v) w/\VR ρ a v:=by
 unfold r5 at hev;split at hev
 ·rename_i g;obtain⟨fn,hfn,h1⟩:=Ai.1 hev;obtain⟨hb,h2⟩:=AQ.1 h1;obtain⟨ho,h3⟩:=AQ.1 h2
  have ho' : fn.origin = "" := by simpa using ho
  refine⟨g,rfl,?_⟩;split at h3
  ·rename_i b c;obtain⟨hc,h4⟩:=AQ.1 h3;rw[CE]at hc;obtain⟨⟨l,n⟩,hbs,h5⟩:=Ai.1 h4;simp only[Bv,Nb]at h5;cases hx with
   |cons _ u1 _ us1 hu1 hus1=>cases hus1 with
    |cons _ u2 _ us2 hu2 hus2=>
     cases hus2;cases hu2;have hby:=AhA (P:=P) r hs hu1 hbs;have hdata:(BJ l n).data.toList=BO l n:=by simp[BJ]
     cases hk:Nat.beq (PM fn.name) 1 with
     |true=>
      rw[hk,cond_true]at h5;injection h5 with h5;subst h5;obtain⟨e1,e2,e3⟩:=AaJ ho' (D4 hk);refine⟨.int .i64 (Int.ofNat (WU c l n)),?_,.int _ _⟩;rw[run_callFunc_extern hfn e3 hb e1 e2];have hs0:=Lib.run_countString (P:=P) (BJ l n) (Int.ofNat c) w;have hrun:(Extern.BytealgCount.count #[u1,.int .u8 (Int.ofNat c)]).run P w=(Extern.BytealgCount.count #[.string (BJ l n),.int .u8 (Int.ofNat c)]).run P w:=by
       change Sem.run P (do
        let b<-Extern.Bytes.bytesOf u1;let c'<-Extern.Bytes.asByte (.int .u8 (Int.ofNat c))
        pure (goInt (b.foldl (λn x=>if x==c' then n+1 else n) (0:Nat)))) w=Sem.run P (do
        let b<-Extern.Bytes.bytesOf (.string (BJ l n));let c'<-Extern.Bytes.asByte (.int .u8 (Int.ofNat c))
        pure (goInt (b.foldl (λn x=>if x==c' then n+1 else n) (0:Nat)))) w
       have hst:(Extern.Bytes.bytesOf (.string (BJ l n))).run P w=.ok (BJ l n) w:=rfl;simp only[Sem.run_bind,hby,hst]
      rw[show [u1,Value.int .u8 (Int.ofNat c)].toArray= #[u1,.int .u8 (Int.ofNat c)]from rfl,hrun,hs0,hdata];have:(Int.ofNat c).toNat.toUInt8=UInt8.ofNat c:=rfl;rw[this,ym hc];rfl
     |false=>
      rw[hk,cond_false]at h5;obtain⟨hk2,h6⟩:=AQ.1 h5;injection h6 with h6;subst h6;obtain⟨e1,e2,e3⟩:=AaK ho' (D4 hk2);refine⟨.int .i64 (df c l n 0),?_,.int _ _⟩;rw[run_callFunc_extern hfn e3 hb e1 e2];have hs0:=Lib.run_indexByteString (P:=P) (BJ l n) (Int.ofNat c) w;have hrun:(Extern.BytealgIndexByte.indexByte #[u1,.int .u8 (Int.ofNat c)]).run P w=(Extern.BytealgIndexByte.indexByte #[.string (BJ l n),.int .u8 (Int.ofNat c)]).run P w:=by
       change Sem.run P (do
        let b<-Extern.Bytes.bytesOf u1;let c'<-Extern.Bytes.asByte (.int .u8 (Int.ofNat c))
        match(List.range b.size).find? λi=>b[i]! ==c' with
        |some i=>pure (goInt i)
        |none=>pure (goInt (-1))) w=Sem.run P (do
        let b<-Extern.Bytes.bytesOf (.string (BJ l n));let c'<-Extern.Bytes.asByte (.int .u8 (Int.ofNat c))
        match(List.range b.size).find? λi=>b[i]! ==c' with
        |some i=>pure (goInt i)
        |none=>pure (goInt (-1))) w
       have hst:(Extern.Bytes.bytesOf (.string (BJ l n))).run P w=.ok (BJ l n) w:=rfl;simp only[Sem.run_bind,hby,hst]
      rw[show [u1,Value.int .u8 (Int.ofNat c)].toArray= #[u1,.int .u8 (Int.ofNat c)]from rfl,hrun,hs0,hdata];have:(Int.ofNat c).toNat.toUInt8=UInt8.ofNat c:=rfl;rw[this,Abz hc];split
      ·rename_i e;rw[e];rfl
      ·simp
  ·cases h3
 ·cases hev
def sK (st:Nat) (x:List Di):Option Di:=List.rec (motive:=λ_=>Option Di) none (λe _ r=>cond (Nat.beq e.born st) (some e) r) x
theorem AaM {ρ:Ak} {st:Nat} {e:Di}:∀ {x:List Di} {l:List MapEntry},D3 ρ x l->sK st x=some e->∃m,l.find? (λm=>m.born==st)=some m/\ER ρ e m
 |_,_,.nil,h=>by cases h
 |_,_,.cons r m x l z J,h=>by
  have hb:m.born=r.born:=z.2.2.symm;have h':cond (Nat.beq r.born st) (some r) (sK st x)=some e:=h;cases hc:Nat.beq r.born st with
  |true=>rw[hc,cond_true]at h';injection h' with h';subst h';rw[A0]at hc;exact⟨m,by simp[hb,hc],z⟩
  |false=>
   rw[hc,cond_false]at h';obtain⟨B,L,K⟩:=AaM J h';have y:¬r.born=st:=λe=>by rw[<-A0,hc]at e;cases e
   exact⟨B,by simp[hb,y,L],K⟩
def rY (H:Tr Ah) (a:AV):Option AV:=
 match a with
 |.ptr id 0=>ob (H.get id) λo=>match o with
  |.Ih mid _ seen last=>ob (H.get mid) λm=>match m with
   |.map es r=>gd (Nat.beq r last) (ob seen.getLast? λst=>ob (sK st es) λe=>some (.AM [e.key,e.val]))
   |_=>none
  |_=>none
 |_=>none
theorem AhH {P:Program} {E:Env} {F:Nat->Option Obj} {nx:Nat} {ρ:Ak} {h:Nat->Option Ah} {w:World} {H:Tr Ah} (r:Rel E F nx ρ h w) (hs:HS ρ H h) {x a:AV} {u:Value} (hx:VR ρ x u) (z:rY H x=some a):∃v,(Instr.entry u).run P w=.ok v w/\VR ρ a v:=by
 unfold rY at z;split at z
 ·rename_i id;cases hx with
  |ptr _ _ b hb=>
  obtain⟨o,ho,Z⟩:=Ai.1 z;obtain⟨co,hc,ab⟩:=r.ob _ _ b (hs _ _ ho (.inl ⟨b,hb⟩)) hb;split at Z
  ·rename_i mid B seen last;cases ab with
   |Ih _ _ _ _ V ai R=>
   obtain⟨om,ad,Y⟩:=Ai.1 Z;obtain⟨cm,ag,S⟩:=r.ob _ _ V (hs _ _ ad (.inl ⟨V,R⟩)) R;split at Y
   ·rename_i es y;cases S with
    |map _ _ l hl=>
    obtain⟨ah,h3⟩:=AQ.1 Y;obtain⟨st,aa,h4⟩:=Ai.1 h3;obtain⟨e,he,W⟩:=Ai.1 h4;injection W with W;subst W;have U:=D4 ah;subst U;obtain⟨m,hm,L⟩:=AaM hl he;have hz:b.ob+0=0:=by omega
    have ae:(getObj b.b).run P w=.ok (.mapIter (some V.b) B seen.toArray y) w:=by simp[getObj,Sem.run,hc]
    have af:(getObj V.b).run P w=.ok (.map l.toArray y) w:=by simp[getObj,Sem.run,ag]
    have K:seen.toArray.back?=some st:=by simp[aa]
    have J:l.toArray.find? (λm=>m.born==st)=some m:=by simp[hm]
    refine⟨.tuple #[m.key,m.val],?_,.AM _ [m.key,m.val] (.cons _ _ _ _ L.1 (.cons _ _ _ _ L.2.1 .nil))⟩;simp only[hz,Instr.entry,Sem.run_bind,ae,Result.andThen_ok,K,af,bne_self_eq_false,Bool.false_eq_true,if_false,J,Sem.run_pure]
   ·cases Y
  ·cases Z
 ·cases z
def tE:UnOp->Bool
 |.xor=>true
 |_=>false
def sH (x:AV):Option AV:=
 match x with
 |.int k n=>fI (cond k.signed (-1) k.max) λm=>Um .xor k m n
 |_=>none
theorem Ah6 {P:Program} {ρ:Ak} {x a:AV} {u:Value} (r:VR ρ x u) (h:sH x=some a) (w:World):∃v,(Op.unary .xor u).run P w=.ok v w/\VR ρ a v:=by
 unfold sH at h;split at h
 ·rename_i k n;rw[Nb]at h;cases r;obtain⟨v,hv,z⟩:=ra (P:=P) (ρ:=ρ) (t:=0) (by simp) (by simp) h w;refine⟨v,?_,z⟩;rw[<-hv];cases y:k.signed<;>simp[Op.unary,binOp,y]
 ·cases h
def G4 (P:Program) (H:Tr Ah) (X:Operand->Option AV) (op:Op):Option AV:=
 match op with
 |.build t y=>rR P X t y.toList
 |.convert s d x=>ob (X x) λv=>cond (Xq v) (Aad P H s d v) (rV P s d v)
 |.typeAssert x _ r ok=>ob (X x) λv=>Aac P r ok v
 |.entry x=>ob (X x) λv=>rY H v
 |.unOp op t x=>cond (tE op) (ob (X x) λv=>sH v) (RD P H X (.unOp op t x))
 |.call c=>match c.callee with
  |.value f=>ob (X f) λB=>ob (F0 X c.args.toList) λz=>r5 P H B z
  |_=>RD P H X (.call c)
 |op=>RD P H X op
theorem Aax {P:Program} {E:Env} {F:Nat->Option Obj} {nx:Nat} {ρ:Ak} {h:Nat->Option Ah} {w:World} {H:Tr Ah} (r:Rel E F nx ρ h w) (W:HS ρ H h) {X:Operand->Option AV} {f:Operand->Value} (L:XR ρ X f) (o:Oper) {a:AV} (y:G4 P H X o.op=some a): ∃v,(execOp f o).run P w=.ok (.value v) w/\VR ρ a v:=by
 unfold G4 at y;split at y
 ·rename_i t ae B;obtain⟨dst,op,type,pos,after,guard⟩:=o;simp only at B;subst B;obtain⟨v,K,J⟩:=Ahz (P:=P) L y w;exact⟨v,C1 K,J⟩
 ·rename_i s d x B;obtain⟨dst,op,type,pos,after,guard⟩:=o;simp only at B;subst B;obtain⟨v,hv,K⟩:=Ai.1 y;cases Z:Xq v with
  |true=>rw[Z,cond_true]at K;obtain⟨z,J,R⟩:=Ahw (P:=P) r W (L _ _ hv) K;exact⟨z,C1 J,R⟩
  |false=>rw[Z,cond_false]at K;obtain⟨z,J,R⟩:=Aai (P:=P) (L _ _ hv) K w;exact⟨z,C1 J,R⟩
 ·rename_i x xt Y ok B;obtain⟨dst,op,type,pos,after,guard⟩:=o;simp only at B;subst B;obtain⟨v,hv,K⟩:=Ai.1 y;obtain⟨z,J,R⟩:=Ahv (P:=P) (t:=xt) (L _ _ hv) K w;exact⟨z,C1 J,R⟩
 ·rename_i x B;obtain⟨dst,op,type,pos,after,guard⟩:=o;simp only at B;subst B;obtain⟨v,hv,K⟩:=Ai.1 y;obtain⟨z,J,R⟩:=AhH (P:=P) r W (L _ _ hv) K;exact⟨z,C1 J,R⟩
 ·rename_i S ut x B;obtain⟨dst,op,type,pos,after,guard⟩:=o;simp only at B;subst B;cases U:tE S with
  |true=>rw[U,cond_true]at y;obtain⟨v,hv,K⟩:=Ai.1 y;obtain⟨z,J,R⟩:=Ah6 (P:=P) (L _ _ hv) K w;cases S<;>first|(simp[tE]at U;done)|exact⟨z,C1 J,R⟩
  |false=>rw[U,cond_false]at y;exact rq r W L {dst,op:=.unOp S ut x,type,pos,after,guard} y
 ·rename_i c B;obtain⟨dst,op,type,pos,after,guard⟩:=o;simp only at B;subst B;obtain⟨callee,args,argTypes⟩:=c;simp only at y;split at y
  ·rename_i g;obtain⟨fv,ad,h0⟩:=Ai.1 y;obtain⟨xs,aa,K⟩:=Ai.1 h0;obtain⟨k,hk,v,J,R⟩:=AhI r W (I6 L aa) K;subst hk;refine⟨v,?_,R⟩;have ab:f g=.func (.func k) #[] #[]:=by
    have:=L _ _ ad;generalize f g=u at this;cases this with
    |fn _ _ _ va vc ha hc=>cases ha;cases hc;rfl
   have V:(args.toList.map f).toArray=args.map f:=by rw[map_toArray]
   rw[V]at J;simp only[execOp,resolve,ab,Deferred.ofValue,Sem.run_bind,Sem.run_pure,Result.andThen_ok,invoke,Array.append_empty,Array.empty_append];exact J
  ·exact rq r W L {dst,op:=.call {callee,args,argTypes},type,pos,after,guard} y
 ·exact rq r W L o y
end Go.Ev
end
end
