/- Laid by program out of its parts: EvA, EvB, EvC, EvD, EvE, EvF, EvG. -/
import Derived.Calls
import Derived.Orders
import Derived.Laws.Sem
import Derived.Laws.World
import Derived.Laws.StructEq
import Derived.Laws.Slices
import Derived.Lib.Strings
import Derived.ChangeKeysEq
import Derived.Laws.Cells
import Derived.Lib.Bytealg
import Derived.Laws.BytesString
noncomputable section
set_option linter.unusedVariables false
set_option linter.unusedSimpArgs false
section
/- The evaluator, part A: tries, abstract values, what they stand for, the relation of an abstract heap to a world. No program in it. -/
namespace Go.Ev
@[reducible] def Ab {α:Sort _} (a:α):Prop:=a=a
@[reducible] def Aa:Prop:=true=true
inductive Tr (α:Type) where
 |leaf
 |node (v:Option α) (l r:Tr α)
namespace Tr
variable {α:Type}
def root (t:Tr α):Option α:=Tr.rec (motive:=λ_=>Option α) none (λv _ _ _ _=>v) t
def EH (b:Bool) (t:Tr α):Tr α:=Tr.rec (motive:=λ_=>Tr α) .leaf (λ_ l r _ _=>cond b l r) t
def gp (p:List Bool):Tr α->Option α:=List.rec (motive:=λ_=>Tr α->Option α) root (λb _ q t=>q (EH b t)) p
def sp (x:Option α) (p:List Bool):Tr α->Tr α:=List.rec (motive:=λ_=>Tr α->Tr α) (λt=>Tr.rec (motive:=λ_=>Tr α) (.node x .leaf .leaf) (λ_ l r _ _=>.node x l r) t) (λb _ q t=>Tr.rec (motive:=λ_=>Tr α) (cond b (.node none (q .leaf) .leaf) (.node none .leaf (q .leaf))) (λv l r _ _=>cond b (.node v (q l) r) (.node v l (q r))) t) p
theorem Tu (q:List Bool):gp q (.leaf:Tr α)=none:=by
 induction q with
 |nil=>rfl
 |cons b q y=>exact y
theorem xo (x:Option α):∀(p q:List Bool) (t:Tr α),gp q (sp x p t)=if p=q then x else gp q t:=by
 intro p
 induction p with
 |nil=>
  intro q t;cases q with
  |nil=>cases t<;>rfl
  |cons c q=>
   rw[if_neg (by simp)];cases t with
   |leaf=>cases c<;>rfl
   |node v l r=>rfl
 |cons b p C=>
  intro q t;cases q with
  |nil=>rw[if_neg (by simp)];cases t<;>cases b<;>rfl
  |cons c q=>
   have key:gp (c::q) (sp x (b::p) t)=if b=c then gp q (sp x p (EH b t))else gp (c::q) t:=by
    cases t with
    |leaf=>cases b<;>cases c<;>first|rfl|(show gp q (.leaf:Tr α)=_;exact(Tu q).trans (Tu q).symm)
    |node v l r=>cases b<;>cases c<;>rfl
   rw[key];by_cases B:b=c
   ·subst B;rw[if_pos rfl,C];by_cases y:p=q
    ·subst y;simp
    ·rw[if_neg y,if_neg (by simp[y])];rfl
   ·rw[if_neg B,if_neg (by simp[B])]
end Tr
def Q3 (f:Nat):Nat->List Bool:=Nat.rec (motive:=λ_=>Nat->List Bool) (λ_=>[]) (λ_ q n=>cond (Nat.beq n 0) [] (Nat.beq (n %2) 1::q ((n-1)/2))) f
theorem dF (f n:Nat):Q3 (f+1) n=cond (Nat.beq n 0) [] (Nat.beq (n %2) 1::Q3 f ((n-1)/2)):=rfl
theorem Ajr:∀(f n g m:Nat),n<=f->m<=g->Q3 f n=Q3 g m->n=m:=by
 intro f
 induction f with
 |zero=>
  intro n g m hn y h;have:n=0:=by omega
  subst this;cases g with
  |zero=>omega
  |succ g=>
   rw[dF]at h;cases m with
   |zero=>rfl
   |succ m=>simp[Q3,Nat.beq]at h
 |succ f q=>
  intro n g m hn y h;rw[dF]at h;cases n with
  |zero=>
   cases g with
   |zero=>omega
   |succ g=>
    rw[dF]at h;cases m with
    |zero=>rfl
    |succ m=>simp[Nat.beq]at h
  |succ n=>
   cases g with
   |zero=>
    have:m=0:=by omega
    subst this;simp[Q3,Nat.beq]at h
   |succ g=>
    rw[dF]at h;cases m with
    |zero=>simp[Nat.beq]at h
    |succ m=>
     simp only[Nat.beq,cond_false,List.cons.injEq]at h;obtain⟨C,B⟩:=h;have J:=q _ _ _ (by omega) (by omega) B;have E:((n+1)%2=1)↔((m+1)%2=1):=by rw[<-Nat.beq_eq,<-Nat.beq_eq,C]
     omega
def path (n:Nat):List Bool:=Q3 n n
theorem Aa1 {n m:Nat} (h:path n=path m):n=m:=Ajr n n m m (Nat.le_refl _) (Nat.le_refl _) h
namespace Tr
variable {α:Type}
def get (t:Tr α) (n:Nat):Option α:=gp (path n) t
def set (t:Tr α) (n:Nat) (x:α):Tr α:=sp (some x) (path n) t
def del (t:Tr α) (n:Nat):Tr α:=sp none (path n) t
theorem Em (n:Nat):(Tr.leaf:Tr α).get n=none:=Tu _
theorem F6 (t:Tr α) (n m:Nat) (x:α):(t.set n x).get m=if n=m then some x else t.get m:=by
 unfold get set;rw[xo];by_cases h:n=m
 ·subst h;simp
 ·rw[if_neg (λh'=>h (Aa1 h')),if_neg h]
theorem F7 (t:Tr α) (n:Nat) (x:α):(t.set n x).get n=some x:=by rw[F6,if_pos rfl]
theorem Ks (t:Tr α) {n m:Nat} (h:n≠m) (x:α):(t.set n x).get m=t.get m:=by rw[F6,if_neg h]
theorem H4 (t:Tr α) (n m:Nat):(t.del n).get m=if n=m then none else t.get m:=by
 unfold get del;rw[xo];by_cases h:n=m
 ·subst h;simp
 ·rw[if_neg (λh'=>h (Aa1 h')),if_neg h]
end Tr
inductive CN where
 |str (l:List UInt8)
 |int (n:Int)
inductive AV where
 |bool (b:Bool)
 |int (k:IntKind) (n:Int)
 |str (len n:Nat)
 |Et
 |ptr (id off:Nat)
 |As
 |sl (id off len cap:Nat)
 |Bw (id off len Ar:Nat)
 |sle (id:Nat)
 |EZ
 |map (id:Nat)
 |fn (f:Fn) (first captured:List AV)
 |Gr
 |Dr (id:Nat)
 |iface (t:Nat) (v:AV)
 |EF
 |agg (cs:List AV)
 |AL (vs:List AV)
 |F8 (g off:Nat)
 |MH
 |chan (id:Nat)
 |bs (l:List UInt8)
 |bv (l:List UInt8)
 |vec (Ar n:Nat) (f:Nat->List AV)
 |pv (cs:List AV)
 |Gx (id Ar i j:Nat)
 |AJ (id n Ar:Nat)
 |FN (has:CN->Bool) (val:CN->AV) (z:AV)
def BC:Nat->Nat->List UInt8
 |0,_=>[]
 |l+1,n=>UInt8.ofNat n::BC l (n/256)
def BB (len n:Nat):ByteArray:=⟨(BC len n).toArray⟩
structure CM where
 b:Nat
 ob:Nat
 cap:Nat
structure Af where
 nm:Nat->Option CM
 st:Nat->Option Obj
instance:CoeFun Af (λ_=>Nat->Option CM):=⟨Af.nm⟩
structure Af.le (ρ ρ':Af):Prop where
 nm:∀i b,ρ i=some b->ρ' i=some b
 st:∀b o,ρ.st b=some o->ρ'.st b=some o
instance {ρ q:Af}:CoeFun (Af.le ρ q) (λ_=>∀i b,ρ i=some b->q i=some b):=⟨Af.le.nm⟩
theorem Af.le_refl (ρ:Af):ρ.le ρ:=⟨λ_ _ h=>h,λ_ _ h=>h⟩
theorem Af.le_trans {a b c:Af} (h:a.le b) (k:b.le c):a.le c:=⟨λi x q=>k i x (h i x q),λi x q=>k.st i x (h.st i x q)⟩
def Af.put (ρ:Af) (i:Nat) (b:CM):Af:=⟨λj=>if j=i then some b else ρ j,ρ.st⟩
theorem Af.Fx (ρ:Af) (i:Nat) (b:CM):(ρ.put i b) i=some b:=if_pos rfl
theorem Af.GR {ρ:Af} {i j:Nat} (h:j≠i) (b:CM):(ρ.put i b) j=ρ j:=if_neg h
theorem Af.Li {ρ:Af} {i:Nat} (h:ρ i=none) (b:CM):ρ.le (ρ.put i b):=⟨λj x q=>by
  have:j≠i:=λe=>by subst e;rw[h]at q;cases q
  rw[Af.GR this];exact q,λ_ _ h=>h⟩
structure RX (n n':Nat) (ρ ρ':Af):Prop where
 le:ρ.le ρ'
 lo:∀i,i<n->ρ' i=ρ i
 nn:n<=n'
theorem RX.refl (n:Nat) (ρ:Af):RX n n ρ ρ:=⟨Af.le_refl ρ,λ_ _=>rfl,Nat.le_refl _⟩
theorem RX.trans {a b c:Nat} {ρ y q:Af} (h:RX a b ρ y) (k:RX b c y q):RX a c ρ q:=⟨Af.le_trans h.le k.le,λi hi=>(k.lo i (Nat.lt_of_lt_of_le hi h.nn)).trans (h.lo i hi),Nat.le_trans h.nn k.nn⟩
theorem RX.gE {a C b B:Nat} {ρ q:Af} (h:RX a b ρ q) (y:C<=a) (hb:b<=B):RX C B ρ q:=⟨h.le,λi hi=>h.lo i (Nat.lt_of_lt_of_le hi y),Nat.le_trans y (Nat.le_trans h.nn hb)⟩
structure RY (ni n n':Nat) (ρ ρ':Af):Prop where
 le:ρ.le ρ'
 lo:∀i,i<n->i≠ni->ρ' i=ρ i
 nn:n<=n'
theorem RX.ry {ni a b:Nat} {ρ q:Af} (h:RX a b ρ q):RY ni a b ρ q:=⟨h.le,λi hi _=>h.lo i hi,h.nn⟩
theorem RY.rx {a b:Nat} {ρ q:Af} (h:RY a a b ρ q):RX a b ρ q:=⟨h.le,λi hi=>h.lo i hi (Nat.ne_of_lt hi),h.nn⟩
inductive KR:TypeDesc->CN->Value->Prop where
 |str (l:List UInt8):KR .string (.str l) (.string ⟨l.toArray⟩)
 |int (k:IntKind) (n:Int):KR (.int k) (.int n) (.int k n)
def fG:Int:=1180591620717411303424
def fF:IntKind->Int
 |.i8=>1180591620717411303425
 |.i16=>1180591620717411303426
 |.i32=>1180591620717411303427
 |.i64=>1180591620717411303428
 |.u8=>1180591620717411303429
 |.u16=>1180591620717411303430
 |.u32=>1180591620717411303431
 |.u64=>1180591620717411303432
def QS (has:CN->Bool) (kd:TypeDesc) (k:CN):Prop:=match kd,k with
 |.string,.str _=>has (.int fG)=false
 |.int q,.int n=>has (.int (fF q))=true/\n<fG
 |_,_=>False
def gH (z a:AV):Prop:=a=z\/(z=.As/\∃e f,a=.vec e 0 f)
mutual
inductive VR (ρ:Af):AV->Value->Prop where
 |bool (b:Bool):VR ρ (.bool b) (.bool b)
 |int (k:IntKind) (n:Int):VR ρ (.int k n) (.int k n)
 |str (len n:Nat) (h:n<256^len):VR ρ (.str len n) (.string (BB len n))
 |Et:VR ρ .Et (.pointer none)
 |ptr (id off:Nat) (b:CM) (h:ρ id=some b):VR ρ (.ptr id off) (.pointer (some ⟨b.b,b.ob+off,none⟩))
 |As:VR ρ .As (.slice none 0 0)
 |sl (id off len cap:Nat) (b:CM) (h:ρ id=some b):VR ρ (.sl id off len cap) (.slice (some ⟨b.b,b.ob+off,none⟩) len cap)
 |Bw (id off len Ar:Nat) (b:CM) (h:ρ id=some b) (he:0<Ar) (hl:off+len*Ar<=b.cap):VR ρ (.Bw id off len Ar) (.slice (some ⟨b.b,b.ob+off,none⟩) len ((b.cap-off)/Ar))
 |sle (id:Nat) (b:CM) (o c:Nat) (h:ρ id=some b):VR ρ (.sle id) (.slice (some ⟨b.b,o,none⟩) 0 c)
 |EZ:VR ρ .EZ (.map none)
 |map (id:Nat) (b:CM) (h:ρ id=some b):VR ρ (.map id) (.map (some b.b))
 |fn (f:Fn) (a c:List AV) (va vc:List Value) (ha:AF ρ a va) (hc:AF ρ c vc):VR ρ (.fn f a c) (.func f va.toArray vc.toArray)
 |Gr:VR ρ .Gr .nilFunc
 |Dr (id:Nat) (b:CM) (h:ρ id=some b):VR ρ (.Dr id) (.func (.yield b.b) #[] #[])
 |iface (t:Nat) (a:AV) (v:Value) (h:VR ρ a v):VR ρ (.iface t a) (.iface t v)
 |EF:VR ρ .EF .nilIface
 |agg (l:List AV) (vs:List Value) (h:AF ρ l vs):VR ρ (.agg l) (.agg vs.toArray)
 |AL (l:List AV) (vs:List Value) (h:AF ρ l vs):VR ρ (.AL l) (.tuple vs.toArray)
 |F8 (g off:Nat):VR ρ (.F8 g off) (.pointer (some ⟨g,off,none⟩))
 |MH:VR ρ .MH (.chan none)
 |chan (id:Nat) (b:CM) (h:ρ id=some b):VR ρ (.chan id) (.chan (some b.b))
 |bs (l:List UInt8):VR ρ (.bs l) (.string ⟨l.toArray⟩)
 |bv (l:List UInt8) (b o cap:Nat) (cs:Array Value) (el:Nat) (fz:Nat×Nat) (hs:ρ.st b=some (.cells cs el fz)) (hcap:l.length<=cap)
   (hc:∀i,i<l.length->cs[o+i]? =some (.int .u8 (l.getD i 0).toNat)):VR ρ (.bv l) (.slice (some ⟨b,o,none⟩) l.length cap)
 |Hz (l:List UInt8) (h:l=[]) (base:Option Addr) (cap:Nat):VR ρ (.bv l) (.slice base 0 cap)
 |vec (Ar n:Nat) (f:Nat->List AV) (b o cap:Nat) (cs:Array Value) (el:Nat) (fz:Nat×Nat) (g:Nat->List Value) (hs:ρ.st b=some (.cells cs el fz)) (he:0<Ar) (hcap:n<=cap)
   (hv:∀i,i<n->AF ρ (f i) (g i)) (hc:∀i,i<n->∀j v,(g i)[j]? =some v->cs[o+i*Ar+j]? =some v):VR ρ (.vec Ar n f) (.slice (some ⟨b,o,none⟩) n cap)
 |G7 (Ar n:Nat) (f:Nat->List AV) (h:n=0) (base:Option Addr) (cap:Nat):VR ρ (.vec Ar n f) (.slice base 0 cap)
 |pv (l:List AV) (vs:List Value) (b o:Nat) (cs:Array Value) (el:Nat) (fz:Nat×Nat) (hs:ρ.st b=some (.cells cs el fz)) (hv:AF ρ l vs)
   (hc:∀j v,vs[j]? =some v->cs[o+j]? =some v):VR ρ (.pv l) (.pointer (some ⟨b,o,none⟩))
 |Gx (id Ar i j:Nat) (b:CM) (h:ρ id=some b):VR ρ (.Gx id Ar i j) (.pointer (some ⟨b.b,b.ob+(i*Ar+j),none⟩))
 |AJ (id n Ar:Nat) (b:CM) (h:ρ id=some b) (he:0<Ar) (hl:n*Ar<=b.cap):VR ρ (.AJ id n Ar) (.slice (some ⟨b.b,b.ob,none⟩) n (b.cap/Ar))
 |G5 (id n Ar:Nat) (hn:n=0) (base:Option Addr):VR ρ (.AJ id n Ar) (.slice base 0 0)
 |FN (has:CN->Bool) (val:CN->AV) (z:AV) (b:Nat) (es:Array MapEntry) (clock:Nat) (g:CN->Value) (hs:ρ.st b=some (.map es clock))
   (hn:∀(kd:TypeDesc) (k:CN) (u:Value),KR kd k u->QS has kd k->has k=false->Instr.findNow kd u es.toList 0=some none)
   (hy:∀(kd:TypeDesc) (k:CN) (u:Value),KR kd k u->QS has kd k->has k=true->∃j,Instr.findNow kd u es.toList 0=some (some (j,g k)))
   (hz:∀k,has k=false->gH z (val k)) (hg:∀(k:CN),has k=true->VR ρ (val k) (g k)):VR ρ (.FN has val z) (.map (some b))
inductive AF (ρ:Af):List AV->List Value->Prop where
 |nil:AF ρ [] []
 |cons (a:AV) (v:Value) (l:List AV) (vs:List Value) (h:VR ρ a v) (hs:AF ρ l vs):AF ρ (a::l) (v::vs)
end
theorem Apx {ρ:Af} {z a:AV} {v:Value} (h:gH z a) (hv:VR ρ z v):VR ρ a v:=by
 rcases h with rfl|⟨rfl,e,f,rfl⟩
 ·exact hv
 ·cases hv;exact .G7 _ _ _ rfl _ _
theorem VR.mono {ρ C:Af} (q:ρ.le C) {a:AV} {v:Value} (h:VR ρ a v):VR C a v:=VR.rec (ρ:=ρ) (motive_1:=λa v _=>VR C a v) (motive_2:=λl vs _=>AF C l vs) .bool .int .str .Et (λid off b h=>.ptr id off b (q _ _ h)) .As (λid off len cap b h=>.sl id off len cap b (q _ _ h)) (λid off len Ar b h K L=>.Bw id off len Ar b (q _ _ h) K L) (λid b o c h=>.sle id b o c (q _ _ h)) .EZ (λid b h=>.map id b (q _ _ h)) (λf a c va O _ _ S R=>.fn f a c va O S R) .Gr (λid b h=>.Dr id b (q _ _ h)) (λt a v _ y=>.iface t a v y) .EF (λl vs _ y=>.agg l vs y) (λl vs _ y=>.AL l vs y) .F8 .MH (λid b h=>.chan id b (q _ _ h)) .bs (λl b o cap cs el fz E B hc=>.bv l b o cap cs el fz (q.st _ _ E) B hc) .Hz (λAr n f b o cap cs el fz g E K B _ hc y=>.vec Ar n f b o cap cs el fz g (q.st _ _ E) K B y hc) .G7 (λl vs b o cs el fz E _ hc y=>.pv l vs b o cs el fz (q.st _ _ E) y hc) (λid Ar i j b h=>.Gx id Ar i j b (q _ _ h)) (λid n Ar b h K L=>.AJ id n Ar b (q _ _ h) K L) .G5 (λhas val z b U J g E hn hy hz _ y=>.FN has val z b U J g (q.st _ _ E) hn hy hz y) .nil (λa v l vs _ _ y M=>.cons a v l vs y M) h
theorem AF.mono {ρ q:Af} (y:ρ.le q):∀ {l:List AV} {vs:List Value},AF ρ l vs->AF q l vs
 |_,_,.nil=>.nil
 |_,_,.cons a v l vs h B=>.cons a v l vs (h.mono y) (AF.mono y B)
theorem AF.length {ρ:Af}:∀ {l:List AV} {vs:List Value},AF ρ l vs->l.length=vs.length
 |_,_,.nil=>rfl
 |_,_,.cons _ _ _ _ _ q=>by simp[AF.length q]
theorem AF.get {ρ:Af}:∀ {l:List AV} {vs:List Value},AF ρ l vs->∀(i:Nat) (a:AV),l[i]? =some a->∃v,vs[i]? =some v/\VR ρ a v
 |_,_,.nil,i,a,h=>by simp at h
 |_,_,.cons B v l vs h q,0,a,hi=>by simp at hi;subst hi;exact⟨v,rfl,h⟩
 |_,_,.cons B v l vs h q,i+1,a,hi=>by simp at hi;obtain⟨u,hu,y⟩:=AF.get q i a hi;exact⟨u,by simpa using hu,y⟩
theorem AF.append {ρ:Af}:∀ {l y:List AV} {vs q:List Value},AF ρ l vs->AF ρ y q->AF ρ (l++y) (vs++q)
 |_,_,_,_,.nil,h'=>h'
 |_,_,_,_,.cons a v l vs h B,h'=>.cons _ _ _ _ h (B.append h')
theorem AF.drop {ρ:Af}:∀(k:Nat) {l:List AV} {vs:List Value},AF ρ l vs->AF ρ (l.drop k) (vs.drop k)
 |0,_,_,h=>h
 |_+1,_,_,.nil=>.nil
 |k+1,_,_,.cons _ _ _ _ _ q=>AF.drop k q
theorem AF.take {ρ:Af}:∀(k:Nat) {l:List AV} {vs:List Value},AF ρ l vs->AF ρ (l.take k) (vs.take k)
 |0,_,_,_=>.nil
 |_+1,_,_,.nil=>.nil
 |k+1,_,_,.cons _ _ _ _ h q=>.cons _ _ _ _ h (AF.take k q)
def AV.one:AV->Bool
 |.agg _=>false
 |.AL _=>false
 |_=>true
theorem VR.one {ρ:Af} {a:AV} {v:Value} (h:VR ρ a v):v.oneCell'=a.one:=by cases h<;>rfl
def AV.cells:AV->List AV
 |.agg cs=>cs
 |v=>[v]
theorem VR.cells {ρ:Af} {a:AV} {v:Value} (h:VR ρ a v):AF ρ a.cells v.cells.toList:=by
 cases h with
 |agg l vs h=>simpa[AV.cells,Value.cells]using h
 |bool b=>exact .cons _ _ _ _ (.bool b) .nil
 |int k n=>exact .cons _ _ _ _ (.int k n) .nil
 |str l n h=>exact .cons _ _ _ _ (.str l n h) .nil
 |Et=>exact .cons _ _ _ _ .Et .nil
 |ptr i o b h=>exact .cons _ _ _ _ (.ptr i o b h) .nil
 |As=>exact .cons _ _ _ _ .As .nil
 |sl i o l c b h=>exact .cons _ _ _ _ (.sl i o l c b h) .nil
 |Bw i o l c b h C E=>exact .cons _ _ _ _ (.Bw i o l c b h C E) .nil
 |sle i b o c h=>exact .cons _ _ _ _ (.sle i b o c h) .nil
 |EZ=>exact .cons _ _ _ _ .EZ .nil
 |map i b h=>exact .cons _ _ _ _ (.map i b h) .nil
 |fn f a c va J L hc=>exact .cons _ _ _ _ (.fn f a c va J L hc) .nil
 |Gr=>exact .cons _ _ _ _ .Gr .nil
 |Dr i b h=>exact .cons _ _ _ _ (.Dr i b h) .nil
 |iface t a v h=>exact .cons _ _ _ _ (.iface t a v h) .nil
 |EF=>exact .cons _ _ _ _ .EF .nil
 |AL l vs h=>exact .cons _ _ _ _ (.AL l vs h) .nil
 |F8 g o=>exact .cons _ _ _ _ (.F8 g o) .nil
 |MH=>exact .cons _ _ _ _ .MH .nil
 |chan i b h=>exact .cons _ _ _ _ (.chan i b h) .nil
 |bs l=>exact .cons _ _ _ _ (.bs l) .nil
 |bv l b o cap cs el fz y q hc=>exact .cons _ _ _ _ (.bv l b o cap cs el fz y q hc) .nil
 |Hz l h base cap=>exact .cons _ _ _ _ (.Hz l h base cap) .nil
 |vec Ar n f b o cap cs el fz g y C q hv hc=>exact .cons _ _ _ _ (.vec Ar n f b o cap cs el fz g y C q hv hc) .nil
 |G7 Ar n f h base cap=>exact .cons _ _ _ _ (.G7 Ar n f h base cap) .nil
 |pv l vs b o cs el fz y hv hc=>exact .cons _ _ _ _ (.pv l vs b o cs el fz y hv hc) .nil
 |Gx id Ar i j b h=>exact .cons _ _ _ _ (.Gx id Ar i j b h) .nil
 |AJ id n Ar b h C E=>exact .cons _ _ _ _ (.AJ id n Ar b h C E) .nil
 |G5 id n Ar hn base=>exact .cons _ _ _ _ (.G5 id n Ar hn base) .nil
 |FN has val z b M B g y hn hy hz K=>exact .cons _ _ _ _ (.FN has val z b M B g y hn hy hz K) .nil
inductive CB where
 |CC (z:List AV)
 |rows (Ar:Nat) (f:Nat->List AV)
structure DJ where
 key:AV
 val:AV
 born:Nat
inductive Ac where
 |cells (elem:Nat) (c:Tr AV) (z:CB) (n:Nat) (op:Bool)
 |map (es:List DJ) (clock:Nat)
 |Dc (op:Bool)
 |loop (st:LoopState) (Dp:Option Code) (T:Tr AV) (N:Nat) (ps:Array Tmp) (asg body:Code) (d:Nat)
 |Js (l:List AV)
 |chan (cap:Nat) (buf:List AV)
 |Mo (l n pos:Nat)
 |O6
 |Ix (id since:Nat) (seen:List Nat) (last:Nat)
def Ac.Age:Ac->Bool
 |.Js _=>true
 |_=>false
def CB.at (z:CB) (k:Nat):Option AV:=CB.rec (motive:=λ_=>Option AV) (λl=>l[k %l.length]?) (λAr f=>(f (k/Ar))[k %Ar]?) z
def cellOf (c:Tr AV) (z:CB) (k:Nat):Option AV:=Option.rec (motive:=λ_=>Option AV) (z.at k) (λv=>some v) (c.get k)
theorem Ad9 (c:Tr AV) (z:CB) (k:Nat) (v:AV):cellOf (c.set k v) z k=some v:=by unfold cellOf;rw[Tr.F7]
theorem Ad8 (c:Tr AV) (z:CB) {k j:Nat} (h:k≠j) (v:AV):cellOf (c.set k v) z j=cellOf c z j:=by unfold cellOf;rw[Tr.Ks _ h]
def TR (ρ:Af) (T:Tr AV) (tmps:Array Value):Prop:=∀t a,T.get t=some a->∃v,tmps[t]? =some v/\VR ρ a v
theorem TR.mono {ρ q:Af} (y:ρ.le q) {T:Tr AV} {tmps:Array Value} (h:TR ρ T tmps):TR q T tmps:=λt a ht=>let ⟨v,C,B⟩:=h t a ht;⟨v,C,B.mono y⟩
def ER (ρ:Af) (a:DJ) (e:MapEntry):Prop:=VR ρ a.key e.key/\VR ρ a.val e.val/\a.born=e.born
inductive Ek (ρ:Af):List DJ->List MapEntry->Prop where
 |nil:Ek ρ [] []
 |cons (a:DJ) (e:MapEntry) (l:List DJ) (es:List MapEntry) (h:ER ρ a e) (hs:Ek ρ l es):Ek ρ (a::l) (e::es)
theorem Ek.mono {ρ y:Af} (q:ρ.le y):∀ {l:List DJ} {B:List MapEntry},Ek ρ l B->Ek y l B
 |_,_,.nil=>.nil
 |_,_,.cons a e l B h C=>.cons a e l B ⟨h.1.mono q,h.2.1.mono q,h.2.2⟩ (Ek.mono q C)
theorem Ek.length {ρ:Af}:∀ {l:List DJ} {vs:List MapEntry},Ek ρ l vs->l.length=vs.length
 |_,_,.nil=>rfl
 |_,_,.cons _ _ _ _ _ q=>by simp[Ek.length q]
def Z6 (c:Array Value) (fz:Nat×Nat):Prop:=fz=(0,0)\/c.size<=fz.1
inductive OR (ρ:Af) (b:CM):Ac->Obj->Prop where
 |cells (elem:Nat) (c:Tr AV) (z:CB) (n:Nat) (op:Bool) (cs:Array Value) (fz:Nat×Nat)
   (C0:cs.size=b.ob+b.cap) (hn:n<=b.cap) (hop:op=false->n=b.cap) (hfz:Z6 cs fz)
   (h:∀k a,k<n->cellOf c z k=some a->∃v,cs[b.ob+k]? =some v/\VR ρ a v):OR ρ b (.cells elem c z n op) (.cells cs elem fz)
 |map (es:List DJ) (clock:Nat) (l:List MapEntry) (h:Ek ρ es l):OR ρ b (.map es clock) (.map l.toArray clock)
 |Dc (op:Bool):OR ρ b (.Dc op) (.deferred (if op then some []else none))
 |loop (st:LoopState) (Dp:Option Code) (T:Tr AV) (N:Nat) (ps:Array Tmp) (asg body:Code) (d fn:Nat) (tmps:Array Value) (bd:CM)
   (hT:TR ρ T tmps) (hN:tmps.size=N) (hd:ρ d=some bd):OR ρ b (.loop st Dp T N ps asg body d) (.loop {state:=st,pending:=Dp,fn,tmps,params:=ps,assign:=asg,body,defers:=bd.b})
 |chan (cap:Nat) (buf:List AV) (vs:List Value) (s r:Nat) (h:AF ρ buf vs):OR ρ b (.chan cap buf) (.chan cap vs.toArray false s r false)
 |Mo (l n pos:Nat) (hob:b.ob=0) (hn:n<256^l):OR ρ b (.Mo l n pos) (.stringIter (BB l n) pos)
 |O6 (s:Nat) (seen:Array Nat) (last:Nat) (hob:b.ob=0):OR ρ b .O6 (.mapIter none s seen last)
 |Ix (id since:Nat) (seen:List Nat) (last:Nat) (bm:CM) (hob:b.ob=0) (hm:ρ id=some bm):OR ρ b (.Ix id since seen last) (.mapIter (some bm.b) since seen.toArray last)
theorem OR.mono {ρ E:Af} (q:ρ.le E) {b:CM} {a:Ac} {o:Obj} (h:OR ρ b a o):OR E b a o:=by
 cases h with
 |cells J c z n op cs fz C0 hn K L h=>exact .cells J c z n op cs fz C0 hn K L λk a U V=>let ⟨v,Z,Y⟩:=h k a U V;⟨v,Z,Y.mono q⟩
 |map es C l h=>exact .map es C l (h.mono q)
 |Dc op=>exact .Dc op
 |loop st Dp T N R O body d fn tmps bd hT W hd=>exact .loop st Dp T N R O body d fn tmps bd (hT.mono q) W (q _ _ hd)
 |chan cap M vs s r h=>exact .chan cap M vs s r (h.mono q)
 |Mo l n pos y hn=>exact .Mo l n pos y hn
 |O6 s seen last y=>exact .O6 s seen last y
 |Ix id B seen last bm y S=>exact .Ix id B seen last bm y (q _ _ S)
structure Env where
 tape:Nat->Question->Nat
 os:Os
 output:Array (Nat×ByteArray)
 base:Nat->Option Obj
 fs:Nat->Bool
structure Rel (E:Env) (F:Nat->Option Obj) (nx:Nat) (ρ:Af) (h:Nat->Option Ac) (w:World):Prop where
 tape:w.tape=E.tape
 os:w.os=E.os
 output:w.output=E.output
 fr:∀b o,F b=some o->w.heap[b]? =some o
 ob:∀i o b,h i=some o->ρ i=some b->∃c,w.heap[b.b]? =some c/\OR ρ b o c
 dj:∀i o b,h i=some o->ρ i=some b->F b.b=none
 inj:∀i j o o' b b',h i=some o->h j=some o'->ρ i=some b->ρ j=some b'->b.b=b'.b->i=j
 new:∀i,nx<=i->ρ i=none
 gl:∀g l,h g=some (.Js l)->∃cs e fz,E.base g=some (.cells cs e fz)/\∀ρ',AF ρ' l cs.toList
 bs:∀b o,E.base b=some o->F b=some o
 st:∀b o,ρ.st b=some o->w.heap[b]? =some o
 sd:∀i o b,h i=some o->ρ i=some b->ρ.st b.b=none
 sf:∀b o o',F b=some o->ρ.st b=some o'->E.fs b=true
theorem Rel.drew {E:Env} {F:Nat->Option Obj} {nx:Nat} {ρ:Af} {h:Nat->Option Ac} {w:World} (r:Rel E F nx ρ h w):Rel E F nx ρ h w.drew:=⟨r.tape,r.os,r.output,r.fr,r.ob,r.dj,r.inj,r.new,r.gl,r.bs,r.st,r.sd,r.sf⟩
theorem Rel.less {E:Env} {F:Nat->Option Obj} {nx:Nat} {ρ:Af} {h h':Nat->Option Ac} {w:World} (r:Rel E F nx ρ h w) (q:∀i o,h' i=some o->h i=some o):Rel E F nx ρ h' w:=⟨r.tape,r.os,r.output,r.fr,λi o b hi=>r.ob i o b (q i o hi),λi o b hi=>r.dj i o b (q i o hi),λi j o o' b C hi y=>r.inj i j o o' b C (q i o hi) (q j o' y),r.new,λg l B=>r.gl g l (q g _ B),r.bs,r.st,λi o b hi=>r.sd i o b (q i o hi),r.sf⟩
theorem Rel.Ff {E:Env} {F:Nat->Option Obj} {nx nx':Nat} {ρ:Af} {h:Nat->Option Ac} {w:World} (r:Rel E F nx ρ h w) (hn:nx<=nx'): Rel E F nx' ρ h w:={r with new:=λi hi=>r.new i (Nat.le_trans hn hi)}
theorem MX {w:World} {b:Nat} {o:Obj} (h:w.heap[b]? =some o):b<w.heap.size:=(Array.getElem?_eq_some_iff.1 h).1
theorem Rel.alloc {E:Env} {F:Nat->Option Obj} {nx nx':Nat} {ρ:Af} {h:Nat->Option Ac} {w:World} (r:Rel E F nx ρ h w) {i:Nat} (hi:ρ i=none) (Y:nx<=nx') (aa:i<nx') {cap:Nat} {a:Ac} {o:Obj} (O:OR (ρ.put i ⟨w.heap.size,0,cap⟩) ⟨w.heap.size,0,cap⟩ a o): Rel E F nx' (ρ.put i ⟨w.heap.size,0,cap⟩) (λj=>if j=i then some a else h j) (w.alloc o)/\ ρ.le (ρ.put i ⟨w.heap.size,0,cap⟩):=by
 have R:ρ.le (ρ.put i ⟨w.heap.size,0,cap⟩):=Af.Li hi _;have B:∀b o',w.heap[b]? =some o'->(w.alloc o).heap[b]? =some o':=λb o' hb=>by have:=MX hb;show(w.heap.push o)[b]? =_;rw[Array.getElem?_push,if_neg (by omega)];exact hb
 have U:(w.alloc o).heap[w.heap.size]? =some o:=by show(w.heap.push o)[w.heap.size]? =_;rw[Array.getElem?_push,if_pos rfl]
 refine⟨⟨r.tape,r.os,r.output,λb o' hb=>B b o' (r.fr b o' hb),?_,?_,?_,?_,λg l V=>?_,r.bs,λb o' hb=>B b o' (r.st b o' hb),?_,r.sf⟩,R⟩
 rotate_right
 rotate_right
 ·by_cases S:g=i
  ·subst S;simp only[if_true,Option.some.injEq]at V;subst V;cases O
  ·simp only[S,if_false]at V;exact r.gl g l V
 ·intro j o' b y hb;by_cases q:j=i
  ·subst q;simp only[Af.put,if_true,Option.some.injEq]at hb;subst hb;cases W:ρ.st w.heap.size with
   |none=>exact W
   |some x=>exact absurd (MX (r.st _ _ W)) (Nat.lt_irrefl _)
  ·simp only[Af.put,q,if_false]at y hb;exact r.sd j o' b y hb
 ·intro j o' b y hb;by_cases q:j=i
  ·subst q;simp only[Af.put,if_true,Option.some.injEq]at y hb;subst y;subst hb;exact⟨o,U,O⟩
  ·simp only[Af.put,q,if_false]at y hb;obtain⟨c,hc,hr⟩:=r.ob j o' b y hb;exact⟨c,B _ _ hc,hr.mono R⟩
 ·intro j o' b y hb;by_cases q:j=i
  ·subst q;simp only[Af.put,if_true,Option.some.injEq]at y hb;subst hb;cases W:F w.heap.size with
   |none=>rfl
   |some x=>exact absurd (MX (r.fr _ _ W)) (Nat.lt_irrefl _)
  ·simp only[Af.put,q,if_false]at y hb;exact r.dj j o' b y hb
 ·intro j k o1 Z b1 b2 y M J C L;by_cases q:j=i<;>by_cases K:k=i
  ·rw[q,K]
  ·simp only[Af.put,q,K,if_true,if_false,Option.some.injEq]at y M J C;subst J;obtain⟨c,hc,_⟩:=r.ob k Z b2 M C;have:=MX hc;simp only at L;omega
  ·simp only[Af.put,q,K,if_true,if_false,Option.some.injEq]at y M J C;subst C;obtain⟨c,hc,_⟩:=r.ob j o1 b1 y J;have:=MX hc;simp only at L;omega
  ·simp only[Af.put,q,K,if_false]at y M J C;exact r.inj j k o1 Z b1 b2 y M J C L
 ·intro j y;have:j≠i:=by omega
  simp only[Af.put,this,if_false];exact r.new j (Nat.le_trans Y y)
theorem Rel.put {E:Env} {F:Nat->Option Obj} {nx:Nat} {ρ:Af} {h:Nat->Option Ac} {w w':World} (r:Rel E F nx ρ h w) {i:Nat} {b:CM} {o a:Ac} {c:Obj} (hi:h i=some o) (hb:ρ i=some b) (R:OR ρ b a c) (V:∀k,w'.heap[k]? =if k=b.b then some c else w.heap[k]?) (ht:w'.tape=w.tape) (aa:w'.os=w.os) (U:w'.output=w.output): Rel E F nx ρ (λj=>if j=i then some a else h j) w':=by
 have hF:=r.dj i o b hi hb;refine⟨ht.trans r.tape,aa.trans r.os,U.trans r.output,?_,?_,?_,?_,r.new,λg l W=>?_,r.bs,λk o' C=>?_,λj o' O B y=>?_,r.sf⟩
 rotate_right
 rotate_right
 rotate_right
 ·by_cases S:g=i
  ·subst S;simp only[if_true,Option.some.injEq]at W;subst W;cases R
  ·simp only[S,if_false]at W;exact r.gl g l W
 ·have hS:=r.sd i o b hi hb;rw[V,if_neg (λe=>by subst e;rw[hS]at C;cases C)];exact r.st k o' C
 ·by_cases q:j=i
  ·subst q;rw[hb]at y;cases y;exact r.sd j o b hi hb
  ·simp only[q,if_false]at B;exact r.sd j o' O B y
 ·intro k o' C;rw[V,if_neg (λe=>by subst e;rw[hF]at C;cases C)];exact r.fr k o' C
 ·intro j o' O B y;by_cases q:j=i
  ·subst q;simp only[if_true,Option.some.injEq]at B;subst B;rw[hb]at y;cases y;exact⟨c,by rw[V,if_pos rfl],R⟩
  ·simp only[q,if_false]at B;obtain⟨c',ab,hr⟩:=r.ob j o' O B y;refine⟨c',?_,hr⟩;rw[V,if_neg (λe=>q (r.inj j i o' o O b B hi y hb e))];exact ab
 ·intro j o' O B y;by_cases q:j=i
  ·subst q;rw[hb]at y;cases y;exact hF
  ·simp only[q,if_false]at B;exact r.dj j o' O B y
 ·intro j k o1 o2 Z Y B C M L K;by_cases q:j=i<;>by_cases J:k=i
  ·rw[q,J]
  ·simp only[J,if_false]at C;subst q;exact r.inj _ k o o2 Z Y hi C M L K
  ·simp only[q,if_false]at B;subst J;exact r.inj j _ o1 o Z Y B hi M L K
  ·simp only[q,J,if_false]at B C;exact r.inj j k o1 o2 Z Y B C M L K
end Go.Ev
end
section
/- The evaluator, part B: numbers, texts, constants, types; operations that only compute. -/
namespace Go.Ev
def ob.{u,v} {α:Type u} {q:Type v} (x:Option α) (f:α->Option q):Option q:=Option.rec (motive:=λ_=>Option q) none f x
def gd {q:Type} (b:Bool) (x:Option q):Option q:=cond b x none
theorem Ae.{u,v} {α:Type u} {q:Type v} {x:Option α} {f:α->Option q} {y:q}:ob x f=some y↔∃a,x=some a/\f a=some y:=by
 cases x with
 |none=>simp[ob]
 |some a=>simp[ob]
theorem AK {q:Type} {b:Bool} {x:Option q} {y:q}:gd b x=some y↔b=true/\x=some y:=by cases b<;>simp[gd]
def fN {q:Type} (n:Nat) (k:Nat->q):q:=Nat.rec (motive:=λ_=>q) (k 0) (λm _=>k (Nat.succ m)) n
theorem Bu {q:Type} (n:Nat) (k:Nat->q):fN n k=k n:=by cases n<;>rfl
def fI {q:Type} (n:Int) (k:Int->q):q:=Int.rec (motive:=λ_=>q) (λm=>fN m λm=>k (Int.ofNat m)) (λm=>fN m λm=>k (Int.negSucc m)) n
theorem MM {q:Type} (n:Int) (k:Int->q):fI n k=k n:=by
 cases n with
 |ofNat m=>exact Bu m λm=>k (Int.ofNat m)
 |negSucc m=>exact Bu m λm=>k (Int.negSucc m)
def QM:IntKind->Nat
 |.i8=>0|.i16=>1|.i32=>2|.i64=>3|.u8=>4|.u16=>5|.u32=>6|.u64=>7
def MU (a b:IntKind):Bool:=Nat.beq (QM a) (QM b)
theorem O3 {a b:IntKind} (h:MU a b=true):a=b:=by cases a<;>cases b<;>first|rfl|(exact absurd h (by decide))
def Ak:Int->Int->Bool
 |.ofNat a,.ofNat b=>Nat.beq a b
 |.negSucc a,.negSucc b=>Nat.beq a b
 |_,_=>false
def AP:Int->Int->Bool
 |.ofNat a,.ofNat b=>Nat.blt a b
 |.negSucc _,.ofNat _=>true
 |.ofNat _,.negSucc _=>false
 |.negSucc a,.negSucc b=>Nat.blt b a
theorem TM (a b:Nat):Nat.blt a b=decide (a<b):=by rw[Bool.eq_iff_iff,Nat.blt_eq];simp
theorem Dt (a b:Int):Ak a b=(a==b):=by
 cases a with
 |ofNat a=>cases b with
  |ofNat b=>rw[Bool.eq_iff_iff];simp only[Ak,Nat.beq_eq,beq_iff_eq];simp only[Int.ofNat_eq_natCast];omega
  |negSucc b=>simp[Ak]
 |negSucc a=>cases b with
  |ofNat b=>simp[Ak]
  |negSucc b=>rw[Bool.eq_iff_iff];simp only[Ak,Nat.beq_eq,beq_iff_eq];simp
theorem EG (a b:Int):AP a b=decide (a<b):=by
 cases a with
 |ofNat a=>cases b with
  |ofNat b=>simp only[AP,TM];simp
  |negSucc b=>simp[AP];omega
 |negSucc a=>cases b with
  |ofNat b=>simp[AP];omega
  |negSucc b=>simp only[AP,TM];rw[decide_eq_decide];omega
theorem wrap_i64 {n:Int} (y:-9223372036854775808<=n) (q:n<9223372036854775808):IntKind.i64.wrap n=n:=by
 simp only[IntKind.wrap,IntKind.bits,IntKind.signed,Bool.true_and];by_cases h:0<=n
 ·rw[if_neg (by simp;omega)];omega
 ·rw[if_pos (by simp;omega)];omega
theorem wrap_u8 {n:Int} (y:0<=n) (q:n<256):IntKind.u8.wrap n=n:=by simp[IntKind.wrap,IntKind.bits,IntKind.signed];omega
def wr (k:IntKind) (n:Int):Int:=
 match k,n with
 |.i64,.ofNat m=>cond (Nat.blt m 9223372036854775808) (.ofNat m) (k.wrap n)
 |.i64,.negSucc m=>cond (Nat.blt m 9223372036854775808) (.negSucc m) (k.wrap n)
 |.u8,.ofNat m=>cond (Nat.blt m 256) (.ofNat m) (k.wrap n)
 |k,n=>k.wrap n
theorem X6 (k:IntKind) (n:Int):wr k n=k.wrap n:=by
 unfold wr;split
 ·rename_i m;rw[TM];by_cases h:m<9223372036854775808
  ·rw[decide_eq_true h,cond_true,wrap_i64]
   ·simp only[Int.ofNat_eq_natCast];omega
   ·simp only[Int.ofNat_eq_natCast];omega
  ·rw[decide_eq_false h,cond_false]
 ·rename_i m;rw[TM];by_cases h:m<9223372036854775808
  ·rw[decide_eq_true h,cond_true,wrap_i64]<;>omega
  ·rw[decide_eq_false h,cond_false]
 ·rename_i m;rw[TM];by_cases h:m<256
  ·rw[decide_eq_true h,cond_true,wrap_u8]
   ·simp only[Int.ofNat_eq_natCast];omega
   ·simp only[Int.ofNat_eq_natCast];omega
  ·rw[decide_eq_false h,cond_false]
 ·rfl
theorem ON:∀(l n:Nat),(BC l n).length=l
 |0,_=>rfl
 |l+1,n=>by simp[BC,ON l]
theorem MG (l n:Nat):(BB l n).size=l:=by show(BC l n).toArray.size=l;simp[ON]
theorem Qq (l n:Nat):(BB l n).data.toList=BC l n:=rfl
theorem kf (l n:Nat):(BB l n).toList=BC l n:=by rw[ByteArray.toList_eq,Qq]
theorem HR (n:Nat):(UInt8.ofNat n).toNat=n %256:=by simp
theorem uj:∀(l n m:Nat),n<256^l->m<256^l->BC l n=BC l m->n=m
 |0,n,m,hn,hm,_=>by simp at hn hm;omega
 |l+1,n,m,hn,hm,h=>by
  simp only[BC,List.cons.injEq]at h;have y:n %256=m %256:=by rw[<-HR,<-HR,h.1]
  have q:=uj l (n/256) (m/256) (Nat.div_lt_of_lt_mul (by rw[Nat.pow_succ]at hn;omega)) (Nat.div_lt_of_lt_mul (by rw[Nat.pow_succ]at hm;omega)) h.2;omega
theorem Zf:∀(l n i:Nat),i<l->(BC l n)[i]? =some (UInt8.ofNat (n/256^i))
 |0,_,_,h=>by omega
 |l+1,n,0,_=>by simp[BC]
 |l+1,n,i+1,h=>by simp only[BC,List.getElem?_cons_succ];rw[Zf l (n/256) i (by omega),Nat.div_div_eq_div_mul,Nat.pow_succ,Nat.mul_comm]
theorem uh:∀(l n y q:Nat),n<256^l->BC (l+y) (n+q*256^l)=BC l n++BC y q
 |0,n,y,q,h=>by
  have:n=0:=by simpa using h
  simp[BC,this]
 |l+1,n,y,q,h=>by
  rw[show l+1+y=(l+y)+1 by omega];simp only[BC,List.cons_append];have B:q*256^(l+1)=256*(q*256^l):=by rw[Nat.pow_succ];ac_rfl
  have E:(n+q*256^(l+1))/256=n/256+q*256^l:=by rw[B];omega
  have C:UInt8.ofNat (n+q*256^(l+1))=UInt8.ofNat n:=by apply UInt8.toNat_inj.1;rw[HR,HR,B];omega
  rw[E,C,uh l (n/256) y q (Nat.div_lt_of_lt_mul (by rw[Nat.pow_succ]at h;omega))]
theorem ui:∀(k l n:Nat),(BC l n).drop k=BC (l-k) (n/256^k)
 |0,l,n=>by simp
 |k+1,0,n=>by simp[BC]
 |k+1,l+1,n=>by simp only[BC,List.drop_succ_cons];rw[ui k l (n/256),Nat.div_div_eq_div_mul,Nat.pow_succ,Nat.mul_comm,show l+1-(k+1)=l-k by omega]
theorem uo:∀(k l n:Nat),k<=l->(BC l n).take k=BC k (n %256^k)
 |0,l,n,_=>by simp[BC]
 |k+1,0,n,h=>by omega
 |k+1,l+1,n,h=>by
  simp only[BC,List.take_succ_cons];have y:UInt8.ofNat (n %256^(k+1))=UInt8.ofNat n:=by apply UInt8.toNat_inj.1;rw[HR,HR,Nat.pow_succ,Nat.mul_comm,Nat.mod_mul_right_mod]
  have q:n %256^(k+1)/256=n/256%256^k:=by rw[Nat.pow_succ,Nat.mul_comm,Nat.mod_mul_right_div_self]
  rw[uo k l (n/256) (by omega),y,q]
theorem AdJ (l n y q:Nat) (h:n<256^l):BB l n++BB y q=BB (l+y) (n+q*256^l):=by
 have:(BB l n++BB y q).data=(BB (l+y) (n+q*256^l)).data:=by rw[ByteArray.data_append];show(BC l n).toArray++(BC y q).toArray=(BC (l+y) (n+q*256^l)).toArray;rw[uh _ _ _ _ h];simp
 cases C:(BB l n++BB y q);cases B:BB (l+y) (n+q*256^l);rw[C,B]at this;simpa using this
theorem AdK (l n a b:Nat) (hb:b<=l) (y:a<=b):(BB l n).extract a b=BB (b-a) (n/256^a %256^(b-a)):=by
 have h:((BB l n).extract a b).data.toList=BC (b-a) (n/256^a %256^(b-a)):=by rw[Lib.extract_data,Qq];rw[List.take_drop,show a+(b-a)=b by omega]at*;rw[show(List.take b (BC l n)).drop a=((BC l n).drop a).take (b-a) by rw[List.drop_take]];rw[ui,uo _ _ _ (by omega)]
 cases q:(BB l n).extract a b with
 |mk d=>rw[q]at h;unfold BB;rw[<-h]
def HE (l:List UInt8):Nat:=List.rec (motive:=λ_=>Nat) 0 (λc _ q=>c.toNat+256*q) l
theorem AaY:∀(l:List UInt8),HE l<256^l.length
 | []=>by simp[HE]
 |c::l=>by have h:=AaY l;have hc:=c.toNat_lt;show c.toNat+256*HE l<256^(l.length+1);rw[Nat.pow_succ];omega
theorem V3:∀(l:List UInt8),BC l.length (HE l)=l
 | []=>rfl
 |c::l=>by
  have hc:=c.toNat_lt;show UInt8.ofNat (c.toNat+256*HE l)::BC l.length ((c.toNat+256*HE l)/256)=c::l;have e:(c.toNat+256*HE l)/256=HE l:=by omega
  have q:UInt8.ofNat (c.toNat+256*HE l)=c:=by apply UInt8.toNat_inj.1;rw[HR];omega
  rw[e,q,V3 l]
def Ox:Nat->Nat->Nat->Nat->Bool
 |_,_,0,_=>false
 |0,_,_+1,_=>true
 |l+1,n,y+1,q=>cond (Nat.blt (n %256) (q %256)) true (cond (Nat.beq (n %256) (q %256)) (Ox l (n/256) y (q/256)) false)
theorem Aca:∀(l n y q:Nat),Ox l n y q=Op.bytesLess (BC l n) (BC y q)
 |l,n,0,_=>by cases l<;>simp[Ox,BC,Op.bytesLess]
 |0,n,y+1,q=>by simp[Ox,BC,Op.bytesLess]
 |l+1,n,y+1,q=>by
  simp only[Ox,BC,Op.bytesLess];rw[Aca l (n/256) y (q/256)];have C:decide (UInt8.ofNat n<UInt8.ofNat q)=Nat.blt (n %256) (q %256):=by rw[Bool.eq_iff_iff];simp[UInt8.lt_iff_toNat_lt,Nat.blt_eq]
  have B:(UInt8.ofNat n==UInt8.ofNat q)=Nat.beq (n %256) (q %256):=by rw[Bool.eq_iff_iff,beq_iff_eq,Nat.beq_eq,<-UInt8.toNat_inj];simp
  rw[C,B];cases Nat.blt (n %256) (q %256)<;>cases Nat.beq (n %256) (q %256)<;>simp
def W6:Value->Option AV
 |.bool b=>some (.bool b)
 |.int k n=>some (.int k n)
 |.string s=>some (.str s.data.toList.length (HE s.data.toList))
 |.pointer none=>some .Et
 |.slice none 0 0=>some .As
 |.map none=>some .EZ
 |.nilFunc=>some .Gr
 |.nilIface=>some .EF
 |.chan none=>some .MH
 |_=>none
def ow (l:List Value):Option (List AV):=List.rec (motive:=λ_=>Option (List AV)) (some []) (λv _ q=>ob (W6 v) λa=>ob q λr=>some (a::r)) l
def ofValue:Value->Option AV
 |.agg cs=>(ow cs.toList).map .agg
 |.tuple vs=>match vs.toList with
  | []=>some (.AL [])
  |_=>none
 |v=>W6 v
theorem AdL (s:ByteArray):BB s.data.toList.length (HE s.data.toList)=s:=by unfold BB;rw[V3]
theorem AaA {ρ:Af} {v:Value} {a:AV} (h:W6 v=some a):VR ρ a v:=by
 unfold W6 at h;split at h<;>first|(cases h;done)|skip
 all_goals (injection h with h;subst h)
 ·exact .bool _
 ·exact .int _ _
 ·rename_i s;have:=VR.str (ρ:=ρ) s.data.toList.length (HE s.data.toList) (AaY _);rwa[AdL]at this
 ·exact .Et
 ·exact .As
 ·exact .EZ
 ·exact .Gr
 ·exact .EF
 ·exact .MH
theorem AaB {ρ:Af}:∀ {l:List Value} {r:List AV},ow l=some r->AF ρ r l
 | [],r,h=>by injection h with h;subst h;exact .nil
 |v::l,r,h=>by obtain⟨a,y,h⟩:=Ae.1 (show ob (W6 v) (λa=>ob (ow l) λr=>some (a::r))=some r from h);obtain⟨B,q,h⟩:=Ae.1 h;injection h with h;subst h;exact .cons _ _ _ _ (AaA y) (AaB q)
theorem AaC {ρ:Af} {v:Value} {a:AV} (h:ofValue v=some a):VR ρ a v:=by
 unfold ofValue at h;split at h
 ·rename_i cs;obtain⟨r,q,h⟩:=Option.map_eq_some_iff.1 h;subst h;exact .agg _ _ (AaB q)
 ·rename_i vs;split at h
  ·rename_i hv;injection h with h;subst h;have:vs= #[]:=by simpa using hv
   subst this;exact .AL _ _ .nil
  ·cases h
 ·exact AaA h
def B2 (T:Tr AV):Operand->Option AV
 |.tmp t=>T.get t
 |.const v=>ofValue v
 |.func f=>some (.fn (.func f) [] [])
 |.global g=>some (.F8 g 0)
def XR (ρ:Af) (X:Operand->Option AV) (f:Operand->Value):Prop:=∀x a,X x=some a->VR ρ a (f x)
theorem TR.xr {ρ:Af} {T:Tr AV} {a:Act} (h:TR ρ T a.tmps):XR ρ (B2 T) a.eval:=by
 intro x v q;cases x with
 |tmp t=>
  obtain⟨u,B,y⟩:=h t v q;have:a.eval (.tmp t)=u:=by simp[Act.eval,B]
  rw[this];exact y
 |const c=>exact AaC q
 |func f=>injection q with q;subst q;exact .fn (.func f) [] [] [] [] .nil .nil
 |global g=>injection q with q;subst q;exact .F8 g 0
def Jw (n:Nat):AV:=.int .i64 (.ofNat n)
def ZX (op:UnOp) (x:AV):Option AV:=
 match op,x with
 |.not,.bool b=>some (.bool (!b))
 |.neg,.int k n=>fI (wr k (0-n)) λr=>some (.int k r)
 |_,_=>none
theorem xK {P:Program} {ρ:Af} {op:UnOp} {x r:AV} {v:Value} (h:ZX op x=some r) (q:VR ρ x v) (w:World): ∃u,(Op.unary op v).run P w=.ok u w/\VR ρ r u:=by
 unfold ZX at h;split at h
 ·injection h with h;subst h;cases q;exact⟨_,by simp[Op.unary],.bool _⟩
 ·rw[MM]at h;injection h with h;subst h;cases q;refine⟨_,by simp[Op.unary,Op.intArith];rfl,?_⟩;rw[X6,Int.zero_sub];exact .int _ _
 ·cases h
def Th (op:BinOp) (k:IntKind) (a b:Int):Option AV:=
 match op with
 |.add=>fI (wr k (a+b)) λn=>some (.int k n)
 |.sub=>fI (wr k (a-b)) λn=>some (.int k n)
 |.mul=>fI (wr k (a*b)) λn=>some (.int k n)
 |.quo=>gd (!Ak b 0) (fI (k.wrap (a.tdiv b)) λn=>some (.int k n))
 |.rem=>gd (!Ak b 0) (fI (a.tmod b) λn=>some (.int k n))
 |.and=>fI (k.wrap (BitVec.ofInt k.bits a&&& BitVec.ofInt k.bits b).toNat) λn=>some (.int k n)
 |.or=>fI (k.wrap (BitVec.ofInt k.bits a|||BitVec.ofInt k.bits b).toNat) λn=>some (.int k n)
 |.xor=>fI (k.wrap (BitVec.ofInt k.bits a^^^BitVec.ofInt k.bits b).toNat) λn=>some (.int k n)
 |.andNot=>fI (k.wrap (BitVec.ofInt k.bits a&&& ~~~(BitVec.ofInt k.bits b)).toNat) λn=>some (.int k n)
 |.eql=>some (.bool (Ak a b))
 |.neq=>some (.bool (!Ak a b))
 |.lss=>some (.bool (AP a b))
 |.leq=>some (.bool (!AP b a))
 |.gtr=>some (.bool (AP b a))
 |.geq=>some (.bool (!AP a b))
 |.shl|.shr=>none
def Tl (op:BinOp) (k:IntKind) (a b:Int):Option AV:=gd (!AP b 0) (match op with
 |.shl=>fI (k.wrap (a*2^(min b.toNat k.bits))) λn=>some (.int k n)
 |.shr=>fI (a.fdiv (2^(min b.toNat k.bits))) λn=>some (.int k n)
 |_=>none)
def mr (op:BinOp) (l n q y:Nat):Option AV:=
 match op with
 |.add=>gd (Nat.blt (l+q) 9223372036854775808) (fN (l+q) λsl=>fN (n+y*256^l) λB=>some (.str sl B))
 |.eql=>some (.bool (cond (Nat.beq l q) (Nat.beq n y) false))
 |.neq=>some (.bool (!(cond (Nat.beq l q) (Nat.beq n y) false)))
 |.lss=>some (.bool (Ox l n q y))
 |.leq=>some (.bool (Ox l n q y||cond (Nat.beq l q) (Nat.beq n y) false))
 |.gtr=>some (.bool (!(Ox l n q y||cond (Nat.beq l q) (Nat.beq n y) false)))
 |.geq=>some (.bool (!Ox l n q y))
 |_=>none
end Go.Ev
end
section
/- The evaluator, part C: operations that read at most. -/
namespace Go.Ev
def HS (ρ:Af) (H:Tr Ac) (h:Nat->Option Ac):Prop:=∀i o,H.get i=some o->(∃b,ρ i=some b)\/o.Age=true->h i=some o
theorem HS.refl (ρ:Af) (H:Tr Ac):HS ρ H H.get:=λ_ _ h _=>h
theorem C9 {P:Program} {s:Sem Value} {w w':World} {v:Value} (h:s.run P w=.ok v w'): (do pure (Next.value (<-s)):Sem Next).run P w=.ok (.value v) w':=by simp[h]
theorem cell_of {E:Env} {F:Nat->Option Obj} {nx:Nat} {ρ:Af} {h:Nat->Option Ac} {w:World} (r:Rel E F nx ρ h w) {i:Nat} {b:CM} {el n:Nat} {c:Tr AV} {z:CB} {op:Bool} (hi:h i=some (.cells el c z n op)) (hb:ρ i=some b) {k:Nat} {a:AV} (J:k<n) (K:cellOf c z k=some a):∃v,w.cell? ⟨b.b,b.ob+k,none⟩=some v/\VR ρ a v:=by
 obtain⟨o,C,q⟩:=r.ob i _ b hi hb;cases q with
 |cells y c z n op cs fz C0 hn L M hc=>obtain⟨v,hv,B⟩:=hc k a J K;exact⟨v,by simp[World.cell?,C,hv],B⟩
def L0:TypeDesc->Bool
 |.struct _=>true
 |.array _ _=>true
 |_=>false
theorem RP {P:Program} {t:TypeId} {d:TypeDesc} (h:P.underlying t=some d) (w:World):(isAgg t).run P w=.ok (L0 d) w:=by cases d<;>simp[isAgg,run_underlying h,L0]
theorem info_of_underlying {P:Program} {t:TypeId} {d:TypeDesc} (h:P.underlying t=some d):∃i,P.info? t=some i:=by
 unfold Program.underlying at h;split at h
 ·exact⟨_,by assumption⟩
 ·exact⟨_,by assumption⟩
 ·cases h
theorem Eg {P:Program} {t:TypeId} {d:TypeDesc} (h:P.underlying t=some d) (w:World):(sizeOf t).run P w=.ok (P.cellsOf t) w:=by obtain⟨i,hi⟩:=info_of_underlying h;exact run_sizeOf w hi
def Kc (c:Tr AV) (z:CB) (q:Nat):Nat->Option (List AV):=Nat.rec (motive:=λ_=>Nat->Option (List AV)) (λ_=>some []) (λ_ y k=>ob (cellOf c z k) λa=>ob (fN (k+1) y) λl=>some (a::l)) q
theorem Oq (c:Tr AV) (z:CB):∀(cnt k:Nat) (l:List AV),Kc c z cnt k=some l-> l.length=cnt/\∀j a,l[j]? =some a->cellOf c z (k+j)=some a
 |0,k,l,h=>by injection h with h;subst h;simp
 |cnt+1,k,l,h=>by
  obtain⟨a,B,h⟩:=Ae.1 (show ob (cellOf c z k) (λa=>ob (fN (k+1) (Kc c z cnt)) λl=>some (a::l))=some l from h);obtain⟨y,q,h⟩:=Ae.1 h;rw[Bu]at q;injection h with h;subst h;obtain⟨E,C⟩:=Oq c z cnt (k+1) y q;refine⟨by simp[E],λj b hb=>?_⟩;cases j with
  |zero=>simp at hb;subst hb;exact B
  |succ j=>have:=C j b (by simpa using hb);rwa[show k+1+j=k+(j+1) by omega]at this
theorem AF.TP {ρ:Af}:∀ {l:List AV} (f:Nat->Value->Prop),(∀j a,l[j]? =some a->∃v,f j v/\VR ρ a v)-> ∃vs,AF ρ l vs/\∀j v,vs[j]? =some v->f j v
 | [],f,_=>⟨[],.nil,by simp⟩
 |a::l,f,h=>by
  obtain⟨v,hv,q⟩:=h 0 a rfl;obtain⟨vs,B,y⟩:=AF.TP (l:=l) (λj=>f (j+1)) λj b hb=>h (j+1) b (by simpa using hb);refine⟨v::vs,.cons _ _ _ _ q B,λj u hu=>?_⟩;cases j with
  |zero=>simp at hu;subst hu;exact hv
  |succ j=>exact y j u (by simpa using hu)
theorem Dk (b o k:Nat):(⟨b,o,none⟩:Addr).add k=⟨b,o+k,none⟩:=by
 unfold Addr.add;split
 ·subst_vars;rfl
 ·rfl
def Fa (H:Tr Ac) (id off q:Nat):Option (List AV):=ob (H.get id) λo=>match o with
  |.cells _ c z n _=>gd (Nat.ble (off+q) n) (Kc c z q off)
  |_=>none
theorem H3 {E:Env} {F:Nat->Option Obj} {nx:Nat} {ρ:Af} {h:Nat->Option Ac} {w:World} {H:Tr Ac} (r:Rel E F nx ρ h w) (M:HS ρ H h) {id off B:Nat} {l:List AV} {b:CM} (hb:ρ id=some b) (q:Fa H id off B=some l): ∃vs,AF ρ l vs/\vs.length=B/\∀j v,vs[j]? =some v->w.cell? (Addr.add ⟨b.b,b.ob+off,none⟩ j)=some v:=by
 obtain⟨o,O,q⟩:=Ae.1 q;have hi:=M id o O (.inl ⟨b,hb⟩);split at q
 ·obtain⟨J,q⟩:=AK.1 q;rw[Nat.ble_eq]at J;obtain⟨S,R⟩:=Oq _ _ _ _ _ q;obtain⟨vs,y,C⟩:=AF.TP (ρ:=ρ) (l:=l) (λj v=>w.cell? ⟨b.b,b.ob+(off+j),none⟩=some v) λj a L=>by have K:j<l.length:=(List.getElem?_eq_some_iff.1 L).1;exact cell_of r hi hb (by omega) (R j a L)
  refine⟨vs,y,by rw[<-y.length,S],λj v K=>?_⟩;rw[Dk,Nat.add_assoc];exact C j v K
 ·cases q
def wq (H:Tr Ac) (id off:Nat):Option AV:=ob (H.get id) λo=>match o with
  |.cells _ c z n _=>gd (Nat.blt off n) (cellOf c z off)
  |_=>none
theorem AeM {E:Env} {F:Nat->Option Obj} {nx:Nat} {ρ:Af} {h:Nat->Option Ac} {w:World} {H:Tr Ac} (r:Rel E F nx ρ h w) (B:HS ρ H h) {id off:Nat} {a:AV} {b:CM} (hb:ρ id=some b) (q:wq H id off=some a):∃v,w.cell? ⟨b.b,b.ob+off,none⟩=some v/\VR ρ a v:=by
 obtain⟨o,C,q⟩:=Ae.1 q;have hi:=B id o C (.inl ⟨b,hb⟩);split at q
 ·obtain⟨y,q⟩:=AK.1 q;rw[Nat.blt_eq]at y;exact cell_of r hi hb y q
 ·cases q
def wx (H:Tr Ac) (g off:Nat):Option AV:=ob (H.get g) λo=>match o with
  |.Js l=>l[off]?
  |_=>none
theorem AeU {E:Env} {F:Nat->Option Obj} {nx:Nat} {ρ:Af} {h:Nat->Option Ac} {w:World} {H:Tr Ac} (r:Rel E F nx ρ h w) (y:HS ρ H h) {g off:Nat} {a:AV} (q:wx H g off=some a):∃v,w.cell? ⟨g,off,none⟩=some v/\VR ρ a v:=by
 obtain⟨o,C,q⟩:=Ae.1 q;split at q
 ·have hi:=y g _ C (.inr rfl);obtain⟨cs,e,fz,K,J⟩:=r.gl g _ hi;obtain⟨v,hv,B⟩:=(J ρ).get off a q;have:=r.fr g _ (r.bs g _ K);refine⟨v,?_,B⟩;simp only[Array.getElem?_toList]at hv;simp[World.cell?,this,hv]
 ·cases q
def Wg (P:Program) (H:Tr Ac) (t:TypeId) (x:AV):Option AV:=
 match x with
 |.ptr id off=>ob (P.underlying t) λd=>cond (L0 d) (ob (Fa H id off (P.cellsOf t)) λl=>some (.agg l)) (wq H id off)
 |.F8 g off=>ob (P.underlying t) λd=>gd (!L0 d) (wx H g off)
 |_=>none
theorem xC {P:Program} {E:Env} {F:Nat->Option Obj} {nx:Nat} {ρ:Af} {h:Nat->Option Ac} {w:World} {H:Tr Ac} (r:Rel E F nx ρ h w) (J:HS ρ H h) {t:TypeId} {x a:AV} {u:Value} (L:VR ρ x u) (q:Wg P H t x=some a):∃v,(Instr.loadAt t u).run P w=.ok v w/\VR ρ a v:=by
 unfold Wg at q;split at q
 ·rename_i id off;cases L with
  |ptr id off b hb=>
   obtain⟨d,hd,q⟩:=Ae.1 q;cases y:L0 d with
   |true=>rw[y,cond_true]at q;obtain⟨l,M,q⟩:=Ae.1 q;injection q with q;subst q;obtain⟨vs,S,R,O⟩:=H3 r J hb M;refine⟨.agg vs.toArray,?_,.agg _ _ S⟩;have B:=run_loadCells_list (P:=P) w ⟨b.b,b.ob+off,none⟩ vs O;rw[R]at B;simp[Instr.loadAt,Instr.sureAddr,loadVar,RP hd,y,Eg hd,B]
   |false=>rw[y,cond_false]at q;obtain⟨v,hv,K⟩:=AeM r J hb q;exact⟨v,by simp[Instr.loadAt,Instr.sureAddr,loadVar,RP hd,y,hv],K⟩
 ·rename_i g off;cases L with
  |F8 g off=>
   obtain⟨d,hd,q⟩:=Ae.1 q;obtain⟨y,q⟩:=AK.1 q;obtain⟨v,hv,K⟩:=AeU r J q;have C:L0 d=false:=by simpa using y
   exact⟨v,by simp[Instr.loadAt,Instr.sureAddr,loadVar,RP hd,C,hv],K⟩
 ·cases q
def Kq (P:Program) (t:TypeId) (cs:List AV) (off:Nat):Option AV:=ob (P.underlying t) λd=>cond (L0 d) (some (.agg ((cs.drop off).take (P.cellsOf t)))) (cs[off]?)
theorem ZT {P:Program} {ρ:Af} {t:TypeId} {cs:List AV} {off:Nat} {a:AV} {vs:List Value} (hc:AF ρ cs vs) (q:Kq P t cs off=some a) (w:World): ∃v,(part t vs.toArray off).run P w=.ok v w/\VR ρ a v:=by
 obtain⟨d,hd,q⟩:=Ae.1 q;cases y:L0 d with
 |true=>rw[y,cond_true]at q;injection q with q;subst q;refine⟨.agg ((vs.drop off).take (P.cellsOf t)).toArray,?_,.agg _ _ ((hc.drop off).take _)⟩;simp[part,RP hd,y,Eg hd]
 |false=>rw[y,cond_false]at q;obtain⟨v,hv,B⟩:=hc.get off a q;exact⟨v,by simp[part,RP hd,y,hv],B⟩
def QB (P:Program) (eq:TypeId->AV->AV->Option Bool) (xs ys:List AV) (fs:List Field):Option Bool:=List.rec (motive:=λ_=>Option Bool) (some true)
  (fun f _ ih => cond (decide (f.name = "_")) ih (ob (Kq P f.type xs f.offset) fun a => ob (Kq P f.type ys f.offset) fun b => ob (eq f.type a b) fun r => cond r ih (some false))) fs
def ZS (P:Program) (f:Nat):TypeId->AV->AV->Option Bool:=Nat.rec (motive:=λ_=>TypeId->AV->AV->Option Bool) (λ_ _ _=>none) (λ_ q t x y=>ob (P.underlying t) λd=>
   match d,x,y with
   |.bool,.bool a,.bool b=>some (cond a b (!b))
   |.int _,.int k a,.int M b=>gd (MU k M) (some (Ak a b))
   |.string,.str l n,.str L K=>some (cond (Nat.beq l L) (Nat.beq n K) false)
   |.pointer _,.Et,.Et=>some true
   |.pointer _,.Et,.ptr _ _=>some false
   |.pointer _,.ptr _ _,.Et=>some false
   |.pointer e,.ptr i o,.ptr j p=>gd (Nat.beq i j) (ob (P.underlying e) λ_=>gd (!Nat.beq (P.cellsOf e) 0) (some (Nat.beq o p)))
   |.interface _,.EF,.EF=>some true
   |.interface _,.EF,.iface _ _=>some false
   |.interface _,.iface _ _,.EF=>some false
   |.interface _,.iface tx J,.iface ty E=>cond (Nat.beq tx ty) (ob (P.info? tx) λi=>gd i.comparable (q tx J E)) (some false)
   |.slice _,.As,.As=>some true
   |.slice _,.As,.sl _ _ _ _=>some false
   |.slice _,.As,.Bw _ _ _ _=>some false
   |.slice _,.sl _ _ _ _,.As=>some false
   |.slice _,.Bw _ _ _ _,.As=>some false
   |.slice _,.As,.sle _=>some false
   |.slice _,.sle _,.As=>some false
   |.map _ _,.EZ,.EZ=>some true
   |.map _ _,.EZ,.map _=>some false
   |.map _ _,.map _,.EZ=>some false
   |.func _ _ _,.Gr,.Gr=>some true
   |.func _ _ _,.Gr,.fn _ _ _=>some false
   |.func _ _ _,.fn _ _ _,.Gr=>some false
   |.struct fs,.agg C,.agg B=>gd (!P.stoodInHeld t) (QB P q C B fs.toList)
   |_,_,_=>none) f
theorem ke {l n B C:Nat} (h:n<256^l) (h':C<256^B): ((BB l n).toList==(BB B C).toList)=cond (Nat.beq l B) (Nat.beq n C) false:=by
 rw[kf,kf,Bool.eq_iff_iff,beq_iff_eq];constructor
 ·intro q;have y:l=B:=by have:=congrArg List.length q;rwa[ON,ON]at this
  subst y;have hn:=uj l n C h h' q;subst hn;simp
 ·intro q;cases y:Nat.beq l B with
  |false=>rw[y]at q;cases q
  |true=>rw[y,cond_true,Nat.beq_eq]at q;rw[Nat.beq_eq]at y;rw[y,q]
theorem wc {P:Program} {ρ:Af} {eq:TypeId->AV->AV->Option Bool} {D:Nat} {w:World} (hq:∀t x y b u v,eq t x y=some b->VR ρ x u->VR ρ y v->(Op.equalIn D t u v).run P w=.ok b w) {xs ys:List AV} {us vs:List Value} (hx:AF ρ xs us) (hy:AF ρ ys vs):∀(fs:List Field) (b:Bool),QB P eq xs ys fs=some b->(Op.eqFields D us.toArray vs.toArray fs).run P w=.ok b w:=by
 intro fs
 induction fs with
 |nil=>intro b h;injection h with h;subst h;simp[Op.eqFields]
 |cons f fs ih=>
  intro b h
  have h' : cond (decide (f.name = "_")) (QB P eq xs ys fs) (ob (Kq P f.type xs f.offset) fun a => ob (Kq P f.type ys f.offset) fun b => ob (eq f.type a b) fun r => cond r (QB P eq xs ys fs) (some false)) = some b := h
  by_cases hn : f.name = "_"
  ·rw[decide_eq_true hn,cond_true]at h';simp[Op.eqFields,hn,ih b h']
  ·rw[decide_eq_false hn,cond_false]at h';obtain⟨a,ha,h'⟩:=Ae.1 h';obtain⟨c,hc,h'⟩:=Ae.1 h';obtain⟨r,hr,h'⟩:=Ae.1 h';obtain⟨va,ha1,ha2⟩:=ZT hx ha w;obtain⟨vc,hc1,hc2⟩:=ZT hy hc w;have he:=hq _ _ _ _ _ _ hr ha2 hc2;cases r with
   |true=>simp[Op.eqFields,hn,ha1,hc1,he,ih b h']
   |false=>injection h' with h';subst h';simp[Op.eqFields,hn,ha1,hc1,he]
theorem xN {P:Program} {t:TypeId} {fs:Array Field} (h:P.underlying t=some (.struct fs)):P.fieldsOf t=fs:=by simp[Program.fieldsOf,h]
set_option maxHeartbeats 1000000 in
theorem mZ {P:Program} {ρ:Af} {w:World}:∀(f D:Nat),f<=D->∀(t:TypeId) (x y:AV) (b:Bool) (u v:Value),ZS P f t x y=some b-> VR ρ x u->VR ρ y v->(Op.equalIn D t u v).run P w=.ok b w:=by
 intro f
 induction f with
 |zero=>intro D _ t x y b u v h;cases h
 |succ f ih=>
  intro D hD t x y b u v h q hy;cases D with
  |zero=>omega
  |succ D=>
   have h0:=Ae.1 h;clear h;obtain⟨d,hd,h⟩:=h0;have B:=ih D (by omega);split at h
   ·injection h with h;subst h;cases q;cases hy;rename_i a b;simp[Op.equalIn,run_underlying hd];cases a<;>cases b<;>rfl
   ·obtain⟨hk,h⟩:=AK.1 h;injection h with h;subst h;cases q;cases hy;have:=O3 hk;subst this;simp[Op.equalIn,run_underlying hd,Dt]
   ·injection h with h;subst h;cases q;cases hy;rename_i R O;rw[<-ke R O];simp[Op.equalIn,run_underlying hd,beq_toListBytes]
   ·injection h with h;subst h;cases q;cases hy;simp[Op.equalIn,run_underlying hd]
   ·injection h with h;subst h;cases q;cases hy;simp[Op.equalIn,run_underlying hd]
   ·injection h with h;subst h;cases q;cases hy;simp[Op.equalIn,run_underlying hd]
   ·rename_i e i o j p;obtain⟨C,h⟩:=AK.1 h;obtain⟨de,Z,h⟩:=Ae.1 h;obtain⟨hz,h⟩:=AK.1 h;injection h with h;subst h;rw[Nat.beq_eq]at C;subst C;cases q with
    |ptr _ _ M aa=>cases hy with
     |ptr _ _ b2 J=>
      rw[aa]at J;cases J;have S:P.cellsOf e≠0:=λL=>by rw[L]at hz;simp at hz
      have K:((⟨M.b,M.ob+o,none⟩:Addr)==⟨M.b,M.ob+p,none⟩)=Nat.beq o p:=by rw[Bool.eq_iff_iff,Nat.beq_eq];simp
      simp[Op.equalIn,run_underlying hd,Eg Z,S,sameAddr,K]
   ·injection h with h;subst h;cases q;cases hy;simp[Op.equalIn,run_underlying hd]
   ·injection h with h;subst h;cases q;cases hy;simp[Op.equalIn,run_underlying hd]
   ·injection h with h;subst h;cases q;cases hy;simp[Op.equalIn,run_underlying hd]
   ·rename_i tx vx ty vy;cases q with
    |iface _ _ ux V=>cases hy with
     |iface _ _ uy U=>
      cases ht:Nat.beq tx ty with
      |false=>
       rw[ht,cond_false]at h;injection h with h;subst h;have:tx≠ty:=λL=>by rw[<-Nat.beq_eq,ht]at L;cases L
       simp[Op.equalIn,run_underlying hd,this]
      |true=>rw[ht,cond_true]at h;rw[Nat.beq_eq]at ht;subst ht;obtain⟨i,hi,h⟩:=Ae.1 h;obtain⟨hc,h⟩:=AK.1 h;have:=B _ _ _ _ _ _ h V U;simp[Op.equalIn,run_underlying hd,run_typeInfo w hi,hc,this]
   all_goals first
    |(injection h with h;subst h;cases q;cases hy;simp[Op.equalIn,run_underlying hd];done)
    |skip
   ·obtain⟨hs,h⟩:=AK.1 h;cases q with
    |agg _ us W=>cases hy with
     |agg _ vs At=>
      have E:=xN hd;have Y:P.stoodInHeld t=false:=by simpa using hs
      rw[run_equalIn_struct w D t us.toArray vs.toArray (by rw[E];exact hd) Y,E];exact wc (λt x y b u v R O h3=>B t x y b u v R O h3) W At _ _ h
   ·cases h
end Go.Ev
end
section
/- The evaluator, part D: more operations that read at most. -/
namespace Go.Ev
def plain:AV->AV->Bool
 |.int _ _,.int _ _=>false
 |.str _ _,.str _ _=>false
 |.bs _,_=>false
 |_,.bs _=>false
 |_,_=>true
theorem binOp_eql {ρ:Af} {a b:AV} {u v:Value} (q:VR ρ a u) (hy:VR ρ b v) (y:plain a b=true) (t:TypeId): binOp .eql t u v=(do pure (.bool (<-Op.equal t u v))):=by cases q<;>cases hy<;>first|rfl|(simp[plain]at y;done)
theorem binOp_neq {ρ:Af} {a b:AV} {u v:Value} (q:VR ρ a u) (hy:VR ρ b v) (y:plain a b=true) (t:TypeId): binOp .neq t u v=(do pure (.bool (!(<-Op.equal t u v)))):=by cases q<;>cases hy<;>first|rfl|(simp[plain]at y;done)
def Ld:Operand->Bool
 |.const _=>true
 |_=>false
def Tc:BinOp->Bool
 |.eql|.neq=>true
 |_=>false
def QC (P:Program) (op:BinOp) (t:TypeId) (cx q:Bool) (a b:AV):Bool:=
 match a,b with
 |.EF,.EF=>!Tc op||cx||q
 |.agg _,.agg _=>!Tc op|| !P.eqGuardType P.depth t
 |_,_=>true
theorem wy {P:Program} {ρ:Af} {op:BinOp} {t:TypeId} {x y:Operand} {a b:AV} {u v:Value} (B:VR ρ a u) (hy:VR ρ b v) (h:QC P op t (Ld x) (Ld y) a b=true) (w:World):(eqGuard op t x y u v).run P w=.ok () w:=by
 cases op
 case eql=>
  cases B<;>cases hy<;>first
   |(simp[eqGuard];done)
   |skip
  ·cases x<;>cases y<;>first|(simp[QC,Tc,Ld]at h;done)|simp[eqGuard]
  ·simp only[QC,Tc,Bool.not_true,Bool.false_or]at h;have q:P.eqGuardType P.depth t=false:=by simpa using h
   exact run_eqGuard_agg w .eql t x y _ _ q
 case neq=>
  cases B<;>cases hy<;>first
   |(simp[eqGuard];done)
   |skip
  ·cases x<;>cases y<;>first|(simp[QC,Tc,Ld]at h;done)|simp[eqGuard]
  ·simp only[QC,Tc,Bool.not_true,Bool.false_or]at h;have q:P.eqGuardType P.depth t=false:=by simpa using h
   exact run_eqGuard_agg w .neq t x y _ _ q
 all_goals simp[eqGuard]
def wm (P:Program) (op:BinOp) (t:TypeId) (cx C:Bool) (a b:AV):Option AV:=gd (QC P op t cx C a b) (match a,b with
  |.int k m,.int B n=>match op with
   |.shl=>Tl .shl k m n
   |.shr=>Tl .shr k m n
   |op=>gd (MU k B) (Th op k m n)
  |.str l n,.str y q=>mr op l n y q
  |a,b=>gd (plain a b) (match op with
   |.eql=>ob (ZS P 8 t a b) λr=>some (.bool r)
   |.neq=>ob (ZS P 8 t a b) λr=>some (.bool (!r))
   |_=>none))
theorem mb {P:Program} {ρ:Af} {op:BinOp} {t:TypeId} {k:IntKind} {m n:Int} {r:AV} (C:op≠.shl) (y:op≠.shr) (h:Th op k m n=some r) (w:World): ∃u,(binOp op t (.int k m) (.int k n)).run P w=.ok u w/\VR ρ r u:=by
 cases op<;>simp only[Th,MM,X6,Dt,EG]at h<;>first
  |(exact absurd rfl C)
  |(exact absurd rfl y)
  |(injection h with h;subst h;refine⟨_,?_,VR.int _ _⟩;simp[binOp,Op.intArith,Op.intBits];done)
  |(injection h with h;subst h;refine⟨_,?_,VR.bool _⟩;simp[binOp,Op.intCmp];done)
  |skip
 ·have q:=AK.1 h;clear h;obtain⟨hz,h⟩:=q;injection h with h;subst h;have hn:n≠0:=by simpa using hz
  exact⟨_,by simp[binOp,Op.intDiv,hn],VR.int _ _⟩
 ·have q:=AK.1 h;clear h;obtain⟨hz,h⟩:=q;injection h with h;subst h;have hn:n≠0:=by simpa using hz
  exact⟨_,by simp[binOp,Op.intDiv,hn],VR.int _ _⟩
 all_goals
  injection h with h;subst h;refine⟨_,?_,VR.bool _⟩;simp[binOp,Op.intCmp]
  try rfl
  try (by_cases E:m<n<;>by_cases B:n<m<;>simp[E,B]<;>omega)
theorem ZV {P:Program} {ρ:Af} {op:BinOp} {t:TypeId} {k q:IntKind} {m n:Int} {r:AV} (h:Tl op k m n=some r) (w:World): ∃u,(binOp op t (.int k m) (.int q n)).run P w=.ok u w/\VR ρ r u:=by
 unfold Tl at h;have y:=AK.1 h;clear h;obtain⟨hz,h⟩:=y;have hn:¬n<0:=by simpa[EG]using hz
 split at h
 ·rw[MM]at h;injection h with h;subst h;exact⟨_,by simp[binOp,Op.shift,hn],VR.int _ _⟩
 ·rw[MM]at h;injection h with h;subst h;exact⟨_,by simp[binOp,Op.shift,hn],VR.int _ _⟩
 ·cases h
theorem Afd {P:Program} {ρ:Af} {op:BinOp} {t:TypeId} {l n q y:Nat} {r:AV} (C:n<256^l) (B:y<256^q) (h:mr op l n q y=some r) (w:World): ∃u,(binOp op t (.string (BB l n)) (.string (BB q y))).run P w=.ok u w/\VR ρ r u:=by
 cases op<;>simp only[mr,Bu,<-ke C B]at h<;>first
  |(cases h;done)
  |(injection h with h;subst h;refine⟨_,?_,VR.bool _⟩;simp only[binOp,Op.stringOp,Aca,kf,Sem.run_pure];done)
  |skip
 ·have E:=AK.1 h;clear h;obtain⟨hb,h⟩:=E;injection h with h;subst h;rw[TM]at hb;have J:l+q<9223372036854775808:=by simpa using hb
  refine⟨_,?_,VR.str _ _ ?_⟩
  ·have:¬(((BB l n).size+(BB q y).size:Nat):Int)>IntKind.i64.max:=by rw[MG,MG];show¬((l+q:Nat):Int)>9223372036854775807;omega
   simp only[binOp,Op.stringOp,this,if_false,AdJ _ _ _ _ C,Sem.run_pure]
  ·rw[Nat.pow_add];have:y+1<=256^q:=B
   calc n+y*256^l<256^l+y*256^l:=by omega
    _=(y+1)*256^l:=by rw[Nat.add_mul,Nat.one_mul,Nat.add_comm]
    _<=256^q*256^l:=Nat.mul_le_mul_right _ this
    _=256^l*256^q:=Nat.mul_comm _ _
theorem AeI {P:Program} {ρ:Af} {op:BinOp} {t:TypeId} {x y:Operand} {a b r:AV} {u v:Value} (C:VR ρ a u) (hy:VR ρ b v) (h:wm P op t (Ld x) (Ld y) a b=some r) (w:World): ∃z,(do eqGuard op t x y u v;binOp op t u v:Sem Value).run P w=.ok z w/\VR ρ r z:=by
 have B:=AK.1 h;clear h;obtain⟨U,h⟩:=B;have O:=wy C hy U w;have fin:(∃z,(binOp op t u v).run P w=.ok z w/\VR ρ r z)->∃z,(do eqGuard op t x y u v;binOp op t u v:Sem Value).run P w=.ok z w/\VR ρ r z:=by rintro⟨z,K,J⟩;exact⟨z,by simp[O,K],J⟩
 apply fin;split at h
 ·cases C;cases hy;split at h
  ·exact ZV h w
  ·exact ZV h w
  ·rename_i M L;have B:=AK.1 h;clear h;obtain⟨S,h⟩:=B;have:=O3 S;subst this;exact mb (λe=>M e) (λe=>L e) h w
 ·cases C with
  |str _ _ K=>cases hy with
   |str _ _ J=>exact Afd K J h w
 ·have B:=AK.1 h;clear h;obtain⟨R,h⟩:=B;split at h
  ·have B:=Ae.1 h;clear h;obtain⟨q,E,h⟩:=B;injection h with h;subst h;have:=mZ (w:=w) 8 10000 (by omega) t _ _ q u v E C hy;exact⟨.bool q,by rw[binOp_eql C hy R];simp[Op.equal,Op.maxDepth,this],.bool _⟩
  ·have B:=Ae.1 h;clear h;obtain⟨q,E,h⟩:=B;injection h with h;subst h;have:=mZ (w:=w) 8 10000 (by omega) t _ _ q u v E C hy;exact⟨.bool (!q),by rw[binOp_neq C hy R];simp[Op.equal,Op.maxDepth,this],.bool _⟩
  ·cases h
def wv (P:Program) (t:TypeId) (x:AV) (f:Nat):Option AV:=ob (P.underlying t) λd=>match d,x with
  |.struct fs,.agg cs=>ob (fs[f]?) λq=>Kq P q.type cs q.offset
  |_,_=>none
theorem AeT {P:Program} {ρ:Af} {t:TypeId} {x r:AV} {f:Nat} {u:Value} (y:VR ρ x u) (h:wv P t x f=some r) (w:World): ∃v,(Instr.field t u f).run P w=.ok v w/\VR ρ r v:=by
 have q:=Ae.1 h;clear h;obtain⟨d,hd,h⟩:=q;split at h
 ·have q:=Ae.1 h;clear h;obtain⟨J,B,h⟩:=q;cases y with
  |agg _ vs At=>obtain⟨v,E,C⟩:=ZT At h w;exact⟨v,by simp[Instr.field,run_underlying hd,B,asAgg,E],C⟩
 ·cases h
def m7 (P:Program) (t:TypeId) (x:AV) (f:Nat):Option AV:=
 match x with
 |.ptr id off=>ob (P.underlying t) λd=>match d with
  |.struct fs=>ob (fs[f]?) λq=>ob (P.underlying q.type) λ_=>gd (!Nat.beq (P.cellsOf q.type) 0) (fN (off+q.offset) λo=>some (.ptr id o))
  |_=>none
 |_=>none
theorem AeS {P:Program} {ρ:Af} {t:TypeId} {x r:AV} {f:Nat} {u:Value} (C:VR ρ x u) (h:m7 P t x f=some r) (w:World): ∃v,(Instr.fieldAt t u f).run P w=.ok v w/\VR ρ r v:=by
 unfold m7 at h;split at h
 ·cases C with
  |ptr id off b hb=>
   have q:=Ae.1 h;clear h;obtain⟨d,hd,h⟩:=q;split at h
   ·have q:=Ae.1 h;clear h;obtain⟨K,J,h⟩:=q;obtain⟨L,B,h⟩:=Ae.1 h;have q:=AK.1 h;clear h;obtain⟨hz,h⟩:=q;rw[Bu]at h;injection h with h;subst h;have y:P.cellsOf K.type≠0:=λE=>by rw[E]at hz;simp at hz
    refine⟨_,?_,.ptr _ _ b hb⟩;simp[Instr.fieldAt,run_underlying hd,J,Instr.sureAddr,fieldPlace,Eg B,y,Dk,Nat.add_assoc]
   ·cases h
 ·cases h
def Tg (P:Program) (t:TypeId) (x q:AV):Option AV:=
 match q with
 |.int _ (.ofNat i)=>ob (P.underlying t) λd=>match d,x with
  |.slice e,.sl id off len _=>gd (Nat.blt i len) (ob (P.underlying e) λ_=>fN (off+i*P.cellsOf e) λo=>some (.ptr id o))
  |.slice e,.Bw id off len _=>gd (Nat.blt i len) (ob (P.underlying e) λ_=>fN (off+i*P.cellsOf e) λo=>some (.ptr id o))
  |.array len e,.ptr id off=>gd (Nat.blt i len) (ob (P.underlying e) λ_=>fN (off+i*P.cellsOf e) λo=>some (.ptr id o))
  |.array len e,.F8 g off=>gd (Nat.blt i len) (ob (P.underlying e) λ_=>fN (off+i*P.cellsOf e) λo=>some (.F8 g o))
  |_,_=>none
 |_=>none
theorem AeW {P:Program} {ρ:Af} {t:TypeId} {x E r:AV} {u v:Value} (C:VR ρ x u) (hi:VR ρ E v) (h:Tg P t x E=some r) (w:World): ∃z,(Instr.indexAt t u v).run P w=.ok z w/\VR ρ r z:=by
 unfold Tg at h;split at h
 ·rename_i k i;cases hi;have y:=Ae.1 h;clear h;obtain⟨d,hd,h⟩:=y;split at h
  ·have y:=AK.1 h;clear h;obtain⟨q,h⟩:=y;have y:=Ae.1 h;clear h;obtain⟨de,B,h⟩:=y;rw[Bu]at h;injection h with h;subst h;rw[Nat.blt_eq]at q;cases C with
   |sl id off len cap b hb=>refine⟨_,?_,.ptr _ _ b hb⟩;simp[Instr.indexAt,asIntOf,run_underlying hd,Eg B,q,Dk,Nat.add_assoc]
  ·have y:=AK.1 h;clear h;obtain⟨q,h⟩:=y;have y:=Ae.1 h;clear h;obtain⟨de,B,h⟩:=y;rw[Bu]at h;injection h with h;subst h;rw[Nat.blt_eq]at q;cases C with
   |Bw id off len Ar b hb K J=>refine⟨_,?_,.ptr _ _ b hb⟩;simp[Instr.indexAt,asIntOf,run_underlying hd,Eg B,q,Dk,Nat.add_assoc]
  ·have y:=AK.1 h;clear h;obtain⟨q,h⟩:=y;have y:=Ae.1 h;clear h;obtain⟨de,B,h⟩:=y;rw[Bu]at h;injection h with h;subst h;rw[Nat.blt_eq]at q;cases C with
   |ptr id off b hb=>refine⟨_,?_,.ptr _ _ b hb⟩;simp[Instr.indexAt,asIntOf,run_underlying hd,Eg B,q,Dk,Nat.add_assoc,Instr.sureAddr]
  ·have y:=AK.1 h;clear h;obtain⟨q,h⟩:=y;have y:=Ae.1 h;clear h;obtain⟨de,B,h⟩:=y;rw[Bu]at h;injection h with h;subst h;rw[Nat.blt_eq]at q;cases C with
   |F8 g off=>refine⟨_,?_,.F8 _ _⟩;simp[Instr.indexAt,asIntOf,run_underlying hd,Eg B,q,Dk,Instr.sureAddr]
  ·cases h
 ·cases h
def m9 (P:Program) (t:TypeId) (x q:AV):Option AV:=
 match q with
 |.int _ (.ofNat i)=>ob (P.underlying t) λd=>match d,x with
  |.string,.str l n=>gd (Nat.blt i l) (fN (n/256^i %256) λc=>some (.int .u8 (.ofNat c)))
  |.array len e,.agg cs=>gd (Nat.blt i len) (ob (P.underlying e) λ_=>Kq P e cs (i*P.cellsOf e))
  |_,_=>none
 |_=>none
theorem AeX {P:Program} {ρ:Af} {t:TypeId} {x K r:AV} {u v:Value} (L:VR ρ x u) (hi:VR ρ K v) (h:m9 P t x K=some r) (w:World): ∃z,(Instr.index t u v).run P w=.ok z w/\VR ρ r z:=by
 unfold m9 at h;split at h
 ·rename_i k i;cases hi;have y:=Ae.1 h;clear h;obtain⟨d,hd,h⟩:=y;split at h
  ·rename_i l n;have y:=AK.1 h;clear h;obtain⟨q,h⟩:=y;rw[Bu]at h;injection h with h;subst h;rw[Nat.blt_eq]at q;cases L with
   |str _ _ hn=>
    refine⟨.int .u8 (Int.ofNat (n/256^i %256)),?_,.int _ _⟩;have B:=MG l n;have M:((BB l n)[i]'(by rw[B];exact q))=UInt8.ofNat (n/256^i):=by
     have E:=Zf l n i q;rw[<-Qq]at E;have C:(BB l n).data.toList[i]? =some ((BB l n)[i]'(by rw[B];exact q)):=by rw[List.getElem?_eq_getElem (by rw[Qq,ON];exact q)];rfl
     rw[E]at C;exact(Option.some.inj C).symm
    rw[run_index_string w t (BB l n) k (Int.ofNat i) hd,dif_pos (by rw[B];simp;exact q)];simp[M]
  ·have y:=AK.1 h;clear h;obtain⟨q,h⟩:=y;have y:=Ae.1 h;clear h;obtain⟨de,J,h⟩:=y;rw[Nat.blt_eq]at q;cases L with
   |agg _ vs At=>obtain⟨z,E,C⟩:=ZT At h w;exact⟨z,by simp[Instr.index,asIntOf,run_underlying hd,Eg J,q,E],C⟩
  ·cases h
 ·cases h
def m6 (x:AV) (i:Nat):Option AV:=
 match x with
 |.AL vs=>vs[i]?
 |_=>none
theorem AeR {P:Program} {ρ:Af} {x r:AV} {i:Nat} {u:Value} (q:VR ρ x u) (h:m6 x i=some r) (w:World): ∃z,(Instr.extract u i).run P w=.ok z w/\VR ρ r z:=by
 unfold m6 at h;split at h
 ·cases q with
  |AL _ vs At=>obtain⟨v,hv,y⟩:=At.get i r h;exact⟨v,by simp[Instr.extract,hv],y⟩
 ·cases h
end Go.Ev
end
section
/- The evaluator, part E: slices of slices, conversions, lookups, lengths; all operations that read at most. -/
namespace Go.Ev
def F3 (X:Operand->Option AV) (l:List Operand):Option (List AV):=List.rec (motive:=λ_=>Option (List AV)) (some []) (λx _ q=>ob (X x) λa=>ob q λr=>some (a::r)) l
theorem Jl {ρ:Af} {X:Operand->Option AV} {f:Operand->Value} (q:XR ρ X f):∀ {l:List Operand} {r:List AV},F3 X l=some r->AF ρ r (l.map f)
 | [],r,h=>by injection h with h;subst h;exact .nil
 |x::l,r,h=>by obtain⟨a,B,h⟩:=Ae.1 (show ob (X x) (λa=>ob (F3 X l) λr=>some (a::r))=some r from h);obtain⟨C,y,h⟩:=Ae.1 h;injection h with h;subst h;exact .cons _ _ _ _ (q _ _ B) (Jl q y)
def SN:AV->Option Nat
 |.int _ (.ofNat i)=>some i
 |_=>none
theorem k7 {a:AV} {i:Nat} (h:SN a=some i):∃k,a=.int k (Int.ofNat i):=by
 unfold SN at h;split at h
 ·injection h with h;subst h;exact⟨_,rfl⟩
 ·cases h
def EP (X:Operand->Option AV) (x:Option Operand) (q lim:Nat):Option Nat:=
 match x with
 |none=>some q
 |some o=>ob (X o) λa=>ob (SN a) λi=>gd (Nat.ble i lim) (some i)
theorem wk {X:Operand->Option AV} {o:Operand} {d lim i:Nat} (h:EP X (some o) d lim=some i):i<=lim/\∃k,X o=some (.int k (Int.ofNat i)):=by obtain⟨a,E,K⟩:=Ae.1 (show(ob (X o) λa=>ob (SN a) λi=>gd (Nat.ble i lim) (some i))=some i from h);obtain⟨j,C,J⟩:=Ae.1 K;obtain⟨y,q⟩:=AK.1 J;injection q with q;subst q;obtain⟨k,B⟩:=k7 C;exact⟨by rwa[Nat.ble_eq]at y,k,by rw[E,B]⟩
theorem Tf {P:Program} {ρ:Af} {X:Operand->Option AV} {f:Operand->Value} (C:XR ρ X f) {o:Operand} {d lim i:Nat} (h:EP X (some o) d lim=some i) (w:World) (y:Nat) (hy:lim<=y) (code:BoundsCode):(Instr.sliceBound (f o) y code).run P w=.ok i w:=by
 obtain⟨E,k,B⟩:=wk h;have q:=C _ _ B;generalize f o=v at q;cases q;have:((i:Int)<=(y:Int)):=by omega
 simp[Instr.sliceBound,asIntOf];omega
def bO (mx:Option Operand) (m lim:Nat):Nat:=
 match mx with
 |some _=>m
 |none=>lim
theorem RT {P:Program} {ρ:Af} {X:Operand->Option AV} {f:Operand->Value} (E:XR ρ X f) {lo hi mx:Option Operand} {len cap lim l h m:Nat} (Ah:Bool) (B:EP X mx cap lim=some m) (C:lim<=cap) (y:EP X hi len (bO mx m lim)=some h) (q:EP X lo 0 h=some l) (K:mx.isSome=true->hi.isSome=true) (w:World): (Instr.sliceBounds Ah len cap (lo.map f) (hi.map f) (mx.map f)).run P w=.ok (l,h,m) w:=by
 unfold Instr.sliceBounds;cases mx with
 |none=>
  injection B with B;subst B;cases hi with
  |none=>
   injection y with y;subst y;cases lo with
   |none=>injection q with q;subst q;simp
   |some o=>simp[Tf E q w _ (Nat.le_refl _)]
  |some M=>
   have J:=λc=>Tf (P:=P) E y w cap C c;cases lo with
   |none=>injection q with q;subst q;simp[J]
   |some o=>simp[J,Tf E q w _ (Nat.le_refl _)]
 |some O=>
  have L:=λc=>Tf (P:=P) E B w cap C c;cases hi with
  |none=>exact absurd (K rfl) (by simp)
  |some M=>
   have J:=λc=>Tf (P:=P) E y w m (Nat.le_refl _) c;cases lo with
   |none=>injection q with q;subst q;simp[L,J]
   |some o=>simp[L,J,Tf E q w _ (Nat.le_refl _)]
def Wh (P:Program) (X:Operand->Option AV) (t:TypeId) (x:AV) (lo hi mx:Option Operand):Option AV:=ob (P.underlying t) λd=>gd (!mx.isSome||hi.isSome) (match d,x with
  |.string,.str len n=>gd (!mx.isSome) (ob (EP X hi len len) λh=>ob (EP X lo 0 h) λl=>fN (n/256^l %256^(h-l)) λs=>some (.str (h-l) s))
  |.slice e,.sl id off len cap=>ob (P.underlying e) λ_=>ob (EP X mx cap cap) λm=>ob (EP X hi len (bO mx m cap)) λh=>ob (EP X lo 0 h) λl=>cond (Nat.beq m l) (fN (h-l) λq=>some (.sl id off q 0)) (fN (off+l*P.cellsOf e) λo=>fN (h-l) λq=>fN (m-l) λy=>some (.sl id o q y))
  |.slice e,.Bw id off len Ar=>ob (P.underlying e) λ_=>gd (Nat.beq (P.cellsOf e) Ar) (match mx with
    |none=>ob (EP X hi len len) λh=>ob (EP X lo 0 h) λl=>cond (Nat.blt l len||Nat.beq l 0)
      (fN (off+l*Ar) λo=>fN (h-l) λq=>some (.Bw id o q Ar)) (some (.sle id))
    |some _=>ob (EP X mx 0 len) λm=>ob (EP X hi len m) λh=>ob (EP X lo 0 h) λl=>cond (Nat.beq m l) (fN (h-l) λq=>some (.sl id off q 0)) (fN (off+l*Ar) λo=>fN (h-l) λq=>fN (m-l) λy=>some (.sl id o q y)))
  |.slice e,.sle id=>ob (P.underlying e) λ_=>gd (!mx.isSome) (ob (EP X hi 0 0) λh=>ob (EP X lo 0 h) λ_=>some (.sle id))
  |.slice e,.As=>ob (P.underlying e) λ_=>ob (EP X mx 0 0) λm=>ob (EP X hi 0 (bO mx m 0)) λh=>ob (EP X lo 0 h) λ_=>some .As
  |.array n e,.ptr id off=>ob (P.underlying e) λ_=>ob (EP X mx n n) λm=>ob (EP X hi n (bO mx m n)) λh=>ob (EP X lo 0 h) λl=>cond (Nat.beq m l) (fN (h-l) λq=>some (.sl id off q 0)) (fN (off+l*P.cellsOf e) λo=>fN (h-l) λq=>fN (m-l) λy=>some (.sl id o q y))
  |_,_=>none)
theorem MK {X:Operand->Option AV} {x:Option Operand} {d lim i:Nat} (hd:d<=lim) (h:EP X x d lim=some i):i<=lim:=by
 cases x with
 |none=>injection h with h;omega
 |some o=>exact(wk h).1
theorem sU {ρ:Af} {id off l m q Ar:Nat} {b:CM} {r:AV} (hb:ρ id=some b) (h:cond (Nat.beq m l) (fN q λq=>some (AV.sl id off q 0)) (fN (off+l*Ar) λo=>fN q λq=>fN (m-l) λy=>some (AV.sl id o q y))=some r): VR ρ r (.slice (some (if m=l then⟨b.b,b.ob+off,none⟩else⟨b.b,b.ob+(off+l*Ar),none⟩)) q (m-l)):=by
 simp only[Bu]at h;cases hm:Nat.beq m l with
 |true=>rw[hm,cond_true]at h;injection h with h;subst h;rw[Nat.beq_eq]at hm;subst hm;rw[if_pos rfl,Nat.sub_self];exact .sl _ _ _ _ b hb
 |false=>
  rw[hm,cond_false]at h;injection h with h;subst h;have:m≠l:=λe=>by rw[<-Nat.beq_eq,hm]at e;cases e
  rw[if_neg this];exact .sl _ _ _ _ b hb
set_option maxHeartbeats 1000000 in
theorem Afb {P:Program} {ρ:Af} {X:Operand->Option AV} {f:Operand->Value} (Z:XR ρ X f) {t:TypeId} {x r:AV} {lo hi mx:Option Operand} {u:Value} (hx:VR ρ x u) (h:Wh P X t x lo hi mx=some r) (w:World):∃z,(Instr.sliceAt t u (lo.map f) (hi.map f) (mx.map f)).run P w=.ok z w/\VR ρ r z:=by
 obtain⟨d,hd,U⟩:=Ae.1 h;clear h;obtain⟨W,L⟩:=AK.1 U;clear U;have V:mx.isSome=true->hi.isSome=true:=by intro hm;rw[hm]at W;simpa using W
 split at L
 ·obtain⟨aa,M⟩:=AK.1 L;obtain⟨R,q,K⟩:=Ae.1 M;obtain⟨il,B,J⟩:=Ae.1 K;clear L M K;rw[Bu]at J;injection J with J;subst J;cases mx with
  |some _=>simp at aa
  |none=>
   cases hx with
   |str _ _ hn=>
    rename_i len n;have hb:=RT (P:=P) Z (lo:=lo) (hi:=hi) (mx:=none) (len:=len) (cap:=len) (lim:=len) false rfl (Nat.le_refl _) q B (by simp) w;have U:=MK (Nat.le_refl _) q;have L:=MK (Nat.zero_le _) B;refine⟨_,?_,.str _ _ (Nat.mod_lt _ (Nat.pow_pos (by decide)))⟩;have ae:(Instr.sliceBounds false (BB len n).size (BB len n).size (lo.map f) (hi.map f) none).run P w=.ok (il,R,len) w:=by rw[MG];exact hb
    simp[Instr.sliceAt,Instr.slice,run_underlying hd,ae,AdK _ _ _ _ U L]
 ·obtain⟨de,C,M⟩:=Ae.1 L;obtain⟨m,hm,K⟩:=Ae.1 M;obtain⟨R,q,J⟩:=Ae.1 K;obtain⟨il,B,E⟩:=Ae.1 J;clear L M K J;cases hx with
  |sl _ _ _ _ b hb=>have y:=RT (P:=P) Z true hm (Nat.le_refl _) q B V w;refine⟨_,?_,sU hb E⟩;simp[Instr.sliceAt,Instr.slice,run_underlying hd,y,Eg C,Dk,Nat.add_assoc];split<;>simp
 ·obtain⟨de,C,M⟩:=Ae.1 L;obtain⟨S,K⟩:=AK.1 M;clear L M;rw[Nat.beq_eq]at S;cases hx with
  |Bw _ _ _ _ b hb he hl=>
   rename_i e id off len Ar;have Y:len<=(b.cap-off)/Ar:=by rw[Nat.le_div_iff_mul_le he];omega
   split at K
   ·obtain⟨R,q,J⟩:=Ae.1 K;obtain⟨il,B,E⟩:=Ae.1 J;clear K J;have y:=RT (P:=P) Z (lo:=lo) (hi:=hi) (mx:=none) (len:=len) (cap:=(b.cap-off)/Ar) (lim:=len) true rfl Y q B (by simp) w;simp only[Option.map_none]at y;have U:=MK (Nat.le_refl _) q;have L:=MK (Nat.zero_le _) B;cases O:(Nat.blt il len||Nat.beq il 0)with
    |true=>
     rw[O,cond_true]at E;have ad:=O;simp only[Bu]at E;injection E with E;subst E;have ah:il*Ar<=R*Ar:=Nat.mul_le_mul_right _ L;have ag:R*Ar<=len*Ar:=Nat.mul_le_mul_right _ U;have af:(R-il)*Ar=R*Ar-il*Ar:=Nat.sub_mul _ _ _;have hv:=VR.Bw (ρ:=ρ) id (off+il*Ar) (R-il) Ar b hb he (by omega);have hc:(b.cap-(off+il*Ar))/Ar=(b.cap-off)/Ar-il:=by rw[show b.cap-(off+il*Ar)=b.cap-off-il*Ar by omega,Nat.mul_comm,Nat.sub_mul_div]
     rw[hc]at hv;refine⟨_,?_,hv⟩;by_cases h0:(b.cap-off)/Ar=il
     ·have:il=0:=by
       rcases Bool.or_eq_true _ _▸ad with h|h
       ·rw[Nat.blt_eq]at h;omega
       ·rwa[Nat.beq_eq]at h
      subst this;simp[Instr.sliceAt,Instr.slice,run_underlying hd,y,Eg C,Dk,Nat.add_assoc,S]
     ·simp[Instr.sliceAt,Instr.slice,run_underlying hd,y,Eg C,Dk,Nat.add_assoc,S,h0]
    |false=>
     rw[O,cond_false]at E;injection E with E;subst E;have hz:¬il<len:=λhh=>by rw[<-Nat.blt_eq]at hh;rw[hh]at O;cases O
     have e1:R-il=0:=by omega
     refine⟨.slice (some ⟨b.b,if(b.cap-off)/Ar=il then b.ob+off else b.ob+(off+il*Ar),none⟩) 0 ((b.cap-off)/Ar-il),?_,.sle _ _ _ _ hb⟩;by_cases h0:(b.cap-off)/Ar=il
     ·rw[h0]at y;simp[Instr.sliceAt,Instr.slice,run_underlying hd,y,Eg C,Dk,Nat.add_assoc,S,h0,e1]
     ·simp[Instr.sliceAt,Instr.slice,run_underlying hd,y,Eg C,Dk,Nat.add_assoc,S,h0,e1]
   ·rename_i om;obtain⟨m,hm,J⟩:=Ae.1 K;obtain⟨R,q,E⟩:=Ae.1 J;obtain⟨il,B,h7⟩:=Ae.1 E;clear K J E;have ab:EP X (some om) ((b.cap-off)/Ar) len=some m:=hm;have y:=RT (P:=P) Z (len:=len) true ab Y q B V w;refine⟨_,?_,sU hb h7⟩;simp only[Option.map_some]at y;simp[Instr.sliceAt,Instr.slice,run_underlying hd,y,Eg C,Dk,Nat.add_assoc,S];split<;>simp
 ·obtain⟨de,C,M⟩:=Ae.1 L;obtain⟨aa,K⟩:=AK.1 M;obtain⟨R,q,J⟩:=Ae.1 K;obtain⟨il,B,E⟩:=Ae.1 J;clear L M K J;injection E with E;subst E;cases mx with
  |some _=>simp at aa
  |none=>
   cases hx with
   |sle _ b o c hb=>
    have y:=RT (P:=P) Z (lo:=lo) (hi:=hi) (mx:=none) (len:=0) (cap:=c) (lim:=0) true rfl (Nat.zero_le _) q B (by simp) w;simp only[Option.map_none]at y;have U:=MK (Nat.le_refl _) q;have L:=MK (Nat.zero_le _) B;have e1:R=0:=by omega
    have e2:il=0:=by omega
    subst e1;subst e2;refine⟨.slice (some ⟨b.b,o,none⟩) 0 c,?_,.sle _ _ _ _ hb⟩;simp[Instr.sliceAt,Instr.slice,run_underlying hd,y,Eg C,Dk]
 ·obtain⟨de,C,M⟩:=Ae.1 L;obtain⟨m,hm,K⟩:=Ae.1 M;obtain⟨R,q,J⟩:=Ae.1 K;obtain⟨il,B,E⟩:=Ae.1 J;clear L M K J;injection E with E;subst E;cases hx;have y:=RT (P:=P) Z true hm (Nat.le_refl _) q B V w;have U:=MK (Nat.le_refl _) hm;have L:R<=0:=by
   cases mx with
   |none=>exact MK (Nat.le_refl _) q
   |some _=>exact Nat.le_trans (MK (Nat.zero_le _) q) U
  have M:=MK (Nat.zero_le _) B;have e1:m=0:=by omega
  have e2:R=0:=by omega
  have e3:il=0:=by omega
  subst e1;subst e2;subst e3;refine⟨_,?_,.As⟩;simp[Instr.sliceAt,Instr.slice,run_underlying hd,y,Eg C]
 ·obtain⟨de,C,M⟩:=Ae.1 L;obtain⟨m,hm,K⟩:=Ae.1 M;obtain⟨R,q,J⟩:=Ae.1 K;obtain⟨il,B,E⟩:=Ae.1 J;clear L M K J;cases hx with
  |ptr _ _ b hb=>have y:=RT (P:=P) Z false hm (Nat.le_refl _) q B V w;refine⟨_,?_,sU hb E⟩;simp[Instr.sliceAt,Instr.sureAddr,run_underlying hd,y,Eg C,Dk,Nat.add_assoc]
 ·cases L
def mU (P:Program) (q dst:TypeId) (x:AV):Option AV:=ob (P.underlying q) λ_=>ob (P.underlying dst) λd=>match d,x with
  |.int k,.int _ n=>fI (wr k n) λr=>some (.int k r)
  |.string,.str l n=>some (.str l n)
  |_,_=>none
theorem wu {P:Program} {ρ:Af} {y dst:TypeId} {x r:AV} {u:Value} (E:VR ρ x u) (h:mU P y dst x=some r) (w:World): ∃z,(convert y dst u).run P w=.ok z w/\VR ρ r z:=by
 obtain⟨K,B,J⟩:=Ae.1 h;obtain⟨L,C,q⟩:=Ae.1 J;clear h J;split at q
 ·rw[MM,X6]at q;injection q with q;subst q;cases E;exact⟨_,by simp[convert,run_underlying B,run_underlying C,Conv.intToInt],.int _ _⟩
 ·injection q with q;subst q;cases E with
  |str _ _ hn=>exact⟨_,by simp[convert,run_underlying B,run_underlying C],.str _ _ hn⟩
 ·cases q
def ez (kd:TypeDesc) (a b:AV):Option Bool:=
 match kd,a,b with
 |.int _,.int k a,.int B b=>gd (MU k B) (some (Ak a b))
 |.string,.str l n,.str y q=>some (cond (Nat.beq l y) (Nat.beq n q) false)
 |.bool,.bool a,.bool b=>some (cond a b (!b))
 |_,_,_=>none
theorem AnR {ρ:Af} {kd:TypeDesc} {a b:AV} {u v:Value} {r:Bool} (y:VR ρ a u) (hb:VR ρ b v) (h:ez kd a b=some r):Instr.sameNow kd u v=some r:=by
 unfold ez at h;split at h
 ·obtain⟨C,q⟩:=AK.1 h;clear h;have B:=O3 C;subst B;injection q with q;subst q;cases y;cases hb;simp[Instr.sameNow,Dt]
 ·injection h with h;subst h;cases y with
  |str _ _ q=>cases hb with
   |str _ _ E=>rw[<-ke q E];simp[Instr.sameNow,beq_toListBytes]
 ·injection h with h;subst h;cases y;cases hb;rename_i a b;cases a<;>cases b<;>rfl
 ·cases h
def Z2 (kd:TypeDesc) (k:AV) (y:List DJ):Nat->Option (Option (Nat×AV)):=List.rec (motive:=λ_=>Nat->Option (Option (Nat×AV))) (λ_=>some none) (λe _ q i=>ob (ez kd k e.key) λr=>cond r (some (some (i,e.val))) (q (i+1))) y
theorem nB {ρ:Af} {kd:TypeDesc} {k:AV} {u:Value} (E:VR ρ k u):∀ {B:List DJ} {l:List MapEntry},Ek ρ B l->∀(i:Nat) (r:Option (Nat×AV)),Z2 kd k B i=some r->∃q,Instr.findNow kd u l i=some q/\(match r with|none=>q=none|some (j,a)=>∃v,q=some (j,v)/\VR ρ a v)
 |_,_,.nil,i,r,h=>by injection h with h;subst h;exact⟨none,rfl,rfl⟩
 |_,_,.cons e m B l J K,i,r,h=>by
  obtain⟨s,C,y⟩:=Ae.1 (show ob (ez kd k e.key) (λr=>cond r (some (some (i,e.val))) (Z2 kd k B (i+1)))=some r from h);have hn:=AnR E J.1 C;cases s with
  |true=>injection y with y;subst y;exact⟨some (i,m.val),by simp[Instr.findNow,hn],m.val,rfl,J.2.1⟩
  |false=>obtain⟨q,M,L⟩:=nB E K (i+1) r y;exact⟨q,by simp[Instr.findNow,hn,M],L⟩
def WJ:TypeDesc->Bool
 |.int _|.string|.bool=>true
 |_=>false
theorem Zq {P:Program} {t:TypeId} {d:TypeDesc} (hd:P.underlying t=some d) (q:WJ d=true) (e:Bool) (n:Nat) (v:Value) (w:World): (Instr.checkKey e (n+1) t v).run P w=.ok () w:=by cases d<;>first|(cases q;done)|(simp[Instr.checkKey,run_underlying hd])
def Sd (P:Program) (t:TypeId):Option AV:=ob (P.info? t) λi=>ob i.zero λz=>ofValue z
theorem Sf {P:Program} {t:TypeId} {a:AV} (h:Sd P t=some a) (w:World):∃z,(zeroValue t).run P w=.ok z w/\∀ρ:Af,VR ρ a z:=by obtain⟨i,hi,y⟩:=Ae.1 h;obtain⟨z,hz,q⟩:=Ae.1 y;exact⟨z,by simp[zeroValue,run_typeInfo w hi,hz],λρ=>AaC q⟩
def xD (P:Program) (H:Tr Ac) (t:TypeId) (m k:AV) (ok:Bool):Option AV:=ob (P.underlying t) λd=>match d with
  |.map key q=>ob (P.underlying key) λkd=>gd (WJ kd) (ob (match m with
    |.EZ=>some []
    |.map id=>ob (H.get id) λo=>match o with
     |.map y _=>some y
     |_=>none
    |_=>none) λy=>ob (Z2 kd k y 0) λr=>ob (match r with
     |some (_,v)=>some (v,true)
     |none=>ob (Sd P q) λz=>some (z,false)) λp=>some (cond ok (.AL [p.1,.bool p.2]) p.1))
  |_=>none
theorem AeZ {P:Program} {E:Env} {F:Nat->Option Obj} {nx:Nat} {ρ:Af} {h:Nat->Option Ac} {w:World} {H:Tr Ac} (r:Rel E F nx ρ h w) (hs:HS ρ H h) {t:TypeId} {m k a:AV} {ok:Bool} {u v:Value} (hm:VR ρ m u) (hk:VR ρ k v) (O:xD P H t m k ok=some a):∃z,(Instr.lookup t u v ok).run P w=.ok z w/\VR ρ a z:=by
 obtain⟨d,hd,R⟩:=Ae.1 O;clear O;split at R
 ·rename_i key ad;obtain⟨kd,q,h2⟩:=Ae.1 R;obtain⟨aa,h3⟩:=AK.1 h2;obtain⟨es,C,h4⟩:=Ae.1 h3;obtain⟨fr,ab,h5⟩:=Ae.1 h4;obtain⟨p,hp,W⟩:=Ae.1 h5;clear R h2 h3 h4 h5;injection W with W;subst W;have fin:∀l:List MapEntry,Ek ρ es l->(u=.map none/\l=[]\/∃b clock,u=.map (some b)/\w.heap[b]? =some (.map l.toArray clock))-> ∃z,(Instr.lookup t u v ok).run P w=.ok z w/\VR ρ (cond ok (.AL [p.1,.bool p.2]) p.1) z:=by
   intro l U hu;obtain⟨r',y,M⟩:=nB hk U 0 fr ab;have B:=λe=>Zq (P:=P) q aa e 9999 v w;split at hp
   ·rename_i j val;injection hp with hp;subst hp;obtain⟨z,hz,J⟩:=M;subst hz;cases ok with
    |true=>
     refine⟨.tuple #[z,.bool true],?_,.AL _ [z,.bool true] (.cons _ _ _ _ J (.cons _ _ _ _ (.bool true) .nil))⟩;rcases hu with⟨rfl,rfl⟩|⟨b,clock,rfl,hb⟩
     ·simp[Instr.lookup,run_underlying hd,B,Instr.findKey,run_underlying q,y]
     ·simp[Instr.lookup,run_underlying hd,B,Instr.findKey,run_underlying q,y,getObj,Sem.run,hb]
    |false=>
     refine⟨z,?_,J⟩;rcases hu with⟨rfl,rfl⟩|⟨b,clock,rfl,hb⟩
     ·simp[Instr.lookup,run_underlying hd,B,Instr.findKey,run_underlying q,y]
     ·simp[Instr.lookup,run_underlying hd,B,Instr.findKey,run_underlying q,y,getObj,Sem.run,hb]
   ·obtain⟨z,hz,V⟩:=Ae.1 hp;injection V with V;subst V;have Y:r'=none:=M;subst Y;obtain⟨S,K,J⟩:=Sf hz w;cases ok with
    |true=>
     refine⟨.tuple #[S,.bool false],?_,.AL _ [S,.bool false] (.cons _ _ _ _ (J ρ) (.cons _ _ _ _ (.bool false) .nil))⟩;rcases hu with⟨rfl,rfl⟩|⟨b,clock,rfl,hb⟩
     ·simp[Instr.lookup,run_underlying hd,B,Instr.findKey,run_underlying q,y,K]
     ·simp[Instr.lookup,run_underlying hd,B,Instr.findKey,run_underlying q,y,getObj,Sem.run,hb,K]
    |false=>
     refine⟨S,?_,J ρ⟩;rcases hu with⟨rfl,rfl⟩|⟨b,clock,rfl,hb⟩
     ·simp[Instr.lookup,run_underlying hd,B,Instr.findKey,run_underlying q,y,K]
     ·simp[Instr.lookup,run_underlying hd,B,Instr.findKey,run_underlying q,y,getObj,Sem.run,hb,K]
  split at C
  ·injection C with C;subst C;cases hm;exact fin [] .nil (.inl ⟨rfl,rfl⟩)
  ·obtain⟨o,ho,L⟩:=Ae.1 C;cases hm with
   |map _ b hb=>
    obtain⟨c,hc,Z⟩:=r.ob _ o b (hs _ o ho (.inl ⟨b,hb⟩)) hb;split at L
    ·injection L with L;subst L;cases Z with
     |map es clock l U=>exact fin l U (.inr ⟨_,_,rfl,hc⟩)
    ·cases L
  ·cases C
 ·cases R
end Go.Ev
end
section
/- The evaluator, part F: all operations that read at most, and those that make a block. -/
namespace Go.Ev
def xB (P:Program) (H:Tr Ac) (t:TypeId) (x:AV):Option AV:=ob (P.underlying t) λd=>match d,x with
  |.string,.str l _=>some (Jw l)
  |.slice _,.As=>some (Jw 0)
  |.slice _,.sl _ _ n _=>some (Jw n)
  |.slice _,.Bw _ _ n _=>some (Jw n)
  |.slice _,.sle _=>some (Jw 0)
  |.array n _,_=>some (Jw n)
  |.map _ _,.EZ=>some (Jw 0)
  |.map _ _,.map id=>ob (H.get id) λo=>match o with
   |.map es _=>some (Jw es.length)
   |_=>none
  |_,_=>none
theorem AeY {P:Program} {E:Env} {F:Nat->Option Obj} {nx:Nat} {ρ:Af} {h:Nat->Option Ac} {w:World} {H:Tr Ac} (r:Rel E F nx ρ h w) (O:HS ρ H h) {t:TypeId} {x a:AV} {u:Value} (y:VR ρ x u) (C:xB P H t x=some a) (M L:Array _) (ty:TypeId) (ht:M[0]? =some t) (hu:L[0]? =some u): ∃z,(Builtin.len_ M ty L).run P w=.ok z w/\VR ρ a z:=by
 obtain⟨d,hd,q⟩:=Ae.1 C;clear C;split at q
 ·injection q with q;subst q;cases y;exact⟨_,by simp[Builtin.len_,ht,hu,run_underlying hd,MG,goInt],.int _ _⟩
 ·injection q with q;subst q;cases y;exact⟨_,by simp[Builtin.len_,ht,hu,run_underlying hd,goInt],.int _ _⟩
 ·injection q with q;subst q;cases y;exact⟨_,by simp[Builtin.len_,ht,hu,run_underlying hd,goInt],.int _ _⟩
 ·injection q with q;subst q;cases y;exact⟨_,by simp[Builtin.len_,ht,hu,run_underlying hd,goInt],.int _ _⟩
 ·injection q with q;subst q;cases y;exact⟨_,by simp[Builtin.len_,ht,hu,run_underlying hd,goInt],.int _ _⟩
 ·injection q with q;subst q;exact⟨_,by simp[Builtin.len_,ht,hu,run_underlying hd,goInt],.int _ _⟩
 ·injection q with q;subst q;cases y;exact⟨_,by simp[Builtin.len_,ht,hu,run_underlying hd,goInt],.int _ _⟩
 ·obtain⟨o,R,B⟩:=Ae.1 q;cases y with
  |map _ b hb=>
   obtain⟨c,hc,J⟩:=r.ob _ o b (O _ o R (.inl ⟨b,hb⟩)) hb;split at B
   ·injection B with B;subst B;cases J with
    |map U K l S=>exact⟨_,by simp[Builtin.len_,ht,hu,run_underlying hd,goInt,getObj,Sem.run,hc,<-S.length],.int _ _⟩
   ·cases B
 ·cases q
def wo (P:Program) (t:TypeId) (x:AV):Option AV:=ob (P.underlying t) λd=>match d,x with
  |.slice _,.As=>some (Jw 0)
  |.slice _,.sl _ _ _ c=>some (Jw c)
  |_,_=>none
theorem AeL {P:Program} {ρ:Af} {t:TypeId} {x a:AV} {u:Value} (E:VR ρ x u) (y:wo P t x=some a) (C B:Array _) (ty:TypeId) (ht:C[0]? =some t) (hu:B[0]? =some u) (w:World): ∃z,(Builtin.cap_ C ty B).run P w=.ok z w/\VR ρ a z:=by
 obtain⟨d,hd,q⟩:=Ae.1 y;clear y;split at q
 ·injection q with q;subst q;cases E;exact⟨_,by simp[Builtin.cap_,ht,hu,run_underlying hd,goInt],.int _ _⟩
 ·injection q with q;subst q;cases E;exact⟨_,by simp[Builtin.cap_,ht,hu,run_underlying hd,goInt],.int _ _⟩
 ·cases q
def mf (q:List AV):Option AV:=
 match q with
 | [.int k x,.int _ y]=>some (.int k (cond (AP y x) y x))
 |_=>none
def me (q:List AV):Option AV:=
 match q with
 | [.int k x,.int _ y]=>some (.int k (cond (AP x y) y x))
 |_=>none
theorem Ae1 {P:Program} {ρ:Af} {y:List AV} {a:AV} {B:List Value} (E:AF ρ y B) (h:mf y=some a) (C:Array TypeId) (ty:TypeId) (w:World): ∃z,(Builtin.min_ C ty B.toArray).run P w=.ok z w/\VR ρ a z:=by
 unfold mf at h;split at h
 ·injection h with h;subst h;cases E with
  |cons _ _ _ _ K q=>cases q with
   |cons _ _ _ _ J q=>cases q;cases K;cases J;exact⟨_,by simp[Builtin.min_,Builtin.min2,EG,Bool.cond_eq_ite],.int _ _⟩
 ·cases h
theorem Ae0 {P:Program} {ρ:Af} {y:List AV} {a:AV} {B:List Value} (E:AF ρ y B) (h:me y=some a) (C:Array TypeId) (ty:TypeId) (w:World): ∃z,(Builtin.max_ C ty B.toArray).run P w=.ok z w/\VR ρ a z:=by
 unfold me at h;split at h
 ·injection h with h;subst h;cases E with
  |cons _ _ _ _ K q=>cases q with
   |cons _ _ _ _ J q=>cases q;cases K;cases J;exact⟨_,by simp[Builtin.max_,Builtin.max2,EG,Bool.cond_eq_ite],.int _ _⟩
 ·cases h
def mQ (P:Program) (H:Tr Ac) (b:Builtin) (y:List TypeId) (q:List AV):Option AV:=
 match b with
 |.len=>ob (y[0]?) λt=>ob (q[0]?) λx=>xB P H t x
 |.cap=>ob (y[0]?) λt=>ob (q[0]?) λx=>wo P t x
 |.min=>mf q
 |.max=>me q
 |_=>none
theorem AeH {P:Program} {E:Env} {F:Nat->Option Obj} {nx:Nat} {ρ:Af} {h:Nat->Option Ac} {w:World} {H:Tr Ac} (r:Rel E F nx ρ h w) (U:HS ρ H h) {b:Builtin} {J:List TypeId} {S:List AV} {a:AV} {K:List Value} (L:AF ρ S K) (q:mQ P H b J S=some a) (ty:TypeId) (cs:Array Bool): ∃z,(builtin b J.toArray ty cs K.toArray).run P w=.ok (.value z) w/\VR ρ a z:=by
 unfold mQ at q;split at q
 ·obtain⟨t,ht,R⟩:=Ae.1 q;obtain⟨x,C,O⟩:=Ae.1 R;obtain⟨u,hu,M⟩:=L.get 0 x C;obtain⟨z,B,y⟩:=AeY r U M O J.toArray K.toArray ty (by simpa using ht) (by simpa using hu);exact⟨z,by simp[builtin,B],y⟩
 ·obtain⟨t,ht,R⟩:=Ae.1 q;obtain⟨x,C,O⟩:=Ae.1 R;obtain⟨u,hu,M⟩:=L.get 0 x C;obtain⟨z,B,y⟩:=AeL (P:=P) M O J.toArray K.toArray ty (by simpa using ht) (by simpa using hu) w;exact⟨z,by simp[builtin,B],y⟩
 ·obtain⟨z,B,y⟩:=Ae1 (P:=P) L q J.toArray ty w;exact⟨z,by simp[builtin,B],y⟩
 ·obtain⟨z,B,y⟩:=Ae0 (P:=P) L q J.toArray ty w;exact⟨z,by simp[builtin,B],y⟩
 ·cases q
theorem map_toArray {α q:Type} (a:Array α) (f:α->q):(a.toList.map f).toArray=a.map f:=by rw[<-Array.toList_map,Array.toArray_toList]
def yn:Fn->Bool
 |.method _=>true
 |_=>false
def mh (x:AV):Option AV:=
 match x with
 |.ptr id off=>some (.ptr id off)
 |.iface t v=>some (.iface t v)
 |.fn f a c=>gd (!yn f) (some (.fn f a c))
 |.Dr id=>some (.Dr id)
 |_=>none
theorem Ae4 {ρ:Af} {a r:AV} {u:Value} (C:VR ρ a u) (h:mh a=some r): r=a/\∀(o:Oper) (f:Operand->Value) (x:Operand),o.op=.nilCheck x->f x=u->execOp f o=pure (.value u):=by
 cases C<;>simp only[mh]at h<;>first|(cases h;done)|skip
 ·injection h with h;subst h;exact⟨rfl,λo f x q y=>by simp[execOp,q,y]⟩
 ·rename_i fn _ _ _ _ _ _;obtain⟨B,h⟩:=AK.1 h;injection h with h;subst h;refine⟨rfl,λo f x q y=>?_⟩;cases fn<;>first|(simp[yn]at B;done)|simp[execOp,q,y]
 ·injection h with h;subst h;exact⟨rfl,λo f x q y=>by simp[execOp,q,y]⟩
 ·injection h with h;subst h;exact⟨rfl,λo f x q y=>by simp[execOp,q,y]⟩
def QQ:TypeDesc->Bool
 |.interface _=>true
 |_=>false
def QD (P:Program) (H:Tr Ac) (X:Operand->Option AV) (op:Op):Option AV:=
 match op with
 |.move x=>X x
 |.assign x=>X x
 |.pick c a b=>ob (X c) λv=>match v with
  |.bool t=>cond t (X a) (X b)
  |_=>none
 |.load t a=>ob (X a) λx=>Wg P H t x
 |.nilCheck x=>ob (X x) mh
 |.binOp op t x y _=>ob (X x) λa=>ob (X y) λb=>wm P op t (Ld x) (Ld y) a b
 |.unOp op _ x=>ob (X x) λa=>ZX op a
 |.convert s d x=>ob (X x) λa=>mU P s d a
 |.makeInterface t x=>ob (X x) λa=>ob (P.underlying t) λd=>gd (!QQ d) (some (.iface t a))
 |.makeFunc fn first captured=>ob (F3 X first.toList) λa=>ob (F3 X captured.toList) λc=>some (.fn fn a c)
 |.slice t x lo hi mx=>ob (X x) λa=>Wh P X t a lo hi mx
 |.fieldAddr t x f=>ob (X x) λa=>m7 P t a f
 |.field t x f=>ob (X x) λa=>wv P t a f
 |.indexAddr t x i=>ob (X x) λa=>ob (X i) λb=>Tg P t a b
 |.index t x i=>ob (X x) λa=>ob (X i) λb=>m9 P t a b
 |.lookup t x i ok=>ob (X x) λa=>ob (X i) λb=>xD P H t a b ok
 |.extract x i=>ob (X x) λa=>m6 a i
 |.call c=>match c.callee with
  |.builtin b=>ob (F3 X c.args.toList) λq=>mQ P H b c.argTypes.toList q
  |_=>none
 |_=>none
set_option maxHeartbeats 1000000 in
theorem mm {P:Program} {E:Env} {F:Nat->Option Obj} {nx:Nat} {ρ:Af} {h:Nat->Option Ac} {w:World} {H:Tr Ac} (r:Rel E F nx ρ h w) (W:HS ρ H h) {X:Operand->Option AV} {f:Operand->Value} (J:XR ρ X f) (o:Oper) {a:AV} (q:QD P H X o.op=some a): ∃v,(execOp f o).run P w=.ok (.value v) w/\VR ρ a v:=by
 obtain⟨dst,op,type,pos,after,guard⟩:=o;simp only at q;cases op<;>simp only[QD]at q<;>first|(cases q;done)|skip
 case move x=>exact⟨_,rfl,J _ _ q⟩
 case assign x=>exact⟨_,rfl,J _ _ q⟩
 case pick c x y=>
  obtain⟨v,hv,B⟩:=Ae.1 q;have hc:=J _ _ hv;split at B
  ·rename_i t;generalize S:f c=u at hc;cases hc;cases t
   ·exact⟨_,by simp[execOp,S,asBool],J _ _ B⟩
   ·exact⟨_,by simp[execOp,S,asBool],J _ _ B⟩
  ·cases B
 case load t x=>
  obtain⟨v,hv,B⟩:=Ae.1 q;obtain⟨z,K,C⟩:=xC r W (J _ _ hv) B;exact⟨z,C9 K,C⟩
 case nilCheck x=>
  obtain⟨v,hv,B⟩:=Ae.1 q;have hc:=J _ _ hv;obtain⟨rfl,K⟩:=Ae4 hc B;exact⟨f x,by rw[K {dst,op:=.nilCheck x,type,pos,after,guard} f x rfl rfl];rfl,hc⟩
 case binOp op t x y yt=>
  obtain⟨v,hv,B⟩:=Ae.1 q;obtain⟨V,M,K⟩:=Ae.1 B;obtain⟨z,C,L⟩:=AeI (P:=P) (J _ _ hv) (J _ _ M) K w;exact⟨z,C9 C,L⟩
 case unOp op t x=>
  obtain⟨v,hv,B⟩:=Ae.1 q;obtain⟨z,C,L⟩:=xK (P:=P) B (J _ _ hv) w;exact⟨z,C9 C,L⟩
 case convert s d x=>
  obtain⟨v,hv,B⟩:=Ae.1 q;obtain⟨z,C,L⟩:=wu (P:=P) (J _ _ hv) B w;exact⟨z,C9 C,L⟩
 case makeInterface t x=>
  obtain⟨v,hv,B⟩:=Ae.1 q;obtain⟨d,hd,K⟩:=Ae.1 B;obtain⟨hi,C⟩:=AK.1 K;injection C with C;subst C;refine⟨_,C9 ?_,.iface _ _ _ (J _ _ hv)⟩;cases d<;>first|(simp[QQ]at hi;done)|simp[Instr.makeInterface,run_underlying hd]
 case makeFunc fn first captured=>
  obtain⟨Z,O,B⟩:=Ae.1 q;obtain⟨ys,Y,K⟩:=Ae.1 B;injection K with K;subst K;have C:=VR.fn (ρ:=ρ) fn Z ys _ _ (Jl J O) (Jl J Y);rw[map_toArray,map_toArray]at C;exact⟨_,C9 rfl,C⟩
 case slice t x lo hi mx=>
  obtain⟨v,hv,B⟩:=Ae.1 q;obtain⟨z,C,L⟩:=Afb (P:=P) J (J _ _ hv) B w;exact⟨z,C9 C,L⟩
 case fieldAddr t x i=>
  obtain⟨v,hv,B⟩:=Ae.1 q;obtain⟨z,C,L⟩:=AeS (P:=P) (J _ _ hv) B w;exact⟨z,C9 C,L⟩
 case field t x i=>
  obtain⟨v,hv,B⟩:=Ae.1 q;obtain⟨z,C,L⟩:=AeT (P:=P) (J _ _ hv) B w;exact⟨z,C9 C,L⟩
 case indexAddr t x i=>
  obtain⟨v,hv,B⟩:=Ae.1 q;obtain⟨V,M,K⟩:=Ae.1 B;obtain⟨z,C,L⟩:=AeW (P:=P) (J _ _ hv) (J _ _ M) K w;exact⟨z,C9 C,L⟩
 case index t x i=>
  obtain⟨v,hv,B⟩:=Ae.1 q;obtain⟨V,M,K⟩:=Ae.1 B;obtain⟨z,C,L⟩:=AeX (P:=P) (J _ _ hv) (J _ _ M) K w;exact⟨z,C9 C,L⟩
 case lookup t x i ok=>
  obtain⟨v,hv,B⟩:=Ae.1 q;obtain⟨V,M,K⟩:=Ae.1 B;obtain⟨z,C,L⟩:=AeZ r W (J _ _ hv) (J _ _ M) K;exact⟨z,C9 C,L⟩
 case extract x i=>
  obtain⟨v,hv,B⟩:=Ae.1 q;obtain⟨z,C,L⟩:=AeR (P:=P) (J _ _ hv) B w;exact⟨z,C9 C,L⟩
 case call c=>
  obtain⟨U,args,R⟩:=c;simp only at q;split at q
  ·obtain⟨Z,O,B⟩:=Ae.1 q;obtain⟨z,K,C⟩:=AeH r W (Jl J O) B type (args.map λ |.const _=>true|_=>false);refine⟨z,?_,C⟩;rw[map_toArray,Array.toArray_toList]at K;simp only[execOp,resolve,Sem.run_bind,Sem.run_pure,Result.andThen_ok,invoke];exact K
  ·cases q
end Go.Ev
end
section
/- The evaluator, part G: aggregates; operations that make a block. -/
namespace Go.Ev
theorem AF.cq {ρ:Af}:∀ {l:List AV} {vs:List Value},l.length=vs.length->(∀(i:Nat) (a:AV) (v:Value),l[i]? =some a->vs[i]? =some v->VR ρ a v)->AF ρ l vs
 | [],[],_,_=>.nil
 | [],_::_,h,_=>by simp at h
 |_::_,[],h,_=>by simp at h
 |a::l,v::vs,h,q=>.cons _ _ _ _ (q 0 a v rfl rfl) (AF.cq (by simpa using h) λi b u hb hu=>q (i+1) b u (by simpa using hb) (by simpa using hu))
theorem AF.Tq {ρ:Af} {l:List AV} {vs:List Value} (h:AF ρ l vs) {i:Nat} {a:AV} {v:Value} (y:l[i]? =some a) (hv:vs[i]? =some v):VR ρ a v:=by obtain⟨u,hu,q⟩:=h.get i a y;rw[hv]at hu;cases hu;exact q
def Mp (l:List AV) (off:Nat) (vs:List AV):List AV:=l.take off++(vs++l.drop (off+vs.length))
theorem Acb (l vs:List AV) (off i:Nat) (h:off+vs.length<=l.length): (Mp l off vs)[i]? =if off<=i/\i<off+vs.length then vs[i-off]? else l[i]?:=by
 have y:(l.take off).length=off:=by simp;omega
 unfold Mp;rw[List.getElem?_append,y];split
 ·rename_i hi;rw[if_neg (by omega),List.getElem?_take,if_pos hi]
 ·rename_i hi;rw[List.getElem?_append];split
  ·rename_i q;rw[if_pos (by omega)]
  ·rename_i q;rw[if_neg (by omega),List.getElem?_drop];congr 1;omega
theorem AnX (l vs:List AV) (off:Nat) (h:off+vs.length<=l.length):(Mp l off vs).length=l.length:=by unfold Mp;simp;omega
theorem xV (off:Nat):∀(vs:List Value) (j:Nat) (cs:Array Value),off+j+vs.length<=cs.size-> ∃cs',(vs.zipIdx j).foldl (λ(cs:Array Value) (x:Value×Nat)=>cs.setIfInBounds (off+x.2) x.1) cs=cs'/\cs'.size=cs.size/\ ∀i,cs'[i]? =if off+j<=i/\i<off+j+vs.length then vs[i-(off+j)]? else cs[i]?
 | [],j,cs,_=>⟨cs,rfl,rfl,λi=>by rw[if_neg (by simp)]⟩
 |v::vs,j,cs,h=>by
  simp only[List.length_cons]at h;obtain⟨cs',E,C,B⟩:=xV off vs (j+1) (cs.setIfInBounds (off+j) v) (by simp;omega);refine⟨cs',by simpa using E,by simpa using C,λi=>?_⟩;rw[B i];simp only[List.length_cons];by_cases q:off+(j+1)<=i/\i<off+(j+1)+vs.length
  ·rw[if_pos q,if_pos (by omega),show i-(off+j)=(i-(off+(j+1)))+1 by omega];simp
  ·rw[if_neg q];by_cases y:i=off+j
   ·subst y;rw[if_pos (by omega),Nat.sub_self,Array.getElem?_setIfInBounds_self_of_lt (by omega)];rfl
   ·rw[if_neg (by omega),Array.getElem?_setIfInBounds_ne (by omega)]
def Wj (y:Nat->Option (Nat×Nat)):List (Nat×AV)->List AV->Option (List AV):=List.rec (motive:=λ_=>List AV->Option (List AV)) (λcs=>some cs) (λp _ B cs=>ob (y p.1) λq=>gd (Nat.beq p.2.cells.length q.2&&Nat.ble (q.1+q.2) cs.length) (B (Mp cs q.1 p.2.cells)))
inductive VK (ρ:Af):List (Nat×AV)->List (Nat×Value)->Prop where
 |nil:VK ρ [] []
 |cons (i:Nat) (a:AV) (v:Value) (l:List (Nat×AV)) (vs:List (Nat×Value)) (h:VR ρ a v) (hs:VK ρ l vs):VK ρ ((i,a)::l) ((i,v)::vs)
theorem ZZ {ρ:Af} {y:Nat->Option (Nat×Nat)}:∀ {M:List (Nat×AV)} {O:List (Nat×Value)},VK ρ M O->∀ {cs r:List AV} {us:Array Value},AF ρ cs us.toList->Wj y M cs=some r->∃J,Instr.fill y us O=some J/\AF ρ r J.toList
 |_,_,.nil,cs,r,us,hc,h=>by injection h with h;subst h;exact⟨us,rfl,hc⟩
 |_,_,.cons i a v M O hv V,cs,r,us,hc,h=>by
  obtain⟨⟨off,size⟩,W,h1⟩:=Ae.1 (show(ob (y i) λq=>gd (Nat.beq a.cells.length q.2&&Nat.ble (q.1+q.2) cs.length) (Wj y M (Mp cs q.1 a.cells)))=some r from h);obtain⟨hb,h2⟩:=AK.1 h1;rw[Bool.and_eq_true,Nat.beq_eq,Nat.ble_eq]at hb;obtain⟨ad,ab⟩:=hb;have L:=hv.cells;have C:=L.length;have B:=hc.length;obtain⟨K,e1,e2,e3⟩:=xV off v.cells.toList 0 us (by simp at C B⊢;omega);have S:AF ρ (Mp cs off a.cells) K.toList:=by
   refine AF.cq ?_ λk b u hb hu=>?_
   ·rw[AnX _ _ _ (by omega)];simp[e2];simpa using B
   ·rw[Acb _ _ _ _ (by omega)]at hb;have E:K[k]? =some u:=by simpa using hu
    rw[e3 k]at E;by_cases U:off<=k/\k<off+a.cells.length
    ·rw[if_pos U]at hb;rw[if_pos (by simp at C⊢;omega)]at E;exact L.Tq hb (by simpa using E)
    ·rw[if_neg U]at hb;rw[if_neg (by simp at C⊢;omega)]at E;exact hc.Tq hb (by simpa using E)
  obtain⟨J,h3,Z⟩:=ZZ V S h2;refine⟨J,?_,Z⟩;have R:v.cells.size=size:=by simp at C;omega
  have aa:¬(off+v.cells.size>us.size):=by simp at B;omega
  have Y:v.cells.zipIdx.foldl (λ(cs:Array Value) (x:Value×Nat)=>cs.setIfInBounds (off+x.2) x.1) us=K:=by rw[<-e1,<-Array.foldl_toList,Array.toList_zipIdx]
  simp only[Instr.fill,W,R,ne_eq,not_true,decide_false,Bool.false_or];rw[if_neg (by simp only[decide_eq_true_eq];omega)];rw[<-h3,<-Y]
def Pf (X:Operand->Option AV) (l:List (Nat×Operand)):Option (List (Nat×AV)):=List.rec (motive:=λ_=>Option (List (Nat×AV))) (some []) (λx _ q=>ob (X x.2) λa=>ob q λr=>some ((x.1,a)::r)) l
theorem pN {ρ:Af} {X:Operand->Option AV} {f:Operand->Value} (y:XR ρ X f):∀ {l:List (Nat×Operand)} {r:List (Nat×AV)},Pf X l=some r-> VK ρ r (l.map λx=>(x.1,f x.2))
 | [],r,h=>by injection h with h;subst h;exact .nil
 |x::l,r,h=>by obtain⟨a,C,E⟩:=Ae.1 (show ob (X x.2) (λa=>ob (Pf X l) λr=>some ((x.1,a)::r))=some r from h);obtain⟨J,B,q⟩:=Ae.1 E;injection q with q;subst q;exact .cons _ _ _ _ _ (y _ _ C) (pN y B)
theorem run_places {P:Program} (w:World):∀(fs:List Field),(fs.all λf=>(P.info? f.type).isSome)=true-> (fs.mapM λf=>(do pure (f.offset,<-sizeOf f.type):Sem (Nat×Nat))).run P w=.ok (fs.map λf=>(f.offset,P.cellsOf f.type)) w
 | [],_=>by simp
 |f::fs,h=>by simp only[List.all_cons,Bool.and_eq_true]at h;obtain⟨i,hi⟩:=Option.isSome_iff_exists.1 h.1;have q:=run_places w fs h.2;simp only[List.mapM_cons,Sem.run_bind,run_sizeOf w hi,Result.andThen_ok,Sem.run_pure,q,List.map_cons]
def Vt (P:Program) (t:TypeId):Option (List AV):=ob (Sd P t) λz=>some z.cells
def mR (P:Program) (X:Operand->Option AV) (t:TypeId) (q:List (Nat×Operand)):Option AV:=ob (Vt P t) λy=>ob (P.underlying t) λd=>ob (Pf X q) λB=>match d with
  |.struct fs=>gd (fs.toList.all λf=>(P.info? f.type).isSome)
    (ob (Wj (λi=>ob (fs[i]?) λf=>some (f.offset,P.cellsOf f.type)) B y) λl=>some (.agg l))
  |.array _ e=>ob (P.info? e) λ_=>ob (Wj (λi=>some (i*P.cellsOf e,P.cellsOf e)) B y) λl=>some (.agg l)
  |_=>none
theorem dE (q:Array (Nat×Operand)) (f:Operand->Value):(q.map λ(i,x)=>(i,f x)).toList=q.toList.map λx=>(x.1,f x.2):=by rw[Array.toList_map]
theorem AeJ {P:Program} {ρ:Af} {X:Operand->Option AV} {f:Operand->Value} (hX:XR ρ X f) {t:TypeId} {B:Array (Nat×Operand)} {a:AV} (h:mR P X t B.toList=some a) (w:World):∃v,(Instr.build t (B.map λ(i,x)=>(i,f x))).run P w=.ok v w/\VR ρ a v:=by
 obtain⟨zs,hz,h1⟩:=Ae.1 h;obtain⟨d,hd,h2⟩:=Ae.1 h1;obtain⟨ps,W,S⟩:=Ae.1 h2;clear h h1 h2;obtain⟨za,V,E⟩:=Ae.1 hz;injection E with E;subst E;obtain⟨z,J,U⟩:=Sf (P:=P) V w;have q:=(U ρ).cells;have hp:=pN hX W;cases d with
 |struct fs=>
  obtain⟨K,R⟩:=AK.1 S;obtain⟨l,M,C⟩:=Ae.1 R;injection C with C;subst C;obtain⟨y,L,O⟩:=ZZ hp q M;refine⟨.agg y,?_,?_⟩
  ·have Y:=run_places (P:=P) w fs.toList K;have Z:(fs.mapM λf=>(do pure (f.offset,<-sizeOf f.type):Sem (Nat×Nat))).run P w=.ok (fs.map λf=>(f.offset,P.cellsOf f.type)) w:=by rw[Array.mapM_eq_mapM_toList];simp only[Sem.run_map,Y,Result.andThen_ok];rw[map_toArray]
   have e:(λ(i:Nat)=>ob (fs[i]?) λ(f:Field)=>some (f.offset,P.cellsOf f.type))=λ(i:Nat)=>(fs.map λ(f:Field)=>(f.offset,P.cellsOf f.type))[i]?:=by funext i;rw[Array.getElem?_map];cases fs[i]? <;>rfl
   rw[e]at L;unfold Instr.build;simp only[Sem.run_bind,J,Result.andThen_ok,run_underlying hd,Z,dE,L,Sem.run_pure]
  ·have:=VR.agg (ρ:=ρ) l y.toList O;simpa using this
 |array n e=>
  obtain⟨i,hi,R⟩:=Ae.1 S;obtain⟨l,M,C⟩:=Ae.1 R;injection C with C;subst C;obtain⟨y,L,O⟩:=ZZ hp q M;refine⟨.agg y,?_,?_⟩
  ·unfold Instr.build;simp only[Sem.run_bind,J,Result.andThen_ok,run_underlying hd,run_sizeOf w hi,dE,L,Sem.run_pure]
  ·have:=VR.agg (ρ:=ρ) l y.toList O;simpa using this
 |_=>cases S
theorem OR.ofList {ρ:Af} {b:Nat} {l:List AV} {vs:List Value} (h:AF ρ l vs) (el:TypeId): OR ρ ⟨b,0,l.length⟩ (.cells el .leaf (.CC l) l.length false) (.cells vs.toArray el (0,0)):=by
 refine .cells el .leaf (.CC l) l.length false vs.toArray (0,0) (by simp[h.length]) (Nat.le_refl _) (λ_=>rfl) (.inl rfl) λk a C q=>?_;unfold cellOf at q;rw[Tr.Em]at q;have y:l[k]? =some a:=by have:l[k %l.length]? =some a:=q;rwa[Nat.mod_eq_of_lt C]at this
 obtain⟨v,hv,B⟩:=h.get k a y;exact⟨v,by simpa using hv,B⟩
theorem Ade (z:Array Value) (n k:Nat) (q:k<n) (hz:0<z.size): ((Array.range n).map (λi=>z[i %z.size]!))[k]? =z[k %z.size]?:=by rw[Array.getElem?_map,Array.getElem?_range,if_pos q];have:k %z.size<z.size:=Nat.mod_lt _ hz;simp[this]
theorem OR.AaD {ρ:Af} {b:Nat} {l:List AV} {z:Array Value} (h:AF ρ l z.toList) (el:TypeId) (n:Nat) (hz:n=0\/0<l.length): OR ρ ⟨b,0,n⟩ (.cells el .leaf (.CC l) n false) (.cells ((Array.range n).map (λi=>z[i %z.size]!)) el (0,0)):=by
 have C:l.length=z.size:=by simpa using h.length
 refine .cells el .leaf (.CC l) n false _ (0,0) (by simp) (Nat.le_refl _) (λ_=>rfl) (.inl rfl) λk a E q=>?_;unfold cellOf at q;rw[Tr.Em]at q;have y:l[k %l.length]? =some a:=q;obtain⟨v,hv,B⟩:=h.get _ a y;refine⟨v,?_,B⟩;simp only[Nat.zero_add];rw[Ade z n k E (by omega),<-C];simpa using hv
def It (P:Program) (X:Operand->Option AV) (ni:Nat) (op:Op):Option (AV×Ac):=
 match op with
 |.alloc el=>ob (Vt P el) λcs=>fN cs.length λn=>some (.ptr ni 0,.cells el .leaf (.CC cs) n false)
 |.box el x=>ob (X x) λv=>fN v.cells.length λn=>some (.ptr ni 0,.cells el .leaf (.CC v.cells) n false)
 |.makeMap _ none=>some (.map ni,.map [] 0)
 |.makeSlice t l c=>ob (X l) λl=>ob (SN l) λl=>ob (X c) λc=>ob (SN c) λc=>ob (P.underlying t) λd=>match d with
  |.slice el=>ob (P.info? el) λi=>gd (Nat.ble l c&&Nat.ble c 9223372036854775807&&Nat.ble (i.bytes*c) 281474976710656) (ob (Vt P el) λcs=>gd (Nat.blt 0 cs.length&&Nat.beq cs.length i.size) (fN (c*i.size) λn=>fN l λl=>fN c λc=>some (.sl ni 0 l c,.cells el .leaf (.CC cs) n false)))
  |_=>none
 |.buildSlice t len q=>ob (P.underlying t) λd=>match d with
  |.slice el=>ob (P.info? el) λi=>gd (Nat.ble (len*i.size) 16777216) (ob (Vt P el) λy=>gd (Nat.blt 0 y.length&&Nat.beq y.length i.size)
    (ob (Pf X q.toList) λB=>ob (Wj (λj=>some (j*i.size,i.size)) B ((List.replicate len y).flatten)) λcs=>fN cs.length λn=>some (.sl ni 0 len len,.cells el .leaf (.CC cs) n false)))
  |_=>none
 |.convert s t x=>ob (X x) λv=>ob (P.underlying s) λ_=>ob (P.underlying t) λd=>match d,v with
  |.slice el,.str l n=>ob (P.underlying el) λde=>match de with
   |.int .u8=>gd (Nat.ble l 140737488355328) (fN l λl=>some (.Bw ni 0 l 1,.cells el .leaf (.CC ((List.range l).map λi=>.int .u8 (.ofNat (n/256^i %256)))) l true))
   |_=>none
  |_,_=>none
 |.makeChan t x=>ob (X x) λa=>match a with
  |.int _ (.ofNat n)=>ob (P.underlying t) λd=>match d with
   |.chan _ el=>ob (P.info? el) λi=>gd (Nat.ble n 1000000) (gd (Nat.ble (i.bytes*n) 1000000) (some (.chan ni,.chan n [])))
   |_=>none
  |_=>none
 |.range t x=>ob (X x) λa=>ob (P.underlying t) λd=>match d,a with
  |.string,.str l n=>some (.ptr ni 0,.Mo l n 0)
  |.map _ _,.EZ=>some (.ptr ni 0,.O6)
  |_,_=>none
 |_=>none
theorem gI {P:Program} {t:TypeId} {l:List AV} (h:Vt P t=some l) (w:World):∃z,(zeroValue t).run P w=.ok z w/\∀ρ:Af,AF ρ l z.cells.toList:=by obtain⟨a,y,q⟩:=Ae.1 h;injection q with q;subst q;obtain⟨z,C,B⟩:=Sf (P:=P) y w;exact⟨z,C,λρ=>(B ρ).cells⟩
def gP (P:Program) (w:World) (ρ:Af) (ni:Nat) (s:Sem Next) (a:AV) (o:Ac):Prop:=∃v q c cap,s.run P w=.ok (.value v) (q.alloc c)/\(q=w\/q=w.drew)/\OR (ρ.put ni ⟨w.heap.size,0,cap⟩) ⟨w.heap.size,0,cap⟩ o c/\VR (ρ.put ni ⟨w.heap.size,0,cap⟩) a v
theorem Afz {ρ:Af} (l:List AV) (z:Array Value) (h:AF ρ l z.toList) (hz:0<z.size) (len:Nat): AF ρ ((List.replicate len l).flatten) ((Array.range (len*z.size)).map (λi=>z[i %z.size]!)).toList:=by
 have C:l.length=z.size:=by simpa using h.length
 have q:∀n,((List.replicate n l).flatten).length=n*l.length:=λn=>by
  induction n with
  |zero=>simp
  |succ n E=>rw[List.replicate_succ,List.flatten_cons,List.length_append,E,Nat.succ_mul,Nat.add_comm]
 have B:∀n i,i<n*l.length->((List.replicate n l).flatten)[i]? =l[i %l.length]?:=λn=>by
  induction n with
  |zero=>intro i hi;simp at hi
  |succ n E=>
   intro i hi;rw[List.replicate_succ,List.flatten_cons,List.getElem?_append];split
   ·rename_i K;rw[Nat.mod_eq_of_lt K]
   ·rename_i K;rw[Nat.succ_mul]at hi;have L:=Nat.mod_eq_sub_mod (a:=i) (b:=l.length) (by omega);rw[E _ (by omega),<-L]
 refine AF.cq (by rw[q];simp[C]) λi a v J hv=>?_;have hi:i<len*z.size:=by have:=(List.getElem?_eq_some_iff.1 J).1;rw[q,C]at this;exact this
 rw[B len i (by rw[C];exact hi)]at J;have y:((Array.range (len*z.size)).map (λi=>z[i %z.size]!))[i]? =some v:=by rw[<-Array.getElem?_toList];exact hv
 rw[Ade z _ _ hi hz,<-C]at y;exact h.Tq J (by simpa using y)
theorem Ab4 (w:World) (c:Array Value) (e:TypeId):(w.alloc (.cells c e)).shape? w.heap.size=some (e,c.size):=by simp only[World.shape?,World.alloc,Array.getElem?_push_size]
theorem uY (w:World) (c:Array Value) (e:TypeId): (w.alloc (.cells c e)).freeze ⟨w.heap.size,c.size,none⟩ 1=w.alloc (.cells c e (c.size,c.size+1)):=by
 unfold World.freeze World.alloc;rw[if_neg (by decide)];congr 1;apply Array.ext_getElem?;intro i;rw[Array.getElem?_modify,Array.getElem?_push,Array.getElem?_push];by_cases h:w.heap.size=i
 ·subst h;simp
 ·rw[if_neg h,if_neg (λe=>h e.symm),if_neg (λe=>h e.symm)]
theorem uq {ρ:Af} (l n:Nat):AF ρ ((List.range l).map λi=>AV.int .u8 (.ofNat (n/256^i %256))) ((BC l n).map λb=>Value.int .u8 b.toNat):=by
 refine AF.cq (by simp[ON]) λi a v q hv=>?_;have hi:i<l:=by have:=(List.getElem?_eq_some_iff.1 q).1;simpa using this
 rw[List.getElem?_map,List.getElem?_range hi]at q;rw[List.getElem?_map,Zf l n i hi]at hv;simp only[Option.map_some,Option.some.injEq]at q hv;subst q;subst hv;rw[HR];exact .int _ _
set_option maxHeartbeats 1000000 in
theorem xE {P:Program} {ρ:Af} {w:World} {X:Operand->Option AV} {f:Operand->Value} (hX:XR ρ X f) {ni:Nat} (az:ρ ni=none) (o:Oper) {a:AV} {af:Ac} (y:It P X ni o.op=some (a,af)):gP P w ρ ni (execOp f o) a af:=by
 obtain⟨dst,op,type,pos,after,guard⟩:=o;simp only at y;have ag:=λb=>Af.Li (ρ:=ρ) (i:=ni) az b;cases op<;>simp only[It]at y<;>first|(cases y;done)|skip
 case alloc el=>
  obtain⟨cs,S,q⟩:=Ae.1 y;rw[Bu]at q;injection q with q;injection q with q B;subst q;subst B;obtain⟨z,hz,V⟩:=gI (P:=P) S w;refine⟨.pointer (some ⟨w.heap.size,0,none⟩),w,.cells z.cells el,cs.length,?_,.inl rfl,?_,?_⟩
  ·exact C9 (by simp[Instr.alloc,hz,newVar,newRow])
  ·have:=OR.ofList (b:=w.heap.size) (V (ρ.put ni ⟨w.heap.size,0,cs.length⟩)) el;simpa using this
  ·exact .ptr ni 0 ⟨w.heap.size,0,cs.length⟩ (Af.Fx _ _ _)
 case box el x=>
  obtain⟨v,hv,q⟩:=Ae.1 y;rw[Bu]at q;injection q with q;injection q with q B;subst q;subst B;have V:=(hX _ _ hv).cells;refine⟨.pointer (some ⟨w.heap.size,0,none⟩),w,.cells (f x).cells el,v.cells.length,?_,.inl rfl,?_,?_⟩
  ·exact C9 (by simp[Instr.box,newVar,newRow])
  ·have:=OR.ofList (b:=w.heap.size) (V.mono (ag ⟨w.heap.size,0,v.cells.length⟩)) el;simpa using this
  ·exact .ptr ni 0 ⟨w.heap.size,0,v.cells.length⟩ (Af.Fx _ _ _)
 case makeMap t r=>
  cases r with
  |some _=>cases y
  |none=>
   injection y with q;injection q with q B;subst q;subst B;refine⟨.map (some w.heap.size),w,.map #[] 0,0,?_,.inl rfl,.map [] 0 [] .nil,?_⟩
   ·exact C9 (by simp[Instr.makeMap])
   ·exact .map ni ⟨w.heap.size,0,0⟩ (Af.Fx _ _ _)
 case makeSlice t l c=>
  obtain⟨lv,aA,q⟩:=Ae.1 y;obtain⟨ln,aB,B⟩:=Ae.1 q;obtain⟨cv,aG,J⟩:=Ae.1 B;obtain⟨K,aH,M⟩:=Ae.1 J;obtain⟨d,hd,E⟩:=Ae.1 M;clear y q B J M;obtain⟨kl,rfl⟩:=k7 aB;obtain⟨kc,rfl⟩:=k7 aH;have rl:=hX _ _ aA;have rc:=hX _ _ aG;generalize ah:f l=vl at rl;generalize ai:f c=vc at rc;cases rl;cases rc;cases d with
  |slice el=>
   obtain⟨i,hi,h6⟩:=Ae.1 E;obtain⟨hb,h7⟩:=AK.1 h6;obtain⟨cs,S,h8⟩:=Ae.1 h7;obtain⟨hz,W⟩:=AK.1 h8;simp only[Bu]at W;injection W with W;injection W with W ad;subst W;subst ad;simp only[Bool.and_eq_true,Nat.ble_eq]at hb;obtain⟨⟨ak,aj⟩,aJ⟩:=hb;rw[Bool.and_eq_true,Nat.blt_eq,Nat.beq_eq]at hz;obtain⟨z,ab,V⟩:=gI (P:=P) S (w:World);have O:z.cells.size=i.size:=by have:=(V ρ).length;simp at this;omega
   refine⟨.slice (some ⟨w.heap.size,0,none⟩) ln K,w,.cells ((Array.range (K*i.size)).map (λj=>z.cells[j %z.cells.size]!)) el,K*i.size,?_,.inl rfl,?_,?_⟩
   ·refine C9 ?_;have e1:IntKind.i64.wrap (ln:Int)=ln:=wrap_i64 (by omega) (by omega);have e2:IntKind.i64.wrap (K:Int)=K:=wrap_i64 (by omega) (by omega);have e3:¬((i.bytes:Int)*(K:Int)>281474976710656):=by have h0:((i.bytes*K:Nat):Int)<=((281474976710656:Nat):Int):=Int.ofNat_le.2 aJ;rw[Int.natCast_mul]at h0;omega
    have e4:¬((ln:Int)>(K:Int)):=by omega
    have R:P.cellsOf el=i.size:=by simp[Program.cellsOf,hi]
    have e5:¬((K:Int)<0\/(ln:Int)<0):=by omega
    by_cases hn:K*i.size=0
    ·have Y:∀g:Nat->Value,(Array.range (K*i.size)).map g= #[]:=λg=>by rw[hn];simp
     rw[Y];have aw:∀g:Nat->Value,(Array.range 0).map g= #[]:=λg=>by simp
     simp[Instr.makeSlice,run_underlying hd,ah,ai,asInt,asIntOf,run_typeInfo w hi,e1,e2,e3,e4,e5,run_sizeOf w hi,R,hn,newRow,aw]
    ·simp[Instr.makeSlice,run_underlying hd,ah,ai,asInt,asIntOf,run_typeInfo w hi,e1,e2,e3,e4,e5,run_sizeOf w hi,R,hn,ab,newRow]
   ·exact OR.AaD (V _) el _ (.inr hz.1)
   ·exact .sl ni 0 ln K ⟨w.heap.size,0,K*i.size⟩ (Af.Fx _ _ _)
  |_=>cases E
 case buildSlice t len parts=>
  obtain⟨d,hd,q⟩:=Ae.1 y;clear y;cases d with
  |slice el=>
   obtain⟨i,hi,B⟩:=Ae.1 q;obtain⟨hb,J⟩:=AK.1 B;obtain⟨zs,ar,M⟩:=Ae.1 J;obtain⟨hz,E⟩:=AK.1 M;obtain⟨ps,ay,h6⟩:=Ae.1 E;obtain⟨cs,S,h7⟩:=Ae.1 h6;clear q B J M E h6;rw[Bu]at h7;injection h7 with h7;injection h7 with h7 h8;subst h7;subst h8;rw[Nat.ble_eq]at hb;rw[Bool.and_eq_true,Nat.blt_eq,Nat.beq_eq]at hz;obtain⟨z,ab,V⟩:=gI (P:=P) ar w;have O:z.cells.size=i.size:=by have:=(V ρ).length;simp at this;omega
   have U:=Afz zs z.cells (V ρ) (by omega) len;rw[O]at U;obtain⟨aq,W,ad⟩:=ZZ (pN hX ay) U S;refine⟨.slice (some ⟨w.heap.size,0,none⟩) len len,w,.cells aq el,cs.length,?_,.inl rfl,?_,?_⟩
   ·refine C9 ?_;have R:P.cellsOf el=i.size:=by simp[Program.cellsOf,hi]
    have Z:¬(len*i.size>16777216):=by omega
    unfold Instr.buildSlice;by_cases hn:len*i.size=0
    ·have Y:∀g:Nat->Value,(Array.range (len*i.size)).map g= #[]:=λg=>by rw[hn];simp
     have al:=W;rw[Y]at al;simp only[Sem.run_bind,run_underlying hd,Result.andThen_ok,run_sizeOf w hi,R,dE];rw[if_neg Z,if_pos hn];simp[Y,al,newRow]
    ·simp only[Sem.run_bind,run_underlying hd,Result.andThen_ok,run_sizeOf w hi,R,dE];rw[if_neg Z,if_neg hn];simp[ab,W,newRow,O]
   ·have:=OR.ofList (b:=w.heap.size) (ad.mono (ag ⟨w.heap.size,0,cs.length⟩)) el;simpa using this
   ·exact .sl ni 0 len len ⟨w.heap.size,0,cs.length⟩ (Af.Fx _ _ _)
  |_=>cases q
 case convert s t x=>
  obtain⟨v,hv,q⟩:=Ae.1 y;obtain⟨ds,aE,B⟩:=Ae.1 q;obtain⟨dt,aD,J⟩:=Ae.1 B;clear y q B;have hc:=hX _ _ hv;cases dt with
  |slice el=>
   cases v with
   |str l n=>
   obtain⟨de,aF,M⟩:=Ae.1 J;split at M
   ·obtain⟨hb,E⟩:=AK.1 M;rw[Bu]at E;injection E with E;injection E with E h6;subst E;subst h6;rw[Nat.ble_eq]at hb;generalize L:f x=vx at hc;cases hc with
    |str _ _ hn=>
     let cap:=Question.cut (.appendCap l 0 el) (w.tape w.drawn (.appendCap l 0 el));have aa:l<=cap:=by show l<=l+_;omega
     let C:Array Value:=((BB l n).data.map λb=>Value.int .u8 b.toNat)++Array.replicate (cap-l) (.int .u8 0);have C0:C.size=cap:=by have q:(BB l n).data.size=l:=MG l n;simp[C,q];omega
     refine⟨.slice (some ⟨w.heap.size,0,none⟩) l cap,w.drew,.cells C el (C.size,C.size+1),cap,?_,.inr rfl,?_,?_⟩
     ·refine C9 ?_;have O:(BB l n).size=l:=MG l n;have aI:(choose (.appendCap l 0 el)).run P w=.ok cap w.drew:=by simp[Question.forced,cap]
      have aC:=uY w.drew C el;have ao:(Conv.stringToBytes el (BB l n)).run P w=.ok (.slice (some ⟨w.heap.size,0,none⟩) l cap) (w.drew.alloc (.cells C el (C.size,C.size+1))):=by rw[<-aC];unfold Conv.stringToBytes;rw[O];simp only[Sem.run_bind,aI,Result.andThen_ok];have av:=Ab4 w.drew C el;simp only[newRow,Sem.run_bind,run_newObj,Result.andThen_ok,Sem.run_pure,markStringish,run_shape];have an:World.shape? {w.drew with heap:=w.drew.heap.push (.cells C el)} w.drew.heap.size=some (el,C.size):=av;rw[an];rfl
      rw[L];simp only[convert,Sem.run_bind,run_underlying aE,run_underlying aD,Result.andThen_ok,run_underlying aF];cases ds<;>simp[ao]
     ·refine .cells el .leaf (.CC _) l true C (C.size,C.size+1) (by simp[C0]) aa (by simp) (.inr (Nat.le_refl _)) λk a hk ha=>?_;unfold cellOf at ha;rw[Tr.Em]at ha;have aK:((List.range l).map λi=>AV.int .u8 (.ofNat (n/256^i %256)))[k]? =some a:=by have:((List.range l).map λi=>AV.int .u8 (.ofNat (n/256^i %256)))[k %((List.range l).map λi=>AV.int .u8 (.ofNat (n/256^i %256))).length]? =some a:=ha;simpa[Nat.mod_eq_of_lt hk]using this
      obtain⟨u,hu,au⟩:=(uq (ρ:=ρ.put ni ⟨w.heap.size,0,cap⟩) l n).get k a aK;refine⟨u,?_,au⟩;have q:((BB l n).data.map λb=>Value.int .u8 b.toNat)[k]? =some u:=by rw[<-Array.getElem?_toList,Array.toList_map,Qq];exact hu
      simp only[Nat.zero_add];show(((BB l n).data.map λb=>Value.int .u8 b.toNat)++Array.replicate (cap-l) (.int .u8 0))[k]? =some u;rw[Array.getElem?_append,if_pos (by rw[Array.size_map];have:(BB l n).data.size=l:=MG l n;omega)];exact q
     ·have:=VR.Bw (ρ:=ρ.put ni ⟨w.heap.size,0,cap⟩) ni 0 l 1 ⟨w.heap.size,0,cap⟩ (Af.Fx _ _ _) (by decide) (by simpa using aa);simpa using this
   ·cases M
   |_=>cases J
  |_=>cases J
 case makeChan t x=>
  obtain⟨v,hv,q⟩:=Ae.1 y;have hc:=hX _ _ hv;clear y;split at q
  ·rename_i k n;obtain⟨d,hd,B⟩:=Ae.1 q;split at B
   ·rename_i aL el;obtain⟨i,hi,J⟩:=Ae.1 B;obtain⟨ak,M⟩:=AK.1 J;obtain⟨aj,E⟩:=AK.1 M;injection E with E;injection E with E h6;subst E;subst h6;rw[Nat.ble_eq]at ak aj;generalize L:f x=vx at hc;cases hc;refine⟨.chan (some w.heap.size),w,.chan n #[] false 0 0 false,0,?_,.inl rfl,.chan n [] [] 0 0 .nil,.chan ni ⟨w.heap.size,0,0⟩ (Af.Fx _ _ _)⟩;refine C9 ?_;rw[L];have hm:IntKind.i64.max=9223372036854775807:=rfl;have ae:(i.bytes:Int)*(n:Int)=((i.bytes*n:Nat):Int):=by simp
    have Z:¬((Int.ofNat n)<0\/(Int.ofNat n)>IntKind.i64.max\/(i.bytes:Int)*(Int.ofNat n)>2^48-112):=by rw[hm];simp only[Int.ofNat_eq_natCast];rw[ae];omega
    unfold Instr.makeChan;simp only[asInt,asIntOf,Sem.run_bind,Sem.run_pure,Result.andThen_ok,run_underlying hd,run_typeInfo w hi];rw[if_neg Z];simp[Result.andThen_ok]
   ·cases B
  ·cases q
 case range t x=>
  obtain⟨v,hv,q⟩:=Ae.1 y;obtain⟨d,hd,B⟩:=Ae.1 q;have hc:=hX _ _ hv;clear y q;generalize L:f x=vx at hc;split at B
  ·rename_i l n;injection B with B;injection B with B J;subst B;subst J;cases hc with
   |str _ _ hn=>refine⟨.pointer (some ⟨w.heap.size,0,none⟩),w,.stringIter (BB l n) 0,0,?_,.inl rfl,.Mo l n 0 rfl hn,.ptr ni 0 ⟨w.heap.size,0,0⟩ (Af.Fx _ _ _)⟩;refine C9 ?_;rw[L];simp[Instr.range,run_underlying hd]
  ·injection B with B;injection B with B J;subst B;subst J;cases hc;refine⟨.pointer (some ⟨w.heap.size,0,none⟩),w,.mapIter none 0 #[] 0,0,?_,.inl rfl,.O6 0 #[] 0 rfl,.ptr ni 0 ⟨w.heap.size,0,0⟩ (Af.Fx _ _ _)⟩;refine C9 ?_;rw[L];simp[Instr.range,run_underlying hd]
  ·cases B
def Pd (l:List AV):Option Nat:=List.rec (motive:=λ_=>Option Nat) (some 0) (λa _ q=>match a with
  |.int .u8 (.ofNat c)=>gd (Nat.blt c 256) (ob q λn=>fN (c+256*n) λm=>some m)
  |_=>none) l
theorem pJ {ρ:Af}:∀ {l:List AV} {vs:List Value} {n:Nat},AF ρ l vs->Pd l=some n-> n<256^l.length/\∃ns:List Int,vs=ns.map (Value.int .u8)/\ns.map (λn=>UInt8.ofNat n.toNat)=BC l.length n
 |_,_,n,.nil,h=>by injection h with h;subst h;exact⟨by simp,[],rfl,rfl⟩
 |_,_,n,.cons a v l vs hv C,h=>by
  cases hv with
  |int k m=>
   cases k<;>first|(cases h;done)|skip
   cases m with
   |negSucc _=>cases h
   |ofNat c=>obtain⟨hc,K⟩:=AK.1 (show gd (Nat.blt c 256) (ob (Pd l) λn=>fN (c+256*n) λm=>some m)=some n from h);obtain⟨B,y,q⟩:=Ae.1 K;rw[Bu]at q;injection q with q;subst q;rw[Nat.blt_eq]at hc;obtain⟨L,ns,J,E⟩:=pJ C y;refine⟨by simp only[List.length_cons,Nat.pow_succ];omega,Int.ofNat c::ns,by rw[J];rfl,?_⟩;simp only[List.map_cons,List.length_cons,BC];rw[E,show(c+256*B)/256=B by omega];congr 1;apply UInt8.toNat_inj.1;rw[HR,HR];show c %256=_;omega
  |_=>cases h
theorem fold_push:∀(ns:List Int) (s:ByteArray),ns.foldl (λr n=>r.push (UInt8.ofNat n.toNat)) s=⟨s.data++(ns.map (λn=>UInt8.ofNat n.toNat)).toArray⟩
 | [],s=>by cases s;simp
 |n::ns,s=>by
  simp only[List.foldl_cons,List.map_cons];rw[fold_push ns];cases s with
  |mk d=>simp only[ByteArray.push];congr 1;apply Array.ext';simp
def wj (P:Program) (H:Tr Ac) (q dst:TypeId) (x:AV):Option AV:=ob (P.underlying q) λy=>ob (P.underlying dst) λB=>match y,B with
  |.slice e,.string=>ob (P.underlying e) λde=>match de with
   |.int .u8=>match x with
    |.As=>some (.str 0 0)
    |.sl id off n _=>ob (Fa H id off n) λl=>ob (Pd l) λm=>some (.str l.length m)
    |.Bw id off n _=>ob (Fa H id off n) λl=>ob (Pd l) λm=>some (.str l.length m)
    |.sle _=>some (.str 0 0)
    |_=>none
   |_=>none
  |_,_=>none
theorem AeG {P:Program} {E:Env} {F:Nat->Option Obj} {nx:Nat} {ρ:Af} {h:Nat->Option Ac} {w:World} {H:Tr Ac} (r:Rel E F nx ρ h w) (hs:HS ρ H h) {y dst:TypeId} {x a:AV} {u:Value} (S:VR ρ x u) (R:wj P H y dst x=some a):∃v,(convert y dst u).run P w=.ok v w/\VR ρ a v:=by
 obtain⟨ds,C,h1⟩:=Ae.1 R;obtain⟨dd,K,Y⟩:=Ae.1 h1;clear R h1;have key:∀(e:TypeId) (ad:Addr) (n c:Nat) (l:List AV) (vs:List Value) (m:Nat),P.underlying y=some (.slice e)->P.underlying dst=some .string->P.underlying e=some (.int .u8)-> AF ρ l vs->vs.length=n->(∀j v,vs[j]? =some v->w.cell? (ad.add j)=some v)->Pd l=some m->∃v,(convert y dst (.slice (some ad) n c)).run P w=.ok v w/\VR ρ (.str l.length m) v:=by intro e ad n c l vs m aa Z he L hn hc hp;obtain⟨q,ns,M,B⟩:=pJ L hp;have O:=run_loadCells_list (P:=P) w ad vs hc;rw[hn]at O;subst M;refine⟨.string (BB l.length m),?_,.str _ _ q⟩;rw[run_convert_bytes_string w y dst e (some ad) n c aa he Z,run_bytesToString w ad n c ns O,fold_push,B];have ab:ByteArray.empty.data= #[]:=rfl;rw[ab,Array.empty_append];rfl
 split at Y
 ·obtain⟨de,J,q⟩:=Ae.1 Y;split at q
  ·split at q
   ·injection q with q;subst q;cases S;refine⟨.string (BB 0 0),?_,.str 0 0 (by simp)⟩;rw[run_convert_bytes_string w y dst _ none 0 0 C J K];simp[Conv.bytesToString];rfl
   ·obtain⟨l,L,M⟩:=Ae.1 q;obtain⟨m,hm,B⟩:=Ae.1 M;injection B with B;subst B;cases S with
    |sl _ _ _ _ b hb=>obtain⟨vs,W,V,U⟩:=H3 r hs hb L;exact key _ _ _ _ l vs m C K J W V U hm
   ·obtain⟨l,L,M⟩:=Ae.1 q;obtain⟨m,hm,B⟩:=Ae.1 M;injection B with B;subst B;cases S with
    |Bw _ _ _ _ b hb _ _=>obtain⟨vs,W,V,U⟩:=H3 r hs hb L;exact key _ _ _ _ l vs m C K J W V U hm
   ·injection q with q;subst q;cases S with
    |sle _ b o c hb=>exact key _ _ _ _ [] [] 0 C K J .nil rfl (λj v hj=>by simp at hj) rfl
   ·cases q
  ·cases q
 ·cases Y
def WH:AV->Bool
 |.As=>true
 |.sl _ _ _ _=>true
 |.Bw _ _ _ _=>true
 |.sle _=>true
 |_=>false
def wi (P:Program) (q:TypeId) (ok:Bool) (a:AV):Option AV:=ob (P.underlying q) λd=>gd (!QQ d) (match a with
  |.EF=>gd ok (ob (Sd P q) λz=>some (.AL [z,.bool false]))
  |.iface t v=>cond (Nat.beq t q) (some (cond ok (.AL [v,.bool true]) v)) (gd ok (ob (Sd P q) λz=>some (.AL [z,.bool false])))
  |_=>none)
theorem AeF {P:Program} {ρ:Af} {t q:TypeId} {ok:Bool} {x a:AV} {u:Value} (O:VR ρ x u) (h:wi P q ok x=some a) (w:World): ∃v,(Instr.typeAssert u t q ok).run P w=.ok v w/\VR ρ a v:=by
 obtain⟨d,hd,R⟩:=Ae.1 h;obtain⟨hi,y⟩:=AK.1 R;clear h R;split at y
 ·obtain⟨Am,K⟩:=AK.1 y;obtain⟨z,hz,B⟩:=Ae.1 K;injection B with B;subst B;subst Am;obtain⟨J,C,E⟩:=Sf hz w;cases O;refine⟨.tuple #[J,.bool false],?_,.AL _ [J,.bool false] (.cons _ _ _ _ (E ρ) (.cons _ _ _ _ (.bool _) .nil))⟩;cases d<;>first|(simp[QQ]at hi;done)|simp[Instr.typeAssert,run_underlying hd,C]
 ·rename_i M v;cases O with
  |iface _ _ u hu=>
   cases hb:Nat.beq M q with
   |true=>
    rw[hb,cond_true]at y;rw[Nat.beq_eq]at hb;subst hb;injection y with y;cases ok with
    |true=>simp only[cond_true]at y;subst y;refine⟨.tuple #[u,.bool true],?_,.AL _ [u,.bool true] (.cons _ _ _ _ hu (.cons _ _ _ _ (.bool _) .nil))⟩;cases d<;>first|(simp[QQ]at hi;done)|simp[Instr.typeAssert,run_underlying hd]
    |false=>simp only[cond_false]at y;subst y;refine⟨u,?_,hu⟩;cases d<;>first|(simp[QQ]at hi;done)|simp[Instr.typeAssert,run_underlying hd]
   |false=>
    rw[hb,cond_false]at y;obtain⟨Am,K⟩:=AK.1 y;obtain⟨z,hz,B⟩:=Ae.1 K;injection B with B;subst B;subst Am;obtain⟨J,C,E⟩:=Sf hz w;have L:¬M=q:=λe=>by rw[<-Nat.beq_eq,hb]at e;cases e
    refine⟨.tuple #[J,.bool false],?_,.AL _ [J,.bool false] (.cons _ _ _ _ (E ρ) (.cons _ _ _ _ (.bool _) .nil))⟩;cases d<;>first|(simp[QQ]at hi;done)|simp[Instr.typeAssert,run_underlying hd,C,L]
 ·cases y
def mS (H:Tr Ac) (x:AV):Option (Nat×Nat):=
 match x with
 |.str l n=>some (l,n)
 |.As=>some (0,0)
 |.sl id off n _=>ob (Fa H id off n) λl=>ob (Pd l) λm=>some (l.length,m)
 |.Bw id off n _=>ob (Fa H id off n) λl=>ob (Pd l) λm=>some (l.length,m)
 |.sle _=>some (0,0)
 |_=>none
theorem ej {P:Program} (w:World):∀(ns:List Int) (a:Addr) (acc:ByteArray),(∀j v,(ns.map (Value.int .u8))[j]? =some v->w.cell? (a.add j)=some v)-> (Extern.Bytes.loadBytes a ns.length acc).run P w=.ok ⟨acc.data++(ns.map λn=>UInt8.ofNat n.toNat).toArray⟩ w
 | [],a,acc,_=>by cases acc;simp[Extern.Bytes.loadBytes]
 |n::ns,a,acc,h=>by
  have C:w.cell? a=some (.int .u8 n):=by have:=h 0 _ rfl;simpa[Addr.add]using this
  have y:=ej (P:=P) w ns (a.add 1) (acc.push n.toNat.toUInt8) λj v q=>by
   have:=h (j+1) v (by simpa using q);have e:(a.add 1).add j=a.add (j+1):=by
    unfold Addr.add;by_cases q:j=0
    ·subst q;simp
    ·simp[q];omega
   rw[e];exact this
  simp only[List.length_cons,Extern.Bytes.loadBytes,Sem.run_bind];have B:(load a).run P w=.ok (.int .u8 n) w:=by simp[C]
  rw[B];simp only[Result.andThen_ok];rw[y];congr 1;cases acc with
  |mk d=>simp only[ByteArray.push,List.map_cons];congr 1;apply Array.ext';simp
theorem AeK {P:Program} {E:Env} {F:Nat->Option Obj} {nx:Nat} {ρ:Af} {h:Nat->Option Ac} {w:World} {H:Tr Ac} (r:Rel E F nx ρ h w) (U:HS ρ H h) {x:AV} {u:Value} {l n:Nat} (K:VR ρ x u) (q:mS H x=some (l,n)):(Extern.Bytes.bytesOf u).run P w=.ok (BB l n) w:=by
 have key:∀(ad:Addr) (c:Nat) (J:List AV) (vs:List Value) (m:Nat),AF ρ J vs->(∀j v,vs[j]? =some v->w.cell? (ad.add j)=some v)->Pd J=some m-> (Extern.Bytes.bytesOf (.slice (some ad) vs.length c)).run P w=.ok (BB J.length m) w:=by intro ad c J vs m L hc V;obtain⟨Y,ns,M,y⟩:=pJ L V;subst M;have:=ej (P:=P) w ns ad .empty hc;simp only[Extern.Bytes.bytesOf,List.length_map];rw[this,y];congr 1;show(⟨#[]++(BC J.length m).toArray⟩:ByteArray)=_;rw[Array.empty_append];rfl
 unfold mS at q;split at q
 ·injection q with q;injection q with C B;subst C;subst B;cases K;rfl
 ·injection q with q;injection q with C B;subst C;subst B;cases K;rfl
 ·obtain⟨J,L,M⟩:=Ae.1 q;obtain⟨m,hm,y⟩:=Ae.1 M;injection y with y;injection y with C B;subst C;subst B;cases K with
  |sl _ _ _ _ b hb=>obtain⟨vs,S,R,O⟩:=H3 r U hb L;rw[<-R];exact key _ _ _ vs _ S O hm
 ·obtain⟨J,L,M⟩:=Ae.1 q;obtain⟨m,hm,y⟩:=Ae.1 M;injection y with y;injection y with C B;subst C;subst B;cases K with
  |Bw _ _ _ _ b hb _ _=>obtain⟨vs,S,R,O⟩:=H3 r U hb L;rw[<-R];exact key _ _ _ vs _ S O hm
 ·injection q with q;injection q with C B;subst C;subst B;cases K with
  |sle _ b o c hb=>exact key _ _ [] [] 0 .nil (λj v W=>by simp at W) rfl
 ·cases q
def V9 (c l:Nat):Nat->Nat:=Nat.rec (motive:=λ_=>Nat->Nat) (λ_=>0) (λ_ q n=>cond (Nat.beq (n %256) c) (fN (n/256) q+1) (fN (n/256) q)) l
theorem vZ {c:Nat} (hc:c<256):∀(l n:Nat),Lib.countByte (BC l n) (UInt8.ofNat c)=V9 c l n
 |0,_=>rfl
 |l+1,n=>by
  have B:=vZ hc l (n/256);unfold Lib.countByte at B⊢;show List.count _ (UInt8.ofNat n::BC l (n/256))=cond (Nat.beq (n %256) c) (fN (n/256) (V9 c l)+1) (fN (n/256) (V9 c l));rw[Bu,List.count_cons,B];by_cases h:n %256=c
  ·have y:UInt8.ofNat n=UInt8.ofNat c:=by apply UInt8.toNat_inj.1;rw[HR,HR];omega
   have q:Nat.beq (n %256) c=true:=by rw[Nat.beq_eq];exact h
   rw[y,q,cond_true];simp
  ·have y:UInt8.ofNat n≠UInt8.ofNat c:=λe=>h (by have:=congrArg UInt8.toNat e;rw[HR,HR]at this;omega);have q:Nat.beq (n %256) c=false:=by
    cases hb:Nat.beq (n %256) c with
    |false=>rfl
    |true=>rw[Nat.beq_eq]at hb;exact absurd hb h
   rw[q,cond_false];simp[y]
def bP (c l:Nat):Nat->Nat->Int:=Nat.rec (motive:=λ_=>Nat->Nat->Int) (λ_ _=>-1) (λ_ B n k=>cond (Nat.beq (n %256) c) (Int.ofNat k) (fN (n/256) λq=>fN (k+1) λy=>B q y)) l
theorem yf {c:Nat} (hc:c<256):∀(l n k:Nat),bP c l n k=if Lib.indexByte (BC l n) (UInt8.ofNat c)= -1 then-1 else Lib.indexByte (BC l n) (UInt8.ofNat c)+k
 |0,_,_=>rfl
 |l+1,n,k=>by
  have J:=yf hc l (n/256) (k+1);show cond (Nat.beq (n %256) c) (Int.ofNat k) (fN (n/256) λC=>fN (k+1) λE=>bP c l C E)=if Lib.indexByte (UInt8.ofNat n::BC l (n/256)) _= -1 then-1 else Lib.indexByte (UInt8.ofNat n::BC l (n/256)) _+k
  have hu:Lib.indexByte (UInt8.ofNat n::BC l (n/256)) (UInt8.ofNat c)=if UInt8.ofNat n==UInt8.ofNat c then 0 else if Lib.indexByte (BC l (n/256)) (UInt8.ofNat c)== -1 then-1 else Lib.indexByte (BC l (n/256)) (UInt8.ofNat c)+1:=rfl
  rw[Bu,Bu,J,hu];by_cases h:n %256=c
  ·have B:UInt8.ofNat n=UInt8.ofNat c:=by apply UInt8.toNat_inj.1;rw[HR,HR];omega
   have y:Nat.beq (n %256) c=true:=by rw[Nat.beq_eq];exact h
   rw[B,y,cond_true];simp
  ·have B:UInt8.ofNat n≠UInt8.ofNat c:=λe=>h (by have:=congrArg UInt8.toNat e;rw[HR,HR]at this;omega);have y:Nat.beq (n %256) c=false:=by
    cases hb:Nat.beq (n %256) c with
    |false=>rfl
    |true=>rw[Nat.beq_eq]at hb;exact absurd hb h
   have K:=Lib.indexByte_ge (BC l (n/256)) (UInt8.ofNat c);rw[y,cond_false];simp only[B,beq_iff_eq,if_false];by_cases q:Lib.indexByte (BC l (n/256)) (UInt8.ofNat c)= -1
   ·simp[q]
   ·rw[if_neg q,if_neg q,if_neg (by omega)];omega
def OX (name:String):Nat:=
 cond (name == "internal/bytealg.Count") 1 (cond (name == "internal/bytealg.CountString") 1 (cond (name == "internal/bytealg.IndexByte") 2 (cond (name == "internal/bytealg.IndexByteString") 2 0)))
theorem xL {fn : Func} (ho : fn.origin = "") (h : OX fn.name = 1) : Extern.findNext fn = none ∧ Extern.find fn = some Extern.BytealgCount.count ∧ (fn.name == "runtime.NumGoroutine") = false := by
 have hn : fn.name = "internal/bytealg.Count" ∨ fn.name = "internal/bytealg.CountString" := by
  unfold OX at h
  by_cases h1 : fn.name = "internal/bytealg.Count"
  ·exact .inl h1
  ·by_cases h2 : fn.name = "internal/bytealg.CountString"
   ·exact .inr h2
   ·exfalso
    have e1 : (fn.name == "internal/bytealg.Count") = false := by simpa using h1
    have e2 : (fn.name == "internal/bytealg.CountString") = false := by simpa using h2
    rw[e1,e2]at h
    cases h3 : (fn.name == "internal/bytealg.IndexByte") <;> cases h4 : (fn.name == "internal/bytealg.IndexByteString") <;> rw [h3] at h <;> simp [h4] at h
 obtain⟨name,origin⟩:=fn;simp only at ho hn;subst ho;rcases hn with rfl|rfl
 ·exact⟨by kernel_rfl,by kernel_rfl,by kernel_rfl⟩
 ·exact⟨by kernel_rfl,by kernel_rfl,by kernel_rfl⟩
theorem xM {fn : Func} (ho : fn.origin = "") (h : OX fn.name = 2) : Extern.findNext fn = none ∧ Extern.find fn = some Extern.BytealgIndexByte.indexByte ∧ (fn.name == "runtime.NumGoroutine") = false := by
 have hn : fn.name = "internal/bytealg.IndexByte" ∨ fn.name = "internal/bytealg.IndexByteString" := by
  unfold OX at h
  by_cases h1 : fn.name = "internal/bytealg.IndexByte"
  ·exact .inl h1
  ·by_cases h2 : fn.name = "internal/bytealg.IndexByteString"
   ·exact .inr h2
   ·exfalso
    have e1 : (fn.name == "internal/bytealg.IndexByte") = false := by simpa using h1
    have e2 : (fn.name == "internal/bytealg.IndexByteString") = false := by simpa using h2
    rw[e1,e2]at h
    cases h3 : (fn.name == "internal/bytealg.Count") <;> cases h4 : (fn.name == "internal/bytealg.CountString") <;> rw [h3] at h <;> simp [h4] at h
 obtain⟨name,origin⟩:=fn;simp only at ho hn;subst ho;rcases hn with rfl|rfl
 ·exact⟨by kernel_rfl,by kernel_rfl,by kernel_rfl⟩
 ·exact⟨by kernel_rfl,by kernel_rfl,by kernel_rfl⟩
def m5 (P:Program) (H:Tr Ac) (f:AV) (xs:List AV):Option AV:=
 match f with
 | .fn (.func g) [] [] => ob (P.funcs[g]?) fun fn => gd fn.body.isNone (gd (fn.origin == "") (match xs with
  | [b,.int .u8 (.ofNat c)]=>gd (Nat.blt c 256) (ob (mS H b) λp=>fN (OX fn.name) λk=>cond (Nat.beq k 1) (fN (V9 c p.1 p.2) λm=>some (.int .i64 (.ofNat m)))
    (gd (Nat.beq k 2) (fI (bP c p.1 p.2 0) λm=>some (.int .i64 m))))
  |_=>none))
 |_=>none
theorem AeQ {P:Program} {E:Env} {F:Nat->Option Obj} {nx:Nat} {ρ:Af} {h:Nat->Option Ac} {w:World} {H:Tr Ac} (r:Rel E F nx ρ h w) (hs:HS ρ H h) {f:AV} {xs:List AV} {a:AV} {us:List Value} (hx:AF ρ xs us) (hev:m5 P H f xs=some a):∃g,f=.fn (.func g) [] []/\∃v,(callFunc g us.toArray).run P w=.ok (.value v) w/\VR ρ a v:=by
 unfold m5 at hev;split at hev
 ·rename_i g;obtain⟨fn,hfn,h1⟩:=Ae.1 hev;obtain⟨hb,h2⟩:=AK.1 h1;obtain⟨ho,h3⟩:=AK.1 h2
  have ho' : fn.origin = "" := by simpa using ho
  refine⟨g,rfl,?_⟩;split at h3
  ·rename_i b c;obtain⟨hc,h4⟩:=AK.1 h3;rw[Nat.blt_eq]at hc;obtain⟨⟨l,n⟩,hbs,h5⟩:=Ae.1 h4;simp only[Bu,MM]at h5;cases hx with
   |cons _ u1 _ us1 hu1 hus1=>cases hus1 with
    |cons _ u2 _ us2 hu2 hus2=>
     cases hus2;cases hu2;have hby:=AeK (P:=P) r hs hu1 hbs;have hdata:(BB l n).data.toList=BC l n:=by simp[BB]
     cases hk:Nat.beq (OX fn.name) 1 with
     |true=>
      rw[hk,cond_true]at h5;injection h5 with h5;subst h5;obtain⟨e1,e2,e3⟩:=xL ho' (Nat.eq_of_beq_eq_true hk);refine⟨.int .i64 (Int.ofNat (V9 c l n)),?_,.int _ _⟩;rw[run_callFunc_extern hfn e3 hb e1 e2];have hs0:=Lib.run_countString (P:=P) (BB l n) (Int.ofNat c) w;have hrun:(Extern.BytealgCount.count #[u1,.int .u8 (Int.ofNat c)]).run P w=(Extern.BytealgCount.count #[.string (BB l n),.int .u8 (Int.ofNat c)]).run P w:=by
       change Sem.run P (do
        let b<-Extern.Bytes.bytesOf u1;let c'<-Extern.Bytes.asByte (.int .u8 (Int.ofNat c))
        pure (goInt (b.foldl (λn x=>if x==c' then n+1 else n) (0:Nat)))) w=Sem.run P (do
        let b<-Extern.Bytes.bytesOf (.string (BB l n));let c'<-Extern.Bytes.asByte (.int .u8 (Int.ofNat c))
        pure (goInt (b.foldl (λn x=>if x==c' then n+1 else n) (0:Nat)))) w
       have hst:(Extern.Bytes.bytesOf (.string (BB l n))).run P w=.ok (BB l n) w:=rfl;simp only[Sem.run_bind,hby,hst]
      rw[show [u1,Value.int .u8 (Int.ofNat c)].toArray= #[u1,.int .u8 (Int.ofNat c)]from rfl,hrun,hs0,hdata];have:(Int.ofNat c).toNat.toUInt8=UInt8.ofNat c:=rfl;rw[this,vZ hc];rfl
     |false=>
      rw[hk,cond_false]at h5;obtain⟨hk2,h6⟩:=AK.1 h5;injection h6 with h6;subst h6;obtain⟨e1,e2,e3⟩:=xM ho' (Nat.eq_of_beq_eq_true hk2);refine⟨.int .i64 (bP c l n 0),?_,.int _ _⟩;rw[run_callFunc_extern hfn e3 hb e1 e2];have hs0:=Lib.run_indexByteString (P:=P) (BB l n) (Int.ofNat c) w;have hrun:(Extern.BytealgIndexByte.indexByte #[u1,.int .u8 (Int.ofNat c)]).run P w=(Extern.BytealgIndexByte.indexByte #[.string (BB l n),.int .u8 (Int.ofNat c)]).run P w:=by
       change Sem.run P (do
        let b<-Extern.Bytes.bytesOf u1;let c'<-Extern.Bytes.asByte (.int .u8 (Int.ofNat c))
        match(List.range b.size).find? λi=>b[i]! ==c' with
        |some i=>pure (goInt i)
        |none=>pure (goInt (-1))) w=Sem.run P (do
        let b<-Extern.Bytes.bytesOf (.string (BB l n));let c'<-Extern.Bytes.asByte (.int .u8 (Int.ofNat c))
        match(List.range b.size).find? λi=>b[i]! ==c' with
        |some i=>pure (goInt i)
        |none=>pure (goInt (-1))) w
       have hst:(Extern.Bytes.bytesOf (.string (BB l n))).run P w=.ok (BB l n) w:=rfl;simp only[Sem.run_bind,hby,hst]
      rw[show [u1,Value.int .u8 (Int.ofNat c)].toArray= #[u1,.int .u8 (Int.ofNat c)]from rfl,hrun,hs0,hdata];have:(Int.ofNat c).toNat.toUInt8=UInt8.ofNat c:=rfl;rw[this,yf hc];split
      ·rename_i e;rw[e];rfl
      ·simp
  ·cases h3
 ·cases hev
def mz (st:Nat) (y:List DJ):Option DJ:=List.rec (motive:=λ_=>Option DJ) none (λe _ q=>cond (Nat.beq e.born st) (some e) q) y
theorem xP {ρ:Af} {st:Nat} {e:DJ}:∀ {y:List DJ} {l:List MapEntry},Ek ρ y l->mz st y=some e->∃m,l.find? (λm=>m.born==st)=some m/\ER ρ e m
 |_,_,.nil,h=>by cases h
 |_,_,.cons q m y l C J,h=>by
  have hb:m.born=q.born:=C.2.2.symm;have h':cond (Nat.beq q.born st) (some q) (mz st y)=some e:=h;cases hc:Nat.beq q.born st with
  |true=>rw[hc,cond_true]at h';injection h' with h';subst h';rw[Nat.beq_eq]at hc;exact⟨m,by simp[hb,hc],C⟩
  |false=>
   rw[hc,cond_false]at h';obtain⟨E,L,K⟩:=xP J h';have B:¬q.born=st:=λe=>by rw[<-Nat.beq_eq,hc]at e;cases e
   exact⟨E,by simp[hb,B,L],K⟩
def mY (H:Tr Ac) (a:AV):Option AV:=
 match a with
 |.ptr id 0=>ob (H.get id) λo=>match o with
  |.Ix mid _ seen last=>ob (H.get mid) λm=>match m with
   |.map es q=>gd (Nat.beq q last) (ob seen.getLast? λst=>ob (mz st es) λe=>some (.AL [e.key,e.val]))
   |_=>none
  |_=>none
 |_=>none
theorem AeP {P:Program} {E:Env} {F:Nat->Option Obj} {nx:Nat} {ρ:Af} {h:Nat->Option Ac} {w:World} {H:Tr Ac} (r:Rel E F nx ρ h w) (hs:HS ρ H h) {x a:AV} {u:Value} (hx:VR ρ x u) (y:mY H x=some a):∃v,(Instr.entry u).run P w=.ok v w/\VR ρ a v:=by
 unfold mY at y;split at y
 ·rename_i id;cases hx with
  |ptr _ _ b hb=>
  obtain⟨o,ho,V⟩:=Ae.1 y;obtain⟨co,hc,Y⟩:=r.ob _ _ b (hs _ _ ho (.inl ⟨b,hb⟩)) hb;split at V
  ·rename_i mid B seen last;cases Y with
   |Ix _ _ _ _ R af L=>
   obtain⟨om,Z,U⟩:=Ae.1 V;obtain⟨cm,ad,M⟩:=r.ob _ _ R (hs _ _ Z (.inl ⟨R,L⟩)) L;split at U
   ·rename_i es q;cases M with
    |map _ _ l hl=>
    obtain⟨ae,h3⟩:=AK.1 U;obtain⟨st,W,h4⟩:=Ae.1 h3;obtain⟨e,he,S⟩:=Ae.1 h4;injection S with S;subst S;have O:=Nat.eq_of_beq_eq_true ae;subst O;obtain⟨m,hm,K⟩:=xP hl he;have hz:b.ob+0=0:=by omega
    have aa:(getObj b.b).run P w=.ok (.mapIter (some R.b) B seen.toArray q) w:=by simp[getObj,Sem.run,hc]
    have ab:(getObj R.b).run P w=.ok (.map l.toArray q) w:=by simp[getObj,Sem.run,ad]
    have J:seen.toArray.back?=some st:=by simp[W]
    have C:l.toArray.find? (λm=>m.born==st)=some m:=by simp[hm]
    refine⟨.tuple #[m.key,m.val],?_,.AL _ [m.key,m.val] (.cons _ _ _ _ K.1 (.cons _ _ _ _ K.2.1 .nil))⟩;simp only[hz,Instr.entry,Sem.run_bind,aa,Result.andThen_ok,J,ab,bne_self_eq_false,Bool.false_eq_true,if_false,C,Sem.run_pure]
   ·cases U
  ·cases V
 ·cases y
def ny:UnOp->Bool
 |.xor=>true
 |_=>false
def mw (x:AV):Option AV:=
 match x with
 |.int k n=>fI (cond k.signed (-1) k.max) λm=>Th .xor k m n
 |_=>none
theorem Aff {P:Program} {ρ:Af} {x a:AV} {u:Value} (q:VR ρ x u) (h:mw x=some a) (w:World):∃v,(Op.unary .xor u).run P w=.ok v w/\VR ρ a v:=by
 unfold mw at h;split at h
 ·rename_i k n;rw[MM]at h;cases q;obtain⟨v,hv,B⟩:=mb (P:=P) (ρ:=ρ) (t:=0) (by simp) (by simp) h w;refine⟨v,?_,B⟩;rw[<-hv];cases y:k.signed<;>simp[Op.unary,binOp,y]
 ·cases h
def Hd (P:Program) (H:Tr Ac) (X:Operand->Option AV) (op:Op):Option AV:=
 match op with
 |.build t y=>mR P X t y.toList
 |.convert s d x=>ob (X x) λv=>cond (WH v) (wj P H s d v) (mU P s d v)
 |.typeAssert x _ q ok=>ob (X x) λv=>wi P q ok v
 |.entry x=>ob (X x) λv=>mY H v
 |.unOp op t x=>cond (ny op) (ob (X x) λv=>mw v) (QD P H X (.unOp op t x))
 |.call c=>match c.callee with
  |.value f=>ob (X f) λC=>ob (F3 X c.args.toList) λB=>m5 P H C B
  |_=>QD P H X (.call c)
 |op=>QD P H X op
theorem xH {P:Program} {E:Env} {F:Nat->Option Obj} {nx:Nat} {ρ:Af} {h:Nat->Option Ac} {w:World} {H:Tr Ac} (r:Rel E F nx ρ h w) (R:HS ρ H h) {X:Operand->Option AV} {f:Operand->Value} (J:XR ρ X f) (o:Oper) {a:AV} (q:Hd P H X o.op=some a): ∃v,(execOp f o).run P w=.ok (.value v) w/\VR ρ a v:=by
 unfold Hd at q;split at q
 ·rename_i t Z y;obtain⟨dst,op,type,pos,after,guard⟩:=o;simp only at y;subst y;obtain⟨v,C,B⟩:=AeJ (P:=P) J q w;exact⟨v,C9 C,B⟩
 ·rename_i s d x y;obtain⟨dst,op,type,pos,after,guard⟩:=o;simp only at y;subst y;obtain⟨v,hv,C⟩:=Ae.1 q;cases U:WH v with
  |true=>rw[U,cond_true]at C;obtain⟨z,B,K⟩:=AeG (P:=P) r R (J _ _ hv) C;exact⟨z,C9 B,K⟩
  |false=>rw[U,cond_false]at C;obtain⟨z,B,K⟩:=wu (P:=P) (J _ _ hv) C w;exact⟨z,C9 B,K⟩
 ·rename_i x xt S ok y;obtain⟨dst,op,type,pos,after,guard⟩:=o;simp only at y;subst y;obtain⟨v,hv,C⟩:=Ae.1 q;obtain⟨z,B,K⟩:=AeF (P:=P) (t:=xt) (J _ _ hv) C w;exact⟨z,C9 B,K⟩
 ·rename_i x y;obtain⟨dst,op,type,pos,after,guard⟩:=o;simp only at y;subst y;obtain⟨v,hv,C⟩:=Ae.1 q;obtain⟨z,B,K⟩:=AeP (P:=P) r R (J _ _ hv) C;exact⟨z,C9 B,K⟩
 ·rename_i L ut x y;obtain⟨dst,op,type,pos,after,guard⟩:=o;simp only at y;subst y;cases M:ny L with
  |true=>rw[M,cond_true]at q;obtain⟨v,hv,C⟩:=Ae.1 q;obtain⟨z,B,K⟩:=Aff (P:=P) (J _ _ hv) C w;cases L<;>first|(simp[ny]at M;done)|exact⟨z,C9 B,K⟩
  |false=>rw[M,cond_false]at q;exact mm r R J {dst,op:=.unOp L ut x,type,pos,after,guard} q
 ·rename_i c y;obtain⟨dst,op,type,pos,after,guard⟩:=o;simp only at y;subst y;obtain⟨callee,args,argTypes⟩:=c;simp only at q;split at q
  ·rename_i g;obtain⟨fv,Y,h0⟩:=Ae.1 q;obtain⟨xs,V,C⟩:=Ae.1 h0;obtain⟨k,hk,v,B,K⟩:=AeQ r R (Jl J V) C;subst hk;refine⟨v,?_,K⟩;have W:f g=.func (.func k) #[] #[]:=by
    have:=J _ _ Y;generalize f g=u at this;cases this with
    |fn _ _ _ va vc ha hc=>cases ha;cases hc;rfl
   have O:(args.toList.map f).toArray=args.map f:=by rw[map_toArray]
   rw[O]at B;simp only[execOp,resolve,W,Deferred.ofValue,Sem.run_bind,Sem.run_pure,Result.andThen_ok,invoke,Array.append_empty,Array.empty_append];exact B
  ·exact mm r R J {dst,op:=.call {callee,args,argTypes},type,pos,after,guard} q
 ·exact mm r R J o q
end Go.Ev
end
end
