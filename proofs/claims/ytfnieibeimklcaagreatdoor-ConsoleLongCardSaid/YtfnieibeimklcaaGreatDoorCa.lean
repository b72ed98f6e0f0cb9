/- Laid by program out of its parts: EcA, EcB, EcC, EcD, EcE, EcF. -/
import Derived.Calls
import Derived.Orders
import Derived.Laws.Sem
import Derived.Laws.World
import Derived.Laws.StructEq
import Derived.Laws.Slices
import Derived.Lib.Strings
import Derived.ChangeKeysEq
import Derived.Laws.Cells
set_option linter.unusedVariables false
set_option linter.unusedSimpArgs false
section
/- The evaluator, part A: tries, abstract values, what they stand for, the relation of an abstract heap to a world. No program in it. -/
namespace Go.EvC
inductive Tr (α:Type) where
 | leaf
 | node (v:Option α) (l r:Tr α)
namespace Tr
variable {α:Type}
noncomputable def root (t:Tr α):Option α:=Tr.rec (motive:=fun _=>Option α) none (fun v _ _ _ _=>v) t
noncomputable def kid (b:Bool) (t:Tr α):Tr α:=Tr.rec (motive:=fun _=>Tr α) .leaf (fun _ l r _ _=>cond b l r) t
noncomputable def gp (p:List Bool):Tr α→Option α :=
 List.rec (motive:=fun _=>Tr α→Option α) root (fun b _ ih t=>ih (kid b t)) p
noncomputable def sp (x:Option α) (p:List Bool):Tr α→Tr α :=
 List.rec (motive:=fun _=>Tr α→Tr α)
  (fun t=>Tr.rec (motive:=fun _=>Tr α) (.node x .leaf .leaf) (fun _ l r _ _=>.node x l r) t)
  (fun b _ ih t=>Tr.rec (motive:=fun _=>Tr α) (cond b (.node none (ih .leaf) .leaf) (.node none .leaf (ih .leaf)))
   (fun v l r _ _=>cond b (.node v (ih l) r) (.node v l (ih r))) t) p
theorem gp_leaf (q:List Bool):gp q (.leaf:Tr α)=none:=by
 induction q with
 | nil=>rfl
 | cons b q ih=>exact ih
theorem gp_sp (x:Option α):∀ (p q:List Bool) (t:Tr α),gp q (sp x p t)=if p=q then x else gp q t:=by
 intro p
 induction p with
 | nil =>
  intro q t
  cases q with
  | nil=>cases t <;> rfl
  | cons c q =>
   rw [if_neg (by simp)]
   cases t with
   | leaf=>cases c <;> rfl
   | node v l r=>rfl
 | cons b p ih =>
  intro q t
  cases q with
  | nil =>
   rw [if_neg (by simp)]
   cases t <;> cases b <;> rfl
  | cons c q =>
   have key:gp (c :: q) (sp x (b :: p) t)=if b=c then gp q (sp x p (kid b t)) else gp (c :: q) t:=by
    cases t with
    | leaf=>cases b <;> cases c <;> first | rfl | (show gp q (.leaf:Tr α)=_;exact (gp_leaf q).trans (gp_leaf q).symm)
    | node v l r=>cases b <;> cases c <;> rfl
   rw [key]
   by_cases hbc:b=c
   ·subst hbc
    rw [if_pos rfl,ih]
    by_cases hpq:p=q
    ·subst hpq;simp
    ·rw [if_neg hpq,if_neg (by simp [hpq])];rfl
   ·rw [if_neg hbc,if_neg (by simp [hbc])]
end Tr
noncomputable def pathF (f:Nat):Nat→List Bool :=
 Nat.rec (motive:=fun _=>Nat→List Bool) (fun _=>[]) (fun _ ih n=>cond (Nat.beq n 0) [] (Nat.beq (n % 2) 1 :: ih ((n - 1) / 2))) f
theorem pathF_succ (f n:Nat):pathF (f + 1) n=cond (Nat.beq n 0) [] (Nat.beq (n % 2) 1 :: pathF f ((n - 1) / 2)):=rfl
theorem pathF_inj:∀ (f n g m:Nat),n≤f→m≤g→pathF f n=pathF g m→n=m:=by
 intro f
 induction f with
 | zero =>
  intro n g m hn hm h
  have:n=0:=by omega
  subst this
  cases g with
  | zero=>omega
  | succ g =>
   rw [pathF_succ] at h
   cases m with
   | zero=>rfl
   | succ m=>simp [pathF,Nat.beq] at h
 | succ f ih =>
  intro n g m hn hm h
  rw [pathF_succ] at h
  cases n with
  | zero =>
   cases g with
   | zero=>omega
   | succ g =>
    rw [pathF_succ] at h
    cases m with
    | zero=>rfl
    | succ m=>simp [Nat.beq] at h
  | succ n =>
   cases g with
   | zero =>
    have:m=0:=by omega
    subst this
    simp [pathF,Nat.beq] at h
   | succ g =>
    rw [pathF_succ] at h
    cases m with
    | zero=>simp [Nat.beq] at h
    | succ m =>
     simp only [Nat.beq,cond_false,List.cons.injEq] at h
     obtain ⟨h1,h2⟩:=h
     have h3:=ih _ _ _ (by omega) (by omega) h2
     have h5:((n + 1) % 2=1)↔((m + 1) % 2=1):=by
      rw [← Nat.beq_eq,← Nat.beq_eq,h1]
     omega
noncomputable def path (n:Nat):List Bool:=pathF n n
theorem path_inj {n m:Nat} (h:path n=path m):n=m:=pathF_inj n n m m (Nat.le_refl _) (Nat.le_refl _) h
namespace Tr
variable {α:Type}
noncomputable def get (t:Tr α) (n:Nat):Option α:=gp (path n) t
noncomputable def set (t:Tr α) (n:Nat) (x:α):Tr α:=sp (some x) (path n) t
noncomputable def del (t:Tr α) (n:Nat):Tr α:=sp none (path n) t
theorem get_leaf (n:Nat):(Tr.leaf:Tr α).get n=none:=gp_leaf _
theorem get_set (t:Tr α) (n m:Nat) (x:α):(t.set n x).get m=if n=m then some x else t.get m:=by
 unfold get set
 rw [gp_sp]
 by_cases h:n=m
 ·subst h;simp
 ·rw [if_neg (fun h'=>h (path_inj h')),if_neg h]
theorem get_set_same (t:Tr α) (n:Nat) (x:α):(t.set n x).get n=some x:=by rw [get_set,if_pos rfl]
theorem get_set_ne (t:Tr α) {n m:Nat} (h:n≠m) (x:α):(t.set n x).get m=t.get m:=by rw [get_set,if_neg h]
theorem get_del (t:Tr α) (n m:Nat):(t.del n).get m=if n=m then none else t.get m:=by
 unfold get del
 rw [gp_sp]
 by_cases h:n=m
 ·subst h;simp
 ·rw [if_neg (fun h'=>h (path_inj h')),if_neg h]
end Tr
inductive AV where
 | bool (b:Bool)
 | int (k:IntKind) (n:Int)
 | str (len n:Nat)
 | ptr0
 | ptr (id off:Nat)
 | sl0
 | sl (id off len cap:Nat)
 | slo (id off len esz:Nat)
 | sle (id:Nat)
 | map0
 | map (id:Nat)
 | fn (f:Fn) (first captured:List AV)
 | fn0
 | yld (id:Nat)
 | iface (t:Nat) (v:AV)
 | iface0
 | agg (cs:List AV)
 | tup (vs:List AV)
 | gptr (g off:Nat)
 | chan0
 | chan (id:Nat)
 deriving Inhabited
def bytesL:Nat→Nat→List UInt8
 | 0,_=>[]
 | l + 1,n=>UInt8.ofNat n :: bytesL l (n / 256)
def bstr (len n:Nat):ByteArray:=⟨(bytesL len n).toArray⟩
structure Blk where
 b:Nat
 ob:Nat
 cap:Nat
abbrev Ren:=Nat→Option Blk
def Ren.le (ρ ρ':Ren):Prop:=∀ i b,ρ i=some b→ρ' i=some b
theorem Ren.le_refl (ρ:Ren):ρ.le ρ:=fun _ _ h=>h
theorem Ren.le_trans {a b c:Ren} (h:a.le b) (k:b.le c):a.le c:=fun i x hx=>k i x (h i x hx)
structure RX (n n':Nat) (ρ ρ':Ren):Prop where
 le:ρ.le ρ'
 lo:∀ i,i < n→ρ' i=ρ i
 nn:n≤n'
theorem RX.refl (n:Nat) (ρ:Ren):RX n n ρ ρ:=⟨Ren.le_refl ρ,fun _ _=>rfl,Nat.le_refl _⟩
theorem RX.trans {a b c:Nat} {ρ ρ' ρ'':Ren} (h:RX a b ρ ρ') (k:RX b c ρ' ρ''):RX a c ρ ρ'' :=
 ⟨Ren.le_trans h.le k.le,fun i hi=>(k.lo i (Nat.lt_of_lt_of_le hi h.nn)).trans (h.lo i hi),Nat.le_trans h.nn k.nn⟩
theorem RX.weak {a a' b b':Nat} {ρ ρ':Ren} (h:RX a b ρ ρ') (ha:a'≤a) (hb:b≤b'):RX a' b' ρ ρ' :=
 ⟨h.le,fun i hi=>h.lo i (Nat.lt_of_lt_of_le hi ha),Nat.le_trans ha (Nat.le_trans h.nn hb)⟩
structure RY (ni n n':Nat) (ρ ρ':Ren):Prop where
 le:ρ.le ρ'
 lo:∀ i,i < n→i≠ni→ρ' i=ρ i
 nn:n≤n'
theorem RX.ry {ni a b:Nat} {ρ ρ':Ren} (h:RX a b ρ ρ'):RY ni a b ρ ρ':=⟨h.le,fun i hi _=>h.lo i hi,h.nn⟩
theorem RY.rx {a b:Nat} {ρ ρ':Ren} (h:RY a a b ρ ρ'):RX a b ρ ρ':=⟨h.le,fun i hi=>h.lo i hi (Nat.ne_of_lt hi),h.nn⟩
mutual
inductive VR (ρ:Ren):AV→Value→Prop where
 | bool (b:Bool):VR ρ (.bool b) (.bool b)
 | int (k:IntKind) (n:Int):VR ρ (.int k n) (.int k n)
 | str (len n:Nat) (h:n < 256 ^ len):VR ρ (.str len n) (.string (bstr len n))
 | ptr0:VR ρ .ptr0 (.pointer none)
 | ptr (id off:Nat) (b:Blk) (h:ρ id=some b):VR ρ (.ptr id off) (.pointer (some ⟨b.b,b.ob + off,none⟩))
 | sl0:VR ρ .sl0 (.slice none 0 0)
 | sl (id off len cap:Nat) (b:Blk) (h:ρ id=some b):VR ρ (.sl id off len cap) (.slice (some ⟨b.b,b.ob + off,none⟩) len cap)
 | slo (id off len esz:Nat) (b:Blk) (h:ρ id=some b) (he:0 < esz) (hl:off + len * esz≤b.cap):VR ρ (.slo id off len esz) (.slice (some ⟨b.b,b.ob + off,none⟩) len ((b.cap - off) / esz))
 | sle (id:Nat) (b:Blk) (o c:Nat) (h:ρ id=some b):VR ρ (.sle id) (.slice (some ⟨b.b,o,none⟩) 0 c)
 | map0:VR ρ .map0 (.map none)
 | map (id:Nat) (b:Blk) (h:ρ id=some b):VR ρ (.map id) (.map (some b.b))
 | fn (f:Fn) (a c:List AV) (va vc:List Value) (ha:VRL ρ a va) (hc:VRL ρ c vc):VR ρ (.fn f a c) (.func f va.toArray vc.toArray)
 | fn0:VR ρ .fn0 .nilFunc
 | yld (id:Nat) (b:Blk) (h:ρ id=some b):VR ρ (.yld id) (.func (.yield b.b) #[] #[])
 | iface (t:Nat) (a:AV) (v:Value) (h:VR ρ a v):VR ρ (.iface t a) (.iface t v)
 | iface0:VR ρ .iface0 .nilIface
 | agg (l:List AV) (vs:List Value) (h:VRL ρ l vs):VR ρ (.agg l) (.agg vs.toArray)
 | tup (l:List AV) (vs:List Value) (h:VRL ρ l vs):VR ρ (.tup l) (.tuple vs.toArray)
 | gptr (g off:Nat):VR ρ (.gptr g off) (.pointer (some ⟨g,off,none⟩))
 | chan0:VR ρ .chan0 (.chan none)
 | chan (id:Nat) (b:Blk) (h:ρ id=some b):VR ρ (.chan id) (.chan (some b.b))
inductive VRL (ρ:Ren):List AV→List Value→Prop where
 | nil:VRL ρ [] []
 | cons (a:AV) (v:Value) (l:List AV) (vs:List Value) (h:VR ρ a v) (hs:VRL ρ l vs):VRL ρ (a :: l) (v :: vs)
end
theorem VR.mono {ρ ρ':Ren} (hle:ρ.le ρ') {a:AV} {v:Value} (h:VR ρ a v):VR ρ' a v :=
 VR.rec (ρ:=ρ) (motive_1:=fun a v _=>VR ρ' a v) (motive_2:=fun l vs _=>VRL ρ' l vs)
  .bool .int .str .ptr0 (fun id off b h=>.ptr id off b (hle _ _ h)) .sl0 (fun id off len cap b h=>.sl id off len cap b (hle _ _ h))
  (fun id off len esz b h he hl=>.slo id off len esz b (hle _ _ h) he hl) (fun id b o c h=>.sle id b o c (hle _ _ h)) .map0 (fun id b h=>.map id b (hle _ _ h))
  (fun f a c va vc _ _ ia ic=>.fn f a c va vc ia ic) .fn0 (fun id b h=>.yld id b (hle _ _ h)) (fun t a v _ ih=>.iface t a v ih) .iface0 (fun l vs _ ih=>.agg l vs ih)
  (fun l vs _ ih=>.tup l vs ih) .gptr .chan0 (fun id b h=>.chan id b (hle _ _ h)) .nil (fun a v l vs _ _ ih ihs=>.cons a v l vs ih ihs) h
theorem VRL.mono {ρ ρ':Ren} (hle:ρ.le ρ'):∀ {l:List AV} {vs:List Value},VRL ρ l vs→VRL ρ' l vs
 | _,_,.nil=>.nil
 | _,_,.cons a v l vs h hs=>.cons a v l vs (h.mono hle) (VRL.mono hle hs)
theorem VRL.length {ρ:Ren}:∀ {l:List AV} {vs:List Value},VRL ρ l vs→l.length=vs.length
 | _,_,.nil=>rfl
 | _,_,.cons _ _ _ _ _ hs=>by simp [VRL.length hs]
theorem VRL.get {ρ:Ren}:∀ {l:List AV} {vs:List Value},VRL ρ l vs→∀ (i:Nat) (a:AV),l[i]? = some a→∃ v,vs[i]? = some v∧VR ρ a v
 | _,_,.nil,i,a,h=>by simp at h
 | _,_,.cons a' v l vs h hs,0,a,hi=>by
  simp at hi;subst hi;exact ⟨v,rfl,h⟩
 | _,_,.cons a' v l vs h hs,i + 1,a,hi=>by
  simp at hi
  obtain ⟨u,hu,hr⟩:=VRL.get hs i a hi
  exact ⟨u,by simpa using hu,hr⟩
theorem VRL.append {ρ:Ren}:∀ {l l':List AV} {vs vs':List Value},VRL ρ l vs→VRL ρ l' vs'→VRL ρ (l ++ l') (vs ++ vs')
 | _,_,_,_,.nil,h'=>h'
 | _,_,_,_,.cons a v l vs h hs,h'=>.cons _ _ _ _ h (hs.append h')
theorem VRL.drop {ρ:Ren}:∀ (k:Nat) {l:List AV} {vs:List Value},VRL ρ l vs→VRL ρ (l.drop k) (vs.drop k)
 | 0,_,_,h=>h
 | _ + 1,_,_,.nil=>.nil
 | k + 1,_,_,.cons _ _ _ _ _ hs=>VRL.drop k hs
theorem VRL.take {ρ:Ren}:∀ (k:Nat) {l:List AV} {vs:List Value},VRL ρ l vs→VRL ρ (l.take k) (vs.take k)
 | 0,_,_,_=>.nil
 | _ + 1,_,_,.nil=>.nil
 | k + 1,_,_,.cons _ _ _ _ h hs=>.cons _ _ _ _ h (VRL.take k hs)
def AV.one:AV→Bool
 | .agg _=>false
 | .tup _=>false
 | _=>true
theorem VR.one {ρ:Ren} {a:AV} {v:Value} (h:VR ρ a v):v.oneCell'=a.one:=by cases h <;> rfl
def AV.cells:AV→List AV
 | .agg cs=>cs
 | v=>[v]
theorem VR.cells {ρ:Ren} {a:AV} {v:Value} (h:VR ρ a v):VRL ρ a.cells v.cells.toList:=by
 cases h with
 | agg l vs h=>simpa [AV.cells,Value.cells] using h
 | bool b=>exact .cons _ _ _ _ (.bool b) .nil
 | int k n=>exact .cons _ _ _ _ (.int k n) .nil
 | str l n h=>exact .cons _ _ _ _ (.str l n h) .nil
 | ptr0=>exact .cons _ _ _ _ .ptr0 .nil
 | ptr i o b h=>exact .cons _ _ _ _ (.ptr i o b h) .nil
 | sl0=>exact .cons _ _ _ _ .sl0 .nil
 | sl i o l c b h=>exact .cons _ _ _ _ (.sl i o l c b h) .nil
 | slo i o l c b h he hl=>exact .cons _ _ _ _ (.slo i o l c b h he hl) .nil
 | sle i b o c h=>exact .cons _ _ _ _ (.sle i b o c h) .nil
 | map0=>exact .cons _ _ _ _ .map0 .nil
 | map i b h=>exact .cons _ _ _ _ (.map i b h) .nil
 | fn f a c va vc ha hc=>exact .cons _ _ _ _ (.fn f a c va vc ha hc) .nil
 | fn0=>exact .cons _ _ _ _ .fn0 .nil
 | yld i b h=>exact .cons _ _ _ _ (.yld i b h) .nil
 | iface t a v h=>exact .cons _ _ _ _ (.iface t a v h) .nil
 | iface0=>exact .cons _ _ _ _ .iface0 .nil
 | tup l vs h=>exact .cons _ _ _ _ (.tup l vs h) .nil
 | gptr g o=>exact .cons _ _ _ _ (.gptr g o) .nil
 | chan0=>exact .cons _ _ _ _ .chan0 .nil
 | chan i b h=>exact .cons _ _ _ _ (.chan i b h) .nil
structure AEnt where
 key:AV
 val:AV
 born:Nat
inductive AObj where
 | cells (elem:Nat) (c:Tr AV) (z:List AV) (n:Nat) (op:Bool)
 | map (es:List AEnt) (clock:Nat)
 | dfr (op:Bool)
 | loop (st:LoopState) (pend:Option Code) (T:Tr AV) (N:Nat) (ps:Array Tmp) (asg body:Code) (d:Nat)
 | glob (l:List AV)
 | chan (cap:Nat) (buf:List AV)
 | siter (l n pos:Nat)
 | miter0
 | miter (id since:Nat) (seen:List Nat) (last:Nat)
def AObj.isGlob:AObj→Bool
 | .glob _=>true
 | _=>false
noncomputable def cellOf (c:Tr AV) (z:List AV) (k:Nat):Option AV :=
 Option.rec (motive:=fun _=>Option AV) (z[k % z.length]?) (fun v=>some v) (c.get k)
theorem cellOf_set_same (c:Tr AV) (z:List AV) (k:Nat) (v:AV):cellOf (c.set k v) z k=some v:=by
 unfold cellOf;rw [Tr.get_set_same]
theorem cellOf_set_ne (c:Tr AV) (z:List AV) {k j:Nat} (h:k≠j) (v:AV):cellOf (c.set k v) z j=cellOf c z j:=by
 unfold cellOf;rw [Tr.get_set_ne _ h]
def TR (ρ:Ren) (T:Tr AV) (tmps:Array Value):Prop:=∀ t a,T.get t=some a→∃ v,tmps[t]? = some v∧VR ρ a v
theorem TR.mono {ρ ρ':Ren} (hle:ρ.le ρ') {T:Tr AV} {tmps:Array Value} (h:TR ρ T tmps):TR ρ' T tmps :=
 fun t a ht=>let ⟨v,h1,h2⟩:=h t a ht;⟨v,h1,h2.mono hle⟩
def ER (ρ:Ren) (a:AEnt) (e:MapEntry):Prop:=VR ρ a.key e.key∧VR ρ a.val e.val∧a.born=e.born
inductive ERL (ρ:Ren):List AEnt→List MapEntry→Prop where
 | nil:ERL ρ [] []
 | cons (a:AEnt) (e:MapEntry) (l:List AEnt) (es:List MapEntry) (h:ER ρ a e) (hs:ERL ρ l es):ERL ρ (a :: l) (e :: es)
theorem ERL.mono {ρ ρ':Ren} (hle:ρ.le ρ'):∀ {l:List AEnt} {es:List MapEntry},ERL ρ l es→ERL ρ' l es
 | _,_,.nil=>.nil
 | _,_,.cons a e l es h hs=>.cons a e l es ⟨h.1.mono hle,h.2.1.mono hle,h.2.2⟩ (ERL.mono hle hs)
theorem ERL.length {ρ:Ren}:∀ {l:List AEnt} {vs:List MapEntry},ERL ρ l vs→l.length=vs.length
 | _,_,.nil=>rfl
 | _,_,.cons _ _ _ _ _ hs=>by simp [ERL.length hs]
def fzOk (c:Array Value) (fz:Nat×Nat):Prop:=fz=(0,0)∨c.size≤fz.1
inductive OR (ρ:Ren) (b:Blk):AObj→Obj→Prop where
 | cells (elem:Nat) (c:Tr AV) (z:List AV) (n:Nat) (op:Bool) (cs:Array Value) (fz:Nat×Nat)
   (hsize:cs.size=b.ob + b.cap) (hn:n≤b.cap) (hop:op=false→n=b.cap) (hfz:fzOk cs fz)
   (h:∀ k a,k < n→cellOf c z k=some a→∃ v,cs[b.ob + k]? = some v∧VR ρ a v):OR ρ b (.cells elem c z n op) (.cells cs elem fz)
 | map (es:List AEnt) (clock:Nat) (l:List MapEntry) (h:ERL ρ es l):OR ρ b (.map es clock) (.map l.toArray clock)
 | dfr (op:Bool):OR ρ b (.dfr op) (.deferred (if op then some [] else none))
 | loop (st:LoopState) (pend:Option Code) (T:Tr AV) (N:Nat) (ps:Array Tmp) (asg body:Code) (d fn:Nat) (tmps:Array Value) (bd:Blk)
   (hT:TR ρ T tmps) (hN:tmps.size=N) (hd:ρ d=some bd):OR ρ b (.loop st pend T N ps asg body d) (.loop { state:=st,pending:=pend,fn,tmps,params:=ps,assign:=asg,body,defers:=bd.b })
 | chan (cap:Nat) (buf:List AV) (vs:List Value) (s r:Nat) (h:VRL ρ buf vs):OR ρ b (.chan cap buf) (.chan cap vs.toArray false s r false)
 | siter (l n pos:Nat) (hob:b.ob=0) (hn:n < 256 ^ l):OR ρ b (.siter l n pos) (.stringIter (bstr l n) pos)
 | miter0 (s:Nat) (seen:Array Nat) (last:Nat) (hob:b.ob=0):OR ρ b .miter0 (.mapIter none s seen last)
 | miter (id since:Nat) (seen:List Nat) (last:Nat) (bm:Blk) (hob:b.ob=0) (hm:ρ id=some bm):OR ρ b (.miter id since seen last) (.mapIter (some bm.b) since seen.toArray last)
theorem OR.mono {ρ ρ':Ren} (hle:ρ.le ρ') {b:Blk} {a:AObj} {o:Obj} (h:OR ρ b a o):OR ρ' b a o:=by
 cases h with
 | cells elem c z n op cs fz hsize hn hop hfz h =>
  exact .cells elem c z n op cs fz hsize hn hop hfz fun k a hk ha=>let ⟨v,h1,h2⟩:=h k a hk ha;⟨v,h1,h2.mono hle⟩
 | map es clock l h=>exact .map es clock l (h.mono hle)
 | dfr op=>exact .dfr op
 | loop st pend T N ps asg body d fn tmps bd hT hN hd=>exact .loop st pend T N ps asg body d fn tmps bd (hT.mono hle) hN (hle _ _ hd)
 | chan cap buf vs s r h=>exact .chan cap buf vs s r (h.mono hle)
 | siter l n pos hob hn=>exact .siter l n pos hob hn
 | miter0 s seen last hob=>exact .miter0 s seen last hob
 | miter id since seen last bm hob hm=>exact .miter id since seen last bm hob (hle _ _ hm)
structure Env where
 tape:Nat→Question→Nat
 os:Os
 output:Array (Nat×ByteArray)
 base:Nat→Option Obj
structure Rel (E:Env) (F:Nat→Option Obj) (nx:Nat) (ρ:Ren) (h:Nat→Option AObj) (w:World):Prop where
 tape:w.tape=E.tape
 os:w.os=E.os
 output:w.output=E.output
 fr:∀ b o,F b=some o→w.heap[b]? = some o
 ob:∀ i o b,h i=some o→ρ i=some b→∃ c,w.heap[b.b]? = some c∧OR ρ b o c
 dj:∀ i o b,h i=some o→ρ i=some b→F b.b=none
 inj:∀ i j o o' b b',h i=some o→h j=some o'→ρ i=some b→ρ j=some b'→b.b=b'.b→i=j
 new:∀ i,nx≤i→ρ i=none
 gl:∀ g l,h g=some (.glob l)→∃ cs e fz,E.base g=some (.cells cs e fz)∧∀ ρ',VRL ρ' l cs.toList
 bs:∀ b o,E.base b=some o→F b=some o
theorem Rel.drew {E:Env} {F:Nat→Option Obj} {nx:Nat} {ρ:Ren} {h:Nat→Option AObj} {w:World} (r:Rel E F nx ρ h w):Rel E F nx ρ h w.drew :=
 ⟨r.tape,r.os,r.output,r.fr,r.ob,r.dj,r.inj,r.new,r.gl,r.bs⟩
theorem Rel.less {E:Env} {F:Nat→Option Obj} {nx:Nat} {ρ:Ren} {h h':Nat→Option AObj} {w:World} (r:Rel E F nx ρ h w)
  (hl:∀ i o,h' i=some o→h i=some o):Rel E F nx ρ h' w :=
 ⟨r.tape,r.os,r.output,r.fr,fun i o b hi=>r.ob i o b (hl i o hi),fun i o b hi=>r.dj i o b (hl i o hi),
  fun i j o o' b b' hi hj=>r.inj i j o o' b b' (hl i o hi) (hl j o' hj),r.new,fun g l hg=>r.gl g l (hl g _ hg),r.bs⟩
theorem Rel.nx_le {E:Env} {F:Nat→Option Obj} {nx nx':Nat} {ρ:Ren} {h:Nat→Option AObj} {w:World} (r:Rel E F nx ρ h w) (hn:nx≤nx') :
  Rel E F nx' ρ h w:={ r with new:=fun i hi=>r.new i (Nat.le_trans hn hi) }
theorem lt_of_heap {w:World} {b:Nat} {o:Obj} (h:w.heap[b]? = some o):b < w.heap.size:=(Array.getElem?_eq_some_iff.1 h).1
theorem Rel.alloc {E:Env} {F:Nat→Option Obj} {nx nx':Nat} {ρ:Ren} {h:Nat→Option AObj} {w:World} (r:Rel E F nx ρ h w)
  {i:Nat} (hi:ρ i=none) (hnx:nx≤nx') (hi':i < nx') {cap:Nat} {a:AObj} {o:Obj}
  (hor:OR (fun j=>if j=i then some ⟨w.heap.size,0,cap⟩ else ρ j) ⟨w.heap.size,0,cap⟩ a o) :
  Rel E F nx' (fun j=>if j=i then some ⟨w.heap.size,0,cap⟩ else ρ j) (fun j=>if j=i then some a else h j) (w.alloc o) ∧
  ρ.le (fun j=>if j=i then some ⟨w.heap.size,0,cap⟩ else ρ j):=by
 have hle:ρ.le (fun j=>if j=i then some ⟨w.heap.size,0,cap⟩ else ρ j):=fun j b hj=>by
  have:j≠i:=fun e=>by subst e;rw [hi] at hj;cases hj
  simp [this,hj]
 have hheap:∀ b o',w.heap[b]? = some o'→(w.alloc o).heap[b]? = some o':=fun b o' hb=>by
  have:=lt_of_heap hb
  show (w.heap.push o)[b]? = _
  rw [Array.getElem?_push,if_neg (by omega)];exact hb
 have hnew:(w.alloc o).heap[w.heap.size]? = some o:=by
  show (w.heap.push o)[w.heap.size]? = _
  rw [Array.getElem?_push,if_pos rfl]
 refine ⟨⟨r.tape,r.os,r.output,fun b o' hb=>hheap b o' (r.fr b o' hb),?_,?_,?_,?_,fun g l hg=>?_,r.bs⟩,hle⟩
 rotate_right
 ·by_cases hgi:g=i
  ·subst hgi
   simp only [if_true,Option.some.injEq] at hg
   subst hg
   cases hor
  ·simp only [hgi,if_false] at hg
   exact r.gl g l hg
 ·intro j o' b hj hb
  by_cases hji:j=i
  ·subst hji
   simp only [if_true,Option.some.injEq] at hj hb
   subst hj;subst hb
   exact ⟨o,hnew,hor⟩
  ·simp only [hji,if_false] at hj hb
   obtain ⟨c,hc,hr⟩:=r.ob j o' b hj hb
   exact ⟨c,hheap _ _ hc,hr.mono hle⟩
 ·intro j o' b hj hb
  by_cases hji:j=i
  ·subst hji
   simp only [if_true,Option.some.injEq] at hj hb
   subst hb
   cases hF:F w.heap.size with
   | none=>rfl
   | some x=>exact absurd (lt_of_heap (r.fr _ _ hF)) (Nat.lt_irrefl _)
  ·simp only [hji,if_false] at hj hb
   exact r.dj j o' b hj hb
 ·intro j k o1 o2 b1 b2 hj hk hb1 hb2 hbb
  by_cases hji:j=i <;> by_cases hki:k=i
  ·rw [hji,hki]
  ·simp only [hji,hki,if_true,if_false,Option.some.injEq] at hj hk hb1 hb2
   subst hb1
   obtain ⟨c,hc,_⟩:=r.ob k o2 b2 hk hb2
   have:=lt_of_heap hc
   simp only at hbb
   omega
  ·simp only [hji,hki,if_true,if_false,Option.some.injEq] at hj hk hb1 hb2
   subst hb2
   obtain ⟨c,hc,_⟩:=r.ob j o1 b1 hj hb1
   have:=lt_of_heap hc
   simp only at hbb
   omega
  ·simp only [hji,hki,if_false] at hj hk hb1 hb2
   exact r.inj j k o1 o2 b1 b2 hj hk hb1 hb2 hbb
 ·intro j hj
  have:j≠i:=by omega
  simp only [this,if_false]
  exact r.new j (Nat.le_trans hnx hj)
theorem Rel.put {E:Env} {F:Nat→Option Obj} {nx:Nat} {ρ:Ren} {h:Nat→Option AObj} {w w':World} (r:Rel E F nx ρ h w)
  {i:Nat} {b:Blk} {o a:AObj} {c:Obj} (hi:h i=some o) (hb:ρ i=some b) (hor:OR ρ b a c)
  (hw:∀ k,w'.heap[k]? = if k=b.b then some c else w.heap[k]?) (ht:w'.tape=w.tape) (hos:w'.os=w.os) (hout:w'.output=w.output) :
  Rel E F nx ρ (fun j=>if j=i then some a else h j) w':=by
 have hF:=r.dj i o b hi hb
 refine ⟨ht.trans r.tape,hos.trans r.os,hout.trans r.output,?_,?_,?_,?_,r.new,fun g l hg=>?_,r.bs⟩
 rotate_right
 ·by_cases hgi:g=i
  ·subst hgi
   simp only [if_true,Option.some.injEq] at hg
   subst hg
   cases hor
  ·simp only [hgi,if_false] at hg
   exact r.gl g l hg
 ·intro k o' hk
  rw [hw,if_neg (fun e=>by subst e;rw [hF] at hk;cases hk)]
  exact r.fr k o' hk
 ·intro j o' b' hj hb'
  by_cases hji:j=i
  ·subst hji
   simp only [if_true,Option.some.injEq] at hj
   subst hj
   rw [hb] at hb';cases hb'
   exact ⟨c,by rw [hw,if_pos rfl],hor⟩
  ·simp only [hji,if_false] at hj
   obtain ⟨c',hc',hr⟩:=r.ob j o' b' hj hb'
   refine ⟨c',?_,hr⟩
   rw [hw,if_neg (fun e=>hji (r.inj j i o' o b' b hj hi hb' hb e))]
   exact hc'
 ·intro j o' b' hj hb'
  by_cases hji:j=i
  ·subst hji;rw [hb] at hb';cases hb';exact hF
  ·simp only [hji,if_false] at hj;exact r.dj j o' b' hj hb'
 ·intro j k o1 o2 b1 b2 hj hk hb1 hb2 hbb
  by_cases hji:j=i <;> by_cases hki:k=i
  ·rw [hji,hki]
  ·simp only [hki,if_false] at hk
   subst hji;exact r.inj _ k o o2 b1 b2 hi hk hb1 hb2 hbb
  ·simp only [hji,if_false] at hj
   subst hki;exact r.inj j _ o1 o b1 b2 hj hi hb1 hb2 hbb
  ·simp only [hji,hki,if_false] at hj hk
   exact r.inj j k o1 o2 b1 b2 hj hk hb1 hb2 hbb
end Go.EvC
end
section
/- The evaluator, part B: numbers, texts, constants, types; operations that only compute. -/
namespace Go.EvC
noncomputable def ob {α β:Type} (x:Option α) (f:α→Option β):Option β:=Option.rec (motive:=fun _=>Option β) none f x
def gd {β:Type} (b:Bool) (x:Option β):Option β:=cond b x none
theorem ob_some {α β:Type} {x:Option α} {f:α→Option β} {y:β}:ob x f=some y↔∃ a,x=some a∧f a=some y:=by
 cases x with
 | none=>simp [ob]
 | some a=>simp [ob]
theorem gd_some {β:Type} {b:Bool} {x:Option β} {y:β}:gd b x=some y↔b=true∧x=some y:=by
 cases b <;> simp [gd]
noncomputable def fN {β:Type} (n:Nat) (k:Nat→β):β:=Nat.rec (motive:=fun _=>β) (k 0) (fun m _=>k (Nat.succ m)) n
theorem fN_eq {β:Type} (n:Nat) (k:Nat→β):fN n k=k n:=by cases n <;> rfl
noncomputable def fI {β:Type} (n:Int) (k:Int→β):β :=
 Int.rec (motive:=fun _=>β) (fun m=>fN m fun m=>k (Int.ofNat m)) (fun m=>fN m fun m=>k (Int.negSucc m)) n
theorem fI_eq {β:Type} (n:Int) (k:Int→β):fI n k=k n:=by
 cases n with
 | ofNat m=>exact fN_eq m fun m=>k (Int.ofNat m)
 | negSucc m=>exact fN_eq m fun m=>k (Int.negSucc m)
def ikN:IntKind→Nat
 | .i8=>0 | .i16=>1 | .i32=>2 | .i64=>3 | .u8=>4 | .u16=>5 | .u32=>6 | .u64=>7
def ikEq (a b:IntKind):Bool:=Nat.beq (ikN a) (ikN b)
theorem ikEq_eq {a b:IntKind} (h:ikEq a b=true):a=b:=by
 cases a <;> cases b <;> first | rfl | (exact absurd h (by decide))
def ieq:Int→Int→Bool
 | .ofNat a,.ofNat b=>Nat.beq a b
 | .negSucc a,.negSucc b=>Nat.beq a b
 | _,_=>false
def ilt:Int→Int→Bool
 | .ofNat a,.ofNat b=>Nat.blt a b
 | .negSucc _,.ofNat _=>true
 | .ofNat _,.negSucc _=>false
 | .negSucc a,.negSucc b=>Nat.blt b a
theorem nblt_eq (a b:Nat):Nat.blt a b=decide (a < b):=by
 rw [Bool.eq_iff_iff,Nat.blt_eq];simp
theorem ieq_eq (a b:Int):ieq a b=(a == b):=by
 cases a with
 | ofNat a=>cases b with
  | ofNat b =>
   rw [Bool.eq_iff_iff]
   simp only [ieq,Nat.beq_eq,beq_iff_eq]
   simp only [Int.ofNat_eq_natCast];omega
  | negSucc b=>simp [ieq]
 | negSucc a=>cases b with
  | ofNat b=>simp [ieq]
  | negSucc b =>
   rw [Bool.eq_iff_iff]
   simp only [ieq,Nat.beq_eq,beq_iff_eq]
   simp
theorem ilt_eq (a b:Int):ilt a b=decide (a < b):=by
 cases a with
 | ofNat a=>cases b with
  | ofNat b=>simp only [ilt,nblt_eq];simp
  | negSucc b=>simp [ilt];omega
 | negSucc a=>cases b with
  | ofNat b=>simp [ilt];omega
  | negSucc b=>simp only [ilt,nblt_eq];rw [decide_eq_decide];omega
theorem wrap_i64 {n:Int} (h1:-9223372036854775808≤n) (h2:n < 9223372036854775808):IntKind.i64.wrap n=n:=by
 simp only [IntKind.wrap,IntKind.bits,IntKind.signed,Bool.true_and]
 by_cases h:0≤n
 ·rw [if_neg (by simp;omega)];omega
 ·rw [if_pos (by simp;omega)];omega
theorem wrap_u8 {n:Int} (h1:0≤n) (h2:n < 256):IntKind.u8.wrap n=n:=by
 simp [IntKind.wrap,IntKind.bits,IntKind.signed];omega
def wr (k:IntKind) (n:Int):Int :=
 match k,n with
 | .i64,.ofNat m=>cond (Nat.blt m 9223372036854775808) (.ofNat m) (k.wrap n)
 | .i64,.negSucc m=>cond (Nat.blt m 9223372036854775808) (.negSucc m) (k.wrap n)
 | .u8,.ofNat m=>cond (Nat.blt m 256) (.ofNat m) (k.wrap n)
 | k,n=>k.wrap n
theorem wr_eq (k:IntKind) (n:Int):wr k n=k.wrap n:=by
 unfold wr
 split
 ·rename_i m
  rw [nblt_eq]
  by_cases h:m < 9223372036854775808
  ·rw [decide_eq_true h,cond_true,wrap_i64]
   ·simp only [Int.ofNat_eq_natCast];omega
   ·simp only [Int.ofNat_eq_natCast];omega
  ·rw [decide_eq_false h,cond_false]
 ·rename_i m
  rw [nblt_eq]
  by_cases h:m < 9223372036854775808
  ·rw [decide_eq_true h,cond_true,wrap_i64] <;> omega
  ·rw [decide_eq_false h,cond_false]
 ·rename_i m
  rw [nblt_eq]
  by_cases h:m < 256
  ·rw [decide_eq_true h,cond_true,wrap_u8]
   ·simp only [Int.ofNat_eq_natCast];omega
   ·simp only [Int.ofNat_eq_natCast];omega
  ·rw [decide_eq_false h,cond_false]
 ·rfl
theorem bytesL_length:∀ (l n:Nat),(bytesL l n).length=l
 | 0,_=>rfl
 | l + 1,n=>by simp [bytesL,bytesL_length l]
theorem bstr_size (l n:Nat):(bstr l n).size=l:=by
 show (bytesL l n).toArray.size=l
 simp [bytesL_length]
theorem bstr_data (l n:Nat):(bstr l n).data.toList=bytesL l n:=rfl
theorem bstr_toList (l n:Nat):(bstr l n).toList=bytesL l n:=by rw [ByteArray.toList_eq,bstr_data]
theorem u8_ofNat_toNat (n:Nat):(UInt8.ofNat n).toNat=n % 256:=by simp
theorem bytesL_inj:∀ (l n m:Nat),n < 256 ^ l→m < 256 ^ l→bytesL l n=bytesL l m→n=m
 | 0,n,m,hn,hm,_=>by simp at hn hm;omega
 | l + 1,n,m,hn,hm,h=>by
  simp only [bytesL,List.cons.injEq] at h
  have h1:n % 256=m % 256:=by rw [← u8_ofNat_toNat,← u8_ofNat_toNat,h.1]
  have h2:=bytesL_inj l (n / 256) (m / 256) (Nat.div_lt_of_lt_mul (by rw [Nat.pow_succ] at hn;omega)) (Nat.div_lt_of_lt_mul (by rw [Nat.pow_succ] at hm;omega)) h.2
  omega
theorem bytesL_get:∀ (l n i:Nat),i < l→(bytesL l n)[i]? = some (UInt8.ofNat (n / 256 ^ i))
 | 0,_,_,h=>by omega
 | l + 1,n,0,_=>by simp [bytesL]
 | l + 1,n,i + 1,h=>by
  simp only [bytesL,List.getElem?_cons_succ]
  rw [bytesL_get l (n / 256) i (by omega),Nat.div_div_eq_div_mul,Nat.pow_succ,Nat.mul_comm]
theorem bytesL_append:∀ (l n l' n':Nat),n < 256 ^ l→bytesL (l + l') (n + n' * 256 ^ l)=bytesL l n ++ bytesL l' n'
 | 0,n,l',n',h=>by
  have:n=0:=by simpa using h
  simp [bytesL,this]
 | l + 1,n,l',n',h=>by
  rw [show l + 1 + l'=(l + l') + 1 by omega]
  simp only [bytesL,List.cons_append]
  have e1:n' * 256 ^ (l + 1)=256 * (n' * 256 ^ l):=by rw [Nat.pow_succ];ac_rfl
  have e2:(n + n' * 256 ^ (l + 1)) / 256=n / 256 + n' * 256 ^ l:=by rw [e1];omega
  have e3:UInt8.ofNat (n + n' * 256 ^ (l + 1))=UInt8.ofNat n:=by
   apply UInt8.toNat_inj.1
   rw [u8_ofNat_toNat,u8_ofNat_toNat,e1];omega
  rw [e2,e3,bytesL_append l (n / 256) l' n' (Nat.div_lt_of_lt_mul (by rw [Nat.pow_succ] at h;omega))]
theorem bytesL_drop:∀ (k l n:Nat),(bytesL l n).drop k=bytesL (l - k) (n / 256 ^ k)
 | 0,l,n=>by simp
 | k + 1,0,n=>by simp [bytesL]
 | k + 1,l + 1,n=>by
  simp only [bytesL,List.drop_succ_cons]
  rw [bytesL_drop k l (n / 256),Nat.div_div_eq_div_mul,Nat.pow_succ,Nat.mul_comm,show l + 1 - (k + 1)=l - k by omega]
theorem bytesL_take:∀ (k l n:Nat),k≤l→(bytesL l n).take k=bytesL k (n % 256 ^ k)
 | 0,l,n,_=>by simp [bytesL]
 | k + 1,0,n,h=>by omega
 | k + 1,l + 1,n,h=>by
  simp only [bytesL,List.take_succ_cons]
  have e1:UInt8.ofNat (n % 256 ^ (k + 1))=UInt8.ofNat n:=by
   apply UInt8.toNat_inj.1
   rw [u8_ofNat_toNat,u8_ofNat_toNat,Nat.pow_succ,Nat.mul_comm,Nat.mod_mul_right_mod]
  have e2:n % 256 ^ (k + 1) / 256=n / 256 % 256 ^ k:=by
   rw [Nat.pow_succ,Nat.mul_comm,Nat.mod_mul_right_div_self]
  rw [bytesL_take k l (n / 256) (by omega),e1,e2]
theorem bstr_append (l n l' n':Nat) (h:n < 256 ^ l):bstr l n ++ bstr l' n'=bstr (l + l') (n + n' * 256 ^ l):=by
 have:(bstr l n ++ bstr l' n').data=(bstr (l + l') (n + n' * 256 ^ l)).data:=by
  rw [ByteArray.data_append]
  show (bytesL l n).toArray ++ (bytesL l' n').toArray=(bytesL (l + l') (n + n' * 256 ^ l)).toArray
  rw [bytesL_append _ _ _ _ h];simp
 cases h1:(bstr l n ++ bstr l' n');cases h2:bstr (l + l') (n + n' * 256 ^ l)
 rw [h1,h2] at this;simpa using this
theorem bstr_extract (l n a b:Nat) (hb:b≤l) (_ha:a≤b):(bstr l n).extract a b=bstr (b - a) (n / 256 ^ a % 256 ^ (b - a)):=by
 have h:((bstr l n).extract a b).data.toList=bytesL (b - a) (n / 256 ^ a % 256 ^ (b - a)):=by
  rw [Lib.extract_data,bstr_data]
  rw [List.take_drop,show a + (b - a)=b by omega] at *
  rw [show (List.take b (bytesL l n)).drop a=((bytesL l n).drop a).take (b - a) by rw [List.drop_take]]
  rw [bytesL_drop,bytesL_take _ _ _ (by omega)]
 cases hx:(bstr l n).extract a b with
 | mk d =>
  rw [hx] at h
  unfold bstr
  rw [← h]
noncomputable def packL (l:List UInt8):Nat:=List.rec (motive:=fun _=>Nat) 0 (fun c _ ih=>c.toNat + 256 * ih) l
theorem packL_lt:∀ (l:List UInt8),packL l < 256 ^ l.length
 | []=>by simp [packL]
 | c :: l=>by
  have h:=packL_lt l
  have hc:=c.toNat_lt
  show c.toNat + 256 * packL l < 256 ^ (l.length + 1)
  rw [Nat.pow_succ];omega
theorem bytesL_packL:∀ (l:List UInt8),bytesL l.length (packL l)=l
 | []=>rfl
 | c :: l=>by
  have hc:=c.toNat_lt
  show UInt8.ofNat (c.toNat + 256 * packL l) :: bytesL l.length ((c.toNat + 256 * packL l) / 256)=c :: l
  have e:(c.toNat + 256 * packL l) / 256=packL l:=by omega
  have e2:UInt8.ofNat (c.toNat + 256 * packL l)=c:=by
   apply UInt8.toNat_inj.1
   rw [u8_ofNat_toNat];omega
  rw [e,e2,bytesL_packL l]
def sltF:Nat→Nat→Nat→Nat→Bool
 | _,_,0,_=>false
 | 0,_,_ + 1,_=>true
 | l + 1,n,l' + 1,n'=>cond (Nat.blt (n % 256) (n' % 256)) true (cond (Nat.beq (n % 256) (n' % 256)) (sltF l (n / 256) l' (n' / 256)) false)
theorem sltF_eq:∀ (l n l' n':Nat),sltF l n l' n'=Op.bytesLess (bytesL l n) (bytesL l' n')
 | l,n,0,_=>by cases l <;> simp [sltF,bytesL,Op.bytesLess]
 | 0,n,l' + 1,n'=>by simp [sltF,bytesL,Op.bytesLess]
 | l + 1,n,l' + 1,n'=>by
  simp only [sltF,bytesL,Op.bytesLess]
  rw [sltF_eq l (n / 256) l' (n' / 256)]
  have e1:decide (UInt8.ofNat n < UInt8.ofNat n')=Nat.blt (n % 256) (n' % 256):=by
   rw [Bool.eq_iff_iff]
   simp [UInt8.lt_iff_toNat_lt,Nat.blt_eq]
  have e2:(UInt8.ofNat n == UInt8.ofNat n')=Nat.beq (n % 256) (n' % 256):=by
   rw [Bool.eq_iff_iff,beq_iff_eq,Nat.beq_eq,← UInt8.toNat_inj]
   simp
  rw [e1,e2]
  cases Nat.blt (n % 256) (n' % 256) <;> cases Nat.beq (n % 256) (n' % 256) <;> simp
noncomputable def ofScalar:Value→Option AV
 | .bool b=>some (.bool b)
 | .int k n=>some (.int k n)
 | .string s=>some (.str s.data.toList.length (packL s.data.toList))
 | .pointer none=>some .ptr0
 | .slice none 0 0=>some .sl0
 | .map none=>some .map0
 | .nilFunc=>some .fn0
 | .nilIface=>some .iface0
 | .chan none=>some .chan0
 | _=>none
noncomputable def ofScalars (l:List Value):Option (List AV) :=
 List.rec (motive:=fun _=>Option (List AV)) (some []) (fun v _ ih=>ob (ofScalar v) fun a=>ob ih fun r=>some (a :: r)) l
noncomputable def ofValue:Value→Option AV
 | .agg cs=>(ofScalars cs.toList).map .agg
 | .tuple vs=>match vs.toList with
  | []=>some (.tup [])
  | _=>none
 | v=>ofScalar v
theorem bstr_packL (s:ByteArray):bstr s.data.toList.length (packL s.data.toList)=s:=by
 unfold bstr;rw [bytesL_packL]
theorem ofScalar_rel {ρ:Ren} {v:Value} {a:AV} (h:ofScalar v=some a):VR ρ a v:=by
 unfold ofScalar at h
 split at h <;> first | (cases h;done) | skip
 all_goals (injection h with h;subst h)
 ·exact .bool _
 ·exact .int _ _
 ·rename_i s
  have:=VR.str (ρ:=ρ) s.data.toList.length (packL s.data.toList) (packL_lt _)
  rwa [bstr_packL] at this
 ·exact .ptr0
 ·exact .sl0
 ·exact .map0
 ·exact .fn0
 ·exact .iface0
 ·exact .chan0
theorem ofScalars_rel {ρ:Ren}:∀ {l:List Value} {r:List AV},ofScalars l=some r→VRL ρ r l
 | [],r,h=>by injection h with h;subst h;exact .nil
 | v :: l,r,h=>by
  obtain ⟨a,ha,h⟩:=ob_some.1 (show ob (ofScalar v) (fun a=>ob (ofScalars l) fun r=>some (a :: r))=some r from h)
  obtain ⟨r',hr,h⟩:=ob_some.1 h
  injection h with h;subst h
  exact .cons _ _ _ _ (ofScalar_rel ha) (ofScalars_rel hr)
theorem ofValue_rel {ρ:Ren} {v:Value} {a:AV} (h:ofValue v=some a):VR ρ a v:=by
 unfold ofValue at h
 split at h
 ·rename_i cs
  obtain ⟨r,hr,h⟩:=Option.map_eq_some_iff.1 h
  subst h
  exact .agg _ _ (ofScalars_rel hr)
 ·rename_i vs
  split at h
  ·rename_i hv
   injection h with h;subst h
   have:vs = #[]:=by simpa using hv
   subst this
   exact .tup _ _ .nil
  ·cases h
 ·exact ofScalar_rel h
noncomputable def opd (T:Tr AV):Operand→Option AV
 | .tmp t=>T.get t
 | .const v=>ofValue v
 | .func f=>some (.fn (.func f) [] [])
 | .global g=>some (.gptr g 0)
def XR (ρ:Ren) (X:Operand→Option AV) (f:Operand→Value):Prop:=∀ x a,X x=some a→VR ρ a (f x)
theorem TR.xr {ρ:Ren} {T:Tr AV} {a:Act} (h:TR ρ T a.tmps):XR ρ (opd T) a.eval:=by
 intro x v hx
 cases x with
 | tmp t =>
  obtain ⟨u,h1,h2⟩:=h t v hx
  have:a.eval (.tmp t)=u:=by simp [Act.eval,h1]
  rw [this];exact h2
 | const c=>exact ofValue_rel hx
 | func f =>
  injection hx with hx;subst hx
  exact .fn (.func f) [] [] [] [] .nil .nil
 | global g =>
  injection hx with hx;subst hx
  exact .gptr g 0
def natI (n:Nat):AV:=.int .i64 (.ofNat n)
noncomputable def evUn (op:UnOp) (x:AV):Option AV :=
 match op,x with
 | .not,.bool b=>some (.bool (!b))
 | .neg,.int k n=>fI (wr k (0 - n)) fun r=>some (.int k r)
 | _,_=>none
theorem evUn_sound {P:Program} {ρ:Ren} {op:UnOp} {x r:AV} {v:Value} (h:evUn op x=some r) (hx:VR ρ x v) (w:World) :
  ∃ u,(Op.unary op v).run P w = .ok u w∧VR ρ r u:=by
 unfold evUn at h
 split at h
 ·injection h with h;subst h;cases hx
  exact ⟨_,by simp [Op.unary],.bool _⟩
 ·rw [fI_eq] at h
  injection h with h;subst h;cases hx
  refine ⟨_,by simp [Op.unary,Op.intArith];rfl,?_⟩
  rw [wr_eq,Int.zero_sub];exact .int _ _
 ·cases h
noncomputable def evInt (op:BinOp) (k:IntKind) (a b:Int):Option AV :=
 match op with
 | .add=>fI (wr k (a + b)) fun n=>some (.int k n)
 | .sub=>fI (wr k (a - b)) fun n=>some (.int k n)
 | .mul=>fI (wr k (a * b)) fun n=>some (.int k n)
 | .quo=>gd (!ieq b 0) (fI (k.wrap (a.tdiv b)) fun n=>some (.int k n))
 | .rem=>gd (!ieq b 0) (fI (a.tmod b) fun n=>some (.int k n))
 | .and=>fI (k.wrap (BitVec.ofInt k.bits a &&& BitVec.ofInt k.bits b).toNat) fun n=>some (.int k n)
 | .or=>fI (k.wrap (BitVec.ofInt k.bits a ||| BitVec.ofInt k.bits b).toNat) fun n=>some (.int k n)
 | .xor=>fI (k.wrap (BitVec.ofInt k.bits a ^^^ BitVec.ofInt k.bits b).toNat) fun n=>some (.int k n)
 | .andNot=>fI (k.wrap (BitVec.ofInt k.bits a &&& ~~~(BitVec.ofInt k.bits b)).toNat) fun n=>some (.int k n)
 | .eql=>some (.bool (ieq a b))
 | .neq=>some (.bool (!ieq a b))
 | .lss=>some (.bool (ilt a b))
 | .leq=>some (.bool (!ilt b a))
 | .gtr=>some (.bool (ilt b a))
 | .geq=>some (.bool (!ilt a b))
 | .shl | .shr=>none
noncomputable def evShift (op:BinOp) (k:IntKind) (a b:Int):Option AV :=
 gd (!ilt b 0) (match op with
 | .shl=>fI (k.wrap (a * 2 ^ (min b.toNat k.bits))) fun n=>some (.int k n)
 | .shr=>fI (a.fdiv (2 ^ (min b.toNat k.bits))) fun n=>some (.int k n)
 | _=>none)
noncomputable def evStr (op:BinOp) (l n l' n':Nat):Option AV :=
 match op with
 | .add=>gd (Nat.blt (l + l') 9223372036854775808) (fN (l + l') fun sl=>fN (n + n' * 256 ^ l) fun sn=>some (.str sl sn))
 | .eql=>some (.bool (cond (Nat.beq l l') (Nat.beq n n') false))
 | .neq=>some (.bool (!(cond (Nat.beq l l') (Nat.beq n n') false)))
 | .lss=>some (.bool (sltF l n l' n'))
 | .leq=>some (.bool (sltF l n l' n' || cond (Nat.beq l l') (Nat.beq n n') false))
 | .gtr=>some (.bool (!(sltF l n l' n' || cond (Nat.beq l l') (Nat.beq n n') false)))
 | .geq=>some (.bool (!sltF l n l' n'))
 | _=>none
end Go.EvC
end
section
/- The evaluator, part C: operations that read at most. -/
namespace Go.EvC
def HS (ρ:Ren) (H:Tr AObj) (h:Nat→Option AObj):Prop:=∀ i o,H.get i=some o→(∃ b,ρ i=some b)∨o.isGlob=true→h i=some o
theorem HS.refl (ρ:Ren) (H:Tr AObj):HS ρ H H.get:=fun _ _ h _=>h
theorem run_v {P:Program} {s:Sem Value} {w w':World} {v:Value} (h:s.run P w = .ok v w') :
  (do pure (Next.value (← s)):Sem Next).run P w = .ok (.value v) w':=by
 simp [h]
theorem cell_of {E:Env} {F:Nat→Option Obj} {nx:Nat} {ρ:Ren} {h:Nat→Option AObj} {w:World} (r:Rel E F nx ρ h w)
  {i:Nat} {b:Blk} {el n:Nat} {c:Tr AV} {z:List AV} {op:Bool} (hi:h i=some (.cells el c z n op)) (hb:ρ i=some b)
  {k:Nat} {a:AV} (hk:k < n) (ha:cellOf c z k=some a):∃ v,w.cell? ⟨b.b,b.ob + k,none⟩=some v∧VR ρ a v:=by
 obtain ⟨o,ho,hor⟩:=r.ob i _ b hi hb
 cases hor with
 | cells elem c z n op cs fz hsize hn hop hfz hc =>
  obtain ⟨v,hv,hr⟩:=hc k a hk ha
  exact ⟨v,by simp [World.cell?,ho,hv],hr⟩
def isAggD:TypeDesc→Bool
 | .struct _=>true
 | .array _ _=>true
 | _=>false
theorem run_isAgg {P:Program} {t:TypeId} {d:TypeDesc} (h:P.underlying t=some d) (w:World):(isAgg t).run P w = .ok (isAggD d) w:=by
 cases d <;> simp [isAgg,run_underlying h,isAggD]
theorem info_of_underlying {P:Program} {t:TypeId} {d:TypeDesc} (h:P.underlying t=some d):∃ i,P.info? t=some i:=by
 unfold Program.underlying at h
 split at h
 ·exact ⟨_,by assumption⟩
 ·exact ⟨_,by assumption⟩
 ·cases h
theorem run_sizeOf' {P:Program} {t:TypeId} {d:TypeDesc} (h:P.underlying t=some d) (w:World):(sizeOf t).run P w = .ok (P.cellsOf t) w:=by
 obtain ⟨i,hi⟩:=info_of_underlying h
 exact run_sizeOf w hi
noncomputable def readL (c:Tr AV) (z:List AV) (cnt:Nat):Nat→Option (List AV) :=
 Nat.rec (motive:=fun _=>Nat→Option (List AV)) (fun _=>some [])
  (fun _ ih k=>ob (cellOf c z k) fun a=>ob (fN (k + 1) ih) fun l=>some (a :: l)) cnt
theorem readL_spec (c:Tr AV) (z:List AV):∀ (cnt k:Nat) (l:List AV),readL c z cnt k=some l →
  l.length=cnt∧∀ j a,l[j]? = some a→cellOf c z (k + j)=some a
 | 0,k,l,h=>by injection h with h;subst h;simp
 | cnt + 1,k,l,h=>by
  obtain ⟨a,ha,h⟩:=ob_some.1 (show ob (cellOf c z k) (fun a=>ob (fN (k + 1) (readL c z cnt)) fun l=>some (a :: l))=some l from h)
  obtain ⟨l',hl,h⟩:=ob_some.1 h
  rw [fN_eq] at hl
  injection h with h;subst h
  obtain ⟨h1,h2⟩:=readL_spec c z cnt (k + 1) l' hl
  refine ⟨by simp [h1],fun j b hb=>?_⟩
  cases j with
  | zero=>simp at hb;subst hb;exact ha
  | succ j =>
   have:=h2 j b (by simpa using hb)
   rwa [show k + 1 + j=k + (j + 1) by omega] at this
theorem VRL.of_get {ρ:Ren}:∀ {l:List AV} (f:Nat→Value→Prop),(∀ j a,l[j]? = some a→∃ v,f j v∧VR ρ a v) →
  ∃ vs,VRL ρ l vs∧∀ j v,vs[j]? = some v→f j v
 | [],f,_=>⟨[],.nil,by simp⟩
 | a :: l,f,h=>by
  obtain ⟨v,hv,hr⟩:=h 0 a rfl
  obtain ⟨vs,h1,h2⟩:=VRL.of_get (l:=l) (fun j=>f (j + 1)) fun j b hb=>h (j + 1) b (by simpa using hb)
  refine ⟨v :: vs,.cons _ _ _ _ hr h1,fun j u hu=>?_⟩
  cases j with
  | zero=>simp at hu;subst hu;exact hv
  | succ j=>exact h2 j u (by simpa using hu)
theorem addr_add (b o k:Nat):(⟨b,o,none⟩:Addr).add k=⟨b,o + k,none⟩:=by
 unfold Addr.add;split
 ·subst_vars;rfl
 ·rfl
noncomputable def evCells (H:Tr AObj) (id off cnt:Nat):Option (List AV) :=
 ob (H.get id) fun o=>match o with
  | .cells _ c z n _=>gd (Nat.ble (off + cnt) n) (readL c z cnt off)
  | _=>none
theorem evCells_sound {E:Env} {F:Nat→Option Obj} {nx:Nat} {ρ:Ren} {h:Nat→Option AObj} {w:World} {H:Tr AObj} (r:Rel E F nx ρ h w) (hs:HS ρ H h)
  {id off cnt:Nat} {l:List AV} {b:Blk} (hb:ρ id=some b) (hev:evCells H id off cnt=some l) :
  ∃ vs,VRL ρ l vs∧vs.length=cnt∧∀ j v,vs[j]? = some v→w.cell? (Addr.add ⟨b.b,b.ob + off,none⟩ j)=some v:=by
 obtain ⟨o,ho,hev⟩:=ob_some.1 hev
 have hi:=hs id o ho (.inl ⟨b,hb⟩)
 split at hev
 ·obtain ⟨hle,hev⟩:=gd_some.1 hev
  rw [Nat.ble_eq] at hle
  obtain ⟨h1,h2⟩:=readL_spec _ _ _ _ _ hev
  obtain ⟨vs,hv1,hv2⟩:=VRL.of_get (ρ:=ρ) (l:=l) (fun j v=>w.cell? ⟨b.b,b.ob + (off + j),none⟩=some v) fun j a ha=>by
   have hj:j < l.length:=(List.getElem?_eq_some_iff.1 ha).1
   exact cell_of r hi hb (by omega) (h2 j a ha)
  refine ⟨vs,hv1,by rw [← hv1.length,h1],fun j v hj=>?_⟩
  rw [addr_add,Nat.add_assoc];exact hv2 j v hj
 ·cases hev
noncomputable def evCell (H:Tr AObj) (id off:Nat):Option AV :=
 ob (H.get id) fun o=>match o with
  | .cells _ c z n _=>gd (Nat.blt off n) (cellOf c z off)
  | _=>none
theorem evCell_sound {E:Env} {F:Nat→Option Obj} {nx:Nat} {ρ:Ren} {h:Nat→Option AObj} {w:World} {H:Tr AObj} (r:Rel E F nx ρ h w) (hs:HS ρ H h)
  {id off:Nat} {a:AV} {b:Blk} (hb:ρ id=some b) (hev:evCell H id off=some a):∃ v,w.cell? ⟨b.b,b.ob + off,none⟩=some v∧VR ρ a v:=by
 obtain ⟨o,ho,hev⟩:=ob_some.1 hev
 have hi:=hs id o ho (.inl ⟨b,hb⟩)
 split at hev
 ·obtain ⟨hlt,hev⟩:=gd_some.1 hev
  rw [Nat.blt_eq] at hlt
  exact cell_of r hi hb hlt hev
 ·cases hev
noncomputable def evGlob (H:Tr AObj) (g off:Nat):Option AV :=
 ob (H.get g) fun o=>match o with
  | .glob l=>l[off]?
  | _=>none
theorem evGlob_sound {E:Env} {F:Nat→Option Obj} {nx:Nat} {ρ:Ren} {h:Nat→Option AObj} {w:World} {H:Tr AObj} (r:Rel E F nx ρ h w) (hs:HS ρ H h)
  {g off:Nat} {a:AV} (hev:evGlob H g off=some a):∃ v,w.cell? ⟨g,off,none⟩=some v∧VR ρ a v:=by
 obtain ⟨o,ho,hev⟩:=ob_some.1 hev
 split at hev
 ·have hi:=hs g _ ho (.inr rfl)
  obtain ⟨cs,e,fz,h1,h2⟩:=r.gl g _ hi
  obtain ⟨v,hv,hr⟩:=(h2 ρ).get off a hev
  have:=r.fr g _ (r.bs g _ h1)
  refine ⟨v,?_,hr⟩
  simp only [Array.getElem?_toList] at hv
  simp [World.cell?,this,hv]
 ·cases hev
noncomputable def evLoad (P:Program) (H:Tr AObj) (t:TypeId) (x:AV):Option AV :=
 match x with
 | .ptr id off=>ob (P.underlying t) fun d=>cond (isAggD d) (ob (evCells H id off (P.cellsOf t)) fun l=>some (.agg l)) (evCell H id off)
 | .gptr g off=>ob (P.underlying t) fun d=>gd (!isAggD d) (evGlob H g off)
 | _=>none
theorem evLoad_sound {P:Program} {E:Env} {F:Nat→Option Obj} {nx:Nat} {ρ:Ren} {h:Nat→Option AObj} {w:World} {H:Tr AObj} (r:Rel E F nx ρ h w) (hs:HS ρ H h)
  {t:TypeId} {x a:AV} {u:Value} (hx:VR ρ x u) (hev:evLoad P H t x=some a):∃ v,(Instr.loadAt t u).run P w = .ok v w∧VR ρ a v:=by
 unfold evLoad at hev
 split at hev
 ·rename_i id off
  cases hx with
  | ptr id off b hb =>
   obtain ⟨d,hd,hev⟩:=ob_some.1 hev
   cases hag:isAggD d with
   | true =>
    rw [hag,cond_true] at hev
    obtain ⟨l,hl,hev⟩:=ob_some.1 hev
    injection hev with hev;subst hev
    obtain ⟨vs,h1,h2,h3⟩:=evCells_sound r hs hb hl
    refine ⟨.agg vs.toArray,?_,.agg _ _ h1⟩
    have hld:=run_loadCells_list (P:=P) w ⟨b.b,b.ob + off,none⟩ vs h3
    rw [h2] at hld
    simp [Instr.loadAt,Instr.sureAddr,loadVar,run_isAgg hd,hag,run_sizeOf' hd,hld]
   | false =>
    rw [hag,cond_false] at hev
    obtain ⟨v,hv,hr⟩:=evCell_sound r hs hb hev
    exact ⟨v,by simp [Instr.loadAt,Instr.sureAddr,loadVar,run_isAgg hd,hag,hv],hr⟩
 ·rename_i g off
  cases hx with
  | gptr g off =>
   obtain ⟨d,hd,hev⟩:=ob_some.1 hev
   obtain ⟨hag,hev⟩:=gd_some.1 hev
   obtain ⟨v,hv,hr⟩:=evGlob_sound r hs hev
   have hag':isAggD d=false:=by simpa using hag
   exact ⟨v,by simp [Instr.loadAt,Instr.sureAddr,loadVar,run_isAgg hd,hag',hv],hr⟩
 ·cases hev
noncomputable def evPart (P:Program) (t:TypeId) (cs:List AV) (off:Nat):Option AV :=
 ob (P.underlying t) fun d=>cond (isAggD d) (some (.agg ((cs.drop off).take (P.cellsOf t)))) (cs[off]?)
theorem evPart_sound {P:Program} {ρ:Ren} {t:TypeId} {cs:List AV} {off:Nat} {a:AV} {vs:List Value} (hc:VRL ρ cs vs) (hev:evPart P t cs off=some a) (w:World) :
  ∃ v,(part t vs.toArray off).run P w = .ok v w∧VR ρ a v:=by
 obtain ⟨d,hd,hev⟩:=ob_some.1 hev
 cases hag:isAggD d with
 | true =>
  rw [hag,cond_true] at hev
  injection hev with hev;subst hev
  refine ⟨.agg ((vs.drop off).take (P.cellsOf t)).toArray,?_,.agg _ _ ((hc.drop off).take _)⟩
  simp [part,run_isAgg hd,hag,run_sizeOf' hd]
 | false =>
  rw [hag,cond_false] at hev
  obtain ⟨v,hv,hr⟩:=hc.get off a hev
  exact ⟨v,by simp [part,run_isAgg hd,hag,hv],hr⟩
noncomputable def evEqF (P:Program) (eq:TypeId→AV→AV→Option Bool) (xs ys:List AV) (fs:List Field):Option Bool :=
 List.rec (motive:=fun _=>Option Bool) (some true)
  (fun f _ ih => cond (decide (f.name = "_")) ih (ob (evPart P f.type xs f.offset) fun a => ob (evPart P f.type ys f.offset) fun b => ob (eq f.type a b) fun r => cond r ih (some false))) fs
noncomputable def evEq (P:Program) (f:Nat):TypeId→AV→AV→Option Bool :=
 Nat.rec (motive:=fun _=>TypeId→AV→AV→Option Bool) (fun _ _ _=>none)
  (fun _ ih t x y=>ob (P.underlying t) fun d =>
   match d,x,y with
   | .bool,.bool a,.bool b=>some (cond a b (!b))
   | .int _,.int k a,.int k' b=>gd (ikEq k k') (some (ieq a b))
   | .string,.str l n,.str l' n'=>some (cond (Nat.beq l l') (Nat.beq n n') false)
   | .pointer _,.ptr0,.ptr0=>some true
   | .pointer _,.ptr0,.ptr _ _=>some false
   | .pointer _,.ptr _ _,.ptr0=>some false
   | .pointer e,.ptr i o,.ptr j p=>gd (Nat.beq i j) (ob (P.underlying e) fun _=>gd (!Nat.beq (P.cellsOf e) 0) (some (Nat.beq o p)))
   | .interface _,.iface0,.iface0=>some true
   | .interface _,.iface0,.iface _ _=>some false
   | .interface _,.iface _ _,.iface0=>some false
   | .interface _,.iface tx vx,.iface ty vy=>cond (Nat.beq tx ty) (ob (P.info? tx) fun i=>gd i.comparable (ih tx vx vy)) (some false)
   | .slice _,.sl0,.sl0=>some true
   | .slice _,.sl0,.sl _ _ _ _=>some false
   | .slice _,.sl0,.slo _ _ _ _=>some false
   | .slice _,.sl _ _ _ _,.sl0=>some false
   | .slice _,.slo _ _ _ _,.sl0=>some false
   | .slice _,.sl0,.sle _=>some false
   | .slice _,.sle _,.sl0=>some false
   | .map _ _,.map0,.map0=>some true
   | .map _ _,.map0,.map _=>some false
   | .map _ _,.map _,.map0=>some false
   | .func _ _ _,.fn0,.fn0=>some true
   | .func _ _ _,.fn0,.fn _ _ _=>some false
   | .func _ _ _,.fn _ _ _,.fn0=>some false
   | .struct fs,.agg xs,.agg ys=>gd (!P.stoodInHeld t) (evEqF P ih xs ys fs.toList)
   | _,_,_=>none) f
theorem bstr_beq {l n l' n':Nat} (h:n < 256 ^ l) (h':n' < 256 ^ l') :
  ((bstr l n).toList == (bstr l' n').toList)=cond (Nat.beq l l') (Nat.beq n n') false:=by
 rw [bstr_toList,bstr_toList,Bool.eq_iff_iff,beq_iff_eq]
 constructor
 ·intro he
  have hl:l=l':=by have:=congrArg List.length he;rwa [bytesL_length,bytesL_length] at this
  subst hl
  have hn:=bytesL_inj l n n' h h' he
  subst hn
  simp
 ·intro he
  cases hl:Nat.beq l l' with
  | false=>rw [hl] at he;cases he
  | true =>
   rw [hl,cond_true,Nat.beq_eq] at he
   rw [Nat.beq_eq] at hl
   rw [hl,he]
theorem eqFields_sound {P:Program} {ρ:Ren} {eq:TypeId→AV→AV→Option Bool} {D:Nat} {w:World}
  (hq:∀ t x y b u v,eq t x y=some b→VR ρ x u→VR ρ y v→(Op.equalIn D t u v).run P w = .ok b w)
  {xs ys:List AV} {us vs:List Value} (hx:VRL ρ xs us) (hy:VRL ρ ys vs):∀ (fs:List Field) (b:Bool),
  evEqF P eq xs ys fs=some b→(Op.eqFields D us.toArray vs.toArray fs).run P w = .ok b w:=by
 intro fs
 induction fs with
 | nil=>intro b h;injection h with h;subst h;simp [Op.eqFields]
 | cons f fs ih =>
  intro b h
  have h' : cond (decide (f.name = "_")) (evEqF P eq xs ys fs) (ob (evPart P f.type xs f.offset) fun a => ob (evPart P f.type ys f.offset) fun b => ob (eq f.type a b) fun r => cond r (evEqF P eq xs ys fs) (some false)) = some b := h
  by_cases hn : f.name = "_"
  ·rw [decide_eq_true hn,cond_true] at h'
   simp [Op.eqFields,hn,ih b h']
  ·rw [decide_eq_false hn,cond_false] at h'
   obtain ⟨a,ha,h'⟩:=ob_some.1 h'
   obtain ⟨c,hc,h'⟩:=ob_some.1 h'
   obtain ⟨r,hr,h'⟩:=ob_some.1 h'
   obtain ⟨va,ha1,ha2⟩:=evPart_sound hx ha w
   obtain ⟨vc,hc1,hc2⟩:=evPart_sound hy hc w
   have he:=hq _ _ _ _ _ _ hr ha2 hc2
   cases r with
   | true=>simp [Op.eqFields,hn,ha1,hc1,he,ih b h']
   | false=>injection h' with h';subst h';simp [Op.eqFields,hn,ha1,hc1,he]
theorem fieldsOf_eq {P:Program} {t:TypeId} {fs:Array Field} (h:P.underlying t=some (.struct fs)):P.fieldsOf t=fs:=by
 simp [Program.fieldsOf,h]
set_option maxHeartbeats 1000000 in
theorem evEq_sound {P:Program} {ρ:Ren} {w:World}:∀ (f D:Nat),f≤D→∀ (t:TypeId) (x y:AV) (b:Bool) (u v:Value),evEq P f t x y=some b →
  VR ρ x u→VR ρ y v→(Op.equalIn D t u v).run P w = .ok b w:=by
 intro f
 induction f with
 | zero=>intro D _ t x y b u v h;cases h
 | succ f ih =>
  intro D hD t x y b u v h hx hy
  cases D with
  | zero=>omega
  | succ D =>
   have h0:=ob_some.1 h
   clear h
   obtain ⟨d,hd,h⟩:=h0
   have ihD:=ih D (by omega)
   split at h
   ·injection h with h;subst h;cases hx;cases hy
    rename_i a b
    simp [Op.equalIn,run_underlying hd];cases a <;> cases b <;> rfl
   ·obtain ⟨hk,h⟩:=gd_some.1 h
    injection h with h;subst h;cases hx;cases hy
    have:=ikEq_eq hk;subst this
    simp [Op.equalIn,run_underlying hd,ieq_eq]
   ·injection h with h;subst h;cases hx;cases hy
    rename_i h1 h2
    rw [← bstr_beq h1 h2]
    simp [Op.equalIn,run_underlying hd,beq_toListBytes]
   ·injection h with h;subst h;cases hx;cases hy
    simp [Op.equalIn,run_underlying hd]
   ·injection h with h;subst h;cases hx;cases hy
    simp [Op.equalIn,run_underlying hd]
   ·injection h with h;subst h;cases hx;cases hy
    simp [Op.equalIn,run_underlying hd]
   ·rename_i e i o j p
    obtain ⟨hij,h⟩:=gd_some.1 h
    obtain ⟨de,hde,h⟩:=ob_some.1 h
    obtain ⟨hz,h⟩:=gd_some.1 h
    injection h with h;subst h
    rw [Nat.beq_eq] at hij;subst hij
    cases hx with
    | ptr _ _ b1 hb1=>cases hy with
     | ptr _ _ b2 hb2 =>
      rw [hb1] at hb2;cases hb2
      have hz':P.cellsOf e≠0:=fun hh=>by rw [hh] at hz;simp at hz
      have hbeq:((⟨b1.b,b1.ob + o,none⟩:Addr) == ⟨b1.b,b1.ob + p,none⟩)=Nat.beq o p:=by
       rw [Bool.eq_iff_iff,Nat.beq_eq];simp
      simp [Op.equalIn,run_underlying hd,run_sizeOf' hde,hz',sameAddr,hbeq]
   ·injection h with h;subst h;cases hx;cases hy
    simp [Op.equalIn,run_underlying hd]
   ·injection h with h;subst h;cases hx;cases hy
    simp [Op.equalIn,run_underlying hd]
   ·injection h with h;subst h;cases hx;cases hy
    simp [Op.equalIn,run_underlying hd]
   ·rename_i tx vx ty vy
    cases hx with
    | iface _ _ ux hux=>cases hy with
     | iface _ _ uy huy =>
      cases ht:Nat.beq tx ty with
      | false =>
       rw [ht,cond_false] at h
       injection h with h;subst h
       have:tx≠ty:=fun hh=>by rw [← Nat.beq_eq,ht] at hh;cases hh
       simp [Op.equalIn,run_underlying hd,this]
      | true =>
       rw [ht,cond_true] at h
       rw [Nat.beq_eq] at ht;subst ht
       obtain ⟨i,hi,h⟩:=ob_some.1 h
       obtain ⟨hc,h⟩:=gd_some.1 h
       have:=ihD _ _ _ _ _ _ h hux huy
       simp [Op.equalIn,run_underlying hd,run_typeInfo w hi,hc,this]
   all_goals first
    | (injection h with h;subst h;cases hx;cases hy;simp [Op.equalIn,run_underlying hd];done)
    | skip
   ·obtain ⟨hs,h⟩:=gd_some.1 h
    cases hx with
    | agg _ us hus=>cases hy with
     | agg _ vs hvs =>
      have hfs:=fieldsOf_eq hd
      have hst:P.stoodInHeld t=false:=by simpa using hs
      rw [run_equalIn_struct w D t us.toArray vs.toArray (by rw [hfs];exact hd) hst,hfs]
      exact eqFields_sound (fun t x y b u v h1 h2 h3=>ihD t x y b u v h1 h2 h3) hus hvs _ _ h
   ·cases h
end Go.EvC
end
section
/- The evaluator, part D: more operations that read at most. -/
namespace Go.EvC
def plain:AV→AV→Bool
 | .int _ _,.int _ _=>false
 | .str _ _,.str _ _=>false
 | _,_=>true
theorem binOp_eql {ρ:Ren} {a b:AV} {u v:Value} (hx:VR ρ a u) (hy:VR ρ b v) (hp:plain a b=true) (t:TypeId) :
  binOp .eql t u v=(do pure (.bool (← Op.equal t u v))):=by
 cases hx <;> cases hy <;> first | rfl | (simp [plain] at hp;done)
theorem binOp_neq {ρ:Ren} {a b:AV} {u v:Value} (hx:VR ρ a u) (hy:VR ρ b v) (hp:plain a b=true) (t:TypeId) :
  binOp .neq t u v=(do pure (.bool (!(← Op.equal t u v)))):=by
 cases hx <;> cases hy <;> first | rfl | (simp [plain] at hp;done)
def isConstO:Operand→Bool
 | .const _=>true
 | _=>false
def eqOp:BinOp→Bool
 | .eql | .neq=>true
 | _=>false
def evGuard (P:Program) (op:BinOp) (t:TypeId) (cx cy:Bool) (a b:AV):Bool :=
 match a,b with
 | .iface0,.iface0=>!eqOp op || cx || cy
 | .agg _,.agg _=>!eqOp op || !P.eqGuardType P.depth t
 | _,_=>true
theorem evGuard_sound {P:Program} {ρ:Ren} {op:BinOp} {t:TypeId} {x y:Operand} {a b:AV} {u v:Value} (hx:VR ρ a u) (hy:VR ρ b v)
  (h:evGuard P op t (isConstO x) (isConstO y) a b=true) (w:World):(eqGuard op t x y u v).run P w = .ok () w:=by
 cases op
 case eql =>
  cases hx <;> cases hy <;> first
   | (simp [eqGuard];done)
   | skip
  ·cases x <;> cases y <;> first | (simp [evGuard,eqOp,isConstO] at h;done) | simp [eqGuard]
  ·simp only [evGuard,eqOp,Bool.not_true,Bool.false_or] at h
   have hm:P.eqGuardType P.depth t=false:=by simpa using h
   exact run_eqGuard_agg w .eql t x y _ _ hm
 case neq =>
  cases hx <;> cases hy <;> first
   | (simp [eqGuard];done)
   | skip
  ·cases x <;> cases y <;> first | (simp [evGuard,eqOp,isConstO] at h;done) | simp [eqGuard]
  ·simp only [evGuard,eqOp,Bool.not_true,Bool.false_or] at h
   have hm:P.eqGuardType P.depth t=false:=by simpa using h
   exact run_eqGuard_agg w .neq t x y _ _ hm
 all_goals simp [eqGuard]
noncomputable def evBin (P:Program) (op:BinOp) (t:TypeId) (cx cy:Bool) (a b:AV):Option AV :=
 gd (evGuard P op t cx cy a b) (match a,b with
  | .int k m,.int k' n=>match op with
   | .shl=>evShift .shl k m n
   | .shr=>evShift .shr k m n
   | op=>gd (ikEq k k') (evInt op k m n)
  | .str l n,.str l' n'=>evStr op l n l' n'
  | a,b=>gd (plain a b) (match op with
   | .eql=>ob (evEq P 8 t a b) fun r=>some (.bool r)
   | .neq=>ob (evEq P 8 t a b) fun r=>some (.bool (!r))
   | _=>none))
theorem evInt_sound {P:Program} {ρ:Ren} {op:BinOp} {t:TypeId} {k:IntKind} {m n:Int} {r:AV} (hs:op≠.shl) (hs':op≠.shr) (h:evInt op k m n=some r) (w:World) :
  ∃ u,(binOp op t (.int k m) (.int k n)).run P w = .ok u w∧VR ρ r u:=by
 cases op <;> simp only [evInt,fI_eq,wr_eq,ieq_eq,ilt_eq] at h <;> first
  | (exact absurd rfl hs)
  | (exact absurd rfl hs')
  | (injection h with h;subst h;refine ⟨_,?_,VR.int _ _⟩;simp [binOp,Op.intArith,Op.intBits];done)
  | (injection h with h;subst h;refine ⟨_,?_,VR.bool _⟩;simp [binOp,Op.intCmp];done)
  | skip
 ·have h0:=gd_some.1 h;clear h;obtain ⟨hz,h⟩:=h0
  injection h with h;subst h
  have hn:n≠0:=by simpa using hz
  exact ⟨_,by simp [binOp,Op.intDiv,hn],VR.int _ _⟩
 ·have h0:=gd_some.1 h;clear h;obtain ⟨hz,h⟩:=h0
  injection h with h;subst h
  have hn:n≠0:=by simpa using hz
  exact ⟨_,by simp [binOp,Op.intDiv,hn],VR.int _ _⟩
 all_goals
  injection h with h;subst h
  refine ⟨_,?_,VR.bool _⟩
  simp [binOp,Op.intCmp]
  try rfl
  try (by_cases hh:m < n <;> by_cases hh':n < m <;> simp [hh,hh'] <;> omega)
theorem evShift_sound {P:Program} {ρ:Ren} {op:BinOp} {t:TypeId} {k k':IntKind} {m n:Int} {r:AV} (h:evShift op k m n=some r) (w:World) :
  ∃ u,(binOp op t (.int k m) (.int k' n)).run P w = .ok u w∧VR ρ r u:=by
 unfold evShift at h
 have h0:=gd_some.1 h;clear h;obtain ⟨hz,h⟩:=h0
 have hn:¬ n < 0:=by simpa [ilt_eq] using hz
 split at h
 ·rw [fI_eq] at h
  injection h with h;subst h
  exact ⟨_,by simp [binOp,Op.shift,hn],VR.int _ _⟩
 ·rw [fI_eq] at h
  injection h with h;subst h
  exact ⟨_,by simp [binOp,Op.shift,hn],VR.int _ _⟩
 ·cases h
theorem evStr_sound {P:Program} {ρ:Ren} {op:BinOp} {t:TypeId} {l n l' n':Nat} {r:AV} (h1:n < 256 ^ l) (h2:n' < 256 ^ l') (h:evStr op l n l' n'=some r) (w:World) :
  ∃ u,(binOp op t (.string (bstr l n)) (.string (bstr l' n'))).run P w = .ok u w∧VR ρ r u:=by
 cases op <;> simp only [evStr,fN_eq,← bstr_beq h1 h2] at h <;> first
  | (cases h;done)
  | (injection h with h;subst h;refine ⟨_,?_,VR.bool _⟩;simp only [binOp,Op.stringOp,sltF_eq,bstr_toList,Sem.run_pure];done)
  | skip
 ·have h0:=gd_some.1 h;clear h;obtain ⟨hb,h⟩:=h0
  injection h with h;subst h
  rw [nblt_eq] at hb
  have hb':l + l' < 9223372036854775808:=by simpa using hb
  refine ⟨_,?_,VR.str _ _ ?_⟩
  ·have:¬ (((bstr l n).size + (bstr l' n').size:Nat):Int) > IntKind.i64.max:=by
    rw [bstr_size,bstr_size]
    show ¬ ((l + l':Nat):Int) > 9223372036854775807
    omega
   simp only [binOp,Op.stringOp,this,if_false,bstr_append _ _ _ _ h1,Sem.run_pure]
  ·rw [Nat.pow_add]
   have:n' + 1≤256 ^ l':=h2
   calc n + n' * 256 ^ l < 256 ^ l + n' * 256 ^ l:=by omega
    _=(n' + 1) * 256 ^ l:=by rw [Nat.add_mul,Nat.one_mul,Nat.add_comm]
    _≤256 ^ l' * 256 ^ l:=Nat.mul_le_mul_right _ this
    _=256 ^ l * 256 ^ l':=Nat.mul_comm _ _
theorem evBin_sound {P:Program} {ρ:Ren} {op:BinOp} {t:TypeId} {x y:Operand} {a b r:AV} {u v:Value} (hx:VR ρ a u) (hy:VR ρ b v)
  (h:evBin P op t (isConstO x) (isConstO y) a b=some r) (w:World) :
  ∃ z,(do eqGuard op t x y u v;binOp op t u v:Sem Value).run P w = .ok z w∧VR ρ r z:=by
 have h0:=gd_some.1 h;clear h;obtain ⟨hg,h⟩:=h0
 have hgr:=evGuard_sound hx hy hg w
 have fin:(∃ z,(binOp op t u v).run P w = .ok z w∧VR ρ r z)→∃ z,(do eqGuard op t x y u v;binOp op t u v:Sem Value).run P w = .ok z w∧VR ρ r z:=by
  rintro ⟨z,h1,h2⟩
  exact ⟨z,by simp [hgr,h1],h2⟩
 apply fin
 split at h
 ·cases hx;cases hy
  split at h
  ·exact evShift_sound h w
  ·exact evShift_sound h w
  ·rename_i hn1 hn2
   have h0:=gd_some.1 h;clear h;obtain ⟨hk,h⟩:=h0
   have:=ikEq_eq hk;subst this
   exact evInt_sound (fun e=>hn1 e) (fun e=>hn2 e) h w
 ·cases hx with
  | str _ _ h1=>cases hy with
   | str _ _ h2=>exact evStr_sound h1 h2 h w
 ·have h0:=gd_some.1 h;clear h;obtain ⟨hp,h⟩:=h0
  split at h
  ·have h0:=ob_some.1 h;clear h;obtain ⟨q,hq,h⟩:=h0
   injection h with h;subst h
   have:=evEq_sound (w:=w) 8 10000 (by omega) t _ _ q u v hq hx hy
   exact ⟨.bool q,by rw [binOp_eql hx hy hp];simp [Op.equal,Op.maxDepth,this],.bool _⟩
  ·have h0:=ob_some.1 h;clear h;obtain ⟨q,hq,h⟩:=h0
   injection h with h;subst h
   have:=evEq_sound (w:=w) 8 10000 (by omega) t _ _ q u v hq hx hy
   exact ⟨.bool (!q),by rw [binOp_neq hx hy hp];simp [Op.equal,Op.maxDepth,this],.bool _⟩
  ·cases h
noncomputable def evField (P:Program) (t:TypeId) (x:AV) (f:Nat):Option AV :=
 ob (P.underlying t) fun d=>match d,x with
  | .struct fs,.agg cs=>ob (fs[f]?) fun fd=>evPart P fd.type cs fd.offset
  | _,_=>none
theorem evField_sound {P:Program} {ρ:Ren} {t:TypeId} {x r:AV} {f:Nat} {u:Value} (hx:VR ρ x u) (h:evField P t x f=some r) (w:World) :
  ∃ v,(Instr.field t u f).run P w = .ok v w∧VR ρ r v:=by
 have h0:=ob_some.1 h;clear h;obtain ⟨d,hd,h⟩:=h0
 split at h
 ·have h0:=ob_some.1 h;clear h;obtain ⟨fd,hf,h⟩:=h0
  cases hx with
  | agg _ vs hvs =>
   obtain ⟨v,h1,h2⟩:=evPart_sound hvs h w
   exact ⟨v,by simp [Instr.field,run_underlying hd,hf,asAgg,h1],h2⟩
 ·cases h
noncomputable def evFieldAddr (P:Program) (t:TypeId) (x:AV) (f:Nat):Option AV :=
 match x with
 | .ptr id off=>ob (P.underlying t) fun d=>match d with
  | .struct fs=>ob (fs[f]?) fun fd=>ob (P.underlying fd.type) fun _=>gd (!Nat.beq (P.cellsOf fd.type) 0) (fN (off + fd.offset) fun o=>some (.ptr id o))
  | _=>none
 | _=>none
theorem evFieldAddr_sound {P:Program} {ρ:Ren} {t:TypeId} {x r:AV} {f:Nat} {u:Value} (hx:VR ρ x u) (h:evFieldAddr P t x f=some r) (w:World) :
  ∃ v,(Instr.fieldAt t u f).run P w = .ok v w∧VR ρ r v:=by
 unfold evFieldAddr at h
 split at h
 ·cases hx with
  | ptr id off b hb =>
   have h0:=ob_some.1 h;clear h;obtain ⟨d,hd,h⟩:=h0
   split at h
   ·have h0:=ob_some.1 h;clear h;obtain ⟨fd,hf,h⟩:=h0
    obtain ⟨d',hd',h⟩:=ob_some.1 h
    have h0:=gd_some.1 h;clear h;obtain ⟨hz,h⟩:=h0
    rw [fN_eq] at h
    injection h with h;subst h
    have hz':P.cellsOf fd.type≠0:=fun hh=>by rw [hh] at hz;simp at hz
    refine ⟨_,?_,.ptr _ _ b hb⟩
    simp [Instr.fieldAt,run_underlying hd,hf,Instr.sureAddr,fieldPlace,run_sizeOf' hd',hz',addr_add,Nat.add_assoc]
   ·cases h
 ·cases h
noncomputable def evIndexAddr (P:Program) (t:TypeId) (x ix:AV):Option AV :=
 match ix with
 | .int _ (.ofNat i)=>ob (P.underlying t) fun d=>match d,x with
  | .slice e,.sl id off len _=>gd (Nat.blt i len) (ob (P.underlying e) fun _=>fN (off + i * P.cellsOf e) fun o=>some (.ptr id o))
  | .slice e,.slo id off len _=>gd (Nat.blt i len) (ob (P.underlying e) fun _=>fN (off + i * P.cellsOf e) fun o=>some (.ptr id o))
  | .array len e,.ptr id off=>gd (Nat.blt i len) (ob (P.underlying e) fun _=>fN (off + i * P.cellsOf e) fun o=>some (.ptr id o))
  | .array len e,.gptr g off=>gd (Nat.blt i len) (ob (P.underlying e) fun _=>fN (off + i * P.cellsOf e) fun o=>some (.gptr g o))
  | _,_=>none
 | _=>none
theorem evIndexAddr_sound {P:Program} {ρ:Ren} {t:TypeId} {x ix r:AV} {u v:Value} (hx:VR ρ x u) (hi:VR ρ ix v) (h:evIndexAddr P t x ix=some r) (w:World) :
  ∃ z,(Instr.indexAt t u v).run P w = .ok z w∧VR ρ r z:=by
 unfold evIndexAddr at h
 split at h
 ·rename_i k i
  cases hi
  have h0:=ob_some.1 h;clear h;obtain ⟨d,hd,h⟩:=h0
  split at h
  ·have h0:=gd_some.1 h;clear h;obtain ⟨hlt,h⟩:=h0
   have h0:=ob_some.1 h;clear h;obtain ⟨de,hde,h⟩:=h0
   rw [fN_eq] at h
   injection h with h;subst h
   rw [Nat.blt_eq] at hlt
   cases hx with
   | sl id off len cap b hb =>
    refine ⟨_,?_,.ptr _ _ b hb⟩
    simp [Instr.indexAt,asIntOf,run_underlying hd,run_sizeOf' hde,hlt,addr_add,Nat.add_assoc]
  ·have h0:=gd_some.1 h;clear h;obtain ⟨hlt,h⟩:=h0
   have h0:=ob_some.1 h;clear h;obtain ⟨de,hde,h⟩:=h0
   rw [fN_eq] at h
   injection h with h;subst h
   rw [Nat.blt_eq] at hlt
   cases hx with
   | slo id off len esz b hb he hl =>
    refine ⟨_,?_,.ptr _ _ b hb⟩
    simp [Instr.indexAt,asIntOf,run_underlying hd,run_sizeOf' hde,hlt,addr_add,Nat.add_assoc]
  ·have h0:=gd_some.1 h;clear h;obtain ⟨hlt,h⟩:=h0
   have h0:=ob_some.1 h;clear h;obtain ⟨de,hde,h⟩:=h0
   rw [fN_eq] at h
   injection h with h;subst h
   rw [Nat.blt_eq] at hlt
   cases hx with
   | ptr id off b hb =>
    refine ⟨_,?_,.ptr _ _ b hb⟩
    simp [Instr.indexAt,asIntOf,run_underlying hd,run_sizeOf' hde,hlt,addr_add,Nat.add_assoc,Instr.sureAddr]
  ·have h0:=gd_some.1 h;clear h;obtain ⟨hlt,h⟩:=h0
   have h0:=ob_some.1 h;clear h;obtain ⟨de,hde,h⟩:=h0
   rw [fN_eq] at h
   injection h with h;subst h
   rw [Nat.blt_eq] at hlt
   cases hx with
   | gptr g off =>
    refine ⟨_,?_,.gptr _ _⟩
    simp [Instr.indexAt,asIntOf,run_underlying hd,run_sizeOf' hde,hlt,addr_add,Instr.sureAddr]
  ·cases h
 ·cases h
noncomputable def evIndex (P:Program) (t:TypeId) (x ix:AV):Option AV :=
 match ix with
 | .int _ (.ofNat i)=>ob (P.underlying t) fun d=>match d,x with
  | .string,.str l n=>gd (Nat.blt i l) (fN (n / 256 ^ i % 256) fun c=>some (.int .u8 (.ofNat c)))
  | .array len e,.agg cs=>gd (Nat.blt i len) (ob (P.underlying e) fun _=>evPart P e cs (i * P.cellsOf e))
  | _,_=>none
 | _=>none
theorem evIndex_sound {P:Program} {ρ:Ren} {t:TypeId} {x ix r:AV} {u v:Value} (hx:VR ρ x u) (hi:VR ρ ix v) (h:evIndex P t x ix=some r) (w:World) :
  ∃ z,(Instr.index t u v).run P w = .ok z w∧VR ρ r z:=by
 unfold evIndex at h
 split at h
 ·rename_i k i
  cases hi
  have h0:=ob_some.1 h;clear h;obtain ⟨d,hd,h⟩:=h0
  split at h
  ·rename_i l n
   have h0:=gd_some.1 h;clear h;obtain ⟨hlt,h⟩:=h0
   rw [fN_eq] at h
   injection h with h;subst h
   rw [Nat.blt_eq] at hlt
   cases hx with
   | str _ _ hn =>
    refine ⟨.int .u8 (Int.ofNat (n / 256 ^ i % 256)),?_,.int _ _⟩
    have hsz:=bstr_size l n
    have hg:((bstr l n)[i]'(by rw [hsz];exact hlt))=UInt8.ofNat (n / 256 ^ i):=by
     have h1:=bytesL_get l n i hlt
     rw [← bstr_data] at h1
     have h2:(bstr l n).data.toList[i]? = some ((bstr l n)[i]'(by rw [hsz];exact hlt)):=by
      rw [List.getElem?_eq_getElem (by rw [bstr_data,bytesL_length];exact hlt)]
      rfl
     rw [h1] at h2
     exact (Option.some.inj h2).symm
    rw [run_index_string w t (bstr l n) k (Int.ofNat i) hd,dif_pos (by rw [hsz];simp;exact hlt)]
    simp [hg]
  ·have h0:=gd_some.1 h;clear h;obtain ⟨hlt,h⟩:=h0
   have h0:=ob_some.1 h;clear h;obtain ⟨de,hde,h⟩:=h0
   rw [Nat.blt_eq] at hlt
   cases hx with
   | agg _ vs hvs =>
    obtain ⟨z,h1,h2⟩:=evPart_sound hvs h w
    exact ⟨z,by simp [Instr.index,asIntOf,run_underlying hd,run_sizeOf' hde,hlt,h1],h2⟩
  ·cases h
 ·cases h
noncomputable def evExtract (x:AV) (i:Nat):Option AV :=
 match x with
 | .tup vs=>vs[i]?
 | _=>none
theorem evExtract_sound {P:Program} {ρ:Ren} {x r:AV} {i:Nat} {u:Value} (hx:VR ρ x u) (h:evExtract x i=some r) (w:World) :
  ∃ z,(Instr.extract u i).run P w = .ok z w∧VR ρ r z:=by
 unfold evExtract at h
 split at h
 ·cases hx with
  | tup _ vs hvs =>
   obtain ⟨v,hv,hr⟩:=hvs.get i r h
   exact ⟨v,by simp [Instr.extract,hv],hr⟩
 ·cases h
end Go.EvC
end
section
/- The evaluator, part E: slices of slices, conversions, lookups, lengths; all operations that read at most. -/
namespace Go.EvC
noncomputable def xsL (X:Operand→Option AV) (l:List Operand):Option (List AV) :=
 List.rec (motive:=fun _=>Option (List AV)) (some []) (fun x _ ih=>ob (X x) fun a=>ob ih fun r=>some (a :: r)) l
theorem xsL_sound {ρ:Ren} {X:Operand→Option AV} {f:Operand→Value} (hX:XR ρ X f):∀ {l:List Operand} {r:List AV},xsL X l=some r→VRL ρ r (l.map f)
 | [],r,h=>by injection h with h;subst h;exact .nil
 | x :: l,r,h=>by
  obtain ⟨a,ha,h⟩:=ob_some.1 (show ob (X x) (fun a=>ob (xsL X l) fun r=>some (a :: r))=some r from h)
  obtain ⟨r',hr,h⟩:=ob_some.1 h
  injection h with h;subst h
  exact .cons _ _ _ _ (hX _ _ ha) (xsL_sound hX hr)
noncomputable def avNat:AV→Option Nat
 | .int _ (.ofNat i)=>some i
 | _=>none
theorem avNat_some {a:AV} {i:Nat} (h:avNat a=some i):∃ k,a = .int k (Int.ofNat i):=by
 unfold avNat at h
 split at h
 ·injection h with h;subst h;exact ⟨_,rfl⟩
 ·cases h
noncomputable def evB (X:Operand→Option AV) (x:Option Operand) (dflt lim:Nat):Option Nat :=
 match x with
 | none=>some dflt
 | some o=>ob (X o) fun a=>ob (avNat a) fun i=>gd (Nat.ble i lim) (some i)
theorem evB_some {X:Operand→Option AV} {o:Operand} {d lim i:Nat} (h:evB X (some o) d lim=some i):i≤lim∧∃ k,X o=some (.int k (Int.ofNat i)):=by
 obtain ⟨a,ha,h1⟩:=ob_some.1 (show (ob (X o) fun a=>ob (avNat a) fun i=>gd (Nat.ble i lim) (some i))=some i from h)
 obtain ⟨j,hj,h2⟩:=ob_some.1 h1
 obtain ⟨hle,h3⟩:=gd_some.1 h2
 injection h3 with h3;subst h3
 obtain ⟨k,hk⟩:=avNat_some hj
 exact ⟨by rwa [Nat.ble_eq] at hle,k,by rw [ha,hk]⟩
theorem evB_sound {P:Program} {ρ:Ren} {X:Operand→Option AV} {f:Operand→Value} (hX:XR ρ X f) {o:Operand} {d lim i:Nat} (h:evB X (some o) d lim=some i) (w:World)
  (y:Nat) (hy:lim≤y) (code:BoundsCode):(Instr.sliceBound (f o) y code).run P w = .ok i w:=by
 obtain ⟨hle,k,hk⟩:=evB_some h
 have hr:=hX _ _ hk
 generalize f o=v at hr
 cases hr
 have:((i:Int)≤(y:Int)):=by omega
 simp [Instr.sliceBound,asIntOf]
 omega
def hiLim (mx:Option Operand) (m lim:Nat):Nat :=
 match mx with
 | some _=>m
 | none=>lim
theorem sliceBounds_sound {P:Program} {ρ:Ren} {X:Operand→Option AV} {f:Operand→Value} (hX:XR ρ X f) {lo hi mx:Option Operand} {len cap lim l h m:Nat} (isS:Bool)
  (hmx:evB X mx cap lim=some m) (hlim:lim≤cap) (hhi:evB X hi len (hiLim mx m lim)=some h) (hlo:evB X lo 0 h=some l)
  (hno:mx.isSome=true→hi.isSome=true) (w:World) :
  (Instr.sliceBounds isS len cap (lo.map f) (hi.map f) (mx.map f)).run P w = .ok (l,h,m) w:=by
 unfold Instr.sliceBounds
 cases mx with
 | none =>
  injection hmx with hmx;subst hmx
  cases hi with
  | none =>
   injection hhi with hhi;subst hhi
   cases lo with
   | none=>injection hlo with hlo;subst hlo;simp
   | some o=>simp [evB_sound hX hlo w _ (Nat.le_refl _)]
  | some oh =>
   have e1:=fun c=>evB_sound (P:=P) hX hhi w cap hlim c
   cases lo with
   | none=>injection hlo with hlo;subst hlo;simp [e1]
   | some o=>simp [e1,evB_sound hX hlo w _ (Nat.le_refl _)]
 | some om =>
  have e0:=fun c=>evB_sound (P:=P) hX hmx w cap hlim c
  cases hi with
  | none=>exact absurd (hno rfl) (by simp)
  | some oh =>
   have e1:=fun c=>evB_sound (P:=P) hX hhi w m (Nat.le_refl _) c
   cases lo with
   | none=>injection hlo with hlo;subst hlo;simp [e0,e1]
   | some o=>simp [e0,e1,evB_sound hX hlo w _ (Nat.le_refl _)]
noncomputable def evSlice (P:Program) (X:Operand→Option AV) (t:TypeId) (x:AV) (lo hi mx:Option Operand):Option AV :=
 ob (P.underlying t) fun d=>gd (!mx.isSome || hi.isSome) (match d,x with
  | .string,.str len n=>gd (!mx.isSome) (ob (evB X hi len len) fun h=>ob (evB X lo 0 h) fun l =>
    fN (n / 256 ^ l % 256 ^ (h - l)) fun s=>some (.str (h - l) s))
  | .slice e,.sl id off len cap=>ob (P.underlying e) fun _=>ob (evB X mx cap cap) fun m=>ob (evB X hi len (hiLim mx m cap)) fun h=>ob (evB X lo 0 h) fun l =>
    cond (Nat.beq m l) (fN (h - l) fun n'=>some (.sl id off n' 0)) (fN (off + l * P.cellsOf e) fun o=>fN (h - l) fun n'=>fN (m - l) fun c'=>some (.sl id o n' c'))
  | .slice e,.slo id off len esz=>ob (P.underlying e) fun _=>gd (Nat.beq (P.cellsOf e) esz) (match mx with
    | none=>ob (evB X hi len len) fun h=>ob (evB X lo 0 h) fun l=>cond (Nat.blt l len || Nat.beq l 0)
      (fN (off + l * esz) fun o=>fN (h - l) fun n'=>some (.slo id o n' esz)) (some (.sle id))
    | some _=>ob (evB X mx 0 len) fun m=>ob (evB X hi len m) fun h=>ob (evB X lo 0 h) fun l =>
      cond (Nat.beq m l) (fN (h - l) fun n'=>some (.sl id off n' 0)) (fN (off + l * esz) fun o=>fN (h - l) fun n'=>fN (m - l) fun c'=>some (.sl id o n' c')))
  | .slice e,.sle id=>ob (P.underlying e) fun _=>gd (!mx.isSome) (ob (evB X hi 0 0) fun h=>ob (evB X lo 0 h) fun _=>some (.sle id))
  | .slice e,.sl0=>ob (P.underlying e) fun _=>ob (evB X mx 0 0) fun m=>ob (evB X hi 0 (hiLim mx m 0)) fun h=>ob (evB X lo 0 h) fun _=>some .sl0
  | .array n e,.ptr id off=>ob (P.underlying e) fun _=>ob (evB X mx n n) fun m=>ob (evB X hi n (hiLim mx m n)) fun h=>ob (evB X lo 0 h) fun l =>
    cond (Nat.beq m l) (fN (h - l) fun n'=>some (.sl id off n' 0)) (fN (off + l * P.cellsOf e) fun o=>fN (h - l) fun n'=>fN (m - l) fun c'=>some (.sl id o n' c'))
  | _,_=>none)
theorem evB_le {X:Operand→Option AV} {x:Option Operand} {d lim i:Nat} (hd:d≤lim) (h:evB X x d lim=some i):i≤lim:=by
 cases x with
 | none=>injection h with h;omega
 | some o=>exact (evB_some h).1
theorem sl_of {ρ:Ren} {id off l m n' esz:Nat} {b:Blk} {r:AV} (hb:ρ id=some b)
  (h:cond (Nat.beq m l) (fN n' fun n'=>some (AV.sl id off n' 0)) (fN (off + l * esz) fun o=>fN n' fun n'=>fN (m - l) fun c'=>some (AV.sl id o n' c'))=some r) :
  VR ρ r (.slice (some (if m=l then ⟨b.b,b.ob + off,none⟩ else ⟨b.b,b.ob + (off + l * esz),none⟩)) n' (m - l)):=by
 simp only [fN_eq] at h
 cases hm:Nat.beq m l with
 | true =>
  rw [hm,cond_true] at h
  injection h with h;subst h
  rw [Nat.beq_eq] at hm;subst hm
  rw [if_pos rfl,Nat.sub_self]
  exact .sl _ _ _ _ b hb
 | false =>
  rw [hm,cond_false] at h
  injection h with h;subst h
  have:m≠l:=fun e=>by rw [← Nat.beq_eq,hm] at e;cases e
  rw [if_neg this]
  exact .sl _ _ _ _ b hb
set_option maxHeartbeats 1000000 in
theorem evSlice_sound {P:Program} {ρ:Ren} {X:Operand→Option AV} {f:Operand→Value} (hX:XR ρ X f) {t:TypeId} {x r:AV} {lo hi mx:Option Operand} {u:Value} (hx:VR ρ x u)
  (h:evSlice P X t x lo hi mx=some r) (w:World):∃ z,(Instr.sliceAt t u (lo.map f) (hi.map f) (mx.map f)).run P w = .ok z w∧VR ρ r z:=by
 obtain ⟨d,hd,h1⟩:=ob_some.1 h
 clear h
 obtain ⟨hno0,h2⟩:=gd_some.1 h1
 clear h1
 have hno:mx.isSome=true→hi.isSome=true:=by
  intro hm;rw [hm] at hno0;simpa using hno0
 split at h2
 ·obtain ⟨hmx,h3⟩:=gd_some.1 h2
  obtain ⟨ih,hih,h4⟩:=ob_some.1 h3
  obtain ⟨il,hil,h5⟩:=ob_some.1 h4
  clear h2 h3 h4
  rw [fN_eq] at h5
  injection h5 with h5;subst h5
  cases mx with
  | some _=>simp at hmx
  | none =>
   cases hx with
   | str _ _ hn =>
    rename_i len n
    have hb:=sliceBounds_sound (P:=P) hX (lo:=lo) (hi:=hi) (mx:=none) (len:=len) (cap:=len) (lim:=len) false rfl (Nat.le_refl _) hih hil (by simp) w
    have h1:=evB_le (Nat.le_refl _) hih
    have h2:=evB_le (Nat.zero_le _) hil
    refine ⟨_,?_,.str _ _ (Nat.mod_lt _ (Nat.pow_pos (by decide)))⟩
    have hb':(Instr.sliceBounds false (bstr len n).size (bstr len n).size (lo.map f) (hi.map f) none).run P w = .ok (il,ih,len) w:=by
     rw [bstr_size];exact hb
    simp [Instr.sliceAt,Instr.slice,run_underlying hd,hb',bstr_extract _ _ _ _ h1 h2]
 ·obtain ⟨de,hde,h3⟩:=ob_some.1 h2
  obtain ⟨m,hm,h4⟩:=ob_some.1 h3
  obtain ⟨ih,hih,h5⟩:=ob_some.1 h4
  obtain ⟨il,hil,h6⟩:=ob_some.1 h5
  clear h2 h3 h4 h5
  cases hx with
  | sl _ _ _ _ b hb =>
   have hbs:=sliceBounds_sound (P:=P) hX true hm (Nat.le_refl _) hih hil hno w
   refine ⟨_,?_,sl_of hb h6⟩
   simp [Instr.sliceAt,Instr.slice,run_underlying hd,hbs,run_sizeOf' hde,addr_add,Nat.add_assoc]
   split <;> simp
 ·obtain ⟨de,hde,h3⟩:=ob_some.1 h2
  obtain ⟨hez,h4⟩:=gd_some.1 h3
  clear h2 h3
  rw [Nat.beq_eq] at hez
  cases hx with
  | slo _ _ _ _ b hb he hl =>
   rename_i e id off len esz
   have hcap:len≤(b.cap - off) / esz:=by
    rw [Nat.le_div_iff_mul_le he];omega
   split at h4
   ·obtain ⟨ih,hih,h5⟩:=ob_some.1 h4
    obtain ⟨il,hil,h6⟩:=ob_some.1 h5
    clear h4 h5
    have hbs:=sliceBounds_sound (P:=P) hX (lo:=lo) (hi:=hi) (mx:=none) (len:=len) (cap:=(b.cap - off) / esz) (lim:=len) true rfl hcap hih hil (by simp) w
    simp only [Option.map_none] at hbs
    have h1:=evB_le (Nat.le_refl _) hih
    have h2:=evB_le (Nat.zero_le _) hil
    cases hlt0:(Nat.blt il len || Nat.beq il 0) with
    | true =>
     rw [hlt0,cond_true] at h6
     have hlt:=hlt0
     simp only [fN_eq] at h6
     injection h6 with h6;subst h6
     have hm1:il * esz≤ih * esz:=Nat.mul_le_mul_right _ h2
     have hm2:ih * esz≤len * esz:=Nat.mul_le_mul_right _ h1
     have hm3:(ih - il) * esz=ih * esz - il * esz:=Nat.sub_mul _ _ _
     have hv:=VR.slo (ρ:=ρ) id (off + il * esz) (ih - il) esz b hb he (by omega)
     have hc:(b.cap - (off + il * esz)) / esz=(b.cap - off) / esz - il:=by
      rw [show b.cap - (off + il * esz)=b.cap - off - il * esz by omega,Nat.mul_comm,Nat.sub_mul_div]
     rw [hc] at hv
     refine ⟨_,?_,hv⟩
     by_cases h0:(b.cap - off) / esz=il
     ·have:il=0:=by
       rcases Bool.or_eq_true _ _ ▸ hlt with h | h
       ·rw [Nat.blt_eq] at h;omega
       ·rwa [Nat.beq_eq] at h
      subst this
      simp [Instr.sliceAt,Instr.slice,run_underlying hd,hbs,run_sizeOf' hde,addr_add,Nat.add_assoc,hez]
     ·simp [Instr.sliceAt,Instr.slice,run_underlying hd,hbs,run_sizeOf' hde,addr_add,Nat.add_assoc,hez,h0]
    | false =>
     rw [hlt0,cond_false] at h6
     injection h6 with h6;subst h6
     have hz:¬ il < len:=fun hh=>by rw [← Nat.blt_eq] at hh;rw [hh] at hlt0;cases hlt0
     have e1:ih - il=0:=by omega
     refine ⟨.slice (some ⟨b.b,if (b.cap - off) / esz=il then b.ob + off else b.ob + (off + il * esz),none⟩) 0 ((b.cap - off) / esz - il),?_,.sle _ _ _ _ hb⟩
     by_cases h0:(b.cap - off) / esz=il
     ·rw [h0] at hbs
      simp [Instr.sliceAt,Instr.slice,run_underlying hd,hbs,run_sizeOf' hde,addr_add,Nat.add_assoc,hez,h0,e1]
     ·simp [Instr.sliceAt,Instr.slice,run_underlying hd,hbs,run_sizeOf' hde,addr_add,Nat.add_assoc,hez,h0,e1]
   ·rename_i om
    obtain ⟨m,hm,h5⟩:=ob_some.1 h4
    obtain ⟨ih,hih,h6⟩:=ob_some.1 h5
    obtain ⟨il,hil,h7⟩:=ob_some.1 h6
    clear h4 h5 h6
    have hm':evB X (some om) ((b.cap - off) / esz) len=some m:=hm
    have hbs:=sliceBounds_sound (P:=P) hX (len:=len) true hm' hcap hih hil hno w
    refine ⟨_,?_,sl_of hb h7⟩
    simp only [Option.map_some] at hbs
    simp [Instr.sliceAt,Instr.slice,run_underlying hd,hbs,run_sizeOf' hde,addr_add,Nat.add_assoc,hez]
    split <;> simp
 ·obtain ⟨de,hde,h3⟩:=ob_some.1 h2
  obtain ⟨hmx,h4⟩:=gd_some.1 h3
  obtain ⟨ih,hih,h5⟩:=ob_some.1 h4
  obtain ⟨il,hil,h6⟩:=ob_some.1 h5
  clear h2 h3 h4 h5
  injection h6 with h6;subst h6
  cases mx with
  | some _=>simp at hmx
  | none =>
   cases hx with
   | sle _ b o c hb =>
    have hbs:=sliceBounds_sound (P:=P) hX (lo:=lo) (hi:=hi) (mx:=none) (len:=0) (cap:=c) (lim:=0) true rfl (Nat.zero_le _) hih hil (by simp) w
    simp only [Option.map_none] at hbs
    have h1:=evB_le (Nat.le_refl _) hih
    have h2:=evB_le (Nat.zero_le _) hil
    have e1:ih=0:=by omega
    have e2:il=0:=by omega
    subst e1;subst e2
    refine ⟨.slice (some ⟨b.b,o,none⟩) 0 c,?_,.sle _ _ _ _ hb⟩
    simp [Instr.sliceAt,Instr.slice,run_underlying hd,hbs,run_sizeOf' hde,addr_add]
 ·obtain ⟨de,hde,h3⟩:=ob_some.1 h2
  obtain ⟨m,hm,h4⟩:=ob_some.1 h3
  obtain ⟨ih,hih,h5⟩:=ob_some.1 h4
  obtain ⟨il,hil,h6⟩:=ob_some.1 h5
  clear h2 h3 h4 h5
  injection h6 with h6;subst h6
  cases hx
  have hbs:=sliceBounds_sound (P:=P) hX true hm (Nat.le_refl _) hih hil hno w
  have h1:=evB_le (Nat.le_refl _) hm
  have h2:ih≤0:=by
   cases mx with
   | none=>exact evB_le (Nat.le_refl _) hih
   | some _=>exact Nat.le_trans (evB_le (Nat.zero_le _) hih) h1
  have h3:=evB_le (Nat.zero_le _) hil
  have e1:m=0:=by omega
  have e2:ih=0:=by omega
  have e3:il=0:=by omega
  subst e1;subst e2;subst e3
  refine ⟨_,?_,.sl0⟩
  simp [Instr.sliceAt,Instr.slice,run_underlying hd,hbs,run_sizeOf' hde]
 ·obtain ⟨de,hde,h3⟩:=ob_some.1 h2
  obtain ⟨m,hm,h4⟩:=ob_some.1 h3
  obtain ⟨ih,hih,h5⟩:=ob_some.1 h4
  obtain ⟨il,hil,h6⟩:=ob_some.1 h5
  clear h2 h3 h4 h5
  cases hx with
  | ptr _ _ b hb =>
   have hbs:=sliceBounds_sound (P:=P) hX false hm (Nat.le_refl _) hih hil hno w
   refine ⟨_,?_,sl_of hb h6⟩
   simp [Instr.sliceAt,Instr.sureAddr,run_underlying hd,hbs,run_sizeOf' hde,addr_add,Nat.add_assoc]
 ·cases h2
noncomputable def evConv (P:Program) (src dst:TypeId) (x:AV):Option AV :=
 ob (P.underlying src) fun _=>ob (P.underlying dst) fun d=>match d,x with
  | .int k,.int _ n=>fI (wr k n) fun r=>some (.int k r)
  | .string,.str l n=>some (.str l n)
  | _,_=>none
theorem evConv_sound {P:Program} {ρ:Ren} {src dst:TypeId} {x r:AV} {u:Value} (hx:VR ρ x u) (h:evConv P src dst x=some r) (w:World) :
  ∃ z,(convert src dst u).run P w = .ok z w∧VR ρ r z:=by
 obtain ⟨ds,hds,h1⟩:=ob_some.1 h
 obtain ⟨dd,hdd,h2⟩:=ob_some.1 h1
 clear h h1
 split at h2
 ·rw [fI_eq,wr_eq] at h2
  injection h2 with h2;subst h2
  cases hx
  exact ⟨_,by simp [convert,run_underlying hds,run_underlying hdd,Conv.intToInt],.int _ _⟩
 ·injection h2 with h2;subst h2
  cases hx with
  | str _ _ hn=>exact ⟨_,by simp [convert,run_underlying hds,run_underlying hdd],.str _ _ hn⟩
 ·cases h2
noncomputable def sameK (kd:TypeDesc) (a b:AV):Option Bool :=
 match kd,a,b with
 | .int _,.int k a,.int k' b=>gd (ikEq k k') (some (ieq a b))
 | .string,.str l n,.str l' n'=>some (cond (Nat.beq l l') (Nat.beq n n') false)
 | .bool,.bool a,.bool b=>some (cond a b (!b))
 | _,_,_=>none
theorem sameK_sound {ρ:Ren} {kd:TypeDesc} {a b:AV} {u v:Value} {r:Bool} (ha:VR ρ a u) (hb:VR ρ b v) (h:sameK kd a b=some r):Instr.sameNow kd u v=some r:=by
 unfold sameK at h
 split at h
 ·obtain ⟨hk,h1⟩:=gd_some.1 h
  clear h
  have hk':=ikEq_eq hk
  subst hk'
  injection h1 with h1;subst h1
  cases ha;cases hb
  simp [Instr.sameNow,ieq_eq]
 ·injection h with h;subst h
  cases ha with
  | str _ _ h1=>cases hb with
   | str _ _ h2=>rw [← bstr_beq h1 h2];simp [Instr.sameNow,beq_toListBytes]
 ·injection h with h;subst h
  cases ha;cases hb
  rename_i a b
  cases a <;> cases b <;> rfl
 ·cases h
noncomputable def findK (kd:TypeDesc) (k:AV) (es:List AEnt):Nat→Option (Option (Nat×AV)) :=
 List.rec (motive:=fun _=>Nat→Option (Option (Nat×AV))) (fun _=>some none)
  (fun e _ ih i=>ob (sameK kd k e.key) fun r=>cond r (some (some (i,e.val))) (ih (i + 1))) es
theorem findK_sound {ρ:Ren} {kd:TypeDesc} {k:AV} {u:Value} (hk:VR ρ k u):∀ {es:List AEnt} {l:List MapEntry},ERL ρ es l→∀ (i:Nat) (r:Option (Nat×AV)),
  findK kd k es i=some r→∃ r',Instr.findNow kd u l i=some r'∧(match r with | none=>r'=none | some (j,a)=>∃ v,r'=some (j,v)∧VR ρ a v)
 | _,_,.nil,i,r,h=>by injection h with h;subst h;exact ⟨none,rfl,rfl⟩
 | _,_,.cons e m es l he hs,i,r,h=>by
  obtain ⟨s,hs',h1⟩:=ob_some.1 (show ob (sameK kd k e.key) (fun r=>cond r (some (some (i,e.val))) (findK kd k es (i + 1)))=some r from h)
  have hn:=sameK_sound hk he.1 hs'
  cases s with
  | true =>
   injection h1 with h1;subst h1
   exact ⟨some (i,m.val),by simp [Instr.findNow,hn],m.val,rfl,he.2.1⟩
  | false =>
   obtain ⟨r',h2,h3⟩:=findK_sound hk hs (i + 1) r h1
   exact ⟨r',by simp [Instr.findNow,hn,h2],h3⟩
def keyD:TypeDesc→Bool
 | .int _ | .string | .bool=>true
 | _=>false
theorem checkKey_plain {P:Program} {t:TypeId} {d:TypeDesc} (hd:P.underlying t=some d) (hk:keyD d=true) (e:Bool) (n:Nat) (v:Value) (w:World) :
  (Instr.checkKey e (n + 1) t v).run P w = .ok () w:=by
 cases d <;> first | (cases hk;done) | (simp [Instr.checkKey,run_underlying hd])
noncomputable def zeroAV (P:Program) (t:TypeId):Option AV:=ob (P.info? t) fun i=>ob i.zero fun z=>ofValue z
theorem zeroAV_sound {P:Program} {t:TypeId} {a:AV} (h:zeroAV P t=some a) (w:World):∃ z,(zeroValue t).run P w = .ok z w∧∀ ρ:Ren,VR ρ a z:=by
 obtain ⟨i,hi,h1⟩:=ob_some.1 h
 obtain ⟨z,hz,h2⟩:=ob_some.1 h1
 exact ⟨z,by simp [zeroValue,run_typeInfo w hi,hz],fun ρ=>ofValue_rel h2⟩
noncomputable def scE (a b:AV):Bool :=
 match a,b with
 | .bool p,.bool q=>cond p q (!q)
 | .int k m,.int k' n=>cond (ikEq k k') (ieq m n) false
 | .str l m,.str l' n=>cond (Nat.beq l l') (Nat.beq m n) false
 | _,_=>false
noncomputable def scL (l:List AV):List AV→Bool :=
 List.rec (motive:=fun _=>List AV→Bool) (fun m=>List.rec (motive:=fun _=>Bool) true (fun _ _ _=>false) m)
  (fun a _ ih m=>List.rec (motive:=fun _=>Bool) false (fun b m' _=>cond (scE a b) (ih m') false) m) l
noncomputable def scA (a b:AV):Bool:=match a,b with
 | .agg l,.agg m=>scL l m
 | _,_=>false
theorem scE_val {ρ:Ren} {a b:AV} {u v:Value} (h:scE a b=true) (hu:VR ρ a u) (hv:VR ρ b v):u=v∧∀ n,Instr.sameBits n u u=true:=by
 unfold scE at h
 split at h
 ·rename_i p q
  cases hu;cases hv
  refine ⟨?_,fun n=>by cases n <;> simp [Instr.sameBits]⟩
  cases p <;> cases q <;> first | rfl | cases h
 ·rename_i k m k' n
  cases hk:ikEq k k' with
  | false=>rw [hk] at h;cases h
  | true =>
   rw [hk,cond_true,ieq_eq] at h
   have:=ikEq_eq hk
   subst this
   have:m=n:=by simpa using h
   subst this
   cases hu;cases hv
   exact ⟨rfl,fun n=>by cases n <;> simp [Instr.sameBits]⟩
 ·rename_i l m l' n
  cases hk:Nat.beq l l' with
  | false=>rw [hk] at h;cases h
  | true =>
   rw [hk,cond_true] at h
   have:=Nat.eq_of_beq_eq_true hk
   subst this
   have:=Nat.eq_of_beq_eq_true h
   subst this
   cases hu;cases hv
   exact ⟨rfl,fun n=>by cases n <;> simp [Instr.sameBits,beq_toListBytes]⟩
 ·cases h
theorem scL_val {ρ:Ren}:∀ {l m:List AV} {us vs:List Value},scL l m=true→VRL ρ l us→VRL ρ m vs→us=vs∧∀ x∈us,∀ n,Instr.sameBits n x x=true
 | [],[],_,_,_,.nil,.nil=>⟨rfl,fun _ h=>by cases h⟩
 | [],_ :: _,_,_,h,_,_=>by cases h
 | _ :: _,[],_,_,h,_,_=>by cases h
 | a :: l,b :: m,_,_,h,.cons _ u _ us hu hus,.cons _ v _ vs hv hvs=>by
  have h':cond (scE a b) (scL l m) false=true:=h
  cases hb:scE a b with
  | false=>rw [hb] at h';cases h'
  | true =>
   rw [hb,cond_true] at h'
   obtain ⟨h1,h2⟩:=scE_val hb hu hv
   obtain ⟨h3,h4⟩:=scL_val h' hus hvs
   refine ⟨by rw [h1,h3],fun x hx=>?_⟩
   rcases List.mem_cons.1 hx with rfl | hx
   ·exact h2
   ·exact h4 x hx
theorem scA_val {ρ:Ren} {a b:AV} {u v:Value} (h:scA a b=true) (hu:VR ρ a u) (hv:VR ρ b v):u=v∧Instr.sameBits 10000 u u=true:=by
 unfold scA at h
 split at h
 ·cases hu with
  | agg _ us hus=>cases hv with
   | agg _ vs hvs =>
    obtain ⟨h1,h2⟩:=scL_val h hus hvs
    refine ⟨by rw [h1],?_⟩
    show Instr.sameBits (9999 + 1) _ _=true
    simp only [Instr.sameBits,beq_self_eq_true,Bool.true_and,List.all_eq_true]
    intro p hp
    obtain ⟨i,hi,e⟩:=List.getElem_of_mem hp
    rw [List.getElem_zip] at e
    rw [← e]
    exact h2 _ (List.getElem_mem _) 9999
 ·cases h
noncomputable def checkF (P:Program) (rec:TypeId→AV→Bool) (cs:List AV) (fs:List Field):Bool :=
 List.rec (motive := fun _ => Bool) true (fun f _ ih => cond (decide (f.name = "_")) ih (Option.rec (motive := fun _ => Bool) false (fun a => cond (rec f.type a) ih false) (evPart P f.type cs f.offset))) fs
noncomputable def checkS (P:Program) (rec:TypeId→AV→Bool) (d:TypeDesc) (a:AV):Bool:=match d,a with
 | .struct fs,.agg cs=>checkF P rec cs fs.toList
 | _,_=>false
noncomputable def checkK (P:Program) (n:Nat):TypeId→AV→Bool :=
 Nat.rec (motive:=fun _=>TypeId→AV→Bool) (fun _ _=>false) (fun _ ih t a=>Option.rec (motive:=fun _=>Bool) false (fun d=>cond (keyD d) true (checkS P ih d a)) (P.underlying t)) n
theorem checkK_sound {P:Program} {ρ:Ren} {w:World} (e:Bool):∀ (n m:Nat) (t:TypeId) (a:AV) (v:Value),checkK P n t a=true→n≤m→VR ρ a v→(Instr.checkKey e m t v).run P w = .ok () w
 | 0,_,_,_,_,h,_,_=>by cases h
 | n + 1,0,_,_,_,_,h,_=>by omega
 | n + 1,m + 1,t,a,v,h,hm,hv=>by
  cases hd:P.underlying t with
  | none =>
   have h':Option.rec (motive:=fun _=>Bool) false (fun d=>cond (keyD d) true (checkS P (checkK P n) d a)) (P.underlying t)=true:=h
   rw [hd] at h';cases h'
  | some d =>
   have h':Option.rec (motive:=fun _=>Bool) false (fun d=>cond (keyD d) true (checkS P (checkK P n) d a)) (P.underlying t)=true:=h
   rw [hd] at h'
   cases hk:keyD d with
   | true=>exact checkKey_plain hd hk e m v w
   | false =>
    have h2:cond (keyD d) true (checkS P (checkK P n) d a)=true:=h'
    rw [hk,cond_false] at h2
    unfold checkS at h2
    split at h2
    ·rename_i fs cs
     cases hv with
     | agg _ vs hvs =>
      simp only [Instr.checkKey,Sem.run_bind,run_underlying hd,Result.andThen_ok]
      rw [← Array.forIn_toList]
      clear hd hk h h'
      revert h2
      generalize fs.toList=L
      intro h2
      induction L with
      | nil=>simp
      | cons f L ih =>
       have h3 : cond (decide (f.name = "_")) (checkF P (checkK P n) cs L) (Option.rec (motive := fun _ => Bool) false (fun a => cond (checkK P n f.type a) (checkF P (checkK P n) cs L) false) (evPart P f.type cs f.offset)) = true := h2
       by_cases hn : f.name = "_"
       ·rw [decide_eq_true hn,cond_true] at h3
        simp only [List.forIn_cons,Sem.run_bind,hn,ne_eq,not_true_eq_false,if_false,Result.andThen_ok,Sem.run_pure]
        exact ih h3
       ·rw [decide_eq_false hn,cond_false] at h3
        cases hp:evPart P f.type cs f.offset with
        | none=>rw [hp] at h3;cases h3
        | some x =>
         rw [hp] at h3
         have h4:cond (checkK P n f.type x) (checkF P (checkK P n) cs L) false=true:=h3
         cases hx:checkK P n f.type x with
         | false=>rw [hx] at h4;cases h4
         | true =>
          rw [hx,cond_true] at h4
          obtain ⟨xv,h5,h6⟩:=evPart_sound hvs hp w
          have h7:=checkK_sound (w:=w) e n m f.type x xv hx (by omega) h6
          simp only [List.forIn_cons,Sem.run_bind,hn,ne_eq,not_false_eq_true,if_true,Result.andThen_ok,h5,h7,Sem.run_pure]
          exact ih h4
    ·cases h2
def FoundR (ρ:Ren) (r:Option (Nat×AV)) (r':Option (Nat×Value)):Prop:=match r with
 | none=>r'=none
 | some (j,a)=>∃ v,r'=some (j,v)∧VR ρ a v
noncomputable def findS (P:Program) (t:TypeId) (k:AV) (es:List AEnt):Nat→Option (Option (Nat×AV)) :=
 List.rec (motive:=fun _=>Nat→Option (Option (Nat×AV))) (fun _=>some none)
  (fun e _ ih i=>ob (evEq P 8 t k e.key) fun r=>cond r (some (some (i,e.val))) (ih (i + 1))) es
theorem findS_sound {P:Program} {ρ:Ren} {t:TypeId} {k:AV} {u:Value} (hk:VR ρ k u) (w:World):∀ {es:List AEnt} {l:List MapEntry},ERL ρ es l→∀ (i:Nat) (r:Option (Nat×AV)),
  findS P t k es i=some r→∃ r',(Instr.findAsking t u l i).run P w = .ok r' w∧FoundR ρ r r'
 | _,_,.nil,i,r,h=>by injection h with h;subst h;exact ⟨none,rfl,rfl⟩
 | _,_,.cons e m es l he hs,i,r,h=>by
  obtain ⟨s,hs',h1⟩:=ob_some.1 (show ob (evEq P 8 t k e.key) (fun r=>cond r (some (some (i,e.val))) (findS P t k es (i + 1)))=some r from h)
  have hn:(Op.equal t u m.key).run P w = .ok s w:=evEq_sound 8 Op.maxDepth (by decide) t _ _ s _ _ hs' hk he.1
  cases s with
  | true =>
   injection h1 with h1;subst h1
   exact ⟨some (i,m.val),by simp [Instr.findAsking,hn],m.val,rfl,he.2.1⟩
  | false =>
   obtain ⟨r',h2,h3⟩:=findS_sound hk w hs (i + 1) r h1
   exact ⟨r',by simp [Instr.findAsking,hn,h2],h3⟩
def isStru:TypeDesc→Bool
 | .struct _=>true
 | _=>false
noncomputable def keyOK (P:Program) (key:TypeId) (kd:TypeDesc) (k:AV):Bool:=cond (keyD kd) true (checkK P 8 key k)
noncomputable def findM (P:Program) (key:TypeId) (kd:TypeDesc) (k:AV) (es:List AEnt):Option (Option (Nat×AV)):=cond (keyD kd) (findK kd k es 0) (gd (isStru kd) (findS P key k es 0))
theorem keyOK_sound {P:Program} {ρ:Ren} {key:TypeId} {kd:TypeDesc} {k:AV} {u:Value} (hd:P.underlying key=some kd) (h:keyOK P key kd k=true) (hk:VR ρ k u) (e:Bool) (w:World):(Instr.checkKey e 10000 key u).run P w = .ok () w:=by
 unfold keyOK at h
 cases hb:keyD kd with
 | true=>exact checkKey_plain hd hb e 9999 u w
 | false=>rw [hb,cond_false] at h;exact checkK_sound e 8 10000 key k u h (by decide) hk
theorem findM_sound {P:Program} {ρ:Ren} {key:TypeId} {kd:TypeDesc} {k:AV} {u:Value} (hd:P.underlying key=some kd) (hk:VR ρ k u) (w:World) {es:List AEnt} {l:List MapEntry} (hl:ERL ρ es l) {r:Option (Nat×AV)}
  (h:findM P key kd k es=some r):∃ r',(Instr.findKey key u l).run P w = .ok r' w∧FoundR ρ r r':=by
 unfold findM at h
 cases hb:keyD kd with
 | true =>
  rw [hb,cond_true] at h
  obtain ⟨r',h1,h2⟩:=findK_sound hk hl 0 r h
  exact ⟨r',by simp [Instr.findKey,run_underlying hd,h1],h2⟩
 | false =>
  rw [hb,cond_false] at h
  obtain ⟨hs,h1⟩:=gd_some.1 h
  cases kd <;> first | (cases hs;done) | skip
  obtain ⟨r',h2,h3⟩:=findS_sound (P:=P) (t:=key) hk w hl 0 r h1
  refine ⟨r',?_,h3⟩
  cases l with
  | nil=>simpa [Instr.findKey,run_underlying hd,Instr.findNow,Instr.findAsking] using h2
  | cons e l=>simpa [Instr.findKey,run_underlying hd,Instr.findNow,Instr.sameNow] using h2
noncomputable def evLookup (P:Program) (H:Tr AObj) (t:TypeId) (m k:AV) (ok:Bool):Option AV :=
 ob (P.underlying t) fun d=>match d with
  | .map key elem=>ob (P.underlying key) fun kd=>gd (keyOK P key kd k) (ob (match m with
    | .map0=>some []
    | .map id=>ob (H.get id) fun o=>match o with
     | .map es _=>some es
     | _=>none
    | _=>none) fun es=>ob (findM P key kd k es) fun r=>ob (match r with
     | some (_,v)=>some (v,true)
     | none=>ob (zeroAV P elem) fun z=>some (z,false)) fun p=>some (cond ok (.tup [p.1,.bool p.2]) p.1))
  | _=>none
theorem evLookup_sound {P:Program} {E:Env} {F:Nat→Option Obj} {nx:Nat} {ρ:Ren} {h:Nat→Option AObj} {w:World} {H:Tr AObj} (r:Rel E F nx ρ h w) (hs:HS ρ H h)
  {t:TypeId} {m k a:AV} {ok:Bool} {u v:Value} (hm:VR ρ m u) (hk:VR ρ k v) (hev:evLookup P H t m k ok=some a):∃ z,(Instr.lookup t u v ok).run P w = .ok z w∧VR ρ a z:=by
 obtain ⟨d,hd,h1⟩:=ob_some.1 hev
 clear hev
 split at h1
 ·rename_i key elem
  obtain ⟨kd,hkd,h2⟩:=ob_some.1 h1
  obtain ⟨hkk,h3⟩:=gd_some.1 h2
  obtain ⟨es,hes,h4⟩:=ob_some.1 h3
  obtain ⟨fr,hfr,h5⟩:=ob_some.1 h4
  obtain ⟨p,hp,h6⟩:=ob_some.1 h5
  clear h1 h2 h3 h4 h5
  injection h6 with h6;subst h6
  have fin:∀ l:List MapEntry,ERL ρ es l→(u = .map none∧l=[]∨∃ b clock,u = .map (some b)∧w.heap[b]? = some (.map l.toArray clock)) →
    ∃ z,(Instr.lookup t u v ok).run P w = .ok z w∧VR ρ (cond ok (.tup [p.1,.bool p.2]) p.1) z:=by
   intro l hl hu
   obtain ⟨r',hfn,hr'⟩:=findM_sound hkd hk w hl hfr
   have hck:=fun e=>keyOK_sound hkd hkk hk e w
   split at hp
   ·rename_i j val
    injection hp with hp;subst hp
    obtain ⟨z,hz,hzr⟩:=hr'
    subst hz
    cases ok with
    | true =>
     refine ⟨.tuple #[z,.bool true],?_,.tup _ [z,.bool true] (.cons _ _ _ _ hzr (.cons _ _ _ _ (.bool true) .nil))⟩
     rcases hu with ⟨rfl,rfl⟩ | ⟨b,clock,rfl,hb⟩
     ·simp [Instr.lookup,run_underlying hd,hck,hfn]
     ·simp [Instr.lookup,run_underlying hd,hck,hfn,getObj,Sem.run,hb]
    | false =>
     refine ⟨z,?_,hzr⟩
     rcases hu with ⟨rfl,rfl⟩ | ⟨b,clock,rfl,hb⟩
     ·simp [Instr.lookup,run_underlying hd,hck,hfn]
     ·simp [Instr.lookup,run_underlying hd,hck,hfn,getObj,Sem.run,hb]
   ·obtain ⟨z,hz,h8⟩:=ob_some.1 hp
    injection h8 with h8;subst h8
    have hr0:r'=none:=hr'
    subst hr0
    obtain ⟨zv,hzv,hzr⟩:=zeroAV_sound hz w
    cases ok with
    | true =>
     refine ⟨.tuple #[zv,.bool false],?_,.tup _ [zv,.bool false] (.cons _ _ _ _ (hzr ρ) (.cons _ _ _ _ (.bool false) .nil))⟩
     rcases hu with ⟨rfl,rfl⟩ | ⟨b,clock,rfl,hb⟩
     ·simp [Instr.lookup,run_underlying hd,hck,hfn,hzv]
     ·simp [Instr.lookup,run_underlying hd,hck,hfn,getObj,Sem.run,hb,hzv]
    | false =>
     refine ⟨zv,?_,hzr ρ⟩
     rcases hu with ⟨rfl,rfl⟩ | ⟨b,clock,rfl,hb⟩
     ·simp [Instr.lookup,run_underlying hd,hck,hfn,hzv]
     ·simp [Instr.lookup,run_underlying hd,hck,hfn,getObj,Sem.run,hb,hzv]
  split at hes
  ·injection hes with hes;subst hes
   cases hm
   exact fin [] .nil (.inl ⟨rfl,rfl⟩)
  ·obtain ⟨o,ho,h7⟩:=ob_some.1 hes
   cases hm with
   | map _ b hb =>
    obtain ⟨c,hc,hor⟩:=r.ob _ o b (hs _ o ho (.inl ⟨b,hb⟩)) hb
    split at h7
    ·injection h7 with h7;subst h7
     cases hor with
     | map es clock l hl=>exact fin l hl (.inr ⟨_,_,rfl,hc⟩)
    ·cases h7
  ·cases hes
 ·cases h1
end Go.EvC
end
section
/- The evaluator, part F: all operations that read at most, and those that make a block. -/
namespace Go.EvC
noncomputable def evLen (P:Program) (H:Tr AObj) (t:TypeId) (x:AV):Option AV :=
 ob (P.underlying t) fun d=>match d,x with
  | .string,.str l _=>some (natI l)
  | .slice _,.sl0=>some (natI 0)
  | .slice _,.sl _ _ n _=>some (natI n)
  | .slice _,.slo _ _ n _=>some (natI n)
  | .slice _,.sle _=>some (natI 0)
  | .array n _,_=>some (natI n)
  | .map _ _,.map0=>some (natI 0)
  | .map _ _,.map id=>ob (H.get id) fun o=>match o with
   | .map es _=>some (natI es.length)
   | _=>none
  | _,_=>none
theorem evLen_sound {P:Program} {E:Env} {F:Nat→Option Obj} {nx:Nat} {ρ:Ren} {h:Nat→Option AObj} {w:World} {H:Tr AObj} (r:Rel E F nx ρ h w) (hs:HS ρ H h)
  {t:TypeId} {x a:AV} {u:Value} (hx:VR ρ x u) (hev:evLen P H t x=some a) (ts us:Array _) (ty:TypeId) (ht:ts[0]? = some t) (hu:us[0]? = some u) :
  ∃ z,(Builtin.len_ ts ty us).run P w = .ok z w∧VR ρ a z:=by
 obtain ⟨d,hd,h1⟩:=ob_some.1 hev
 clear hev
 split at h1
 ·injection h1 with h1;subst h1;cases hx
  exact ⟨_,by simp [Builtin.len_,ht,hu,run_underlying hd,bstr_size,goInt],.int _ _⟩
 ·injection h1 with h1;subst h1;cases hx
  exact ⟨_,by simp [Builtin.len_,ht,hu,run_underlying hd,goInt],.int _ _⟩
 ·injection h1 with h1;subst h1;cases hx
  exact ⟨_,by simp [Builtin.len_,ht,hu,run_underlying hd,goInt],.int _ _⟩
 ·injection h1 with h1;subst h1;cases hx
  exact ⟨_,by simp [Builtin.len_,ht,hu,run_underlying hd,goInt],.int _ _⟩
 ·injection h1 with h1;subst h1;cases hx
  exact ⟨_,by simp [Builtin.len_,ht,hu,run_underlying hd,goInt],.int _ _⟩
 ·injection h1 with h1;subst h1
  exact ⟨_,by simp [Builtin.len_,ht,hu,run_underlying hd,goInt],.int _ _⟩
 ·injection h1 with h1;subst h1;cases hx
  exact ⟨_,by simp [Builtin.len_,ht,hu,run_underlying hd,goInt],.int _ _⟩
 ·obtain ⟨o,ho,h2⟩:=ob_some.1 h1
  cases hx with
  | map _ b hb =>
   obtain ⟨c,hc,hor⟩:=r.ob _ o b (hs _ o ho (.inl ⟨b,hb⟩)) hb
   split at h2
   ·injection h2 with h2;subst h2
    cases hor with
    | map es clock l hl =>
     exact ⟨_,by simp [Builtin.len_,ht,hu,run_underlying hd,goInt,getObj,Sem.run,hc,← hl.length],.int _ _⟩
   ·cases h2
 ·cases h1
noncomputable def evCap (P:Program) (t:TypeId) (x:AV):Option AV :=
 ob (P.underlying t) fun d=>match d,x with
  | .slice _,.sl0=>some (natI 0)
  | .slice _,.sl _ _ _ c=>some (natI c)
  | _,_=>none
theorem evCap_sound {P:Program} {ρ:Ren} {t:TypeId} {x a:AV} {u:Value} (hx:VR ρ x u) (hev:evCap P t x=some a) (ts us:Array _) (ty:TypeId) (ht:ts[0]? = some t) (hu:us[0]? = some u) (w:World) :
  ∃ z,(Builtin.cap_ ts ty us).run P w = .ok z w∧VR ρ a z:=by
 obtain ⟨d,hd,h1⟩:=ob_some.1 hev
 clear hev
 split at h1
 ·injection h1 with h1;subst h1;cases hx
  exact ⟨_,by simp [Builtin.cap_,ht,hu,run_underlying hd,goInt],.int _ _⟩
 ·injection h1 with h1;subst h1;cases hx
  exact ⟨_,by simp [Builtin.cap_,ht,hu,run_underlying hd,goInt],.int _ _⟩
 ·cases h1
noncomputable def evMin (xs:List AV):Option AV :=
 match xs with
 | [.int k x,.int _ y]=>some (.int k (cond (ilt y x) y x))
 | _=>none
noncomputable def evMax (xs:List AV):Option AV :=
 match xs with
 | [.int k x,.int _ y]=>some (.int k (cond (ilt x y) y x))
 | _=>none
theorem evMin_sound {P:Program} {ρ:Ren} {xs:List AV} {a:AV} {us:List Value} (hx:VRL ρ xs us) (h:evMin xs=some a) (ts:Array TypeId) (ty:TypeId) (w:World) :
  ∃ z,(Builtin.min_ ts ty us.toArray).run P w = .ok z w∧VR ρ a z:=by
 unfold evMin at h
 split at h
 ·injection h with h;subst h
  cases hx with
  | cons _ _ _ _ h1 hs=>cases hs with
   | cons _ _ _ _ h2 hs=>cases hs;cases h1;cases h2;exact ⟨_,by simp [Builtin.min_,Builtin.min2,ilt_eq,Bool.cond_eq_ite],.int _ _⟩
 ·cases h
theorem evMax_sound {P:Program} {ρ:Ren} {xs:List AV} {a:AV} {us:List Value} (hx:VRL ρ xs us) (h:evMax xs=some a) (ts:Array TypeId) (ty:TypeId) (w:World) :
  ∃ z,(Builtin.max_ ts ty us.toArray).run P w = .ok z w∧VR ρ a z:=by
 unfold evMax at h
 split at h
 ·injection h with h;subst h
  cases hx with
  | cons _ _ _ _ h1 hs=>cases hs with
   | cons _ _ _ _ h2 hs=>cases hs;cases h1;cases h2;exact ⟨_,by simp [Builtin.max_,Builtin.max2,ilt_eq,Bool.cond_eq_ite],.int _ _⟩
 ·cases h
noncomputable def evBi (P:Program) (H:Tr AObj) (b:Builtin) (ts:List TypeId) (xs:List AV):Option AV :=
 match b with
 | .len=>ob (ts[0]?) fun t=>ob (xs[0]?) fun x=>evLen P H t x
 | .cap=>ob (ts[0]?) fun t=>ob (xs[0]?) fun x=>evCap P t x
 | .min=>evMin xs
 | .max=>evMax xs
 | _=>none
theorem evBi_sound {P:Program} {E:Env} {F:Nat→Option Obj} {nx:Nat} {ρ:Ren} {h:Nat→Option AObj} {w:World} {H:Tr AObj} (r:Rel E F nx ρ h w) (hs:HS ρ H h)
  {b:Builtin} {ts:List TypeId} {xs:List AV} {a:AV} {us:List Value} (hx:VRL ρ xs us) (hev:evBi P H b ts xs=some a) (ty:TypeId) (cs:Array Bool) :
  ∃ z,(builtin b ts.toArray ty cs us.toArray).run P w = .ok (.value z) w∧VR ρ a z:=by
 unfold evBi at hev
 split at hev
 ·obtain ⟨t,ht,h1⟩:=ob_some.1 hev
  obtain ⟨x,hx1,h2⟩:=ob_some.1 h1
  obtain ⟨u,hu,hr⟩:=hx.get 0 x hx1
  obtain ⟨z,h3,h4⟩:=evLen_sound r hs hr h2 ts.toArray us.toArray ty (by simpa using ht) (by simpa using hu)
  exact ⟨z,by simp [builtin,h3],h4⟩
 ·obtain ⟨t,ht,h1⟩:=ob_some.1 hev
  obtain ⟨x,hx1,h2⟩:=ob_some.1 h1
  obtain ⟨u,hu,hr⟩:=hx.get 0 x hx1
  obtain ⟨z,h3,h4⟩:=evCap_sound (P:=P) hr h2 ts.toArray us.toArray ty (by simpa using ht) (by simpa using hu) w
  exact ⟨z,by simp [builtin,h3],h4⟩
 ·obtain ⟨z,h3,h4⟩:=evMin_sound (P:=P) hx hev ts.toArray ty w
  exact ⟨z,by simp [builtin,h3],h4⟩
 ·obtain ⟨z,h3,h4⟩:=evMax_sound (P:=P) hx hev ts.toArray ty w
  exact ⟨z,by simp [builtin,h3],h4⟩
 ·cases hev
theorem map_toArray {α β:Type} (a:Array α) (f:α→β):(a.toList.map f).toArray=a.map f:=by
 rw [← Array.toList_map,Array.toArray_toList]
def isMethodFn:Fn→Bool
 | .method _=>true
 | _=>false
noncomputable def evNil (x:AV):Option AV :=
 match x with
 | .ptr id off=>some (.ptr id off)
 | .iface t v=>some (.iface t v)
 | .fn f a c=>gd (!isMethodFn f) (some (.fn f a c))
 | .yld id=>some (.yld id)
 | _=>none
theorem evNil_sound {ρ:Ren} {a r:AV} {u:Value} (ha:VR ρ a u) (h:evNil a=some r) :
  r=a∧∀ (o:Oper) (f:Operand→Value) (x:Operand),o.op = .nilCheck x→f x=u→execOp f o=pure (.value u):=by
 cases ha <;> simp only [evNil] at h <;> first | (cases h;done) | skip
 ·injection h with h;subst h
  exact ⟨rfl,fun o f x ho hf=>by simp [execOp,ho,hf]⟩
 ·rename_i fn _ _ _ _ _ _
  obtain ⟨hm,h⟩:=gd_some.1 h
  injection h with h;subst h
  refine ⟨rfl,fun o f x ho hf=>?_⟩
  cases fn <;> first | (simp [isMethodFn] at hm;done) | simp [execOp,ho,hf]
 ·injection h with h;subst h
  exact ⟨rfl,fun o f x ho hf=>by simp [execOp,ho,hf]⟩
 ·injection h with h;subst h
  exact ⟨rfl,fun o f x ho hf=>by simp [execOp,ho,hf]⟩
def isIfaceD:TypeDesc→Bool
 | .interface _=>true
 | _=>false
noncomputable def evPure (P:Program) (H:Tr AObj) (X:Operand→Option AV) (op:Op):Option AV :=
 match op with
 | .move x=>X x
 | .assign x=>X x
 | .pick c a b=>ob (X c) fun v=>match v with
  | .bool t=>cond t (X a) (X b)
  | _=>none
 | .load t a=>ob (X a) fun x=>evLoad P H t x
 | .nilCheck x=>ob (X x) evNil
 | .binOp op t x y _=>ob (X x) fun a=>ob (X y) fun b=>evBin P op t (isConstO x) (isConstO y) a b
 | .unOp op _ x=>ob (X x) fun a=>evUn op a
 | .convert s d x=>ob (X x) fun a=>evConv P s d a
 | .makeInterface t x=>ob (X x) fun a=>ob (P.underlying t) fun d=>gd (!isIfaceD d) (some (.iface t a))
 | .makeFunc fn first captured=>ob (xsL X first.toList) fun a=>ob (xsL X captured.toList) fun c=>some (.fn fn a c)
 | .slice t x lo hi mx=>ob (X x) fun a=>evSlice P X t a lo hi mx
 | .fieldAddr t x f=>ob (X x) fun a=>evFieldAddr P t a f
 | .field t x f=>ob (X x) fun a=>evField P t a f
 | .indexAddr t x i=>ob (X x) fun a=>ob (X i) fun b=>evIndexAddr P t a b
 | .index t x i=>ob (X x) fun a=>ob (X i) fun b=>evIndex P t a b
 | .lookup t x i ok=>ob (X x) fun a=>ob (X i) fun b=>evLookup P H t a b ok
 | .extract x i=>ob (X x) fun a=>evExtract a i
 | .call c=>match c.callee with
  | .builtin b=>ob (xsL X c.args.toList) fun xs=>evBi P H b c.argTypes.toList xs
  | _=>none
 | _=>none
set_option maxHeartbeats 1000000 in
theorem evPure_sound {P:Program} {E:Env} {F:Nat→Option Obj} {nx:Nat} {ρ:Ren} {h:Nat→Option AObj} {w:World} {H:Tr AObj} (r:Rel E F nx ρ h w) (hs:HS ρ H h)
  {X:Operand→Option AV} {f:Operand→Value} (hX:XR ρ X f) (o:Oper) {a:AV} (hev:evPure P H X o.op=some a) :
  ∃ v,(execOp f o).run P w = .ok (.value v) w∧VR ρ a v:=by
 obtain ⟨dst,op,type,pos,after,guard⟩:=o
 simp only at hev
 cases op <;> simp only [evPure] at hev <;> first | (cases hev;done) | skip
 case move x=>exact ⟨_,rfl,hX _ _ hev⟩
 case assign x=>exact ⟨_,rfl,hX _ _ hev⟩
 case pick c x y =>
  obtain ⟨v,hv,h1⟩:=ob_some.1 hev
  have hc:=hX _ _ hv
  split at h1
  ·rename_i t
   generalize hfc:f c=u at hc
   cases hc
   cases t
   ·exact ⟨_,by simp [execOp,hfc,asBool],hX _ _ h1⟩
   ·exact ⟨_,by simp [execOp,hfc,asBool],hX _ _ h1⟩
  ·cases h1
 case load t x =>
  obtain ⟨v,hv,h1⟩:=ob_some.1 hev
  obtain ⟨z,h2,h3⟩:=evLoad_sound r hs (hX _ _ hv) h1
  exact ⟨z,run_v h2,h3⟩
 case nilCheck x =>
  obtain ⟨v,hv,h1⟩:=ob_some.1 hev
  have hc:=hX _ _ hv
  obtain ⟨rfl,h2⟩:=evNil_sound hc h1
  exact ⟨f x,by rw [h2 { dst,op:=.nilCheck x,type,pos,after,guard } f x rfl rfl];rfl,hc⟩
 case binOp op t x y yt =>
  obtain ⟨v,hv,h1⟩:=ob_some.1 hev
  obtain ⟨v',hv',h2⟩:=ob_some.1 h1
  obtain ⟨z,h3,h4⟩:=evBin_sound (P:=P) (hX _ _ hv) (hX _ _ hv') h2 w
  exact ⟨z,run_v h3,h4⟩
 case unOp op t x =>
  obtain ⟨v,hv,h1⟩:=ob_some.1 hev
  obtain ⟨z,h3,h4⟩:=evUn_sound (P:=P) h1 (hX _ _ hv) w
  exact ⟨z,run_v h3,h4⟩
 case convert s d x =>
  obtain ⟨v,hv,h1⟩:=ob_some.1 hev
  obtain ⟨z,h3,h4⟩:=evConv_sound (P:=P) (hX _ _ hv) h1 w
  exact ⟨z,run_v h3,h4⟩
 case makeInterface t x =>
  obtain ⟨v,hv,h1⟩:=ob_some.1 hev
  obtain ⟨d,hd,h2⟩:=ob_some.1 h1
  obtain ⟨hi,h3⟩:=gd_some.1 h2
  injection h3 with h3;subst h3
  refine ⟨_,run_v ?_,.iface _ _ _ (hX _ _ hv)⟩
  cases d <;> first | (simp [isIfaceD] at hi;done) | simp [Instr.makeInterface,run_underlying hd]
 case makeFunc fn first captured =>
  obtain ⟨xs,hxs,h1⟩:=ob_some.1 hev
  obtain ⟨ys,hys,h2⟩:=ob_some.1 h1
  injection h2 with h2;subst h2
  have h3:=VR.fn (ρ:=ρ) fn xs ys _ _ (xsL_sound hX hxs) (xsL_sound hX hys)
  rw [map_toArray,map_toArray] at h3
  exact ⟨_,run_v rfl,h3⟩
 case slice t x lo hi mx =>
  obtain ⟨v,hv,h1⟩:=ob_some.1 hev
  obtain ⟨z,h3,h4⟩:=evSlice_sound (P:=P) hX (hX _ _ hv) h1 w
  exact ⟨z,run_v h3,h4⟩
 case fieldAddr t x i =>
  obtain ⟨v,hv,h1⟩:=ob_some.1 hev
  obtain ⟨z,h3,h4⟩:=evFieldAddr_sound (P:=P) (hX _ _ hv) h1 w
  exact ⟨z,run_v h3,h4⟩
 case field t x i =>
  obtain ⟨v,hv,h1⟩:=ob_some.1 hev
  obtain ⟨z,h3,h4⟩:=evField_sound (P:=P) (hX _ _ hv) h1 w
  exact ⟨z,run_v h3,h4⟩
 case indexAddr t x i =>
  obtain ⟨v,hv,h1⟩:=ob_some.1 hev
  obtain ⟨v',hv',h2⟩:=ob_some.1 h1
  obtain ⟨z,h3,h4⟩:=evIndexAddr_sound (P:=P) (hX _ _ hv) (hX _ _ hv') h2 w
  exact ⟨z,run_v h3,h4⟩
 case index t x i =>
  obtain ⟨v,hv,h1⟩:=ob_some.1 hev
  obtain ⟨v',hv',h2⟩:=ob_some.1 h1
  obtain ⟨z,h3,h4⟩:=evIndex_sound (P:=P) (hX _ _ hv) (hX _ _ hv') h2 w
  exact ⟨z,run_v h3,h4⟩
 case lookup t x i ok =>
  obtain ⟨v,hv,h1⟩:=ob_some.1 hev
  obtain ⟨v',hv',h2⟩:=ob_some.1 h1
  obtain ⟨z,h3,h4⟩:=evLookup_sound r hs (hX _ _ hv) (hX _ _ hv') h2
  exact ⟨z,run_v h3,h4⟩
 case extract x i =>
  obtain ⟨v,hv,h1⟩:=ob_some.1 hev
  obtain ⟨z,h3,h4⟩:=evExtract_sound (P:=P) (hX _ _ hv) h1 w
  exact ⟨z,run_v h3,h4⟩
 case call c =>
  obtain ⟨callee,args,argTypes⟩:=c
  simp only at hev
  split at hev
  ·obtain ⟨xs,hxs,h1⟩:=ob_some.1 hev
   obtain ⟨z,h2,h3⟩:=evBi_sound r hs (xsL_sound hX hxs) h1 type (args.map fun | .const _=>true | _=>false)
   refine ⟨z,?_,h3⟩
   rw [map_toArray,Array.toArray_toList] at h2
   simp only [execOp,resolve,Sem.run_bind,Sem.run_pure,Result.andThen_ok,invoke]
   exact h2
  ·cases hev
end Go.EvC
end
