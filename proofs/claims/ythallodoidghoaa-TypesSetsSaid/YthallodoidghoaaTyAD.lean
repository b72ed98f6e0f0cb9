/- Laid by program out of its parts: TyAD. -/
import Derived.Test.YthallodoidghoaaTyAC
import Derived.Test.YthallodoidghoaaMh
import Derived.OpenShut
set_option linter.unusedVariables false
set_option linter.unusedSimpArgs false
set_option maxRecDepth 100000
set_option maxHeartbeats 2000000
open Go Go.Ev
namespace Go.Proofs.Ythallodoidghoaa
noncomputable def eK:Tr AObj→List AV→Option Ct:=fun _ args=>match args with
 | []=>some (.need True (.ret (.bool true)))
 | _=>none
noncomputable def SSd:Stn:=thin Nat [0,1] (fun i=>[(5,.int .i64 i)]) (fun _ i=>i≤1000000) fun i=>1000000 - i
theorem small_of {L:List LT} (h:MuchNot L):LSmall L:=⟨by have:=h.len;omega,fun i=>by
 rcases Nat.lt_or_ge i L.length with hi | hi
 ·have:=h.text i hi;omega
 ·rw [List.getD_eq_getElem?_getD,List.getElem?_eq_none hi];exact Nat.zero_le _⟩
theorem names_m {L:List LT} {x:LN} (h:NamesOK L x) (hl:L.length≤200):MOK L x.M:=⟨by omega,h.mlen,fun j hj=>by
 obtain ⟨a,b,c⟩:=h.mn j hj
 exact ⟨a,by omega⟩⟩
theorem names_t {L:List LT} {x:LN} (h:NamesOK L x):T5OK L x:=⟨fun j hj hk=>by
 have:=(h.mn j hj).2.2 hk
 rw [h.gl];exact this⟩
theorem qt_len {L:List LT} {x:LN} {o:List Int} {w:List (Int×Int×Int)} (h:QT L x o w):o.length≤L.length∧w.length≤L.length:=by
 obtain ⟨X,W,hT,a1,a2⟩:=h.q
 have hwl:=hT.wl
 have hxl:=hT.ok.xl
 by_cases e:W=[]
 ·obtain ⟨rfl,rfl⟩:=a2 e
  exact ⟨by omega,Nat.zero_le _⟩
 ·obtain ⟨rfl,rfl⟩:=a1 e
  exact ⟨Nat.zero_le _,by rw [List.length_reverse];omega⟩
theorem lt_arg {H:Type} {enc:TypeId×Value→H} {w:World} (cs:List Value) (m:Nat) (x:DataW H×List MemPlace)
  (h:DataW.trod enc Try.prog w 0 (fun _=>true) true m 40 cs=some x):∃ a:LT,VRL (wRen w) a.row cs:=by
 obtain ⟨xs,n,_,rfl,hl,hlen,hf⟩:=DataW.trod_struct Try.underlying40 h
 have hlc:cs.length=6:=hl.trans (by kernel_rfl)
 clear h
 match xs,hlen with
 | [y0,y1,y2,y3,y4,y5],_ =>
 match cs,hlc with
 | [v0,v1,v2,v3,v4,v5],_ =>
 have h0:DataW.trod enc Try.prog w 0 (fun _=>true) true n 38 [v0]=some y0:=by
  have c:Try.prog.cellsOf 38=1:=by kernel_rfl
  simpa [c] using hf 0 _ rfl
 obtain ⟨z0,e0,_,_⟩:=DataW.trod_int (k:=.i64) (by kernel_rfl) h0
 injection e0 with e0 _
 subst e0
 have h1:DataW.trod enc Try.prog w 0 (fun _=>true) true n 9 [v1]=some y1:=by
  have c:Try.prog.cellsOf 9=1:=by kernel_rfl
  simpa [c] using hf 1 _ rfl
 obtain ⟨s1,e1,_,_⟩:=DataW.trod_string (by kernel_rfl) h1
 injection e1 with e1 _
 subst e1
 obtain ⟨z1,rfl⟩:∃ l:List UInt8,s1=⟨l.toArray⟩:=⟨s1.data.toList,by simp⟩
 have h2:DataW.trod enc Try.prog w 0 (fun _=>true) true n 2 [v2]=some y2:=by
  have c:Try.prog.cellsOf 2=1:=by kernel_rfl
  simpa [c] using hf 2 _ rfl
 obtain ⟨z2,e2,_,_⟩:=DataW.trod_int (k:=.i64) (by kernel_rfl) h2
 injection e2 with e2 _
 subst e2
 have h3:DataW.trod enc Try.prog w 0 (fun _=>true) true n 3 [v3]=some y3:=by
  have c:Try.prog.cellsOf 3=1:=by kernel_rfl
  simpa [c] using hf 3 _ rfl
 obtain ⟨z3,e3,_,_⟩:=DataW.trod_int (k:=.i64) (by kernel_rfl) h3
 injection e3 with e3 _
 subst e3
 have h4:DataW.trod enc Try.prog w 0 (fun _=>true) true n 3 [v4]=some y4:=by
  have c:Try.prog.cellsOf 3=1:=by kernel_rfl
  simpa [c] using hf 4 _ rfl
 obtain ⟨z4,e4,_,_⟩:=DataW.trod_int (k:=.i64) (by kernel_rfl) h4
 injection e4 with e4 _
 subst e4
 have h5:DataW.trod enc Try.prog w 0 (fun _=>true) true n 28 [v5]=some y5:=by
  have c:Try.prog.cellsOf 28=1:=by kernel_rfl
  simpa [c] using hf 5 _ rfl
 obtain ⟨z5,r5⟩:=ints_arg (k:=.i64) (e:=3) (by kernel_rfl) (by kernel_rfl) (by kernel_rfl) h5
 exact ⟨⟨z0,z1,z2,z3,z4,z5⟩,.cons _ _ _ _ (.int _ _) (.cons _ _ _ _ (.bs _) (.cons _ _ _ _ (.int _ _) (.cons _ _ _ _ (.int _ _) (.cons _ _ _ _ (.int _ _) (.cons _ _ _ _ r5 .nil)))))⟩
theorem tree_arg {H:Type} {enc:TypeId×Value→H} {w:World} (cs:List Value) (m:Nat) (x:DataW H×List MemPlace)
  (h:DataW.trod enc Try.prog w 0 (fun _=>true) true m 24 cs=some x):∃ L:List LT,VRL (wRen w) [AV.vec 6 L.length (rowT L)] cs:=by
 obtain ⟨xs,n,_,rfl,hl,hlen,hf⟩:=DataW.trod_struct Try.underlying24 h
 have hlc:cs.length=1:=hl.trans (by kernel_rfl)
 clear h
 match xs,hlen with
 | [y0],_ =>
 match cs,hlc with
 | [v0],_ =>
 have h0:DataW.trod enc Try.prog w 0 (fun _=>true) true n 22 [v0]=some y0:=by
  have c:Try.prog.cellsOf 22=1:=by kernel_rfl
  simpa [c] using hf 0 _ rfl
 obtain ⟨l,r⟩:=vec_argR (row:=LT.row) (d:=LT.none) (esz:=6) (e:=40) (by decide) (by kernel_rfl) (by kernel_rfl) (fun cs m x h=>lt_arg cs m x h) h0
 exact ⟨l,.cons _ _ _ _ r .nil⟩
end Go.Proofs.Ythallodoidghoaa
