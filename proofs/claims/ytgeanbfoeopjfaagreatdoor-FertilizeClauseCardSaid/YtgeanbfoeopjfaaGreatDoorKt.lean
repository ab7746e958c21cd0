import Derived.Test.YtgeanbfoeopjfaaGreatDoorKn
import Derived.Test.YtgeanbfoeopjfaaGreatDoorKs
import Derived.Test.YtgeanbfoeopjfaaGreatDoorProg
import Derived.Lib.Walk
import Derived.WalkKit
import Derived.KernelRfl
set_option linter.unusedVariables false
set_option linter.unusedSimpArgs false
set_option linter.constructorNameAsVariable false
namespace Go.Rf
open Go.AI Go.Proofs Go.RowKit
theorem bsz: ∃j,Tryz.prog.info? 281=some j∧j.size=2:=by
 have h:(Tryz.prog.info? 281).map (·.size)=some 2:=by kernel_rfl
 exact mjE.1 h
set_option maxHeartbeats 1000000 in
set_option maxRecDepth 100000 in
theorem aEB(b:Nat)(w:World)(h0:w.cell? ⟨b,0,none⟩=some (.pointer none))(hsh:w.shape? b=some (281,2))(hfz:w.frozen? ⟨b,0,none⟩=false):
    Calls Tryz.prog 257 #[.pointer (some ⟨b,0,none⟩)] w fun e w'=>e= .returned (.tuple #[])∧w'=w.setCell ⟨b,0,none⟩ (.pointer (some ⟨b,0,none⟩)):=by
 obtain⟨j,hj,hjs⟩:=bsz;have hlies:liesAt Tryz.prog Tryz.prog.depth 281 (2/Tryz.prog.cellsOf 281) 0 281 1=true:=by kernel_rfl
 go_enter Tryz.func257,Tryz.ntmps257
 go_wp2
 rw[Lib.run_to_unsafe w ⟨b,0,none⟩ Tryz.underlying279 Tryz.underlying302 hj (by rw[hjs];decide) hsh (Nat.zero_lt_succ 1)]
 simp only[Result.andThen];rw[Oper.upon_value]
 go_wp2
 rw[run_callFunc_extern Tryz.func270 (by kernel_rfl) (by kernel_rfl) (by kernel_rfl) (e:=Extern.AbiNoEscape.same) (by kernel_rfl)]
 rw[Lib.run_noEscape];simp only[Result.andThen];rw[Oper.upon_value]
 go_wp2
 rw[Lib.run_from_unsafe w ⟨b,0,none⟩ Tryz.underlying302 Tryz.underlying279 hj hsh hlies];simp only[Result.andThen];rw[Oper.upon_value]
 go_wp2
 go_end0
 exact⟨rfl,rfl⟩
theorem aHF(B b:Nat)(w:World)(h:Lib.BuilderAt 281 5 B b (.pointer none) [] w):
    Calls Tryz.prog 257 #[.pointer (some ⟨b,0,none⟩)] w fun e w'=>e= .returned (.tuple #[])∧(Lib.BuilderAt 281 5 B b (.pointer (some ⟨b,0,none⟩)) [] w'∧Below B w w'):=by
 refine(aEB b w h.cell0 h.shape h.frozen0).mono ?_;rintro e w' ⟨rfl,rfl⟩;exact⟨rfl,h.used _,(Below.refl B w).setCell (p:=⟨b,0,none⟩) h.1 _⟩
theorem infoB: ∃i0,Tryz.prog.info? 5=some i0∧i0.zero=some (.int .u8 0)∧i0.size=1∧i0.bytes=1:=
 info_parts (by kernel_rfl)
set_option maxHeartbeats 2000000 in
set_option maxRecDepth 100000 in
theorem zZ(B b:Nat)(s:ByteArray)(w:World)(h:Lib.BuilderAt 281 5 B b (.pointer none) [] w)(hlen:s.size≤140737488355328)(hBw:B≤w.heap.size):
    Calls Tryz.prog 240 #[.pointer (some ⟨b,0,none⟩),.string s] w fun e w'=>e= .returned (.tuple #[.int .i64 s.size,.nilIface])∧(Lib.BuilderAt 281 5 B b (.pointer (some ⟨b,0,none⟩)) (Lib.strCells s) w'∧Below B w w'):=by
 obtain⟨i0,hi,hz0,hz1,hz2⟩:=infoB;have t37:=Tryz.underlying22;have t9:=Tryz.underlying9
 go_enter Tryz.func240,Tryz.ntmps240
 go_wp2_with (go_at_call 257;refine(aHF B b _ h).mono ?_)
 rintro e w1 ⟨rfl,h1,hb1⟩;clear h;obtain⟨hB,v,hbk,hown,hne⟩:=h1;have c0:w1.cell? ⟨b,0,none⟩=some (.pointer (some ⟨b,0,none⟩)):=by rw[Lib.cell_of_heap hbk];rfl
 have c1:w1.cell? ⟨b,1,none⟩=some v:=by rw[Lib.cell_of_heap hbk];rfl
 go_wp2_with (at_builtin;refine Lib.wpList_append_own_string _ rfl _ _ 22 9 rfl B 5 i0 t37 t9 hi hz0 hz1 hz2 _ _ _ rfl hown s rfl ?c3 ?c4 ?c5 ?_)
 case c3=>simp only[maxLen,lnN];omega
 case c4=>simp only[lnN];omega
 case c5=>have:=hb1.size;omega
 intro v' w2 hown' hgrow _;have hlt:b<w1.heap.size:=by
  rcases Nat.lt_or_ge b w1.heap.size with h'|h'
  ·exact h'
  ·simp[Array.getElem?_eq_none h']at hbk
 have hb2:w2.heap[b]?=some (.cells #[.pointer (some ⟨b,0,none⟩),v] 281 (0,0)):=by
  rw[hgrow.block b hlt (fun e=>hne e.symm)]
  exact hbk
 have d0:w2.cell? ⟨b,0,none⟩=some (.pointer (some ⟨b,0,none⟩)):=by rw[Lib.cell_of_heap hb2];rfl
 have d1:w2.cell? ⟨b,1,none⟩=some v:=by rw[Lib.cell_of_heap hb2];rfl
 have f1:w2.frozen? ⟨b,1,none⟩=false:=Lib.frozen_of_heap hb2 1;obtain⟨ao,n',cap,rfl⟩: ∃ao n' cap,v'= .slice ao n' cap:=by
  rcases hown'.2 with⟨hv,_⟩|⟨g,cap,cur,hv,_⟩
  ·exact⟨_,_,_,hv⟩
  ·exact⟨_,_,_,hv⟩
 go_wp2
 go_ret2
 refine⟨rfl,?_,?_⟩
 ·exact Lib.BuilderAt.put (T:=281) (e:=5) hB hb2 (bs':=Lib.strCells s) (by simpa [Lib.strCells_length]using hown') (by decide)
 ·exact(hb1.grown hgrow (by have:=hb1.size;omega) (fun k hk=>(hown.lt k hk).1)).setCell (p:=⟨b,1,none⟩) hB _
theorem dd1:Lib.decDigits 1=[49]:=by
 first|(unfold Lib.decDigits;rfl)|(unfold Lib.decDigits;simp)|decide+kernel
theorem aF0(h:Array Obj)(x y:Obj):((h.push x).push y)[h.size+1]?=some y∧((h.push x).push y)[h.size]?=some x∧(∀k,k<h.size→((h.push x).push y)[k]?=h[k]?)∧((h.push x).push y).size=h.size+2:=by
 refine⟨?_,?_,fun k hk=>?_,by simp⟩
 ·rw[Array.getElem?_push,if_pos (by simp)]
 ·rw[Array.getElem?_push,if_neg (by simp),Array.getElem?_push,if_pos rfl]
 ·rw[Array.getElem?_push,if_neg (by simp;omega),Array.getElem?_push,if_neg (by omega)]
set_option maxHeartbeats 2000000 in
set_option maxRecDepth 100000 in
theorem aD3(b o cap:Nat)(w:World)(C:Array Value)(t:TypeId)(fr:Nat×Nat)(hb:w.heap[b]?=some (.cells C t fr))(hc:C[o]?=some (.int .u32 1))
    (cs:Array Value) (g0:cs[0]?=some (.bool false)) (g1:cs[1]?=some (.slice (some ⟨b,o,none⟩) 1 cap)):Calls Tryz.prog 222 #[.agg cs] w fun e w'=>e= .returned (.string ⟨#[49]⟩)∧Below w.heap.size w w':=by
 have c0:w.cell? ⟨b,o,none⟩=some (.int .u32 1):=by rw[Lib.cell_of_heap hb];exact hc
 have hlt:b<w.heap.size:=by
  rcases Nat.lt_or_ge b w.heap.size with h'|h'
  ·exact h'
  ·simp[Array.getElem?_eq_none h']at hb
 clear hb hc;have a0:(w.alloc (.cells cs 259)).cell? ⟨w.heap.size,0,none⟩=some (.bool false):=by
  have:(w.alloc (.cells cs 259)).heap[w.heap.size]?=some (.cells cs 259):=by show(w.heap.push _)[w.heap.size]?=_;simp
  rw[Lib.cell_of_heap this];exact g0
 have a1:(w.alloc (.cells cs 259)).cell? ⟨w.heap.size,1,none⟩=some (.slice (some ⟨b,o,none⟩) 1 cap):=by
  have:(w.alloc (.cells cs 259)).heap[w.heap.size]?=some (.cells cs 259):=by show(w.heap.push _)[w.heap.size]?=_;simp
  rw[Lib.cell_of_heap this];exact g1
 go_enter Tryz.func222,Tryz.ntmps222
 go_wp2_with (first
  |(go_at_call 166;refine(Tryz.strconv_Itoa_small 1 (by decide) _).mono ?_)
  |(go_at_call 240;fail))
 rintro e w' ⟨rfl,rfl⟩;have ed:=dd1;have hh:((w.alloc (.cells cs 259)).alloc (.cells #[.pointer none,.slice none 0 0] 281)).heap=(w.heap.push (.cells cs 259)).push (.cells #[.pointer none,.slice none 0 0] 281):=rfl;have ho:((w.alloc (.cells cs 259)).alloc (.cells #[.pointer none,.slice none 0 0] 281)).os=w.os∧((w.alloc (.cells cs 259)).alloc (.cells #[.pointer none,.slice none 0 0] 281)).tape=w.tape∧((w.alloc (.cells cs 259)).alloc (.cells #[.pointer none,.slice none 0 0] 281)).output=w.output:=⟨rfl,rfl,rfl⟩;generalize (w.alloc (.cells cs 259)).alloc (.cells #[.pointer none,.slice none 0 0] 281)=w2 at hh ho⊢;have k0:Lib.BuilderAt 281 5 (w.heap.size+1) (w.heap.size+1) (.pointer none) [] w2:=
  ⟨nlR _,.slice none 0 0,by rw[hh];exact(aF0 _ _ _).1,World.ownsRow_nil _ _ _ _,by simp[Value.ownBlock]⟩
 have k2:Below w.heap.size w w2:=⟨ho.1,ho.2.1,ho.2.2,by rw[hh,(aF0 _ _ _).2.2.2];omega,fun k hk=>by rw[hh];exact(aF0 _ _ _).2.2.1 k hk⟩
 have k3:w.heap.size+1<w2.heap.size:=by rw[hh,(aF0 _ _ _).2.2.2];omega
 have k4:w2.heap[w.heap.size]?=some (.cells cs 259):=by rw[hh];exact(aF0 _ _ _).2.1
 clear hh ho a0 a1;rw[ed];clear ed
 go_wp2_with (first
  |(go_at_call 240;refine(zZ _ _ _ _ k0 (by decide) (by omega)).mono ?_))
 rintro e w3 ⟨rfl,hB,hb⟩;have k5:w3.cell? ⟨w.heap.size,1,none⟩=some (.slice (some ⟨b,o,none⟩) 1 cap):=by
  have:w3.heap[w.heap.size]?=some (.cells cs 259):=by rw[hb.block _ (by omega)];exact k4
  rw[Lib.cell_of_heap this];exact g1
 have k6:Below w.heap.size w w3:=k2.trans (hb.mono (by omega))
 have k7:w.heap.size+1<w3.heap.size:=Nat.lt_of_lt_of_le k3 hb.size;clear k0 k2 k3 k4 hb
 go_wp2_with (first
  |(go_at_call 241;fail))
 refine wp_loop_once ?_
 go_wp2_with (first
  |(go_at_call 241;refine(Tryz.Builder_String_any _ _ [49] _ (.inr hB) (by omega)).mono ?_))
 rintro e w4 ⟨rfl,h4⟩;clear hB k5
 go_wp2
 go_ret
 exact⟨rfl,k6.trans (h4.mono (by omega))⟩
end Go.Rf
