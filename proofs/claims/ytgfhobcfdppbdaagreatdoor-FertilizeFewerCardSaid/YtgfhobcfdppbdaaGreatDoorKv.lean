import Derived.Test.YtgfhobcfdppbdaaGreatDoorKg
import Derived.Test.YtgfhobcfdppbdaaGreatDoorKu
open Option renaming some->aa,none->ad
set_option linter.unusedVariables false
set_option linter.unusedSimpArgs false
set_option linter.constructorNameAsVariable false
set_option linter.defProp false
namespace Go.Rf
open Go.AI Go.Proofs Go.RowKit
def bsz: ∃j,Tryz.prog.info? 292=aa j/\j.size=2:=by
 have h:(Tryz.prog.info? 292).map (·.size)=aa 2:=by kernel_rfl
 exact aF.1 h
set_option maxHeartbeats 1000000 in
set_option maxRecDepth 100000 in
def UH(b:Nat)(w:World)(h0:w.cell? ⟨b,0,ad⟩=aa (.pointer ad))(hsh:w.shape? b=aa (292,2))(mc:w.frozen? ⟨b,0,ad⟩=false):
    Calls Tryz.prog 265 #[.pointer (aa ⟨b,0,ad⟩)] w λe w'=>e= .returned (.tuple #[])/\w'=w.setCell ⟨b,0,ad⟩ (.pointer (aa ⟨b,0,ad⟩)):=by
 obtain⟨j,hj,hjs⟩:=bsz;have hlies:liesAt Tryz.prog Tryz.prog.depth 292 (2/Tryz.prog.cellsOf 292) 0 292 1=true:=by kernel_rfl
 go_enter Tryz.func265,Tryz.ntmps265
 go_wp2
 rw[Lib.run_to_unsafe w ⟨b,0,ad⟩ Tryz.underlying290 Tryz.underlying306 hj (by rw[hjs];decide) hsh (Nat.zero_lt_succ 1)]
 simp only[Result.andThen];rw[Oper.upon_value]
 go_wp2
 rw[run_callFunc_extern Tryz.func272 (by kernel_rfl) (by kernel_rfl) (by kernel_rfl) (e:=Extern.AbiNoEscape.same) (by kernel_rfl)]
 rw[Lib.run_noEscape];simp only[Result.andThen];rw[Oper.upon_value]
 go_wp2
 rw[Lib.run_from_unsafe w ⟨b,0,ad⟩ Tryz.underlying306 Tryz.underlying290 hj hsh hlies];simp only[Result.andThen];rw[Oper.upon_value]
 go_wp2
 go_end0
 exact⟨rfl,rfl⟩
def aC1(B b:Nat)(w:World)(h:Lib.BuilderAt 292 5 B b (.pointer ad) [] w):
    Calls Tryz.prog 265 #[.pointer (aa ⟨b,0,ad⟩)] w λe w'=>e= .returned (.tuple #[])/\(Lib.BuilderAt 292 5 B b (.pointer (aa ⟨b,0,ad⟩)) [] w'/\Below B w w'):=by
 refine(UH b w h.cell0 h.shape h.frozen0).mono ?_;rintro e w' ⟨rfl,rfl⟩;exact⟨rfl,h.used _,(Below.refl B w).setCell (p:=⟨b,0,ad⟩) h.1 _⟩
def bEM: ∃i0,Tryz.prog.info? 5=aa i0/\i0.zero=aa (.int .u8 0)/\i0.size=1/\i0.bytes=1:=
 info_parts (by kernel_rfl)
set_option maxHeartbeats 2000000 in
set_option maxRecDepth 100000 in
def P3(B b:Nat)(s:ByteArray)(w:World)(h:Lib.BuilderAt 292 5 B b (.pointer ad) [] w)(hlen:s.size<=140737488355328)(hBw:B<=w.heap.size):
    Calls Tryz.prog 259 #[.pointer (aa ⟨b,0,ad⟩),.string s] w λe w'=>e= .returned (.tuple #[.int .i64 s.size,.nilIface])/\(Lib.BuilderAt 292 5 B b (.pointer (aa ⟨b,0,ad⟩)) (Lib.strCells s) w'/\Below B w w'):=by
 obtain⟨i0,hi,hz0,hz1,hz2⟩:=bEM;have t37:=Tryz.underlying22;have t9:=Tryz.underlying9
 go_enter Tryz.func259,Tryz.ntmps259
 go_wp2_with (go_at_call 265;refine(aC1 B b _ h).mono ?_)
 rintro e w1 ⟨rfl,h1,hb1⟩;clear h;obtain⟨hB,v,hbk,hown,bn⟩:=h1;have c0:w1.cell? ⟨b,0,ad⟩=aa (.pointer (aa ⟨b,0,ad⟩)):=by rw[Lib.cell_of_heap hbk];rfl
 have c1:w1.cell? ⟨b,1,ad⟩=aa v:=by rw[Lib.cell_of_heap hbk];rfl
 go_wp2_with (at_builtin;refine Lib.wpList_append_own_string _ rfl _ _ 22 9 rfl B 5 i0 t37 t9 hi hz0 hz1 hz2 _ _ _ rfl hown s rfl ?c3 ?c4 ?c5 ?_)
 case c3=>simp only[maxLen,aX];omega
 case c4=>simp only[aX];omega
 case c5=>have:=hb1.size;omega
 intro v' w2 hown' hgrow _;have bi:b<w1.heap.size:=by
  rcases Nat.lt_or_ge b w1.heap.size with h'|h'
  .exact h'
  .simp[Array.getElem?_eq_none h']at hbk
 have hb2:w2.heap[b]?=aa (.cells #[.pointer (aa ⟨b,0,ad⟩),v] 292 (0,0)):=by
  rw[hgrow.block b bi (λe=>bn e.symm)]
  exact hbk
 have d0:w2.cell? ⟨b,0,ad⟩=aa (.pointer (aa ⟨b,0,ad⟩)):=by rw[Lib.cell_of_heap hb2];rfl
 have d1:w2.cell? ⟨b,1,ad⟩=aa v:=by rw[Lib.cell_of_heap hb2];rfl
 have f1:w2.frozen? ⟨b,1,ad⟩=false:=Lib.frozen_of_heap hb2 1;obtain⟨ao,n',cap,rfl⟩: ∃ao n' cap,v'= .slice ao n' cap:=by
  rcases hown'.2 with⟨hv,_⟩|⟨g,cap,cur,hv,_⟩
  .exact⟨_,_,_,hv⟩
  .exact⟨_,_,_,hv⟩
 go_wp2
 go_ret2
 refine⟨rfl,?_,?_⟩
 .exact Lib.BuilderAt.put (T:=292) (e:=5) hB hb2 (bs':=Lib.strCells s) (by simpa [Lib.strCells_length]using hown') (by decide)
 .exact(hb1.grown hgrow (by have:=hb1.size;omega) (λk hk=>(hown.lt k hk).1)).setCell (p:=⟨b,1,ad⟩) hB _
def dd1:Lib.decDigits 1=[49]:=by
 first|(unfold Lib.decDigits;rfl)|(unfold Lib.decDigits;simp)|decide+kernel
def Qy(h:Array Obj)(x y:Obj):((h.push x).push y)[h.size+1]?=aa y/\((h.push x).push y)[h.size]?=aa x/\(∀k,k<h.size->((h.push x).push y)[k]?=h[k]?)/\((h.push x).push y).size=h.size+2:=by
 refine⟨?_,?_,λk hk=>?_,by simp⟩
 .rw[Array.getElem?_push,bI (by simp)]
 .rw[Array.getElem?_push,bH (by simp),Array.getElem?_push,bI rfl]
 .rw[Array.getElem?_push,bH (by simp;omega),Array.getElem?_push,bH (by omega)]
set_option maxHeartbeats 2000000 in
set_option maxRecDepth 100000 in
def SQ(b o cap:Nat)(w:World)(C:Array Value)(t:TypeId)(fr:Nat×Nat)(hb:w.heap[b]?=aa (.cells C t fr))(hc:C[o]?=aa (.int .u32 1))
    (cs:Array Value) (g0:cs[0]?=aa (.bool false)) (g1:cs[1]?=aa (.slice (aa ⟨b,o,ad⟩) 1 cap)):Calls Tryz.prog 238 #[.agg cs] w λe w'=>e= .returned (.string ⟨#[49]⟩)/\Below w.heap.size w w':=by
 have c0:w.cell? ⟨b,o,ad⟩=aa (.int .u32 1):=by rw[Lib.cell_of_heap hb];exact hc
 have bi:b<w.heap.size:=by
  rcases Nat.lt_or_ge b w.heap.size with h'|h'
  .exact h'
  .simp[Array.getElem?_eq_none h']at hb
 clear hb hc;have a0:(w.alloc (.cells cs 270)).cell? ⟨w.heap.size,0,ad⟩=aa (.bool false):=by
  have:(w.alloc (.cells cs 270)).heap[w.heap.size]?=aa (.cells cs 270):=by show(w.heap.push _)[w.heap.size]?=_;simp
  rw[Lib.cell_of_heap this];exact g0
 have a1:(w.alloc (.cells cs 270)).cell? ⟨w.heap.size,1,ad⟩=aa (.slice (aa ⟨b,o,ad⟩) 1 cap):=by
  have:(w.alloc (.cells cs 270)).heap[w.heap.size]?=aa (.cells cs 270):=by show(w.heap.push _)[w.heap.size]?=_;simp
  rw[Lib.cell_of_heap this];exact g1
 go_enter Tryz.func238,Tryz.ntmps238
 go_wp2_with (first
  |(go_at_call 143;refine(Tryz.strconv_Itoa_small 1 (by decide) _).mono ?_)
  |(go_at_call 259;fail))
 rintro e w' ⟨rfl,rfl⟩;have ed:=dd1;have hh:((w.alloc (.cells cs 270)).alloc (.cells #[.pointer ad,.slice ad 0 0] 292)).heap=(w.heap.push (.cells cs 270)).push (.cells #[.pointer ad,.slice ad 0 0] 292):=rfl;have ho:((w.alloc (.cells cs 270)).alloc (.cells #[.pointer ad,.slice ad 0 0] 292)).os=w.os/\((w.alloc (.cells cs 270)).alloc (.cells #[.pointer ad,.slice ad 0 0] 292)).tape=w.tape/\((w.alloc (.cells cs 270)).alloc (.cells #[.pointer ad,.slice ad 0 0] 292)).output=w.output:=⟨rfl,rfl,rfl⟩;generalize (w.alloc (.cells cs 270)).alloc (.cells #[.pointer ad,.slice ad 0 0] 292)=w2 at hh ho⊢;have k0:Lib.BuilderAt 292 5 (w.heap.size+1) (w.heap.size+1) (.pointer ad) [] w2:=
  ⟨aS _,.slice ad 0 0,by rw[hh];exact(Qy _ _ _).1,World.ownsRow_nil _ _ _ _,by simp[Value.ownBlock]⟩
 have k2:Below w.heap.size w w2:=⟨ho.1,ho.2.1,ho.2.2,by rw[hh,(Qy _ _ _).2.2.2];omega,λk hk=>by rw[hh];exact(Qy _ _ _).2.2.1 k hk⟩
 have k3:w.heap.size+1<w2.heap.size:=by rw[hh,(Qy _ _ _).2.2.2];omega
 have k4:w2.heap[w.heap.size]?=aa (.cells cs 270):=by rw[hh];exact(Qy _ _ _).2.1
 clear hh ho a0 a1;rw[ed];clear ed
 go_wp2_with (first
  |(go_at_call 259;refine(P3 _ _ _ _ k0 (by decide) (by omega)).mono ?_))
 rintro e w3 ⟨rfl,hB,hb⟩;have k5:w3.cell? ⟨w.heap.size,1,ad⟩=aa (.slice (aa ⟨b,o,ad⟩) 1 cap):=by
  have:w3.heap[w.heap.size]?=aa (.cells cs 270):=by rw[hb.block _ (by omega)];exact k4
  rw[Lib.cell_of_heap this];exact g1
 have k6:Below w.heap.size w w3:=k2.trans (hb.mono (by omega))
 have k7:w.heap.size+1<w3.heap.size:=Nat.lt_of_lt_of_le k3 hb.size;clear k0 k2 k3 k4 hb
 go_wp2_with (first
  |(go_at_call 260;fail))
 refine wp_loop_once ?_
 go_wp2_with (first
  |(go_at_call 260;refine(Tryz.Builder_String_any _ _ [49] _ (.inr hB) (by omega)).mono ?_))
 rintro e w4 ⟨rfl,h4⟩;clear hB k5
 go_wp2
 go_ret
 exact⟨rfl,k6.trans (h4.mono (by omega))⟩
end Go.Rf
