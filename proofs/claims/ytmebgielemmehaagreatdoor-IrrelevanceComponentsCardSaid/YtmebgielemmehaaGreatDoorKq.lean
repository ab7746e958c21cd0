import Derived.Test.YtmebgielemmehaaGreatDoorKo
import Derived.Test.YtmebgielemmehaaGreatDoorRows
import Derived.Shelf.Strconv.Itoa1
import Derived.Shelf.Strconv.Itoa2
import Derived.Lib.ItoaMem
set_option linter.unusedVariables false
set_option linter.unusedSimpArgs false
set_option linter.constructorNameAsVariable false
set_option linter.defProp false
namespace Go.Proofs
open Go.Shelf
def Tryz.laysM246_ren:Go.Shelf.Ren:=⟨fun|246=>187|283=>202|284=>203|285=>204|286=>205|129=>227|317=>226|318=>228|319=>229|320=>230|337=>263|338=>264|n=>n,fun|2=>2|3=>3|9=>9|4=>4|171=>253|0=>0|53=>74|37=>22|5=>5|173=>256|212=>266|51=>32|20=>20|213=>267|46=>269|232=>304|233=>305|n=>n,fun|17=>0|18=>1|19=>2|n=>n⟩
def Tryz.laysM246:Go.Proofs.LaysM.n246 Tryz.prog Tryz.laysM246_ren:={
 mixed:=by kernel_rfl
 f129:=Tryz.func227.trans (congrArg some (by kernel_rfl))
 f246:=Tryz.func187.trans (congrArg some (by kernel_rfl))
 f283:=Tryz.func202.trans (congrArg some (by kernel_rfl))
 f284:=Tryz.func203.trans (congrArg some (by kernel_rfl))
 f285:=Tryz.func204.trans (congrArg some (by kernel_rfl))
 f286:=Tryz.func205.trans (congrArg some (by kernel_rfl))
 f317:=Tryz.func226.trans (congrArg some (by kernel_rfl))
 f318:=Tryz.func228.trans (congrArg some (by kernel_rfl))
 f319:=Tryz.func229.trans (congrArg some (by kernel_rfl))
 f320:=Tryz.func230.trans (congrArg some (by kernel_rfl))
 f337:=Tryz.func263.trans (congrArg some (by kernel_rfl))
 f338:=Tryz.func264.trans (congrArg some (by kernel_rfl))
 t0:=Tryz.underlying0
 a0:=Tryz.isAgg0
 z0:=Tryz.sizeOf0
 v0:=Tryz.zeroValue0
 t2:=Tryz.underlying2
 a2:=Tryz.isAgg2
 z2:=Tryz.sizeOf2
 v2:=Tryz.zeroValue2
 t3:=Tryz.underlying3
 a3:=Tryz.isAgg3
 z3:=Tryz.sizeOf3
 v3:=Tryz.zeroValue3
 t4:=Tryz.underlying4
 a4:=Tryz.isAgg4
 z4:=Tryz.sizeOf4
 v4:=Tryz.zeroValue4
 t5:=Tryz.underlying5
 a5:=Tryz.isAgg5
 z5:=Tryz.sizeOf5
 v5:=Tryz.zeroValue5
 t9:=Tryz.underlying9
 a9:=Tryz.isAgg9
 z9:=Tryz.sizeOf9
 v9:=Tryz.zeroValue9
 t20:=Tryz.underlying20
 a20:=Tryz.isAgg20
 z20:=Tryz.sizeOf20
 v20:=Tryz.zeroValue20
 t37:=Tryz.underlying22
 a37:=Tryz.isAgg22
 z37:=Tryz.sizeOf22
 v37:=Tryz.zeroValue22
 t46:=Tryz.underlying269
 a46:=Tryz.isAgg269
 z46:=Tryz.sizeOf269
 v46:=Tryz.zeroValue269
 t51:=Tryz.underlying32
 a51:=Tryz.isAgg32
 z51:=Tryz.sizeOf32
 v51:=Tryz.zeroValue32
 t53:=Tryz.underlying74
 a53:=Tryz.isAgg74
 z53:=Tryz.sizeOf74
 v53:=Tryz.zeroValue74
 t171:=Tryz.underlying253
 a171:=Tryz.isAgg253
 z171:=Tryz.sizeOf253
 v171:=Tryz.zeroValue253
 t173:=Tryz.underlying256
 a173:=Tryz.isAgg256
 z173:=Tryz.sizeOf256
 v173:=Tryz.zeroValue256
 t212:=Tryz.underlying266
 a212:=Tryz.isAgg266
 z212:=Tryz.sizeOf266
 v212:=Tryz.zeroValue266
 t213:=Tryz.underlying267
 a213:=Tryz.isAgg267
 z213:=Tryz.sizeOf267
 t232:=Tryz.underlying304
 a232:=Tryz.isAgg304
 z232:=Tryz.sizeOf304
 v232:=Tryz.zeroValue304
 t233:=Tryz.underlying305
 a233:=Tryz.isAgg305
 z233:=Tryz.sizeOf305
 v233:=Tryz.zeroValue305
 g17:=by kernel_rfl
 g18:=by kernel_rfl
 g19:=by kernel_rfl
 i0:=by kernel_rfl
 i2:=by kernel_rfl
 i3:=by kernel_rfl
 i4:=by kernel_rfl
 i5:=by kernel_rfl
 i9:=by kernel_rfl
 i20:=by kernel_rfl
 i37:=by kernel_rfl
 i46:=by kernel_rfl
 i51:=by kernel_rfl
 i53:=by kernel_rfl
 i171:=by kernel_rfl
 i173:=by kernel_rfl
 i212:=by kernel_rfl
 i232:=by kernel_rfl
 i233:=by kernel_rfl
 m17:=by kernel_rfl
 m18:=by kernel_rfl
 m19:=by kernel_rfl}
end Go.Proofs
namespace Go.TV
open Go.AI Go.PI Go.Proofs Go.Shelf Go.RowKit Go.Sort Go.Lib
def aK2:String:=(Go.Proofs.YtmebgielemmehaaGreatDoor.Rows.irrelevanceComponentsRow.named.drop 0).headD Go.Proofs.YtmebgielemmehaaGreatDoor.Rows.irrelevanceComponentsRow.spec
def IX{w0 w:World}(K:Kept w0 w){b:Nat}(hb:w0.heap.size<=b)(g:Array Value->Array Value):Kept w0 (mapBlock w b g):=by
 refine⟨K.os,K.output,?_,λk hk=>?_⟩
 .show w0.heap.size<=(w.heap.modify b _).size;rw[Array.size_modify];exact K.size
 .show(w.heap.modify b _)[k]?=_;rw[Array.getElem?_modify,bH (by omega)];exact K.old k hk
def LH(w:World)(C:Array Value)(t:TypeId):Kept w (w.alloc (.cells C t)):=by
 refine⟨rfl,rfl,?_,λk hk=>?_⟩
 .show _<=(w.heap.push _).size;simp
 .show(w.heap.push _)[k]?=_;rw[Array.getElem?_push,bH (by omega)]
def LG{w0 w:World}(K:Kept w0 w)(n:Nat):Kept w0 (w.drewN n):=⟨K.os,K.output,K.size,K.old⟩
set_option maxHeartbeats 6400000 in
set_option maxRecDepth 100000 in
def LQ{P:Program}{Z:Ren}(L:LaysM.n246 P Z)(u:Nat)(hu1:1<=u)(hu64:u<=9223372036854775808)(w:World)(htab:Lib.TabIs P w aK2 .u64 Lib.pow10Tab):
    Calls P (Z.f 246) #[.int .i64 (-(u:Int)),.int .i64 10] w λe w'=>e= .returned (.string ⟨(45::Lib.decDigits u).toArray⟩)/\Kept w w':=by
 have mixed:=L.mixed;have t2:=L.t2;have a2:=L.a2;have z2:=L.z2;have v2:=L.v2;have t3:=L.t3;have a3:=L.a3;have z3:=L.z3;have v3:=L.v3;have t9:=L.t9;have a9:=L.a9;have z9:=L.z9;have v9:=L.v9;have t4:=L.t4;have a4:=L.a4;have z4:=L.z4;have v4:=L.v4;have t171:=L.t171;have a171:=L.a171;have z171:=L.z171;have v171:=L.v171;have t0:=L.t0;have a0:=L.a0;have z0:=L.z0;have v0:=L.v0;have t53:=L.t53;have a53:=L.a53;have z53:=L.z53;have v53:=L.v53;have t37:=L.t37;have a37:=L.a37;have z37:=L.z37;have v37:=L.v37;have t5:=L.t5;have a5:=L.a5;have z5:=L.z5;have v5:=L.v5;have t173:=L.t173;have a173:=L.a173;have z173:=L.z173;have v173:=L.v173;have e284: ∀args w,(callFunc (Z.f 284) args).run P w= .ok (.enter (Z.f 284) args) w:=enters_of L.f284 (by kernel_rfl) rfl
 have e285: ∀args w,(callFunc (Z.f 285) args).run P w= .ok (.enter (Z.f 285) args) w:=enters_of L.f285 (by kernel_rfl) rfl
 have hu:u<18446744073709551616:=by omega
 have hneg: -(u:Int)<0:=by omega
 have hs: ¬(0<= -(u:Int)/\ -(u:Int)<100):=by omega
 have h0: -9223372036854775808<= -(u:Int):=by omega
 have h1: -(u:Int)<=9223372036854775807:=by omega
 have hd:Lib.nDigits u<=20:=by have:=Lib.numDigits_eq u hu1 hu;split at this<;>omega
 have fq:IntKind.u64.wrap (-IntKind.u64.wrap (-(u:Int)))=(u:Int):=by rw[IntKind.wrap_u64,IntKind.wrap_u64];omega
 have hb3:Lib.nDigits u<=23:=by omega
 have qr:P.arrayLen (Z.t 171)=24:=by simp[Program.arrayLen,L.t171]
 have sl1: ∀β,(Instr.sliceAt (Z.t 171) (.pointer (some ⟨w.heap.size,0,none⟩)) (some (.int .i64 1)) (some (.int .i64 (1+(Lib.nDigits u:Int)))) none).run P β= .ok (.slice (some ⟨w.heap.size,1,none⟩) (Lib.nDigits u) 23) β:=λβ=>by
  rw[run_sliceAt_array_lh β (Z.t 171) ⟨w.heap.size,0,none⟩ (by simp[Program.arrayLen,Program.elem,L.t171]) .i64 .i64 1 (1+(Lib.nDigits u:Int)) (by omega) (by omega) (by rw[qr];omega)]
  go_simp
  omega
 have row0:=Lib.holds_zero w (Z.t 171) (Lib.nDigits u) (by omega)
 have fmt:=Any.internal_strconv_formatBase10 {L with} w.heap.size 1 23 u (Array.replicate (Lib.nDigits u) 0) (w.alloc (.cells Lib.zeros24 (Z.t 171))) row0 (by rw[Array.size_replicate];exact Lib.lt_pow_nDigits u) hu (by rw[Array.size_replicate];omega)
 rw[Array.size_replicate]at fmt;have row1:=Lib.hid row0;clear row0 qr
 go_enter L.f246,Body.n246_ntmps Z
 go_wp2_with (first
  |(go_at_fn (Z.f 284);refine(Any.internal_strconv_numDigits {L with} u hu1 hu _ (Lib.tabIs_alloc htab _)).mono ?_;rintro e w' ⟨rfl,rfl⟩))
 go_at_fn (Z.f 285)
 refine fmt.mono ?_;rintro e w' ⟨rfl,k,v',dk,rfl,hF⟩;have c0:((putRow (λ(b:UInt8)=>Value.int .u8 (b.toNat:Int)) (w.alloc (.cells Lib.zeros24 (Z.t 171))) w.heap.size 1 dk).drewN k).cell? ⟨w.heap.size,0,none⟩=some (.int .u8 0):=by
  rw[World.cell?_drewN,cell?_putRow_other _ _ _ _ _ _ (Or.inr (Or.inl (Nat.zero_lt_one))),World.cell?_alloc_new];exact Lib.zeros24_at 0 (by omega)
 have f0:((putRow (λ(b:UInt8)=>Value.int .u8 (b.toNat:Int)) (w.alloc (.cells Lib.zeros24 (Z.t 171))) w.heap.size 1 dk).drewN k).frozen? ⟨w.heap.size,0,none⟩=false:=by
  rw[World.frozen?_drewN,frozen?_putRow];exact World.frozen?_alloc_new _ _ _ _
 have qr:P.arrayLen (Z.t 171)=24:=by simp[Program.arrayLen,L.t171]
 have sl2: ∀β,(Instr.sliceAt (Z.t 171) (.pointer (some ⟨w.heap.size,0,none⟩)) none (some (.int .i64 (1+(Lib.nDigits u:Int)))) none).run P β= .ok (.slice (some ⟨w.heap.size,0,none⟩) (1+Lib.nDigits u) 24) β:=λβ=>by
  rw[run_sliceAt_array_h β (Z.t 171) ⟨w.heap.size,0,none⟩ (by simp[Program.arrayLen,Program.elem,L.t171]) .i64 (1+(Lib.nDigits u:Int)) (by omega) (by rw[qr];omega)]
  go_simp
  omega
 clear qr;have cv:(convert (Z.t 37) (Z.t 9) (.slice (some ⟨w.heap.size,0,none⟩) (1+Lib.nDigits u) 24)).run P (((putRow (λ(b:UInt8)=>Value.int .u8 (b.toNat:Int)) (w.alloc (.cells Lib.zeros24 (Z.t 171))) w.heap.size 1 dk).drewN k).setCell ⟨w.heap.size,0,none⟩ (.int .u8 45))= .ok (.string ⟨(45::Lib.decDigits u).toArray⟩) (((putRow (λ(b:UInt8)=>Value.int .u8 (b.toNat:Int)) (w.alloc (.cells Lib.zeros24 (Z.t 171))) w.heap.size 1 dk).drewN k).setCell ⟨w.heap.size,0,none⟩ (.int .u8 45)):=by
  have h:=run_convert_bytes_back (P:=P) (((putRow (λ(b:UInt8)=>Value.int .u8 (b.toNat:Int)) (w.alloc (.cells Lib.zeros24 (Z.t 171))) w.heap.size 1 dk).drewN k).setCell ⟨w.heap.size,0,none⟩ (.int .u8 45)) (Z.t 37) (Z.t 9) (Z.t 5) ⟨w.heap.size,0,none⟩ 24 (45::Lib.decDigits u) L.t37 L.t5 L.t9 (λj hj=>by
   rw[Lib.add_plain];cases j with
   |zero=>exact World.cell?_setCell_same _ _ _ c0
   |succ i=>
    have hi:i<(Lib.decDigits u).length:=by simpa using hj
    rw[World.cell?_setCell_other _ _ _ _ (by simp),List.getElem_cons_succ,Lib.row_is_numeral hF i hi,World.cell?_drewN,show 0+(i+1)=1+i by omega]
    exact cell?_putRow (λ(b:UInt8)=>Value.int .u8 (b.toNat:Int)) _ w.heap.size 1 _ dk row1.out (by rw[hF.size,Array.size_replicate]) i (by rw[hF.size];rw[Lib.decDigits_length]at hi;exact hi))
  rw[aM,Lib.decDigits_length,Nat.add_comm]at h;exact h
 go_wp2
 go_ret
 refine⟨rfl,?_⟩;rw[setCell_eq];exact IX (LG (IX (LH w _ _) (aS _) _) k) (aS _) _
end Go.TV
