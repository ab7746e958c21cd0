import Derived.Shelf.LaysM
import Derived.Test.YtkglmoobpigohaaGreatDoorProg
import Derived.Test.YtkglmoobpigohaaGreatDoorKi
import Derived.Test.YtkglmoobpigohaaGreatDoorKq
import Derived.Test.YtkglmoobpigohaaGreatDoorRows
import Derived.Shelf.Strconv.Itoa1
import Derived.Shelf.Strconv.Itoa2
import Derived.Lib.Walk
import Derived.Lib.ItoaMem
import Derived.Lib.LaidTab
import Derived.WalkKit
import Derived.BigCall
import Derived.BigGuard
import Derived.KernelRfl
set_option linter.unusedVariables false
set_option linter.unusedSimpArgs false
set_option linter.constructorNameAsVariable false
namespace Go.Proofs
open Go.Shelf
def Tryz.laysM246_ren : Go.Shelf.Ren := ⟨fun | 246 => 167 | 283 => 176 | 284 => 177 | 285 => 178 | 286 => 179 | 129 => 185 | 317 => 184 | 318 => 186 | 319 => 187 | 320 => 188 | 337 => 191 | 338 => 192 | n => n, fun | 2 => 2 | 3 => 3 | 9 => 9 | 4 => 4 | 171 => 233 | 0 => 0 | 53 => 67 | 37 => 22 | 5 => 5 | 173 => 236 | 212 => 241 | 51 => 32 | 20 => 20 | 213 => 242 | 46 => 244 | 232 => 254 | 233 => 255 | n => n, fun | 17 => 0 | 18 => 1 | 19 => 2 | n => n⟩
theorem Tryz.laysM246 : Go.Proofs.LaysM.n246 Tryz.prog Tryz.laysM246_ren := {
 mixed := by kernel_rfl
 f129 := Tryz.func185.trans (congrArg some (by kernel_rfl))
 f246 := Tryz.func167.trans (congrArg some (by kernel_rfl))
 f283 := Tryz.func176.trans (congrArg some (by kernel_rfl))
 f284 := Tryz.func177.trans (congrArg some (by kernel_rfl))
 f285 := Tryz.func178.trans (congrArg some (by kernel_rfl))
 f286 := Tryz.func179.trans (congrArg some (by kernel_rfl))
 f317 := Tryz.func184.trans (congrArg some (by kernel_rfl))
 f318 := Tryz.func186.trans (congrArg some (by kernel_rfl))
 f319 := Tryz.func187.trans (congrArg some (by kernel_rfl))
 f320 := Tryz.func188.trans (congrArg some (by kernel_rfl))
 f337 := Tryz.func191.trans (congrArg some (by kernel_rfl))
 f338 := Tryz.func192.trans (congrArg some (by kernel_rfl))
 t0 := Tryz.underlying0
 a0 := Tryz.isAgg0
 z0 := Tryz.sizeOf0
 v0 := Tryz.zeroValue0
 t2 := Tryz.underlying2
 a2 := Tryz.isAgg2
 z2 := Tryz.sizeOf2
 v2 := Tryz.zeroValue2
 t3 := Tryz.underlying3
 a3 := Tryz.isAgg3
 z3 := Tryz.sizeOf3
 v3 := Tryz.zeroValue3
 t4 := Tryz.underlying4
 a4 := Tryz.isAgg4
 z4 := Tryz.sizeOf4
 v4 := Tryz.zeroValue4
 t5 := Tryz.underlying5
 a5 := Tryz.isAgg5
 z5 := Tryz.sizeOf5
 v5 := Tryz.zeroValue5
 t9 := Tryz.underlying9
 a9 := Tryz.isAgg9
 z9 := Tryz.sizeOf9
 v9 := Tryz.zeroValue9
 t20 := Tryz.underlying20
 a20 := Tryz.isAgg20
 z20 := Tryz.sizeOf20
 v20 := Tryz.zeroValue20
 t37 := Tryz.underlying22
 a37 := Tryz.isAgg22
 z37 := Tryz.sizeOf22
 v37 := Tryz.zeroValue22
 t46 := Tryz.underlying244
 a46 := Tryz.isAgg244
 z46 := Tryz.sizeOf244
 v46 := Tryz.zeroValue244
 t51 := Tryz.underlying32
 a51 := Tryz.isAgg32
 z51 := Tryz.sizeOf32
 v51 := Tryz.zeroValue32
 t53 := Tryz.underlying67
 a53 := Tryz.isAgg67
 z53 := Tryz.sizeOf67
 v53 := Tryz.zeroValue67
 t171 := Tryz.underlying233
 a171 := Tryz.isAgg233
 z171 := Tryz.sizeOf233
 v171 := Tryz.zeroValue233
 t173 := Tryz.underlying236
 a173 := Tryz.isAgg236
 z173 := Tryz.sizeOf236
 v173 := Tryz.zeroValue236
 t212 := Tryz.underlying241
 a212 := Tryz.isAgg241
 z212 := Tryz.sizeOf241
 v212 := Tryz.zeroValue241
 t213 := Tryz.underlying242
 a213 := Tryz.isAgg242
 z213 := Tryz.sizeOf242
 t232 := Tryz.underlying254
 a232 := Tryz.isAgg254
 z232 := Tryz.sizeOf254
 v232 := Tryz.zeroValue254
 t233 := Tryz.underlying255
 a233 := Tryz.isAgg255
 z233 := Tryz.sizeOf255
 v233 := Tryz.zeroValue255
 g17 := by kernel_rfl
 g18 := by kernel_rfl
 g19 := by kernel_rfl
 i0 := by kernel_rfl
 i2 := by kernel_rfl
 i3 := by kernel_rfl
 i4 := by kernel_rfl
 i5 := by kernel_rfl
 i9 := by kernel_rfl
 i20 := by kernel_rfl
 i37 := by kernel_rfl
 i46 := by kernel_rfl
 i51 := by kernel_rfl
 i53 := by kernel_rfl
 i171 := by kernel_rfl
 i173 := by kernel_rfl
 i212 := by kernel_rfl
 i232 := by kernel_rfl
 i233 := by kernel_rfl
 m17 := by kernel_rfl
 m18 := by kernel_rfl
 m19 := by kernel_rfl }
end Go.Proofs
namespace Go.TV
open Go.AI Go.PI Go.Proofs Go.Shelf Go.RowKit Go.Sort Go.Lib
def pwN : String := Go.Proofs.YtkglmoobpigohaaGreatDoor.Rows.generalizeTermsRow.named.headD Go.Proofs.YtkglmoobpigohaaGreatDoor.Rows.generalizeTermsRow.spec
theorem aBY {w0 w : World} (K : Kept w0 w) {b : Nat} (hb : w0.heap.size ≤ b) (g : Array Value → Array Value) : Kept w0 (mapBlock w b g) := by
 refine ⟨K.os, K.output, ?_, fun k hk => ?_, fun k C t fr hk h => ?_⟩
 ·show w0.heap.size ≤ (w.heap.modify b _).size
  rw [Array.size_modify]; exact K.size
 ·show (w.heap.modify b _)[k]? = _
  rw [Array.getElem?_modify, if_neg (by omega)]; exact K.old k hk
 ·have h' : (w.heap.modify b (onCells g))[k]? = some (.cells C t fr) := h
  rw [Array.getElem?_modify] at h'
  split at h'
  ·rw [mjE] at h'
   obtain ⟨o, ho, he⟩ := h'
   cases o with
   | cells C0 t0 fr0 =>
    have e : Obj.cells (g C0) t0 fr0 = .cells C t fr := he
    cases e
    exact K.new k C0 t fr hk ho
   | _ => cases he
  ·exact K.new k C t fr hk h'
theorem aDr (w : World) (C : Array Value) (t : TypeId) : Kept w (w.alloc (.cells C t)) := by
 refine ⟨rfl, rfl, ?_, fun k hk => ?_, fun k C' t' fr hk h => ?_⟩
 ·show _ ≤ (w.heap.push _).size
  simp
 ·show (w.heap.push _)[k]? = _
  rw [Array.getElem?_push, if_neg (by omega)]
 ·have h' : (w.heap.push (.cells C t))[k]? = some (.cells C' t' fr) := h
  rw [Array.getElem?_push] at h'
  split at h'
  ·cases h'; rfl
  ·rw [Array.getElem?_eq_none hk] at h'; cases h'
theorem aDq {w0 w : World} (K : Kept w0 w) (n : Nat) : Kept w0 (w.drewN n) := ⟨K.os, K.output, K.size, K.old, K.new⟩
set_option maxHeartbeats 6400000 in
set_option maxRecDepth 100000 in
theorem aDu {P : Program} {ρ : Ren} (L : LaysM.n246 P ρ) (u : Nat) (hu1 : 1 ≤ u) (hu64 : u ≤ 9223372036854775808) (w : World) (htab : Lib.TabIs P w pwN .u64 Lib.pow10Tab) :
    Calls P (ρ.f 246) #[.int .i64 (-(u : Int)), .int .i64 10] w fun e w' => e = .returned (.string ⟨(45 :: Lib.decDigits u).toArray⟩) ∧ Kept w w' := by
 have mixed := L.mixed
 have t2 := L.t2; have a2 := L.a2; have z2 := L.z2; have v2 := L.v2
 have t3 := L.t3; have a3 := L.a3; have z3 := L.z3; have v3 := L.v3
 have t9 := L.t9; have a9 := L.a9; have z9 := L.z9; have v9 := L.v9
 have t4 := L.t4; have a4 := L.a4; have z4 := L.z4; have v4 := L.v4
 have t171 := L.t171; have a171 := L.a171; have z171 := L.z171; have v171 := L.v171
 have t0 := L.t0; have a0 := L.a0; have z0 := L.z0; have v0 := L.v0
 have t53 := L.t53; have a53 := L.a53; have z53 := L.z53; have v53 := L.v53
 have t37 := L.t37; have a37 := L.a37; have z37 := L.z37; have v37 := L.v37
 have t5 := L.t5; have a5 := L.a5; have z5 := L.z5; have v5 := L.v5
 have t173 := L.t173; have a173 := L.a173; have z173 := L.z173; have v173 := L.v173
 have e284 : ∀ args w, (callFunc (ρ.f 284) args).run P w = .ok (.enter (ρ.f 284) args) w := enters_of L.f284 (by kernel_rfl) rfl
 have e285 : ∀ args w, (callFunc (ρ.f 285) args).run P w = .ok (.enter (ρ.f 285) args) w := enters_of L.f285 (by kernel_rfl) rfl
 have hu : u < 18446744073709551616 := by omega
 have hneg : -(u : Int) < 0 := by omega
 have hs : ¬(0 ≤ -(u : Int) ∧ -(u : Int) < 100) := by omega
 have h0 : -9223372036854775808 ≤ -(u : Int) := by omega
 have h1 : -(u : Int) ≤ 9223372036854775807 := by omega
 have hd : Lib.nDigits u ≤ 20 := by have := Lib.numDigits_eq u hu1 hu; split at this <;> omega
 have hwr : IntKind.u64.wrap (-IntKind.u64.wrap (-(u : Int))) = (u : Int) := by rw [IntKind.wrap_u64, IntKind.wrap_u64]; omega
 have hb3 : Lib.nDigits u ≤ 23 := by omega
 have hal : P.arrayLen (ρ.t 171) = 24 := by simp [Program.arrayLen, L.t171]
 have sl1 : ∀ W, (Instr.sliceAt (ρ.t 171) (.pointer (some ⟨w.heap.size, 0, none⟩)) (some (.int .i64 1)) (some (.int .i64 (1 + (Lib.nDigits u : Int)))) none).run P W = .ok (.slice (some ⟨w.heap.size, 1, none⟩) (Lib.nDigits u) 23) W := fun W => by
  rw [run_sliceAt_array_lh W (ρ.t 171) ⟨w.heap.size, 0, none⟩ (by simp [Program.arrayLen, Program.elem, L.t171]) .i64 .i64 1 (1 + (Lib.nDigits u : Int)) (by omega) (by omega) (by rw [hal]; omega)]
  go_simp
  omega
 have row0 := Lib.holds_zero w (ρ.t 171) (Lib.nDigits u) (by omega)
 have fmt := Any.internal_strconv_formatBase10 { L with } w.heap.size 1 23 u (Array.replicate (Lib.nDigits u) 0) (w.alloc (.cells Lib.zeros24 (ρ.t 171))) row0 (by rw [Array.size_replicate]; exact Lib.lt_pow_nDigits u) hu (by rw [Array.size_replicate]; omega)
 rw [Array.size_replicate] at fmt
 have row1 := Lib.hid row0
 clear row0 hal
 go_enter L.f246, Body.n246_ntmps ρ
 go_wp2_with (first
  | (go_at_fn (ρ.f 284); refine (Any.internal_strconv_numDigits { L with } u hu1 hu _ (Lib.tabIs_alloc htab _)).mono ?_; rintro e w' ⟨rfl, rfl⟩))
 go_at_fn (ρ.f 285)
 refine fmt.mono ?_
 rintro e w' ⟨rfl, k, v', dk, rfl, hF⟩
 have c0 : ((putRow (fun (b : UInt8) => Value.int .u8 (b.toNat : Int)) (w.alloc (.cells Lib.zeros24 (ρ.t 171))) w.heap.size 1 dk).drewN k).cell? ⟨w.heap.size, 0, none⟩ = some (.int .u8 0) := by
  rw [World.cell?_drewN, cell?_putRow_other _ _ _ _ _ _ (Or.inr (Or.inl (Nat.zero_lt_one))), World.cell?_alloc_new]
  exact Lib.zeros24_at 0 (by omega)
 have f0 : ((putRow (fun (b : UInt8) => Value.int .u8 (b.toNat : Int)) (w.alloc (.cells Lib.zeros24 (ρ.t 171))) w.heap.size 1 dk).drewN k).frozen? ⟨w.heap.size, 0, none⟩ = false := by
  rw [World.frozen?_drewN, frozen?_putRow]
  exact World.frozen?_alloc_new _ _ _ _
 have hal : P.arrayLen (ρ.t 171) = 24 := by simp [Program.arrayLen, L.t171]
 have sl2 : ∀ W, (Instr.sliceAt (ρ.t 171) (.pointer (some ⟨w.heap.size, 0, none⟩)) none (some (.int .i64 (1 + (Lib.nDigits u : Int)))) none).run P W = .ok (.slice (some ⟨w.heap.size, 0, none⟩) (1 + Lib.nDigits u) 24) W := fun W => by
  rw [run_sliceAt_array_h W (ρ.t 171) ⟨w.heap.size, 0, none⟩ (by simp [Program.arrayLen, Program.elem, L.t171]) .i64 (1 + (Lib.nDigits u : Int)) (by omega) (by rw [hal]; omega)]
  go_simp
  omega
 clear hal
 have cv : (convert (ρ.t 37) (ρ.t 9) (.slice (some ⟨w.heap.size, 0, none⟩) (1 + Lib.nDigits u) 24)).run P (((putRow (fun (b : UInt8) => Value.int .u8 (b.toNat : Int)) (w.alloc (.cells Lib.zeros24 (ρ.t 171))) w.heap.size 1 dk).drewN k).setCell ⟨w.heap.size, 0, none⟩ (.int .u8 45)) = .ok (.string ⟨(45 :: Lib.decDigits u).toArray⟩) (((putRow (fun (b : UInt8) => Value.int .u8 (b.toNat : Int)) (w.alloc (.cells Lib.zeros24 (ρ.t 171))) w.heap.size 1 dk).drewN k).setCell ⟨w.heap.size, 0, none⟩ (.int .u8 45)) := by
  have h := run_convert_bytes_back (P := P) (((putRow (fun (b : UInt8) => Value.int .u8 (b.toNat : Int)) (w.alloc (.cells Lib.zeros24 (ρ.t 171))) w.heap.size 1 dk).drewN k).setCell ⟨w.heap.size, 0, none⟩ (.int .u8 45)) (ρ.t 37) (ρ.t 9) (ρ.t 5) ⟨w.heap.size, 0, none⟩ 24 (45 :: Lib.decDigits u) L.t37 L.t5 L.t9 (fun j hj => by
   rw [Lib.add_plain]
   cases j with
   | zero => exact World.cell?_setCell_same _ _ _ c0
   | succ i =>
    have hi : i < (Lib.decDigits u).length := by simpa using hj
    rw [World.cell?_setCell_other _ _ _ _ (by simp), List.getElem_cons_succ, Lib.row_is_numeral hF i hi, World.cell?_drewN, show 0 + (i + 1) = 1 + i by omega]
    exact cell?_putRow (fun (b : UInt8) => Value.int .u8 (b.toNat : Int)) _ w.heap.size 1 _ dk row1.out (by rw [hF.size, Array.size_replicate]) i (by rw [hF.size]; rw [Lib.decDigits_length] at hi; exact hi))
  rw [lcS, Lib.decDigits_length, Nat.add_comm] at h
  exact h
 go_wp2
 go_ret
 refine ⟨rfl, ?_⟩
 rw [setCell_eq]
 exact aBY (aDq (aBY (aDr w _ _) (nlR _) _) k) (nlR _) _
end Go.TV
namespace Go.TV
open Go.AI Go.PI Go.Proofs
set_option maxRecDepth 20000
def rdM (z : Nat) : Mta := { wr := false, tip := false, z, grp := none }
def st1 (i : Nat) (cs : List Value) (z : Nat) : St := St.put ⟨.nil, .nil, 4⟩ i (.cells cs (rdM z))
structure RowW (W : World) (p : AI.Place) (cs : List Value) (z : Nat) : Prop where
 row : ∃ C t fr, W.heap[p.b]? = some (Obj.cells C t fr) ∧ ∀ (i : Nat) (v : Value), cs[i]? = some v → C[p.o + i]? = some v
 pl : ∀ v ∈ cs, aC v = true
 z : p.z = z
def mu1 (i : Nat) (p : Option AI.Place) : Mp := fun id => if id = i then p else if id < 3 then some ⟨id, 0, 0, 1⟩ else none
theorem lV (i : Nat) (cs : List Value) (z id : Nat) : (st1 i cs z).get id = if id = i then some (.cells cs (rdM z)) else none := by
 unfold st1
 rw [St.get_put]
 split
 ·rfl
 ·exact Tr.get_nil id
theorem sim1 {W : World} {i : Nat} {p : Option AI.Place} {cs : List Value} {z : Nat} (hi : i < 4) (hp : ∀ q, p = some q → RowW W q cs z) (hg : i < 3 → ∃ q, p = some q ∧ q.b = i ∧ q.o = 0) : Sim W Tryz.prog (mu1 i p) (st1 i cs z) W := by
 have hgs : Tryz.prog.globals.size = 3 := by kernel_rfl
 have key : ∀ id q ds m, mu1 i p id = some q → (st1 i cs z).get id = some (.cells ds m) → RowW W q ds m.z ∧ m.wr = false ∧ m.tip = false ∧ m.grp = none ∧ id = i := by
  intro id q ds m hm hget
  rw [lV] at hget
  unfold mu1 at hm
  split at hget
  ·rename_i e
   cases hget
   rw [if_pos e] at hm
   exact ⟨hp q hm, rfl, rfl, rfl, e⟩
  ·cases hget
 exact {
  kept := Kept.refl W
  dom := fun id hid => by
   have : 4 ≤ id := hid
   unfold mu1; rw [if_neg (by omega), if_neg (by omega)]
  glob := fun g hg' => by
   rw [hgs] at hg'
   unfold mu1
   by_cases e : g = i
   ·subst e
    obtain ⟨q, h1, h2, h3⟩ := hg hg'
    exact ⟨q, by rw [if_pos rfl]; exact h1, h2, h3⟩
   ·exact ⟨⟨g, 0, 0, 1⟩, by rw [if_neg e, if_pos hg'], rfl, rfl⟩
  row := fun id q ds m hm hget _ => by
   obtain ⟨⟨⟨C, t, fr, r1, r2⟩, r3, r4⟩, k1, k2, k3, _⟩ := key id q ds m hm hget
   exact ⟨⟨C, t, fr, r1, fun i v hv => ⟨v, r2 i v hv, .same v (r3 v (List.mem_of_getElem? hv))⟩, (fun h => by rw [k2] at h; cases h)⟩, (fun h => by rw [k1] at h; cases h), (fun h => by rw [k2] at h; cases h), r4⟩
  map := fun id q es hm hget => by
   rw [lV] at hget
   split at hget <;> cases hget
  off := fun a b q q' ds es m n _ hm _ hget _ _ _ hw => by
   obtain ⟨_, k1, _⟩ := key a q ds m hm hget; rw [k1] at hw; cases hw
  tip := fun a b q q' ds es m n _ hm _ hget _ _ _ hw => by
   obtain ⟨_, _, k2, _⟩ := key a q ds m hm hget; rw [k2] at hw; cases hw
  maps := fun a b q q' es fs _ _ _ hget => by
   rw [lV] at hget
   split at hget <;> cases hget
  vers := fun id ds m g v hget hgr => by
   rw [lV] at hget
   split at hget
   ·cases hget; cases hgr
   ·cases hget
  lim := fun a b q q' ds es m n _ hm _ hget _ _ _ hw => by
   obtain ⟨_, _, k2, _⟩ := key a q ds m hm hget; rw [k2] at hw; cases hw }
theorem tab_kept {P : Program} {w0 w : World} {name : String} {k : IntKind} {zs : List Int} (h : Lib.TabIs P w0 name k zs) (K : Kept w0 w) : Lib.TabIs P w name k zs := by
 unfold Lib.TabIs World.var? at *
 cases hg : P.globalNamed name with
 | none => simp [hg] at h
 | some g =>
  simp only [hg, obS] at h ⊢
  have hlt : g < w0.heap.size := by
   rcases Nat.lt_or_ge g w0.heap.size with h' | h'
   ·exact h'
   ·rw [Array.getElem?_eq_none h'] at h; simp at h
  rw [K.old g hlt]; exact h
theorem orc_ok {w0 : World} (ht : Lib.TabIs Tryz.prog w0 pwN .u64 Lib.pow10Tab) : OrcOK Tryz.prog w0 orcI := by
 intro a b s hs w hK
 have ht' := tab_kept ht hK
 have key : ∀ u : Nat, 1 ≤ u → u ≤ 3 → a = -(u : Int) → b = 10 → 45 :: Lib.decDigits u = s → (∃ fn c, Tryz.prog.funcs[orcI.n]? = some fn ∧ fn.body = some c ∧ (fn.name == "runtime.NumGoroutine") = false) ∧
      Calls Tryz.prog orcI.n #[.int .i64 a, .int .i64 b] w fun e w' => e = .returned (.string ⟨s.toArray⟩) ∧ Kept w w' := by
  intro u h1 h2 ea eb es
  subst ea; subst eb; subst es
  exact ⟨⟨_, _, Tryz.func167, rfl, by kernel_rfl⟩, aDu Tryz.laysM246 u h1 (by omega) w ht'⟩
 have d1 : Lib.decDigits 1 = [49] := by rw [Lib.decDigits]; rfl
 have d2 : Lib.decDigits 2 = [50] := by rw [Lib.decDigits]; rfl
 have d3 : Lib.decDigits 3 = [51] := by rw [Lib.decDigits]; rfl
 simp only [orcI] at hs
 cases hb : decide (b = 10) with
 | false => rw [hb] at hs; cases hs
 | true =>
  have hb' := of_decide_eq_true hb
  rw [hb, cdt] at hs
  cases h1 : decide (a = -1) with
  | true => rw [h1, cdt] at hs; cases hs; exact key 1 (by omega) (by omega) (of_decide_eq_true h1) hb' (by rw [d1])
  | false =>
   rw [h1, cdf] at hs
   cases h2 : decide (a = -2) with
   | true => rw [h2, cdt] at hs; cases hs; exact key 2 (by omega) (by omega) (of_decide_eq_true h2) hb' (by rw [d2])
   | false =>
    rw [h2, cdf] at hs
    cases h3 : decide (a = -3) with
    | true => rw [h3, cdt] at hs; cases hs; exact key 3 (by omega) (by omega) (of_decide_eq_true h3) hb' (by rw [d3])
    | false => rw [h3] at hs; cases hs
end Go.TV
namespace Go.TV
open Go.AI Go.PI Go.Proofs
set_option maxRecDepth 20000
noncomputable section
variable (c : TC0) (e : Cu) (L : Nat)
def q15x0 (c : TC0) (e : Cu) : Kt := xK ii15
def q15x1 (c : TC0) (e : Cu) : Kt := xT ii15 c e [1, 1, 1, 1] (q15x0 c e)
def q15x2 (c : TC0) (e : Cu) : Kt := cI U0 0 (q15x1 c e)
def B15x0 (c : TC0) (e1 : Int → List G.E → Int → Int → List G.T → G.Z → Rt) (a1 : List G.E) (a2 : Int) (a3 : Int) (b0 : G.Z) : Rt :=
 obL [i6, .rc 0] (c 16 [yI a2, yR 0 b0]) fun (r0 : Int × G.Z × Unit) =>
 e1 (IntKind.i64.wrap ((1 : Int) + r0.1)) a1 a3 (0 : Int) ([] : List G.T) r0.2.1
def V15x0 (n : Nt) : List G.E → Int → Int → G.Z → Rt := fun x0 x1 x2 x3 => n [yS 15 x0, yI x1, yI x2, yR 0 x3]
def B15x1 (c : TC0) (n1 : Int → List G.E → Int → Int → List G.T → G.Z → Rt) (a10 : Int) (a1 : List G.E) (a3 : Int) (a11 : Int) (a9 : List G.T) (b0 : G.Z) : Rt :=
 cnd (decide (a11 < a10)) (obL [.rc 3, .rc 0] (c 49 [yS 15 a1, yI a3, yR 0 b0]) fun (r0 : G.T × G.Z × Unit) =>
 obL [zS 3] (c 18 [yS 3 a9, yS 3 ([r0.1] : List G.T)]) fun (r1 : List G.T × Unit) =>
 n1 a10 a1 a3 (IntKind.i64.wrap (a11 + (1 : Int))) r1.1 r0.2.1) (some [yS 3 a9, yR 0 b0])
def V15x1 (n : Nt) : Int → List G.E → Int → Int → List G.T → G.Z → Rt := fun x0 x1 x2 x3 x4 x5 => n [yI x0, yS 15 x1, yI x2, yI x3, yS 3 x4, yR 0 x5]
def X15x1 := V15x1 (xE ii15 e [1, 1, 1, 0, 1, 0, 0] wR (q15x2 c e))
theorem s15x0 : V15x0 (xF ii15 c e) = B15x0 c (X15x1 c e) := by kernel_rfl
theorem s15x1 (n1 : Nt) : V15x1 (xA ii15 c e [1, 1, 1, 0, 1, 0, 0] wR (lpK U0 wR n1 (q15x2 c e))) = B15x1 c (V15x1 n1) := by kernel_rfl
def aA0 (c : TC0) (L : Nat) : Nat → Int → List G.E → Int → Int → List G.T → G.Z → Rt
 | 0 => fun _ _ _ _ _ _ => none
 | n + 1 => B15x1 c (aA0 c L n)
theorem u15x1 (n : Nat) : V15x1 (xL ii15 c L [1, 1, 1, 0, 1, 0, 0] wR (q15x2 c (cu c L)) n) = aA0 c L n := by
 induction n with
 | zero => rfl
 | succ n ih => rw [eM, s15x1]; simp only [ih]; rfl
theorem w15x1 : X15x1 c (cu c L) = aA0 c L L := u15x1 c L L
def F15 (c : TC0) (L : Nat) : List G.E → Int → Int → G.Z → Rt := B15x0 c (aA0 c L L)
theorem e15 : V15x0 (xF ii15 c (cu c L)) = F15 c L := by rw [s15x0]; simp only [w15x1]; rfl
theorem c15 (a1 : List G.E) (a2 : Int) (a3 : Int) (b0 : G.Z) (L n : Nat) : CTp L (n + 1) 15 [yS 15 a1, yI a2, yI a3, yR 0 b0] = F15 (CTp L n) L a1 a2 a3 b0 := by rw [← e15]; exact cg (x := ii15) (by kernel_rfl) (by kernel_rfl) L n _
def q16x0 (c : TC0) (e : Cu) : Kt := xK ii16
def q16x1 (c : TC0) (e : Cu) : Kt := xT ii16 c e [1, 1] (q16x0 c e)
def B16x0 (c : TC0) (k1 : Bool → Int → G.Z → Rt) (a1 : Int) (b0 : G.Z) : Rt :=
 cnd (decide ((List.length b0.b : Int) ≤ b0.pos)) (k1 true a1 b0) (k1 (decide (a1 < (1 : Int))) a1 b0)
def V16x0 (n : Nt) : Int → G.Z → Rt := fun x0 x1 => n [yI x0, yR 0 x1]
def B16x1 (c : TC0) (a18 : Bool) (a1 : Int) (b0 : G.Z) : Rt :=
 cnd a18 (some [yI (0 : Int), yR 0 b0]) (ob (idx b0.b (IntKind.i64.wrap ((IntKind.i64.wrap (b0.pos + (1 : Int))) - (1 : Int)))) fun v0 =>
 chk (!decide (a1 = 0)) <|
 some [yI (Int.tmod (IntKind.i64.wrap v0) a1), yR 0 (G.Z.mk b0.b (IntKind.i64.wrap (b0.pos + (1 : Int))))])
def V16x1 (n : Nt) : Bool → Int → G.Z → Rt := fun x0 x1 x2 => n [yB x0, yI x1, yR 0 x2]
def X16x1 := V16x1 (xD ii16 e [1, 0, 1, 0] aGq (q16x1 c e))
theorem s16x0 : V16x0 (xF ii16 c e) = B16x0 c (X16x1 c e) := by kernel_rfl
theorem s16x1 : V16x1 (xA ii16 c e [1, 0, 1, 0] aGq (q16x1 c e)) = B16x1 c := by kernel_rfl
def J16x1 (c : TC0) (L : Nat) : Bool → Int → G.Z → Rt := B16x1 c
theorem j16x1 : X16x1 c (cu c L) = J16x1 c L := by rw [X16x1, aQ, s16x1]; rfl
def F16 (c : TC0) (L : Nat) : Int → G.Z → Rt := B16x0 c (J16x1 c L)
theorem e16 : V16x0 (xF ii16 c (cu c L)) = F16 c L := by rw [s16x0]; simp only [j16x1]; rfl
theorem c16 (a1 : Int) (b0 : G.Z) (L n : Nat) : CTp L (n + 1) 16 [yI a1, yR 0 b0] = F16 (CTp L n) L a1 b0 := by rw [← e16]; exact cg (x := ii16) (by kernel_rfl) (by kernel_rfl) L n _
def B17x0 (c : TC0) (b0 : G.Z) : Rt :=
 obL [i6, .rc 0] (c 16 [yI (3 : Int), yR 0 b0]) fun (r0 : Int × G.Z × Unit) =>
 ob (slc ([120, 121, 122] : List UInt8) r0.1 (List.length ([120, 121, 122] : List UInt8) : Int)) fun v1 =>
 ob (slc v1 (0 : Int) (1 : Int)) fun v2 =>
 obL [.rc 3] (c 7 [yT v2]) fun (r3 : G.T × Unit) =>
 some [yR 3 r3.1, yR 0 r0.2.1]
def V17x0 (n : Nt) : G.Z → Rt := fun x0 => n [yR 0 x0]
theorem s17x0 : V17x0 (xF ii17 c e) = B17x0 c := by kernel_rfl
def F17 (c : TC0) (L : Nat) : G.Z → Rt := B17x0 c
theorem e17 : V17x0 (xF ii17 c (cu c L)) = F17 c L := s17x0 _ _
theorem c17 (b0 : G.Z) (L n : Nat) : CTp L (n + 1) 17 [yR 0 b0] = F17 (CTp L n) L b0 := by rw [← e17]; exact cg (x := ii17) (by kernel_rfl) (by kernel_rfl) L n _
def q18x0 (c : TC0) (e : Cu) : Kt := xK aFu
def q18x1 (c : TC0) (e : Cu) : Kt := xT aFu c e [1, 1, 1] (q18x0 c e)
def q18x2 (c : TC0) (e : Cu) : Kt := cI U0 0 (q18x1 c e)
def q18x3 (c : TC0) (e : Cu) (n1 : Nt) : Kt := lpK U0 rQ n1 (q18x2 c e)
def B18x0 (c : TC0) (e1 : List G.T → Int → List G.T → Rt) (a0 : List G.T) (a1 : List G.T) : Rt :=
 chk (decide (0 ≤ (0 : Int)) && decide ((0 : Int) ≤ (IntKind.i64.wrap ((List.length a0 : Int) + (List.length a1 : Int)))) && decide ((IntKind.i64.wrap ((List.length a0 : Int) + (List.length a1 : Int))) * (176 : Int) ≤ 1073741824) && decide ((IntKind.i64.wrap ((List.length a0 : Int) + (List.length a1 : Int))) ≤ 1073741824)) <|
 chk (decide ((0 : Int) = 0)) <|
 chk (Nat.ble ((List.length ([] : List G.T) + List.length a0) * 176) 1073741824) <|
 e1 a1 (0 : Int) (([] : List G.T) ++ a0)
def V18x0 (n : Nt) : List G.T → List G.T → Rt := fun x0 x1 => n [yS 3 x0, yS 3 x1]
def B18x1 (c : TC0) (k2 : Int → List G.T → List G.T → Rt) (a1 : List G.T) (a6 : Int) (a5 : List G.T) : Rt :=
 cnd (decide (a6 < (List.length a1 : Int))) (ob (idx a1 a6) fun v0 =>
 obL [.bool] (c 50 [yS 3 a5, yR 3 v0]) fun (r1 : Bool × Unit) =>
 cnd (!r1.1) (ob (idx a1 a6) fun v2 =>
 chk (Nat.ble ((List.length a5 + List.length ([v2] : List G.T)) * 176) 1073741824) <|
 k2 a6 a1 (a5 ++ ([v2] : List G.T))) (k2 a6 a1 a5)) (some [yS 3 a5])
def aHg (n : Nt) : List G.T → Int → List G.T → Rt := fun x0 x1 x2 => n [yS 3 x0, yI x1, yS 3 x2]
def X18x1 := aHg (xE aFu e [1, 1, 0, 1, 0, 0] rQ (q18x2 c e))
def B18x2 (c : TC0) (n1 : List G.T → Int → List G.T → Rt) (a6 : Int) (a1 : List G.T) (a5 : List G.T) : Rt :=
 n1 a1 (IntKind.i64.wrap (a6 + (1 : Int))) a5
def V18x2 (n : Nt) : Int → List G.T → List G.T → Rt := fun x0 x1 x2 => n [yI x0, yS 3 x1, yS 3 x2]
def X18x2 (n1 : Nt) := V18x2 (xD aFu e [1, 1, 0, 1, 0, 0, 1, 1, 0] aGp (q18x3 c e n1))
theorem s18x0 : V18x0 (xF aFu c e) = B18x0 c (X18x1 c e) := by kernel_rfl
theorem s18x1 (n1 : Nt) : aHg (xA aFu c e [1, 1, 0, 1, 0, 0] rQ (lpK U0 rQ n1 (q18x2 c e))) = B18x1 c (X18x2 c e n1) := by kernel_rfl
theorem s18x2 (n1 : Nt) : V18x2 (xA aFu c e [1, 1, 0, 1, 0, 0, 1, 1, 0] aGp (q18x3 c e n1)) = B18x2 c (aHg n1) := by kernel_rfl
def J18x2 (c : TC0) (L : Nat) (n1 : List G.T → Int → List G.T → Rt) : Int → List G.T → List G.T → Rt := B18x2 c n1
theorem j18x2 (n1 : Nt) : X18x2 c (cu c L) n1 = J18x2 c L (aHg n1) := by rw [X18x2, aQ, s18x2]; rfl
def aAZ (c : TC0) (L : Nat) : Nat → List G.T → Int → List G.T → Rt
 | 0 => fun _ _ _ => none
 | n + 1 => B18x1 c (J18x2 c L (aAZ c L n))
theorem u18x1 (n : Nat) : aHg (xL aFu c L [1, 1, 0, 1, 0, 0] rQ (q18x2 c (cu c L)) n) = aAZ c L n := by
 induction n with
 | zero => rfl
 | succ n ih => rw [eM, s18x1]; simp only [j18x2, ih]; rfl
theorem w18x1 : X18x1 c (cu c L) = aAZ c L L := u18x1 c L L
def F18 (c : TC0) (L : Nat) : List G.T → List G.T → Rt := B18x0 c (aAZ c L L)
theorem e18 : V18x0 (xF aFu c (cu c L)) = F18 c L := by rw [s18x0]; simp only [w18x1]; rfl
theorem c18 (a0 : List G.T) (a1 : List G.T) (L n : Nat) : CTp L (n + 1) 18 [yS 3 a0, yS 3 a1] = F18 (CTp L n) L a0 a1 := by rw [← e18]; exact cg (x := aFu) (by kernel_rfl) (by kernel_rfl) L n _
def q19x0 (c : TC0) (e : Cu) : Kt := xK zN
def q19x1 (c : TC0) (e : Cu) : Kt := xT zN c e [1, 1, 1] (q19x0 c e)
def q19x2 (c : TC0) (e : Cu) : Kt := xT zN c e [1, 1, 0, 1, 0, 0, 1] (q19x1 c e)
def q19x3 (c : TC0) (e : Cu) : Kt := cI U0 0 (q19x2 c e)
def q19x4 (c : TC0) (e : Cu) : Kt := cI U0 2 (q19x0 c e)
def B19x0 (c : TC0) (k1 : Bool → List G.T → List G.T → G.T → Rt) (a0 : G.T) (b0 : List G.T) (b1 : List G.T) : Rt :=
 cnd (!decide (a0.kind = (3 : Int))) (some [yS 3 b0, yS 3 b1]) (obL [.bool] (c 51 [yS 3 b0, yR 3 a0]) fun (r0 : Bool × Unit) =>
 cnd r0.1 (obL [.bool] (c 52 [yS 3 b0, yR 3 a0]) fun (r1 : Bool × Unit) =>
 k1 (!r1.1) b0 b1 a0) (k1 false b0 b1 a0))
def V19x0 (n : Nt) : G.T → List G.T → List G.T → Rt := fun x0 x1 x2 => n [yR 3 x0, yS 3 x1, yS 3 x2]
def B19x1 (c : TC0) (e2 : Int → List G.T → Int → List G.T → List G.T → G.T → Rt) (e3 : Int → List G.T → Int → List G.T → List G.T → Rt) (a20 : Bool) (b0 : List G.T) (b1 : List G.T) (b104 : G.T) : Rt :=
 cnd a20 (e2 (List.length b1 : Int) b1 (0 : Int) b0 b1 b104) (e3 (List.length b104.args : Int) b104.args (0 : Int) b0 b1)
def V19x1 (n : Nt) : Bool → List G.T → List G.T → G.T → Rt := fun x0 x1 x2 x3 => n [yB x0, yS 3 x1, yS 3 x2, yR 3 x3]
def X19x1 := V19x1 (xD zN e [1, 1, 0, 1, 0] aGo (q19x1 c e))
def B19x2 (c : TC0) (n2 : Int → List G.T → Int → List G.T → List G.T → G.T → Rt) (a22 : Int) (a21 : List G.T) (a23 : Int) (b0 : List G.T) (b1 : List G.T) (b104 : G.T) : Rt :=
 cnd (decide (a23 < a22)) (ob (idx a21 a23) fun v0 =>
 obL [.bool] (c 53 [yR 3 v0, yR 3 b104]) fun (r1 : Bool × Unit) =>
 cnd r1.1 (some [yS 3 b0, yS 3 b1]) (n2 a22 a21 (IntKind.i64.wrap (a23 + (1 : Int))) b0 b1 b104)) (chk (Nat.ble ((List.length b1 + 1) * 176) 1073741824 && decide ((List.length b1 : Int) = (List.length b1 : Int))) <|
 some [yS 3 b0, yS 3 (b1 ++ [b104])])
def V19x2 (n : Nt) : Int → List G.T → Int → List G.T → List G.T → G.T → Rt := fun x0 x1 x2 x3 x4 x5 => n [yI x0, yS 3 x1, yI x2, yS 3 x3, yS 3 x4, yR 3 x5]
def X19x2 := V19x2 (xE zN e [1, 1, 0, 1, 0, 0, 0, 1, 0, 0] wQ (q19x3 c e))
def B19x3 (c : TC0) (n3 : Int → List G.T → Int → List G.T → List G.T → Rt) (a39 : Int) (a38 : List G.T) (a40 : Int) (b0 : List G.T) (b1 : List G.T) : Rt :=
 cnd (decide (a40 < a39)) (ob (idx a38 a40) fun v0 =>
 obL [zS 3, zS 3] (c 19 [yR 3 v0, yS 3 b0, yS 3 b1]) fun (r1 : List G.T × List G.T × Unit) =>
 n3 a39 a38 (IntKind.i64.wrap (a40 + (1 : Int))) r1.1 r1.2.1) (some [yS 3 b0, yS 3 b1])
def V19x3 (n : Nt) : Int → List G.T → Int → List G.T → List G.T → Rt := fun x0 x1 x2 x3 x4 => n [yI x0, yS 3 x1, yI x2, yS 3 x3, yS 3 x4]
def X19x3 := V19x3 (xE zN e [1, 1, 1, 1, 0, 0] wP (q19x4 c e))
theorem s19x0 : V19x0 (xF zN c e) = B19x0 c (X19x1 c e) := by kernel_rfl
theorem s19x1 : V19x1 (xA zN c e [1, 1, 0, 1, 0] aGo (q19x1 c e)) = B19x1 c (X19x2 c e) (X19x3 c e) := by kernel_rfl
theorem s19x2 (n2 : Nt) : V19x2 (xA zN c e [1, 1, 0, 1, 0, 0, 0, 1, 0, 0] wQ (lpK U0 wQ n2 (q19x3 c e))) = B19x2 c (V19x2 n2) := by kernel_rfl
theorem s19x3 (n3 : Nt) : V19x3 (xA zN c e [1, 1, 1, 1, 0, 0] wP (lpK U0 wP n3 (q19x4 c e))) = B19x3 c (V19x3 n3) := by kernel_rfl
def aAY (c : TC0) (L : Nat) : Nat → Int → List G.T → Int → List G.T → List G.T → G.T → Rt
 | 0 => fun _ _ _ _ _ _ => none
 | n + 1 => B19x2 c (aAY c L n)
theorem u19x2 (n : Nat) : V19x2 (xL zN c L [1, 1, 0, 1, 0, 0, 0, 1, 0, 0] wQ (q19x3 c (cu c L)) n) = aAY c L n := by
 induction n with
 | zero => rfl
 | succ n ih => rw [eM, s19x2]; simp only [ih]; rfl
theorem w19x2 : X19x2 c (cu c L) = aAY c L L := u19x2 c L L
def aAX (c : TC0) (L : Nat) : Nat → Int → List G.T → Int → List G.T → List G.T → Rt
 | 0 => fun _ _ _ _ _ => none
 | n + 1 => B19x3 c (aAX c L n)
theorem u19x3 (n : Nat) : V19x3 (xL zN c L [1, 1, 1, 1, 0, 0] wP (q19x4 c (cu c L)) n) = aAX c L n := by
 induction n with
 | zero => rfl
 | succ n ih => rw [eM, s19x3]; simp only [ih]; rfl
theorem w19x3 : X19x3 c (cu c L) = aAX c L L := u19x3 c L L
def J19x1 (c : TC0) (L : Nat) : Bool → List G.T → List G.T → G.T → Rt := B19x1 c (aAY c L L) (aAX c L L)
theorem j19x1 : X19x1 c (cu c L) = J19x1 c L := by rw [X19x1, aQ, s19x1]; simp only [w19x2, w19x3]; rfl
def F19 (c : TC0) (L : Nat) : G.T → List G.T → List G.T → Rt := B19x0 c (J19x1 c L)
theorem e19 : V19x0 (xF zN c (cu c L)) = F19 c L := by rw [s19x0]; simp only [j19x1]; rfl
theorem c19 (a0 : G.T) (b0 : List G.T) (b1 : List G.T) (L n : Nat) : CTp L (n + 1) 19 [yR 3 a0, yS 3 b0, yS 3 b1] = F19 (CTp L n) L a0 b0 b1 := by rw [← e19]; exact cg (x := zN) (by kernel_rfl) (by kernel_rfl) L n _
def q20x0 (c : TC0) (e : Cu) : Kt := xK ii20
def q20x1 (c : TC0) (e : Cu) : Kt := xT ii20 c e [1, 1, 1] (q20x0 c e)
def q20x2 (c : TC0) (e : Cu) : Kt := cI U0 0 (q20x1 c e)
def B20x0 (c : TC0) (e1 : List G.T → Int → List G.T → Rt) (a0 : List G.T) : Rt :=
 e1 a0 (0 : Int) ([] : List G.T)
def V20x0 (n : Nt) : List G.T → Rt := fun x0 => n [yS 3 x0]
def B20x1 (c : TC0) (n1 : List G.T → Int → List G.T → Rt) (a0 : List G.T) (a4 : Int) (a3 : List G.T) : Rt :=
 cnd (decide (a4 < (List.length a0 : Int))) (ob (idx a0 a4) fun v0 =>
 obL [zS 3] (c 54 [yS 3 a3, yR 3 v0]) fun (r1 : List G.T × Unit) =>
 n1 a0 (IntKind.i64.wrap (a4 + (1 : Int))) r1.1) (some [yS 3 a3])
def V20x1 (n : Nt) : List G.T → Int → List G.T → Rt := fun x0 x1 x2 => n [yS 3 x0, yI x1, yS 3 x2]
def X20x1 := V20x1 (xE ii20 e [1, 1, 0, 1, 0, 0] wO (q20x2 c e))
theorem s20x0 : V20x0 (xF ii20 c e) = B20x0 c (X20x1 c e) := by kernel_rfl
theorem s20x1 (n1 : Nt) : V20x1 (xA ii20 c e [1, 1, 0, 1, 0, 0] wO (lpK U0 wO n1 (q20x2 c e))) = B20x1 c (V20x1 n1) := by kernel_rfl
def aAW (c : TC0) (L : Nat) : Nat → List G.T → Int → List G.T → Rt
 | 0 => fun _ _ _ => none
 | n + 1 => B20x1 c (aAW c L n)
theorem u20x1 (n : Nat) : V20x1 (xL ii20 c L [1, 1, 0, 1, 0, 0] wO (q20x2 c (cu c L)) n) = aAW c L n := by
 induction n with
 | zero => rfl
 | succ n ih => rw [eM, s20x1]; simp only [ih]; rfl
theorem w20x1 : X20x1 c (cu c L) = aAW c L L := u20x1 c L L
def F20 (c : TC0) (L : Nat) : List G.T → Rt := B20x0 c (aAW c L L)
theorem e20 : V20x0 (xF ii20 c (cu c L)) = F20 c L := by rw [s20x0]; simp only [w20x1]; rfl
theorem c20 (a0 : List G.T) (L n : Nat) : CTp L (n + 1) 20 [yS 3 a0] = F20 (CTp L n) L a0 := by rw [← e20]; exact cg (x := ii20) (by kernel_rfl) (by kernel_rfl) L n _
def q21x0 (c : TC0) (e : Cu) : Kt := xK ii21
def q21x1 (c : TC0) (e : Cu) : Kt := xT ii21 c e [1, 1, 1, 1] (q21x0 c e)
def q21x2 (c : TC0) (e : Cu) : Kt := cI U0 0 (q21x1 c e)
def B21x0 (c : TC0) (k1 : Bool → Rt) (a0 : G.Y) : Rt :=
 obL [i6, .bool] (c 55 [yR 1 a0]) fun (r0 : Int × Bool × Unit) =>
 cnd r0.2.1 (some [yB true]) (cnd (!decide (a0.package = ([108, 105, 115, 112] : List UInt8))) (some [yB false]) (cnd (decide (a0.name = ([110, 111, 116] : List UInt8))) (k1 (decide (a0.name = ([110, 111, 116] : List UInt8)))) (cnd (decide (a0.name = ([105, 109, 112, 108, 105, 101, 115] : List UInt8))) (k1 (decide (a0.name = ([105, 109, 112, 108, 105, 101, 115] : List UInt8)))) (cnd (decide (a0.name = ([105, 102, 102] : List UInt8))) (k1 (decide (a0.name = ([105, 102, 102] : List UInt8)))) (cnd (decide (a0.name = ([98, 111, 111, 108, 101, 97, 110, 112] : List UInt8))) (k1 (decide (a0.name = ([98, 111, 111, 108, 101, 97, 110, 112] : List UInt8)))) (cnd (decide (a0.name = ([97, 116, 111, 109] : List UInt8))) (k1 (decide (a0.name = ([97, 116, 111, 109] : List UInt8)))) (cnd (decide (a0.name = ([101, 110, 100, 112] : List UInt8))) (k1 (decide (a0.name = ([101, 110, 100, 112] : List UInt8)))) (cnd (decide (a0.name = ([110, 97, 116, 112] : List UInt8))) (k1 (decide (a0.name = ([110, 97, 116, 112] : List UInt8)))) (cnd (decide (a0.name = ([112, 111, 115, 112] : List UInt8))) (k1 (decide (a0.name = ([112, 111, 115, 112] : List UInt8)))) (cnd (decide (a0.name = ([122, 112] : List UInt8))) (k1 (decide (a0.name = ([122, 112] : List UInt8)))) (cnd (decide (a0.name = ([116, 114, 117, 101, 45, 108, 105, 115, 116, 112] : List UInt8))) (k1 (decide (a0.name = ([116, 114, 117, 101, 45, 108, 105, 115, 116, 112] : List UInt8)))) (cnd (decide (a0.name = ([111, 45, 112] : List UInt8))) (k1 (decide (a0.name = ([111, 45, 112] : List UInt8)))) (cnd (decide (a0.name = ([111, 60] : List UInt8))) (k1 (decide (a0.name = ([111, 60] : List UInt8)))) (k1 (decide (a0.name = ([115, 121, 110, 116, 97, 120, 112] : List UInt8)))))))))))))))))
def V21x0 (n : Nt) : G.Y → Rt := fun x0 => n [yR 1 x0]
def B21x1 (c : TC0) (a16 : Bool) : Rt :=
 cnd a16 (some [yB true]) (some [yB false])
def V21x1 (n : Nt) : Bool → Rt := fun x0 => n [yB x0]
def X21x1 := V21x1 (xD ii21 e [1, 1, 1, 0, 1, 0, 1, 0] aGn (q21x2 c e))
theorem s21x0 : V21x0 (xF ii21 c e) = B21x0 c (X21x1 c e) := by kernel_rfl
theorem s21x1 : V21x1 (xA ii21 c e [1, 1, 1, 0, 1, 0, 1, 0] aGn (q21x2 c e)) = B21x1 c := by kernel_rfl
def J21x1 (c : TC0) (L : Nat) : Bool → Rt := B21x1 c
theorem j21x1 : X21x1 c (cu c L) = J21x1 c L := by rw [X21x1, aQ, s21x1]; rfl
def F21 (c : TC0) (L : Nat) : G.Y → Rt := B21x0 c (J21x1 c L)
theorem e21 : V21x0 (xF ii21 c (cu c L)) = F21 c L := by rw [s21x0]; simp only [j21x1]; rfl
theorem c21 (a0 : G.Y) (L n : Nat) : CTp L (n + 1) 21 [yR 1 a0] = F21 (CTp L n) L a0 := by rw [← e21]; exact cg (x := ii21) (by kernel_rfl) (by kernel_rfl) L n _
def B22x0 (c : TC0) (a0 : G.T) : Rt :=
 obL [zS 1] (c 56 [yS 3 ([a0] : List G.T)]) fun (r0 : List G.Y × Unit) =>
 some [yB (decide ((List.length r0.1 : Int) = (0 : Int)))]
def V22x0 (n : Nt) : G.T → Rt := fun x0 => n [yR 3 x0]
theorem s22x0 : V22x0 (xF ii22 c e) = B22x0 c := by kernel_rfl
def F22 (c : TC0) (L : Nat) : G.T → Rt := B22x0 c
theorem e22 : V22x0 (xF ii22 c (cu c L)) = F22 c L := s22x0 _ _
theorem c22 (a0 : G.T) (L n : Nat) : CTp L (n + 1) 22 [yR 3 a0] = F22 (CTp L n) L a0 := by rw [← e22]; exact cg (x := ii22) (by kernel_rfl) (by kernel_rfl) L n _
def q23x0 (c : TC0) (e : Cu) : Kt := xK yK
def q23x1 (c : TC0) (e : Cu) : Kt := xT yK c e [1, 1, 1] (q23x0 c e)
def q23x2 (c : TC0) (e : Cu) : Kt := cI U0 0 (q23x1 c e)
def q23x3 (c : TC0) (e : Cu) (n1 : Nt) : Kt := lpK U0 rP n1 (q23x2 c e)
def q23x4 (c : TC0) (e : Cu) (n1 : Nt) : Kt := xT yK c e [1, 1, 0, 1, 0, 0, 1, 1] (q23x3 c e n1)
def q23x5 (c : TC0) (e : Cu) (n1 : Nt) : Kt := cI U0 1 (q23x4 c e n1)
def B23x0 (c : TC0) (e1 : List G.T → Int → Int → G.T → Rt) (a0 : List G.T) (a1 : G.T) : Rt :=
 e1 a0 (0 : Int) (0 : Int) a1
def V23x0 (n : Nt) : List G.T → G.T → Rt := fun x0 x1 => n [yS 3 x0, yR 3 x1]
def B23x1 (c : TC0) (k2 : Int → List G.T → Int → G.T → Rt) (k3 : Int → List G.T → Int → G.T → G.T → Rt) (a0 : List G.T) (a6 : Int) (a5 : Int) (b103 : G.T) : Rt :=
 cnd (decide (a6 < (List.length a0 : Int))) (ob (idx a0 a6) fun v0 =>
 obL [.bool] (c 24 [yR 3 b103, yR 3 v0]) fun (r1 : Bool × Unit) =>
 cnd (!r1.1) (k2 a6 a0 a5 b103) (ob (idx a0 a6) fun v2 =>
 obL [.bool] (c 57 [yR 3 v2, yT ([110, 111, 116] : List UInt8), yI (1 : Int)]) fun (r3 : Bool × Unit) =>
 cnd r3.1 (ob (idx v2.args (0 : Int)) fun v4 =>
 k3 a6 a0 (IntKind.i64.wrap (a5 + (1 : Int))) v4 b103) (k3 a6 a0 (IntKind.i64.wrap (a5 + (1 : Int))) v2 b103))) (some [yB (decide ((1 : Int) < a5))])
def aA5 (n : Nt) : List G.T → Int → Int → G.T → Rt := fun x0 x1 x2 x3 => n [yS 3 x0, yI x1, yI x2, yR 3 x3]
def X23x1 := aA5 (xE yK e [1, 1, 0, 1, 0, 0] rP (q23x2 c e))
def aDR (c : TC0) (n1 : List G.T → Int → Int → G.T → Rt) (a6 : Int) (a0 : List G.T) (a5 : Int) (b103 : G.T) : Rt :=
 n1 a0 (IntKind.i64.wrap (a6 + (1 : Int))) a5 b103
def V23x2 (n : Nt) : Int → List G.T → Int → G.T → Rt := fun x0 x1 x2 x3 => n [yI x0, yS 3 x1, yI x2, yR 3 x3]
def X23x2 (n1 : Nt) := V23x2 (xD yK e [1, 1, 0, 1, 0, 0, 1, 1, 0] aGm (q23x3 c e n1))
def B23x3 (c : TC0) (k4 : Bool → Int → List G.T → Int → G.T → Rt) (a6 : Int) (a0 : List G.T) (a5 : Int) (b107 : G.T) (b103 : G.T) : Rt :=
 obL [.bool] (c 57 [yR 3 b107, yT ([101, 113, 117, 97, 108] : List UInt8), yI (2 : Int)]) fun (r0 : Bool × Unit) =>
 cnd r0.1 (ob (idx b107.args (0 : Int)) fun v1 =>
 obL [.bool] (c 24 [yR 3 b103, yR 3 v1]) fun (r2 : Bool × Unit) =>
 cnd r2.1 (ob (idx b107.args (1 : Int)) fun v3 =>
 obL [.bool] (c 24 [yR 3 b103, yR 3 v3]) fun (r4 : Bool × Unit) =>
 k4 r4.1 a6 a0 a5 b103) (k4 false a6 a0 a5 b103)) (k4 false a6 a0 a5 b103)
def V23x3 (n : Nt) : Int → List G.T → Int → G.T → G.T → Rt := fun x0 x1 x2 x3 x4 => n [yI x0, yS 3 x1, yI x2, yR 3 x3, yR 3 x4]
def X23x3 (n1 : Nt) := V23x3 (xD yK e [1, 1, 0, 1, 0, 0, 1, 0, 0, 1, 1, 1, 1, 0] aGl (q23x5 c e n1))
def aHF (c : TC0) (k2 : Int → List G.T → Int → G.T → Rt) (a50 : Bool) (a6 : Int) (a0 : List G.T) (a5 : Int) (b103 : G.T) : Rt :=
 cnd a50 (some [yB true]) (k2 a6 a0 a5 b103)
def V23x4 (n : Nt) : Bool → Int → List G.T → Int → G.T → Rt := fun x0 x1 x2 x3 x4 => n [yB x0, yI x1, yS 3 x2, yI x3, yR 3 x4]
def X23x4 (n1 : Nt) := V23x4 (xD yK e [1, 1, 0, 1, 0, 0, 1, 0, 0, 1, 1, 1, 1, 0, 1, 0] aGk (q23x5 c e n1))
theorem s23x0 : V23x0 (xF yK c e) = B23x0 c (X23x1 c e) := by kernel_rfl
theorem s23x1 (n1 : Nt) : aA5 (xA yK c e [1, 1, 0, 1, 0, 0] rP (lpK U0 rP n1 (q23x2 c e))) = B23x1 c (X23x2 c e n1) (X23x3 c e n1) := by kernel_rfl
theorem s23x2 (n1 : Nt) : V23x2 (xA yK c e [1, 1, 0, 1, 0, 0, 1, 1, 0] aGm (q23x3 c e n1)) = aDR c (aA5 n1) := by kernel_rfl
theorem s23x3 (n1 : Nt) : V23x3 (xA yK c e [1, 1, 0, 1, 0, 0, 1, 0, 0, 1, 1, 1, 1, 0] aGl (q23x5 c e n1)) = B23x3 c (X23x4 c e n1) := by kernel_rfl
theorem s23x4 (n1 : Nt) : V23x4 (xA yK c e [1, 1, 0, 1, 0, 0, 1, 0, 0, 1, 1, 1, 1, 0, 1, 0] aGk (q23x5 c e n1)) = aHF c (X23x2 c e n1) := by kernel_rfl
def aA8 (c : TC0) (L : Nat) (n1 : List G.T → Int → Int → G.T → Rt) : Int → List G.T → Int → G.T → Rt := aDR c n1
theorem j23x2 (n1 : Nt) : X23x2 c (cu c L) n1 = aA8 c L (aA5 n1) := by rw [X23x2, aQ, s23x2]; rfl
def aHn (c : TC0) (L : Nat) (n1 : List G.T → Int → Int → G.T → Rt) : Bool → Int → List G.T → Int → G.T → Rt := aHF c (aA8 c L n1)
theorem j23x4 (n1 : Nt) : X23x4 c (cu c L) n1 = aHn c L (aA5 n1) := by rw [X23x4, aQ, s23x4]; simp only [j23x2]; rfl
def aHo (c : TC0) (L : Nat) (n1 : List G.T → Int → Int → G.T → Rt) : Int → List G.T → Int → G.T → G.T → Rt := B23x3 c (aHn c L n1)
theorem j23x3 (n1 : Nt) : X23x3 c (cu c L) n1 = aHo c L (aA5 n1) := by rw [X23x3, aQ, s23x3]; simp only [j23x4]; rfl
def tY (c : TC0) (L : Nat) : Nat → List G.T → Int → Int → G.T → Rt
 | 0 => fun _ _ _ _ => none
 | n + 1 => B23x1 c (aA8 c L (tY c L n)) (aHo c L (tY c L n))
theorem u23x1 (n : Nat) : aA5 (xL yK c L [1, 1, 0, 1, 0, 0] rP (q23x2 c (cu c L)) n) = tY c L n := by
 induction n with
 | zero => rfl
 | succ n ih => rw [eM, s23x1]; simp only [j23x2, j23x3, ih]; rfl
theorem w23x1 : X23x1 c (cu c L) = tY c L L := u23x1 c L L
def F23 (c : TC0) (L : Nat) : List G.T → G.T → Rt := B23x0 c (tY c L L)
theorem e23 : V23x0 (xF yK c (cu c L)) = F23 c L := by rw [s23x0]; simp only [w23x1]; rfl
theorem c23 (a0 : List G.T) (a1 : G.T) (L n : Nat) : CTp L (n + 1) 23 [yS 3 a0, yR 3 a1] = F23 (CTp L n) L a0 a1 := by rw [← e23]; exact cg (x := yK) (by kernel_rfl) (by kernel_rfl) L n _
def q24x0 (c : TC0) (e : Cu) : Kt := xK ii24
def q24x1 (c : TC0) (e : Cu) : Kt := xT ii24 c e [1, 1, 1, 1] (q24x0 c e)
def q24x2 (c : TC0) (e : Cu) : Kt := cI U0 0 (q24x1 c e)
def B24x0 (c : TC0) (e1 : List G.T → Int → G.T → Rt) (a0 : G.T) (a1 : G.T) : Rt :=
 obL [.bool] (c 9 [yR 3 a0, yR 3 a1]) fun (r0 : Bool × Unit) =>
 cnd r0.1 (some [yB true]) (obL [zS 3] (c 58 [yR 3 a1]) fun (r1 : List G.T × Unit) =>
 e1 r1.1 (0 : Int) a0)
def V24x0 (n : Nt) : G.T → G.T → Rt := fun x0 x1 => n [yR 3 x0, yR 3 x1]
def B24x1 (c : TC0) (n1 : List G.T → Int → G.T → Rt) (a5 : List G.T) (a6 : Int) (b102 : G.T) : Rt :=
 cnd (decide (a6 < (List.length a5 : Int))) (ob (idx a5 a6) fun v0 =>
 obL [.bool] (c 24 [yR 3 b102, yR 3 v0]) fun (r1 : Bool × Unit) =>
 cnd r1.1 (some [yB true]) (n1 a5 (IntKind.i64.wrap (a6 + (1 : Int))) b102)) (some [yB false])
def V24x1 (n : Nt) : List G.T → Int → G.T → Rt := fun x0 x1 x2 => n [yS 3 x0, yI x1, yR 3 x2]
def X24x1 := V24x1 (xE ii24 e [1, 1, 1, 0, 1, 0, 0] wN (q24x2 c e))
theorem s24x0 : V24x0 (xF ii24 c e) = B24x0 c (X24x1 c e) := by kernel_rfl
theorem s24x1 (n1 : Nt) : V24x1 (xA ii24 c e [1, 1, 1, 0, 1, 0, 0] wN (lpK U0 wN n1 (q24x2 c e))) = B24x1 c (V24x1 n1) := by kernel_rfl
def aAV (c : TC0) (L : Nat) : Nat → List G.T → Int → G.T → Rt
 | 0 => fun _ _ _ => none
 | n + 1 => B24x1 c (aAV c L n)
theorem u24x1 (n : Nat) : V24x1 (xL ii24 c L [1, 1, 1, 0, 1, 0, 0] wN (q24x2 c (cu c L)) n) = aAV c L n := by
 induction n with
 | zero => rfl
 | succ n ih => rw [eM, s24x1]; simp only [ih]; rfl
theorem w24x1 : X24x1 c (cu c L) = aAV c L L := u24x1 c L L
def F24 (c : TC0) (L : Nat) : G.T → G.T → Rt := B24x0 c (aAV c L L)
theorem e24 : V24x0 (xF ii24 c (cu c L)) = F24 c L := by rw [s24x0]; simp only [w24x1]; rfl
theorem c24 (a0 : G.T) (a1 : G.T) (L n : Nat) : CTp L (n + 1) 24 [yR 3 a0, yR 3 a1] = F24 (CTp L n) L a0 a1 := by rw [← e24]; exact cg (x := ii24) (by kernel_rfl) (by kernel_rfl) L n _
def q27x0 (c : TC0) (e : Cu) : Kt := xK aD4
def q27x1 (c : TC0) (e : Cu) : Kt := xT aD4 c e [1, 1] (q27x0 c e)
def q27x2 (c : TC0) (e : Cu) : Kt := xT aD4 c e [1, 1, 1] (q27x0 c e)
def q27x3 (c : TC0) (e : Cu) : Kt := cI U0 0 (q27x2 c e)
def B27x0 (c : TC0) (k1 : Bool → G.O → G.O → Rt) (a0 : G.O) (a1 : G.O) : Rt :=
 cnd (!decide (a0.kind = a1.kind)) (k1 true a0 a1) (cnd (!decide (a0.num = a1.num)) (k1 true a0 a1) (cnd (!decide (a0.den = a1.den)) (k1 true a0 a1) (cnd (!decide (a0.sym = a1.sym)) (k1 true a0 a1) (cnd (!decide (a0.text = a1.text)) (k1 true a0 a1) (k1 (!decide ((List.length a0.pair : Int) = (List.length a1.pair : Int))) a0 a1)))))
def V27x0 (n : Nt) : G.O → G.O → Rt := fun x0 x1 => n [yR 2 x0, yR 2 x1]
def B27x1 (c : TC0) (e2 : Int → G.O → G.O → Rt) (a47 : Bool) (b102 : G.O) (b103 : G.O) : Rt :=
 cnd a47 (some [yB false]) (e2 (0 : Int) b102 b103)
def V27x1 (n : Nt) : Bool → G.O → G.O → Rt := fun x0 x1 x2 => n [yB x0, yR 2 x1, yR 2 x2]
def X27x1 := V27x1 (xD aD4 e [1, 0, 1, 0] aGj (q27x1 c e))
def B27x2 (c : TC0) (n2 : Int → G.O → G.O → Rt) (a5 : Int) (b102 : G.O) (b103 : G.O) : Rt :=
 cnd (decide (a5 < (List.length b102.pair : Int))) (ob (idx b102.pair a5) fun v0 =>
 ob (idx b103.pair a5) fun v1 =>
 obL [.bool] (c 27 [yR 2 v0, yR 2 v1]) fun (r2 : Bool × Unit) =>
 cnd (!r2.1) (some [yB false]) (n2 (IntKind.i64.wrap (a5 + (1 : Int))) b102 b103)) (some [yB true])
def V27x2 (n : Nt) : Int → G.O → G.O → Rt := fun x0 x1 x2 => n [yI x0, yR 2 x1, yR 2 x2]
def X27x2 := V27x2 (xE aD4 e [1, 1, 0, 1, 0, 0] wM (q27x3 c e))
theorem s27x0 : V27x0 (xF aD4 c e) = B27x0 c (X27x1 c e) := by kernel_rfl
theorem s27x1 : V27x1 (xA aD4 c e [1, 0, 1, 0] aGj (q27x1 c e)) = B27x1 c (X27x2 c e) := by kernel_rfl
theorem s27x2 (n2 : Nt) : V27x2 (xA aD4 c e [1, 1, 0, 1, 0, 0] wM (lpK U0 wM n2 (q27x3 c e))) = B27x2 c (V27x2 n2) := by kernel_rfl
def aAU (c : TC0) (L : Nat) : Nat → Int → G.O → G.O → Rt
 | 0 => fun _ _ _ => none
 | n + 1 => B27x2 c (aAU c L n)
theorem u27x2 (n : Nat) : V27x2 (xL aD4 c L [1, 1, 0, 1, 0, 0] wM (q27x3 c (cu c L)) n) = aAU c L n := by
 induction n with
 | zero => rfl
 | succ n ih => rw [eM, s27x2]; simp only [ih]; rfl
theorem w27x2 : X27x2 c (cu c L) = aAU c L L := u27x2 c L L
def J27x1 (c : TC0) (L : Nat) : Bool → G.O → G.O → Rt := B27x1 c (aAU c L L)
theorem j27x1 : X27x1 c (cu c L) = J27x1 c L := by rw [X27x1, aQ, s27x1]; simp only [w27x2]; rfl
def F27 (c : TC0) (L : Nat) : G.O → G.O → Rt := B27x0 c (J27x1 c L)
theorem e27 : V27x0 (xF aD4 c (cu c L)) = F27 c L := by rw [s27x0]; simp only [j27x1]; rfl
theorem c27 (a0 : G.O) (a1 : G.O) (L n : Nat) : CTp L (n + 1) 27 [yR 2 a0, yR 2 a1] = F27 (CTp L n) L a0 a1 := by rw [← e27]; exact cg (x := aD4) (by kernel_rfl) (by kernel_rfl) L n _
def q28x0 (c : TC0) (e : Cu) : Kt := xK ii28
def q28x1 (c : TC0) (e : Cu) : Kt := xT ii28 c e [1, 1, 1] (q28x0 c e)
def q28x2 (c : TC0) (e : Cu) : Kt := cI U0 0 (q28x1 c e)
def B28x0 (c : TC0) (e1 : List G.T → List G.T → Int → Rt) (a0 : List G.T) (a1 : List G.T) : Rt :=
 cnd (!decide ((List.length a0 : Int) = (List.length a1 : Int))) (some [yB false]) (e1 a0 a1 (0 : Int))
def V28x0 (n : Nt) : List G.T → List G.T → Rt := fun x0 x1 => n [yS 3 x0, yS 3 x1]
def B28x1 (c : TC0) (n1 : List G.T → List G.T → Int → Rt) (a0 : List G.T) (a1 : List G.T) (a5 : Int) : Rt :=
 cnd (decide (a5 < (List.length a0 : Int))) (ob (idx a0 a5) fun v0 =>
 ob (idx a1 a5) fun v1 =>
 obL [.bool] (c 9 [yR 3 v0, yR 3 v1]) fun (r2 : Bool × Unit) =>
 cnd (!r2.1) (some [yB false]) (n1 a0 a1 (IntKind.i64.wrap (a5 + (1 : Int))))) (some [yB true])
def V28x1 (n : Nt) : List G.T → List G.T → Int → Rt := fun x0 x1 x2 => n [yS 3 x0, yS 3 x1, yI x2]
def X28x1 := V28x1 (xE ii28 e [1, 1, 0, 1, 0, 0] wK (q28x2 c e))
theorem s28x0 : V28x0 (xF ii28 c e) = B28x0 c (X28x1 c e) := by kernel_rfl
theorem s28x1 (n1 : Nt) : V28x1 (xA ii28 c e [1, 1, 0, 1, 0, 0] wK (lpK U0 wK n1 (q28x2 c e))) = B28x1 c (V28x1 n1) := by kernel_rfl
def aAT (c : TC0) (L : Nat) : Nat → List G.T → List G.T → Int → Rt
 | 0 => fun _ _ _ => none
 | n + 1 => B28x1 c (aAT c L n)
theorem u28x1 (n : Nat) : V28x1 (xL ii28 c L [1, 1, 0, 1, 0, 0] wK (q28x2 c (cu c L)) n) = aAT c L n := by
 induction n with
 | zero => rfl
 | succ n ih => rw [eM, s28x1]; simp only [ih]; rfl
theorem w28x1 : X28x1 c (cu c L) = aAT c L L := u28x1 c L L
def F28 (c : TC0) (L : Nat) : List G.T → List G.T → Rt := B28x0 c (aAT c L L)
theorem e28 : V28x0 (xF ii28 c (cu c L)) = F28 c L := by rw [s28x0]; simp only [w28x1]; rfl
theorem c28 (a0 : List G.T) (a1 : List G.T) (L n : Nat) : CTp L (n + 1) 28 [yS 3 a0, yS 3 a1] = F28 (CTp L n) L a0 a1 := by rw [← e28]; exact cg (x := ii28) (by kernel_rfl) (by kernel_rfl) L n _
def B29x0 (c : TC0) : Rt :=
 obL [zS 5] (c 59 []) fun (r0 : List G.A × Unit) =>
 obL [.str] (c 60 []) fun (r1 : List UInt8 × Unit) =>
 obL [zS 2, .rc 17] (c 61 [yS 5 r0.1, yT ([108, 105, 115, 112] : List UInt8), yT r1.1]) fun (r2 : List G.O × G.X × Unit) =>
 some [yS 2 r2.1]
def V29x0 (n : Nt) : Rt := n []
theorem s29x0 : V29x0 (xF ii29 c e) = B29x0 c := by kernel_rfl
def F29 (c : TC0) (L : Nat) : Rt := B29x0 c
theorem e29 : V29x0 (xF ii29 c (cu c L)) = F29 c L := s29x0 _ _
theorem c29 (L n : Nat) : CTp L (n + 1) 29 [] = F29 (CTp L n) L := by rw [← e29]; exact cg (x := ii29) (by kernel_rfl) (by kernel_rfl) L n _
def B31x0 (c : TC0) (a0 : List UInt8) : Rt :=
 some [yR 1 (G.Y.mk ([108, 105, 115, 112] : List UInt8) a0)]
def V31x0 (n : Nt) : List UInt8 → Rt := fun x0 => n [yT x0]
theorem s31x0 : V31x0 (xF ii31 c e) = B31x0 c := by kernel_rfl
def F31 (c : TC0) (L : Nat) : List UInt8 → Rt := B31x0 c
theorem e31 : V31x0 (xF ii31 c (cu c L)) = F31 c L := s31x0 _ _
theorem c31 (a0 : List UInt8) (L n : Nat) : CTp L (n + 1) 31 [yT a0] = F31 (CTp L n) L a0 := by rw [← e31]; exact cg (x := ii31) (by kernel_rfl) (by kernel_rfl) L n _
def q43x0 (c : TC0) (e : Cu) : Kt := xK tF
def q43x1 (c : TC0) (e : Cu) : Kt := xT tF c e [1, 1, 1] (q43x0 c e)
def q43x2 (c : TC0) (e : Cu) : Kt := xT tF c e [1, 1, 1, 0, 1] (q43x0 c e)
def aEH (c : TC0) (e : Cu) : Kt := cI U0 0 (q43x2 c e)
def q43x4 (c : TC0) (e : Cu) : Kt := xT tF c e [1, 1, 1, 0, 0, 1, 0, 1, 1, 1, 1, 1, 0, 1, 1, 1, 1, 1, 1, 1, 1, 1, 1, 1, 1, 1, 1, 0, 0, 1, 1, 1] (aEH c e)
def q43x5 (c : TC0) (e : Cu) : Kt := cI U0 1 (q43x4 c e)
def B43x0 (c : TC0) (k1 : Bool → Int → Int → G.Z → G.O → Rt) (a1 : Int) (b0 : G.Z) : Rt :=
 obL [i6, .rc 0] (c 16 [yI (14 : Int), yR 0 b0]) fun (r0 : Int × G.Z × Unit) =>
 cnd (decide (a1 < (1 : Int))) (k1 (decide ((9 : Int) < r0.1)) r0.1 a1 r0.2.1 (G.O.mk (0 : Int) ([] : List UInt8) ([] : List UInt8) (G.Y.mk ([] : List UInt8) ([] : List UInt8)) ([] : List UInt8) ([] : List G.O))) (k1 false r0.1 a1 r0.2.1 (G.O.mk (0 : Int) ([] : List UInt8) ([] : List UInt8) (G.Y.mk ([] : List UInt8) ([] : List UInt8)) ([] : List UInt8) ([] : List G.O)))
def V43x0 (n : Nt) : Int → G.Z → Rt := fun x0 x1 => n [yI x0, yR 0 x1]
def B43x1 (c : TC0) (k2 : Int → Int → G.Z → G.O → Rt) (a17 : Bool) (a5 : Int) (a1 : Int) (b0 : G.Z) (b104 : G.O) : Rt :=
 cnd a17 (k2 (IntKind.i64.wrap (a5 - (8 : Int))) a1 b0 b104) (k2 a5 a1 b0 b104)
def V43x1 (n : Nt) : Bool → Int → Int → G.Z → G.O → Rt := fun x0 x1 x2 x3 x4 => n [yB x0, yI x1, yI x2, yR 0 x3, yR 2 x4]
def X43x1 := V43x1 (xD tF e [1, 1, 0, 1, 0] aGh (q43x1 c e))
def B43x2 (c : TC0) (k3 : Bool → Int → Int → G.Z → G.O → Rt) (a5 : Int) (a1 : Int) (b0 : G.Z) (b104 : G.O) : Rt :=
 cnd (decide (a5 = (0 : Int))) (obL [.rc 2] (c 67 []) fun (r0 : G.O × Unit) =>
 some [yR 2 r0.1, yR 0 b0]) (cnd (decide (a5 = (1 : Int))) (obL [.rc 2] (c 63 []) fun (r1 : G.O × Unit) =>
 some [yR 2 r1.1, yR 0 b0]) (cnd (decide (a5 = (2 : Int))) (k3 (decide (a5 = (2 : Int))) a5 a1 b0 b104) (k3 (decide (a5 = (3 : Int))) a5 a1 b0 b104)))
def V43x2 (n : Nt) : Int → Int → G.Z → G.O → Rt := fun x0 x1 x2 x3 => n [yI x0, yI x1, yR 0 x2, yR 2 x3]
def X43x2 := V43x2 (xD tF e [1, 1, 1, 0] aGg (q43x0 c e))
def B43x3 (c : TC0) (k4 : Bool → Int → G.Z → G.O → Rt) (a27 : Bool) (a20 : Int) (a1 : Int) (b0 : G.Z) (b104 : G.O) : Rt :=
 cnd a27 (obL [i6, .rc 0] (c 16 [yI (7 : Int), yR 0 b0]) fun (r0 : Int × G.Z × Unit) =>
 obL [.rc 2] (c 68 [yI (IntKind.i64.wrap (r0.1 - (3 : Int)))]) fun (r1 : G.O × Unit) =>
 some [yR 2 r1.1, yR 0 r0.2.1]) (cnd (decide (a20 = (4 : Int))) (obL [.rc 2] (c 70 [yT ([49] : List UInt8), yT ([50] : List UInt8)]) fun (r2 : G.O × Unit) =>
 some [yR 2 r2.1, yR 0 b0]) (cnd (decide (a20 = (5 : Int))) (obL [.rc 2] (c 70 [yT ([45, 53] : List UInt8), yT ([51] : List UInt8)]) fun (r3 : G.O × Unit) =>
 some [yR 2 r3.1, yR 0 b0]) (cnd (decide (a20 = (6 : Int))) (obL [i6, .rc 0] (c 16 [yI (3 : Int), yR 0 b0]) fun (r4 : Int × G.Z × Unit) =>
 ob (slc ([97, 98, 99] : List UInt8) r4.1 (List.length ([97, 98, 99] : List UInt8) : Int)) fun v5 =>
 ob (slc v5 (0 : Int) (1 : Int)) fun v6 =>
 obL [.rc 1] (c 13 [yT v6]) fun (r7 : G.Y × Unit) =>
 obL [.rc 2] (c 71 [yR 1 r7.1]) fun (r8 : G.O × Unit) =>
 some [yR 2 r8.1, yR 0 r4.2.1]) (cnd (decide (a20 = (7 : Int))) (obL [i6, .rc 0] (c 16 [yI (3 : Int), yR 0 b0]) fun (r9 : Int × G.Z × Unit) =>
 ob (slc ([112, 113] : List UInt8) (0 : Int) r9.1) fun v10 =>
 obL [.rc 2] (c 72 [yT v10]) fun (r11 : G.O × Unit) =>
 some [yR 2 r11.1, yR 0 r9.2.1]) (cnd (decide (a20 = (8 : Int))) (obL [.rc 2] (c 68 [yI (0 : Int)]) fun (r12 : G.O × Unit) =>
 some [yR 2 r12.1, yR 0 b0]) (cnd (decide (a20 = (9 : Int))) (obL [.rc 2] (c 68 [yI (1 : Int)]) fun (r13 : G.O × Unit) =>
 some [yR 2 r13.1, yR 0 b0]) (cnd (decide (a20 = (10 : Int))) (k4 (decide (a20 = (10 : Int))) a1 b0 b104) (cnd (decide (a20 = (11 : Int))) (k4 (decide (a20 = (11 : Int))) a1 b0 b104) (k4 (decide (a20 = (12 : Int))) a1 b0 b104)))))))))
def V43x3 (n : Nt) : Bool → Int → Int → G.Z → G.O → Rt := fun x0 x1 x2 x3 x4 => n [yB x0, yI x1, yI x2, yR 0 x3, yR 2 x4]
def X43x3 := V43x3 (xD tF e [1, 1, 1, 0, 0, 1, 0, 1, 1, 1, 1, 1, 0] aGf (aEH c e))
def B43x4 (c : TC0) (e5 : Int → Int → Int → List G.O → G.Z → G.O → Rt) (a60 : Bool) (a1 : Int) (b0 : G.Z) (b104 : G.O) : Rt :=
 cnd a60 (obL [i6, .rc 0] (c 16 [yI (4 : Int), yR 0 b0]) fun (r0 : Int × G.Z × Unit) =>
 e5 r0.1 a1 (0 : Int) ([] : List G.O) r0.2.1 b104) (obL [.rc 2, .rc 0] (c 43 [yI (IntKind.i64.wrap (a1 - (1 : Int))), yR 0 b0]) fun (r1 : G.O × G.Z × Unit) =>
 obL [.rc 2, .rc 0] (c 43 [yI (IntKind.i64.wrap (a1 - (1 : Int))), yR 0 r1.2.1]) fun (r2 : G.O × G.Z × Unit) =>
 obL [.rc 2] (c 73 [yR 2 r1.1, yR 2 r2.1]) fun (r3 : G.O × Unit) =>
 some [yR 2 r3.1, yR 0 r2.2.1])
def V43x4 (n : Nt) : Bool → Int → G.Z → G.O → Rt := fun x0 x1 x2 x3 => n [yB x0, yI x1, yR 0 x2, yR 2 x3]
def X43x4 := V43x4 (xD tF e [1, 1, 1, 0, 0, 1, 0, 1, 1, 1, 1, 1, 0, 1, 1, 1, 1, 1, 1, 1, 1, 1, 1, 1, 1, 1, 1, 0] aGe (aEH c e))
def B43x5 (c : TC0) (n5 : Int → Int → Int → List G.O → G.Z → G.O → Rt) (a7 : Int) (a1 : Int) (a8 : Int) (a6 : List G.O) (b0 : G.Z) (b104 : G.O) : Rt :=
 cnd (decide (a8 < a7)) (obL [.rc 2, .rc 0] (c 43 [yI (IntKind.i64.wrap (a1 - (1 : Int))), yR 0 b0]) fun (r0 : G.O × G.Z × Unit) =>
 chk (Nat.ble ((List.length a6 + List.length ([r0.1] : List G.O)) * 112) 1073741824) <|
 n5 a7 a1 (IntKind.i64.wrap (a8 + (1 : Int))) (a6 ++ ([r0.1] : List G.O)) r0.2.1 b104) (obL [.rc 2] (c 74 [yS 2 a6]) fun (r1 : G.O × Unit) =>
 some [yR 2 r1.1, yR 0 b0])
def V43x5 (n : Nt) : Int → Int → Int → List G.O → G.Z → G.O → Rt := fun x0 x1 x2 x3 x4 x5 => n [yI x0, yI x1, yI x2, yS 2 x3, yR 0 x4, yR 2 x5]
def X43x5 := V43x5 (xE tF e [1, 1, 1, 0, 0, 1, 0, 1, 1, 1, 1, 1, 0, 1, 1, 1, 1, 1, 1, 1, 1, 1, 1, 1, 1, 1, 1, 0, 0, 1, 1, 0, 1, 0, 0] wJ (q43x5 c e))
theorem s43x0 : V43x0 (xF tF c e) = B43x0 c (X43x1 c e) := by kernel_rfl
theorem s43x1 : V43x1 (xA tF c e [1, 1, 0, 1, 0] aGh (q43x1 c e)) = B43x1 c (X43x2 c e) := by kernel_rfl
theorem s43x2 : V43x2 (xA tF c e [1, 1, 1, 0] aGg (q43x0 c e)) = B43x2 c (X43x3 c e) := by kernel_rfl
theorem s43x3 : V43x3 (xA tF c e [1, 1, 1, 0, 0, 1, 0, 1, 1, 1, 1, 1, 0] aGf (aEH c e)) = B43x3 c (X43x4 c e) := by kernel_rfl
theorem s43x4 : V43x4 (xA tF c e [1, 1, 1, 0, 0, 1, 0, 1, 1, 1, 1, 1, 0, 1, 1, 1, 1, 1, 1, 1, 1, 1, 1, 1, 1, 1, 1, 0] aGe (aEH c e)) = B43x4 c (X43x5 c e) := by kernel_rfl
theorem s43x5 (n5 : Nt) : V43x5 (xA tF c e [1, 1, 1, 0, 0, 1, 0, 1, 1, 1, 1, 1, 0, 1, 1, 1, 1, 1, 1, 1, 1, 1, 1, 1, 1, 1, 1, 0, 0, 1, 1, 0, 1, 0, 0] wJ (lpK U0 wJ n5 (q43x5 c e))) = B43x5 c (V43x5 n5) := by kernel_rfl
def aAS (c : TC0) (L : Nat) : Nat → Int → Int → Int → List G.O → G.Z → G.O → Rt
 | 0 => fun _ _ _ _ _ _ => none
 | n + 1 => B43x5 c (aAS c L n)
theorem u43x5 (n : Nat) : V43x5 (xL tF c L [1, 1, 1, 0, 0, 1, 0, 1, 1, 1, 1, 1, 0, 1, 1, 1, 1, 1, 1, 1, 1, 1, 1, 1, 1, 1, 1, 0, 0, 1, 1, 0, 1, 0, 0] wJ (q43x5 c (cu c L)) n) = aAS c L n := by
 induction n with
 | zero => rfl
 | succ n ih => rw [eM, s43x5]; simp only [ih]; rfl
theorem w43x5 : X43x5 c (cu c L) = aAS c L L := u43x5 c L L
def aDO (c : TC0) (L : Nat) : Bool → Int → G.Z → G.O → Rt := B43x4 c (aAS c L L)
theorem j43x4 : X43x4 c (cu c L) = aDO c L := by rw [X43x4, aQ, s43x4]; simp only [w43x5]; rfl
def J43x3 (c : TC0) (L : Nat) : Bool → Int → Int → G.Z → G.O → Rt := B43x3 c (aDO c L)
theorem j43x3 : X43x3 c (cu c L) = J43x3 c L := by rw [X43x3, aQ, s43x3]; simp only [j43x4]; rfl
def aHm (c : TC0) (L : Nat) : Int → Int → G.Z → G.O → Rt := B43x2 c (J43x3 c L)
theorem j43x2 : X43x2 c (cu c L) = aHm c L := by rw [X43x2, aQ, s43x2]; simp only [j43x3]; rfl
def aDP (c : TC0) (L : Nat) : Bool → Int → Int → G.Z → G.O → Rt := B43x1 c (aHm c L)
theorem j43x1 : X43x1 c (cu c L) = aDP c L := by rw [X43x1, aQ, s43x1]; simp only [j43x2]; rfl
def F43 (c : TC0) (L : Nat) : Int → G.Z → Rt := B43x0 c (aDP c L)
theorem e43 : V43x0 (xF tF c (cu c L)) = F43 c L := by rw [s43x0]; simp only [j43x1]; rfl
theorem c43 (a1 : Int) (b0 : G.Z) (L n : Nat) : CTp L (n + 1) 43 [yI a1, yR 0 b0] = F43 (CTp L n) L a1 b0 := by rw [← e43]; exact cg (x := tF) (by kernel_rfl) (by kernel_rfl) L n _
end
end Go.TV
namespace Go.TV
open Go.AI Go.PI Go.Proofs
theorem aFc {P : G.O → Prop} (h : ∀ k n d s t l, (∀ o ∈ l, P o) → P ⟨k, n, d, s, t, l⟩) : ∀ o, P o := fun o =>
 G.O.rec (motive_1 := P) (motive_2 := fun l => ∀ o ∈ l, P o) (fun k n d s t l ih => h k n d s t l ih) (fun o ho => by cases ho)
  (fun o l h1 h2 x hx => by
   cases hx with
   | head => exact h1
   | tail _ hx => exact h2 x hx) o
noncomputable instance : DecidableEq G.O := fun a b => Classical.propDecidable _
mutual
def osz : G.O → Nat
 | ⟨_, _, _, _, _, l⟩ => 2 + pZ l
def pZ : List G.O → Nat
 | [] => 0
 | o :: l => osz o + pZ l + 1
end
theorem bO {k : Nat} (h : k < 4000000000000000000) : IntKind.i64.wrap ((k : Int) + 1) = ((k + 1 : Nat) : Int) := by
 unfold IntKind.wrap
 simp [IntKind.bits, IntKind.signed]
 omega
theorem aJ {α : Type} (l : List α) (k : Nat) : idx l (k : Int) = l[k]? := by
 unfold idx
 have : decide (0 ≤ (k : Int)) = true := by simp
 rw [this]; rfl
theorem bN {β : Type} {b : Bool} {K : Bool × Unit → Option β} : obL (D := U0.D) [.bool] (some [yB b]) K = K (b, ()) := rfl
theorem cO {α β : Type} {x : α} {K : α → Option β} : ob (some x) K = K x := rfl
theorem aM {β : Type} {A B : Option β} : cnd true A B = A := rfl
theorem aE {β : Type} {A B : Option β} : cnd false A B = B := rfl
theorem aL {α : Type} {l : List α} {k : Nat} {x : α} {r : List α} (h : l.drop k = x :: r) : l[k]? = some x ∧ k < l.length ∧ l.drop (k + 1) = r := by
 refine ⟨?_, ?_, ?_⟩
 ·rw [← List.head?_drop, h]; rfl
 ·have := congrArg List.length h; simp at this; omega
 ·rw [← List.tail_drop, h]; rfl
theorem aK {α : Type} {l : List α} {k : Nat} (h : l.drop k = []) : ¬ k < l.length := by
 have := congrArg List.length h; simp at this; omega
def oo (a b : G.O) : TVs := [yR 2 a, yR 2 b]
def bb (b : Bool) : TVs := [yB b]
theorem EqO_loop {c : TC0} {L : Nat} {a b : G.O} (hl : a.pair.length = b.pair.length) (hb : a.pair.length < 1000000000) : ∀ (l r : List G.O) (k m : Nat), a.pair.drop k = l → b.pair.drop k = r → l.length < m →
    (∀ x, x ∈ l → ∀ y, c 27 (oo x y) = some (bb (decide (x = y)))) → aAU c L m (k : Int) a b = some (bb (decide (l = r))) := by
 intro l
 induction l with
 | nil =>
  intro r k m h1 h2 h3 _
  obtain ⟨m, rfl⟩ : ∃ m', m = m' + 1 := ⟨m - 1, by simp at h3; omega⟩
  have e1 := aK h1
  have e2 : r = [] := by rw [← h2]; exact List.drop_eq_nil_of_le (by omega)
  have e3 : decide ((k : Int) < (a.pair.length : Int)) = false := by simp; omega
  rw [aAU, B27x2, e3, e2]
  simp only [aE, decide_true]; rfl
 | cons x l ih =>
  intro r k m h1 h2 h3 hc
  obtain ⟨m, rfl⟩ : ∃ m', m = m' + 1 := ⟨m - 1, by simp at h3; omega⟩
  obtain ⟨a1, a2, a3⟩ := aL h1
  cases r with
  | nil => have := aK h2; omega
  | cons y r =>
   obtain ⟨b1, b2, b3⟩ := aL h2
   have e3 : decide ((k : Int) < (a.pair.length : Int)) = true := by simp; omega
   have hxy : c 27 [yR 2 x, yR 2 y] = some [yB (decide (x = y))] := hc x (mhE ..) y
   rw [aAU, B27x2, e3, aM, aJ, aJ, a1, b1, cO, cO, hxy, bN, bO (by omega)]
   by_cases e : x = y
   ·subst e
    simp only [decide_true, bnT, aE]
    rw [ih r (k + 1) m a3 b3 (by simp at h3; omega) fun z hz => hc z (mtE _ hz)]
    simp
   ·simp only [e, decide_false, Bool.not_false, aM]
    simp [e, bb]
def wfO (a : G.O) : Prop := osz a < 1000000000
theorem zE : ∀ (l : List G.O), l.length ≤ pZ l
 | [] => nlR _
 | o :: l => by have := zE l; simp only [lcS, pZ]; omega
theorem eK : ∀ {l : List G.O} {x : G.O}, x ∈ l → osz x ≤ pZ l
 | o :: l, x, h => by
  simp only [pZ]
  cases h with
  | head => omega
  | tail _ h => have := eK h; omega
theorem Equal_ok : ∀ (a : G.O), wfO a → ∀ (b : G.O) (L n : Nat), osz a ≤ L → osz a ≤ n → CTp L n 27 (oo a b) = some (bb (decide (a = b))) := by
 intro a
 induction a using aFc with
 | h k nu d s t l ih =>
  intro hw b L n hL hn
  simp only [wfO, osz] at hw hL hn
  have hlen := zE l
  obtain ⟨n, rfl⟩ : ∃ n', n = n' + 1 := ⟨n - 1, by omega⟩
  cases b with | mk k' nu' d' s' t' l' =>
  show CTp L (n + 1) 27 [yR 2 _, yR 2 _] = _
  rw [c27]
  simp only [F27, B27x0, J27x1, B27x1, G.O.kind, G.O.num, G.O.den, G.O.sym, G.O.text, G.O.pair, G.O.mk.injEq]
  by_cases e1 : k = k'
  ·by_cases e2 : nu = nu'
   ·by_cases e3 : d = d'
    ·by_cases e4 : s = s'
     ·by_cases e5 : t = t'
      ·by_cases e6 : (l.length : Int) = (l'.length : Int)
       ·simp only [e1, e2, e3, e4, e5, e6, decide_true, bnT, aE, true_and]
        have := EqO_loop (c := CTp L n) (L := L) (a := ⟨k, nu, d, s, t, l⟩) (b := ⟨k', nu', d', s', t', l'⟩) (by show l.length = l'.length; omega) (by show l.length < _; omega) l l' 0 L rfl rfl (by omega) fun x hx y => ih x hx (by have := eK hx; simp only [wfO]; omega) y L n (by have := eK hx; omega) (by have := eK hx; omega)
        subst e1 e2 e3 e4 e5
        exact this
       ·have e7 : ¬ l = l' := fun h => e6 (by rw [h])
        simp [e1, e2, e3, e4, e5, e6, e7, cnd, bb]
      ·simp [e1, e2, e3, e4, e5, cnd, bb]
     ·simp [e1, e2, e3, e4, cnd, bb]
    ·simp [e1, e2, e3, cnd, bb]
   ·simp [e1, e2, cnd, bb]
  ·simp [e1, cnd, bb]
end Go.TV
