import Derived.Test.YtkglmoobpigohaaGreatDoorKx
import Derived.Test.YtkglmoobpigohaaGreatDoorKaf
import Derived.Test.YtkglmoobpigohaaGreatDoorKt
import Derived.Test.YtkglmoobpigohaaGreatDoorKr
import Derived.Test.YtkglmoobpigohaaGreatDoorKs
import Derived.Test.YtkglmoobpigohaaGreatDoorCards
import Derived.Test.YtkglmoobpigohaaGreatDoorTie
import Derived.WalkKit
import Derived.ProofKit
import Derived.OpenShut
import Derived.LaidMore
import Derived.ChangeSlices
import Derived.WideKeyArgs
import Derived.Stop.Joined
import Derived.Stop.LaidErr
import Derived.SevenTiedAt
set_option linter.unusedVariables false
set_option linter.unusedSimpArgs false
set_option linter.constructorNameAsVariable false
namespace Go.TV
open Go.AI Go.PI Go.Proofs
set_option maxRecDepth 20000
theorem awake_ok (L M : Nat) : cF L M 300 1 [] = some [yB true] := by kernel_rfl
section
variable (L : Nat) {E : List G.E} (hE : WOK E)
theorem tB {n : Nat} (h : 60 ≤ n) : Lib (CTp (L + 7000) n) := by
 obtain ⟨m, rfl⟩ : ∃ m, n = m + 60 := ⟨n - 60, by omega⟩
 exact lib_ok L m
theorem va_n {n : Nat} (h : 61 ≤ n) (s : G.Z) (hs : bG s) : TSR (CTp (L + 7000) n 17 [yR 0 s]) 6 := by
 obtain ⟨m, rfl⟩ : ∃ m, n = m + 1 := ⟨n - 1, by omega⟩
 rw [c17]
 exact Va_ok (tB L (by omega)) hs
theorem o0_n {n : Nat} (h : 61 ≤ n) (s : G.Z) (hs : bG s) : OSR (CTp (L + 7000) n 43 [yI (0 : Int), yR 0 s]) 20 := by
 obtain ⟨m, rfl⟩ : ∃ m, n = m + 1 := ⟨n - 1, by omega⟩
 rw [c43]
 exact Ob0 (tB L (by omega)) hs
theorem o1_n {n : Nat} (h : 62 ≤ n) (s : G.Z) (hs : bG s) : OSR (CTp (L + 7000) n 43 [yI (1 : Int), yR 0 s]) 200 := by
 obtain ⟨m, rfl⟩ : ∃ m, n = m + 1 := ⟨n - 1, by omega⟩
 rw [c43]
 exact Ob1 (tB L (by omega)) (by omega) (o0_n L (by omega)) hs
include hE
theorem ar_n {n : Nat} (h : 4 ≤ n) (f : G.Y) : ArR (CTp (L + 7000) n 48 [yS 15 E, yR 1 f]) := by
 obtain ⟨m, rfl⟩ : ∃ m, n = m + 4 := ⟨n - 4, by omega⟩
 exact Ar_ok hE f (by omega)
theorem t0_n {n : Nat} (h : 63 ≤ n) (s : G.Z) (hs : bG s) : TSR (CTp (L + 7000) n 14 [yS 15 E, yI (0 : Int), yR 0 s]) 204 := by
 obtain ⟨m, rfl⟩ : ∃ m, n = m + 1 := ⟨n - 1, by omega⟩
 rw [c14]
 exact Te_ok (tB L (by omega)) (by omega) (B := 204) (by omega) (by omega) (va_n L (by omega)) (o1_n L (by omega)) (ar_n L hE (by omega)) (fun h => by omega) hs
theorem t1_n {n : Nat} (h : 64 ≤ n) (s : G.Z) (hs : bG s) : TSR (CTp (L + 7000) n 14 [yS 15 E, yI (1 : Int), yR 0 s]) 621 := by
 obtain ⟨m, rfl⟩ : ∃ m, n = m + 1 := ⟨n - 1, by omega⟩
 rw [c14]
 exact Te_ok (tB L (by omega)) (by omega) (B := 204) (by omega) (by omega) (va_n L (by omega)) (o1_n L (by omega)) (ar_n L hE (by omega)) (fun _ => t0_n L hE (by omega)) hs
theorem t2_n {n : Nat} (h : 65 ≤ n) (s : G.Z) (hs : bG s) : TSR (CTp (L + 7000) n 14 [yS 15 E, yI (2 : Int), yR 0 s]) 1872 := by
 obtain ⟨m, rfl⟩ : ∃ m, n = m + 1 := ⟨n - 1, by omega⟩
 rw [c14]
 exact Te_ok (tB L (by omega)) (by omega) (B := 621) (by omega) (by omega) (va_n L (by omega)) (o1_n L (by omega)) (ar_n L hE (by omega)) (fun _ => t1_n L hE (by omega)) hs
theorem li_n {n : Nat} (h : 66 ≤ n) (s : G.Z) (hs : bG s) : TSR (CTp (L + 7000) n 49 [yS 15 E, yI (2 : Int), yR 0 s]) 2523 := by
 obtain ⟨m, rfl⟩ : ∃ m, n = m + 1 := ⟨n - 1, by omega⟩
 rw [c49]
 exact Li_ok (tB L (by omega)) (va_n L (by omega)) (t2_n L hE (by omega)) (t1_n L hE (by omega)) hs
omit hE in
theorem ad_n (hL : 100000 ≤ L) {n : Nat} (h : 60000 ≤ n) (a : List G.T) (t : G.T) (ha : aU a < 50000) : AdR (CTp (L + 7000) n 18 [yS 3 a, yS 3 ([t] : List G.T)]) (aU a + tsz t + 1) := by
 obtain ⟨m, rfl⟩ : ∃ m, n = m + 1 := ⟨n - 1, by omega⟩
 exact Ad_ok (by omega) (by omega) (by omega)
theorem cl_n (hL : 100000 ≤ L) {n : Nat} (h : 70000 ≤ n) (s : G.Z) (hs : bG s) : ClR (CTp (L + 7000) n 15 [yS 15 E, yI (2 : Int), yI (2 : Int), yR 0 s]) 7000 := by
 obtain ⟨m, rfl⟩ : ∃ m, n = m + 1 := ⟨n - 1, by omega⟩
 rw [c15]
 obtain ⟨l, s', h1, h2, h3⟩ := Cl_ok (tB L (n := m) (by omega)) (L := L + 7000) (by omega) (li_n L hE (by omega)) (ad_n L hL (by omega)) (by omega) hs
 exact ⟨l, s', h1, by omega, h3⟩
theorem lc_n (hL : 100000 ≤ L) {n : Nat} (h : 80000 ≤ n) (s : G.Z) (hs : bG s) : ClR (CTp (L + 7000) n 3 [yS 15 E, yR 0 s]) 40000 := by
 obtain ⟨m, rfl⟩ : ∃ m, n = m + 1 := ⟨n - 1, by omega⟩
 rw [c3]
 exact Lc_ok (tB L (by omega)) (by omega) (va_n L (by omega)) (t2_n L hE (by omega)) (t1_n L hE (by omega)) (cl_n L hE hL (by omega)) (ad_n L hL (by omega)) (by omega) (by omega) hs
end
theorem smF_ok {E : List G.E} (h : smF E = true) : WOK E := by
 simp only [smF, smE, bjE, List.all_eq_true] at h
 exact ⟨Nat.le_of_ble_eq_true h.1, fun e he => Nat.le_of_ble_eq_true (h.2 e he).1, fun e he f hf => Nat.le_of_ble_eq_true ((h.2 e he).2 f hf)⟩
theorem obL_en {β : Type} {a : List G.E} {K : List G.E × Unit → Option β} : obL (D := U0.D) [.sl (.rc 15)] (some [yS 15 a]) K = K (a, ()) := rfl
theorem row7_of {c : TC0} {L : Nat} {a : List Int} (h1 : c 1 [] = some [yB true]) (hw : a.length ≤ 80 → ∃ E cl s x, c 2 [⟨.int .u32, (0 : Int)⟩] = some [yS 15 (E : List G.E)] ∧ c 3 [yS 15 E, yR 0 (⟨a, 0⟩ : G.Z)] = some [yS 3 (cl : List G.T), yR 0 (s : G.Z)] ∧
    c 4 [yS 3 cl] = some [yS 3 (x : List G.T)] ∧ c 5 [yS 3 cl] = some [yS 3 x] ∧ c 6 [yS 3 x, yS 3 x] = some [yB true]) : F0 c L a = some [yB true] := by
 rw [F0, B0x0, h1, bN]
 simp only [bnT, aE]
 cases e : decide ((80 : Int) < (a.length : Int)) with
 | true => rfl
 | false =>
  simp only [dfN] at e
  obtain ⟨E, cl, s, x, k1, k2, k3, k4, k5⟩ := hw (by omega)
  rw [aE, k1, obL_en]
  simp only []
  rw [k2, obL_cs]
  simp only []
  rw [k3, sY]
  simp only []
  rw [k4, sY]
  simp only []
  rw [k5, bN]
theorem vis'_sz {cl l : List G.T} (ih : ∀ x ∈ l, ∀ acc, aU (vis cl acc x) ≤ aU acc + tsz x + 1) : ∀ acc, aU (pT cl acc l) ≤ aU acc + aU l := by
 induction l with
 | nil => intro acc; simp [pT, aU]
 | cons x l ih2 =>
  intro acc
  simp only [pT, aU]
  have h1 := ih2 (fun y hy => ih y (mtE _ hy)) (vis cl acc x)
  have h2 := ih x (mhE ..) acc
  omega
theorem vis_sz {cl : List G.T} : ∀ (t : G.T) (acc : List G.T), aU (vis cl acc t) ≤ aU acc + tsz t + 1 := by
 intro t
 induction t using bP with
 | h k n v l ih =>
  intro acc
  simp only [vis]
  have h1 : aU (qE acc ⟨k, n, v, l⟩) ≤ aU acc + tsz ⟨k, n, v, l⟩ + 1 := by
   unfold qE
   split
   ·omega
   ·rw [tsz'_app]; omega
  have h2 : tsz ⟨k, n, v, l⟩ = 4 + osz v + aU l := by simp only [tsz]
  split
  ·split
   ·exact h1
   ·have := vis'_sz ih acc; omega
  ·omega
theorem row7_tv (a : List Int) (ha : ∀ x ∈ a, 0 ≤ x ∧ x < 256) (L M : Nat) : CTp (L + 207000) (M + 200001) 0 [⟨.sl (.int .u8), a⟩] = some [yB true] := by
 have e : L + 207000 = L + 200000 + 7000 := by omega
 rw [show M + 200001 = M + 200000 + 1 by omega, c0, e]
 generalize hl : L + 200000 = L1
 refine row7_of ?_ fun h80 => ?_
 ·have := awake_ok L1 (M + 199700)
  rw [cF_ok] at this
  exact this
 ·obtain ⟨E, h2, h3⟩ := world_ok L1 (M + 199841)
  obtain ⟨cl, s, h4, h5, h6⟩ := lc_n L1 (smF_ok h3) (by omega) (n := M + 200000) (by omega) ⟨a, 0⟩ ⟨ha, Int.le_refl _, by show (0 : Int) ≤ (a.length : Int); omega, h80⟩
  have q1 := aHy (cl := cl) (L := L1 + 7000) (n := M + 200000) (by omega) (by omega) (by omega)
  have q2 := aHi (cl := cl) (L := L1 + 7000) (n := M + 200000) (by omega) (by omega) (by omega)
  rw [← aEp] at q2
  have hs : aU (pT cl [] cl) < 100000 := by have := vis'_sz (cl := cl) (l := cl) (fun x _ => vis_sz x) []; simp only [aU] at this; omega
  have q3 := Same_ok (a := pT cl [] cl) (b := pT cl [] cl) (L := L1 + 7000) (n := M + 200000) (by omega) (by omega) (by omega)
  rw [decide_eq_true rfl] at q3
  exact ⟨E, cl, s, pT cl [] cl, h2, h4, q1, q2, q3⟩
end Go.TV
namespace Go.TV
open Go.AI Go.PI Go.Proofs
set_option maxRecDepth 20000
def u8V (cs : List Int) : List Value := cs.map fun x => .int .u8 x
def u8P (cs : List Int) : PV := cP 1 (cs.map fun x => .v (.int .u8 x))
def p00 : PSt := ⟨.nil, 0, [], []⟩
def nu0 : Nu := fun _ => none
def ga0 : Ga := fun _ => none
theorem mem0 {cs : List Value} : Mem nu0 ga0 p00 (st1 3 cs 1) where
 le := fun id x h => by cases h
 lt := fun id a h => by cases h
 inj := fun i j a h => by cases h
 live := fun id a h => by cases h
 get := fun id o h => by
  unfold PSt.get at h
  rw [show Nat.blt id p00.next = false from rfl] at h
  cases h
 free := fun a ha => by
  have h4 : 4 ≤ a := ha
  rw [lV, if_neg (by omega)]
 ver := fun g => by
  show (Tr.get Tr.nil g).getD 0 = 0
  rw [Tr.get_nil]; rfl
theorem aFC : ∀ cs : List Int, dP (cs.map fun x => PV.v (.int .u8 x)) = cs.map fun x => PV.v (.int .u8 x)
 | [] => rfl
 | x :: l => by
  have ih := aFC l
  simp only [dP] at ih ⊢
  rw [mpC, fmC, ih]; rfl
theorem arg_of {W : World} {v : Value} {cs : List Int} (hv : (v = .slice none 0 0 ∧ cs.length = 0) ∨ ∃ a cap, v = .slice (some a) cs.length cap ∧ cs.length ≤ cap ∧ (0 < cs.length → ∃ b off C t fr, a = ⟨b, off, none⟩ ∧ W.heap[b]? = some (Obj.cells C t fr) ∧ ∀ (i : Nat) (x : Value), (u8V cs)[i]? = some x → C[off + i]? = some x)) :
    ∃ (p : Option AI.Place) (u : Value), (∀ q, p = some q → RowW W q (u8V cs) 1) ∧ R nu0 (st1 3 (u8V cs) 1) (u8P cs) u ∧ AI.VR (mu1 3 p) u v := by
 rcases hv with ⟨rfl, h0⟩ | ⟨a, cap, rfl, hc, hrow⟩
 ·have : cs = [] := List.length_eq_zero_iff.1 h0
  subst this
  exact ⟨none, .slice none 0 0, fun q hq => (by cases hq), .emp0, .same _ rfl⟩
 ·by_cases hn : 0 < cs.length
  ·obtain ⟨b, off, C, t, fr, rfl, h1, h2⟩ := hrow hn
   refine ⟨some ⟨b, off, off + cap * 1, 1⟩, .slice (some ⟨3, 0, none⟩) cs.length (cs.length + 1), ?_, ?_, ?_⟩
   ·intro q hq; cases hq
    refine ⟨⟨C, t, fr, h1, h2⟩, ?_, rfl⟩
    intro x hx
    obtain ⟨k, _, rfl⟩ := List.mem_map.1 hx
    rfl
   ·have hne : u8P cs = .sl 1 (cs.map fun x => .v (.int .u8 x)) := by
     cases cs with
     | nil => simp at hn
     | cons x l => rfl
    rw [hne]
    have hl : cs.length = (cs.map fun x => PV.v (.int .u8 x)).length := by simp
    have hfl := aFC cs
    rw [hl]
    refine R.sl 1 _ 3 0 _ (u8V cs) (rdM 1) (nlR _) (fun e he => ?_) ⟨?_, fun k hk => by cases hk⟩ rfl ?_ (fun i x u hx hu => ?_)
    ·obtain ⟨k, _, rfl⟩ := List.mem_map.1 he
     exact ⟨rfl, rfl⟩
    ·exact PI.row_of_get (by rw [lV, if_pos rfl]) rfl
    ·simp [u8V]
    ·rw [hfl, List.getElem?_map, mjE] at hx
     obtain ⟨k, hk, rfl⟩ := hx
     rw [Nat.zero_add, u8V, List.getElem?_map, hk] at hu
     cases hu
     exact .v _ rfl
   ·exact .slc 3 0 cs.length (cs.length + 1) cap ⟨b, off, off + cap * 1, 1⟩ rfl (fun e => by omega) hc (by simp)
  ·have : cs = [] := List.length_eq_zero_iff.1 (by omega)
   subst this
   exact ⟨none, .slice (some ⟨0, 0, some 0⟩) 0 0, fun q hq => (by cases hq), .emp2 0 0 0 0, .emp a cap⟩
theorem law_pi {cs : List Int} (hb : ∀ x ∈ cs, 0 ≤ x ∧ x < 256) : ∃ own p', jQ Tryz.prog orcI (zA Tryz.prog insL) 207000 200001 3 [(u8P cs, false)] p00 = some (.v (.bool true), own, p') := by
 have h0 := row7_tv cs hb 0 0
 have hT := callT_ok (U := U0) (T := tpI) (P := Tryz.prog) recOK (ttOK orcI (sigL insL)) (G := tabL Tryz.prog insL) (GP := zA Tryz.prog insL) (fun i s code rs h1 h2 => tabL_ok ka_ok i s code rs h1 h2) 207000 200001
 have hsig : tpI.sig 0 = some ii0.sig := (by kernel_rfl : sigL insL 0 = some ii0.sig)
 have hvr : VR U0 (.sl (.int .u8)) cs (u8P cs) := aA2 (U := U0) (.int .u8) cs rfl rfl
 obtain ⟨pv, own, p', h1, h2⟩ := hT 0 ii0.sig _ _ hsig h0 p00 (fun _ => none) [(u8P cs, false)] [(0, (.val ⟨.sl (.int .u8), cs⟩, []))] ⟨[], []⟩ {
  start := rfl
  len := rfl
  args := fun i y hy => by
   match i, hy with
   | 0, hy => cases hy; exact ⟨hvr, aH _ _⟩
   | i + 1, hy => cases hy
  bx := fun j b h => by cases h
  dom := fun _ _ => rfl
  lt := fun j e id h => by cases h
  inj := fun k k' e e' id h => by cases h
  wr := fun id h => by cases h }
 have hpv : pv = .v (.bool true) := of_bool h2.res.1
 subst hpv
 exact ⟨own, p', h1⟩
theorem aFo {W : World} {v : Value} {cs : List Int} (hb : ∀ x ∈ cs, 0 ≤ x ∧ x < 256) (ht : Lib.TabIs Tryz.prog W pwN .u64 Lib.pow10Tab)
    (hv : (v = .slice none 0 0 ∧ cs.length = 0) ∨ ∃ a cap, v = .slice (some a) cs.length cap ∧ cs.length ≤ cap ∧ (0 < cs.length → ∃ b off C t fr, a = ⟨b, off, none⟩ ∧ W.heap[b]? = some (Obj.cells C t fr) ∧ ∀ (i : Nat) (x : Value), (u8V cs)[i]? = some x → C[off + i]? = some x)) :
    Calls Tryz.prog 3 #[v] W fun e w' => e = .returned (.bool true) ∧ Kept W w' := by
 obtain ⟨p, u, hp, hr, hvr⟩ := arg_of hv
 obtain ⟨own, p', hpi⟩ := law_pi hb
 have hG : TabOK Tryz.prog (zA Tryz.prog insL) := ptabL_ok aE6 kb_ok
 obtain ⟨u', σ', ν', γ', h1, h2, _⟩ := aGB (O := orcI) hG 207000 200001 _ _ _ _ _ _ hpi nu0 ga0 (st1 3 (u8V cs) 1) #[u] mem0 ⟨rfl, fun i x w hx hw => by
  match i, hx, hw with
  | 0, hx, hw => cases hx; cases hw; exact hr
  | i + 1, hx, hw => cases hx⟩ (fun i x w hx _ => by
  match i, hx with
  | 0, hx => cases hx
  | i + 1, hx => cases hx)
 have hu : u' = .bool true := by cases h2; rfl
 subst hu
 obtain ⟨_, hc⟩ := callO_ok aE6 (orc_ok ht) 207000 200001 _ #[u] #[v] _ _ W (mu1 3 p) _ h1 (sim1 (by omega) hp (fun h => by omega)) ⟨rfl, fun i x w hx hw => by
  match i, hx, hw with
  | 0, hx, hw => cases hx; cases hw; exact hvr
  | i + 1, hx, hw => cases hx⟩
 refine hc.mono ?_
 rintro e w' ⟨μ', r', rfl, hr', hZ, _, _⟩
 have : r' = .bool true := by cases hr'; rfl
 subst this
 exact ⟨rfl, hZ.kept⟩
end Go.TV
namespace Go.Proofs.YtkglmoobpigohaaGreatDoor.genTerms
open Go.ChangeShapes Go.WideShapes Go.ChangeAt Go.RowKit Go.AI Go.TV
theorem own : ownKnob Tryz.prog.godebug = none := by kernel_rfl
theorem gPow : Tryz.prog.globalNamed pwN = some 0 := by kernel_rfl
theorem tPow : (Tryz.prog.globals[0]?).map (·.type) = some 241 := by kernel_rfl
theorem cE : Tryz.prog.cellsOf 67 = 1 := by kernel_rfl
theorem cT : Tryz.prog.cellsOf 241 = 20 := by kernel_rfl
theorem laidOut : laidOutB Tryz.prog = true := by kernel_rfl
theorem door_met (os : Os) (args : Array Value) : laidMetH Tryz.prog Rows.generalizeTermsRow.laid ((World.doorLaid Tryz.prog 400 os).forCall (fun _ _ => 0) ⟨#[], args, []⟩).memory :=
 laidMetH_of_parts3 (fuel := 8) (laidMet_of_run' 8 (by kernel_rfl) (by kernel_rfl)) (by kernel_rfl) (by kernel_rfl)
theorem tab_of {W : World} (h : laidMetH Tryz.prog Rows.generalizeTermsRow.laid W) : Lib.TabIs Tryz.prog W pwN .u64 Lib.pow10Tab := by
 rw [MakeChecks.laidMetH_plain _ _ _ (by kernel_rfl)] at h
 have h1 := laidMet.tail (laidMet.tail h)
 have e : (Rows.laid_internal_strconv_uint64pow10 : DataW Unit) = Lib.tabData .u64 Lib.pow10Tab := rfl
 rw [e] at h1
 exact Lib.tabIs_of_head gPow tPow Tryz.underlying241 Tryz.underlying67 cE cT h1
theorem wU {w : World} {a : Addr} {v : Value} (h : w.cell? a = some v) : ∃ C t fr, w.heap[a.block]? = some (Obj.cells C t fr) ∧ a.spot = none ∧ C[a.off]? = some v := by
 unfold World.cell? at h
 split at h
 ·rename_i C t fr hh
  split at h
  ·cases h
  ·rename_i hs; exact ⟨C, t, fr, hh, by simpa using hs, h⟩
 ·cases h
theorem aGv {w : World} {a : Addr} {N : Nat} {V : Nat → Value} (hN : 0 < N) (h : ∀ i, i < N → w.cell? (a.add i) = some (V i)) :
    ∃ b off C t fr, a = ⟨b, off, none⟩ ∧ w.heap[b]? = some (Obj.cells C t fr) ∧ ∀ i, i < N → C[off + i]? = some (V i) := by
 obtain ⟨b, off, spot⟩ := a
 have hspot : spot = none := by simpa [Addr.add] using World.cell?_spot (h 0 hN)
 subst hspot
 obtain ⟨C, t, fr, h1, _, h3⟩ := wU (h 0 hN)
 have e0 : (Addr.add ⟨b, off, none⟩ 0) = ⟨b, off, none⟩ := by rw [Go.WideShapes.add_plain]; rfl
 rw [e0] at h1 h3
 refine ⟨b, off, C, t, fr, rfl, h1, fun i hi => ?_⟩
 obtain ⟨C', t', fr', g1, _, g3⟩ := wU (h i hi)
 rw [Go.WideShapes.add_plain] at g1 g3
 simp only at g1 g3 h1
 rw [h1] at g1
 cases g1
 exact g3
set_option maxRecDepth 100000 in
theorem open_u8s {H : Type} {enc : TypeId × Value → H} {w : World} {b0 : Nat} {v : Value} {d : DataW H} {ps : List MemPlace} (hv : Value.okWide Tryz.prog w .any b0 22 v) (h : DataW.Trod enc Tryz.prog w 0 (fun _ => true) true 22 v d ps) :
    ∃ cs : List Int, (∀ k ∈ cs, 0 ≤ k ∧ k < 256) ∧ ((v = .slice none 0 0 ∧ cs.length = 0) ∨ ∃ a cap, v = .slice (some a) cs.length cap ∧ cs.length ≤ cap ∧ (0 < cs.length → ∃ b off C t fr, a = ⟨b, off, none⟩ ∧ w.heap[b]? = some (Obj.cells C t fr) ∧ ∀ (i : Nat) (x : Value), (u8V cs)[i]? = some x → C[off + i]? = some x)) := by
 obtain ⟨fuel, hf⟩ := h
 obtain ⟨a0, len, cap, rfl⟩ := Go.WideShapes.okWide_slice Tryz.underlying22 hv
 rcases Go.ChangeShapes.open_ints Tryz.underlying22 Tryz.underlying5 (by kernel_rfl) hf with ⟨hcs, hx⟩ | ⟨a, len', cap', zs, hcs, _, hl, hm, hz, hx, hcell, hws⟩
 ·have : Value.slice a0 len cap = .slice none 0 0 := by simpa [Value.cells] using hcs
  exact ⟨[], (by simp), Or.inl ⟨this, rfl⟩⟩
 ·have hvv : Value.slice a0 len cap = .slice (some a) len' cap' := by simpa [Value.cells] using hcs
  rw [if_pos rfl] at hz
  have hb : ∀ n ∈ zs, 0 ≤ n ∧ n ≤ 255 := fun n hn => Go.bounds_u8 (hws n hn)
  refine ⟨zs.take len', ?_, Or.inr ⟨a, cap', ?_, ?_, ?_⟩⟩
  ·intro k hk
   have := hb k (List.mem_of_mem_take hk); omega
  ·rw [hvv]; simp; omega
  ·simp; omega
  ·intro h0
   simp only [List.length_take] at h0
   obtain ⟨b, off, C, t, fr, rfl, g1, g2⟩ := aGv (V := fun i => .int .u8 (zs.getD i 0)) (N := zs.length) (by omega) hcell
   refine ⟨b, off, C, t, fr, rfl, g1, fun i x hx => ?_⟩
   simp only [u8V, List.getElem?_map, mjE] at hx
   obtain ⟨y, hy, rfl⟩ := hx
   rw [List.getElem?_take] at hy
   split at hy
   ·have hi := (List.getElem?_eq_some_iff.1 hy).1
    rw [g2 i hi]
    simp only [List.getD_eq_getElem?_getD, hy, Option.getD_some]
   ·cases hy
theorem aFq {W W' : World} (h : Kept W W') {p : MemPlace} (hp : p.block < W.heap.size) : W.sameAt W' p := by
 cases p with
 | cell b o => exact World.cell?_of_block (w := W) (h.old b hp)
 | map b => exact h.old b hp
theorem mY {H : Type} {enc : TypeId × Value → H} {P : Program} {W W' : World} (hl : laidOutB P = true) (hK : Kept W W') {sp : Nat → Bool} : ∀ {ts : List TypeId} {vs : List Value} {ds : List (DataW H)} {ps : List MemPlace}, (∀ t ∈ ts, P.readableRec t = true ∧ t < P.types.size) →
    DataW.TrodAll enc P W 0 (fun _ => true) true ts vs ds ps → (∀ p ∈ ps, p.block < W.heap.size) → (∀ p ∈ ps, sp p.block = true) → DataW.TrodAll enc P W' 0 sp true ts vs ds ps
 | [], [], [], _, _, h, _, _ => h
 | t :: _, _ :: _, _ :: _, _, hT, ⟨p, q, h1, h2, e⟩, hb, hs => ⟨p, q, WideElems.Trod_stays hl (hT t (List.mem_cons.2 (Or.inl rfl))).1 (hT t (List.mem_cons.2 (Or.inl rfl))).2 h1 (fun x hx => aFq hK (hb x (by rw [e]; exact List.mem_append_left _ hx))) (fun x hx => hs x (by rw [e]; exact List.mem_append_left _ hx)),
      mY hl hK (fun t ht => hT t (List.mem_cons.2 (Or.inr ht))) h2 (fun x hx => hb x (by rw [e]; exact List.mem_append_right _ hx)) (fun x hx => hs x (by rw [e]; exact List.mem_append_right _ hx)), e⟩
set_option maxRecDepth 100000 in
theorem lifted (os : Os) (started : os.Started) (H : Type) (enc : TypeId × Value → H) :
    ReturnsInHanded {} Tryz.checked os 3 .any (fun w args => (Rows.generalizeTermsSpec.pre enc Tryz.prog Tryz.f3 [] false w args ∧ laidMetH Tryz.prog Rows.generalizeTermsRow.laid w) ∧ sizedMet enc Tryz.prog Tryz.f3 (OpenSpec.ofChange Rows.generalizeTermsSpec) false w args)
      (Rows.generalizeTermsSpec.post enc Tryz.prog Tryz.f3 false true false false) := by
 refine returnsInHanded_of_change_and (C := Tryz.checked) (X := fun w _ => laidMetH Tryz.prog Rows.generalizeTermsRow.laid w) (fun _ _ _ hh h => h.of_heap hh) own started (by kernel_rfl) Tryz.func3
  (ChangeSpec.witness_shaped (enc := enc) (C := Tryz.checked) (os := os) (X := fun w _ => laidMetH Tryz.prog Rows.generalizeTermsRow.laid w) false (World.doorLaid Tryz.prog 400 os) #[.slice none 0 0] 8 rfl (World.shaped_of_RefB (by kernel_rfl) (by kernel_rfl)) (by kernel_rfl) (by kernel_rfl) (by kernel_rfl) (door_met os _)) ?_
 intro W base args ds gs before hval0 hW _ _ hL _
 have hval : ∀ (j : Nat) t v, Tryz.f3.params[j]? = some t → args[j]? = some v → Value.okWide Tryz.prog W .any base t v := hval0
 have hW' := hW
 obtain ⟨p, q, hA0, hV, rfl, hfz, hnd⟩ := hW
 have hA : DataW.TrodAll enc Tryz.prog W 0 (fun _ => true) true Tryz.f3.params.toList args.toList ds p := hA0
 have hlt : ∀ x ∈ p, x.block < W.heap.size := fun x hx => by simpa using hW'.lt x (List.mem_append_left _ hx)
 rw [Tryz.params3] at hA hval
 have hAk := hA
 obtain ⟨v0, d0, rfl, rfl, h0⟩ := trodAll_one hA
 obtain ⟨rfl, rfl⟩ := trodVars_none hV
 have o0 := hval 0 _ v0 rfl rfl
 obtain ⟨cs, hcs, hshape⟩ := open_u8s o0 h0
 clear hA0 hval0
 refine (aFo hcs (tab_of hL) hshape).mono fun e W' ⟨he, hK⟩ => ?_
 subst he
 have hg := hK.grown
 exact ⟨_, rfl, post_of_same (pv := []) hW' (fun _ _ _ => (trodAll_cons_mk (shut_bool Tryz.underlying4 _) trodAll_mk0)) (fun sp hsp => mY laidOut hK (by decide +kernel) hAk hlt (fun x hx => hsp x (List.mem_append_left _ hx))) (fun _ _ => rfl) rfl
  (hg.frame _) hg.2.1 (ok_one (by kernel_rfl) rfl (okWide_bool_mk Tryz.underlying4 _))⟩
theorem over : Rows.GeneralizeTermsSaid :=
 OpenClaim.holds_of_wide 3 Tryz.f3 rfl rfl rfl rfl rfl rfl rfl ⟨rfl, rfl, rfl, rfl, rfl⟩ rfl rfl rfl rfl rfl (by kernel_rfl) Tryz.func3 (by kernel_rfl)
  (of_decide_eq_true (by kernel_rfl)) (by unfold Func.isWrapper; first | (rw [if_pos (by decide +kernel)]; kernel_rfl) | (rw [if_neg (by decide +kernel)]; exact ⟨rfl, rfl⟩))
  (fun os started H enc _ => lifted os started H enc)
theorem proved : Rows.GeneralizeTermsCardSaid :=
 Claim7.holds_tied_plain_at .later [] [.data, .data, .data] true (true, "ac56deae84709a5543754bdd56c3f9fd11eb8a7b5e40a7d6e391fa0be5c246ac") false
  over (fun _ h => by cases h) (by kernel_rfl) (fun _ h => by cases h) generalizeTerms_row_tie rfl ⟨rfl, rfl⟩ (by kernel_rfl) rfl
  (fun f fn hf hfn => by
   obtain rfl : f = 3 := Option.some.inj ((show Tryz.prog.funcNamed Rows.generalizeTermsRow.func = some 3 by kernel_rfl).symm.trans hf) |>.symm
   obtain rfl : fn = Tryz.f3 := (Option.some.inj (Tryz.func3.symm.trans hfn)).symm
   exact ⟨by kernel_rfl, fun j t ht => by
    rw [Tryz.params3] at ht
    have h3 : t = 22 := by
     rcases j with _ | j
     ·simpa using ht.symm
     ·simp at ht
    subst h3
    exact (show Tryz.prog.wantsStandIn 22 = false by kernel_rfl)⟩)
  (by kernel_rfl)
end Go.Proofs.YtkglmoobpigohaaGreatDoor.genTerms
