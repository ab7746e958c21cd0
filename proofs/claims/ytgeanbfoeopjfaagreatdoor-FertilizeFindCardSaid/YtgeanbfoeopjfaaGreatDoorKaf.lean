import Derived.Test.YtgeanbfoeopjfaaGreatDoorKx
import Derived.Test.YtgeanbfoeopjfaaGreatDoorKae
import Derived.Test.YtgeanbfoeopjfaaGreatDoorKu
import Derived.Test.YtgeanbfoeopjfaaGreatDoorKs
import Derived.Test.YtgeanbfoeopjfaaGreatDoorKt
import Derived.Test.YtgeanbfoeopjfaaGreatDoorKw
import Derived.Test.YtgeanbfoeopjfaaGreatDoorKr
import Derived.Test.YtgeanbfoeopjfaaGreatDoorCards
import Derived.Test.YtgeanbfoeopjfaaGreatDoorTie
import Derived.WalkKit
import Derived.ProofKit
import Derived.OpenShut
import Derived.LaidMore
import Derived.ChangeSlices
import Derived.WideKeyArgs
import Derived.Stop.Joined
import Derived.Stop.LaidErr
import Derived.SevenTiedAt
set_option linter.unusedVariables false
set_option linter.unusedSimpArgs false
set_option linter.constructorNameAsVariable false
namespace Go.TV
open Go.AI Go.PI Go.Proofs
set_option maxRecDepth 20000
section
variable (L : Nat) {E : List G.E} (hE : WOK E)
theorem rV {n : Nat} (h : 60 ≤ n) : Lib (CTp (L + 7000) n) := by
 obtain ⟨m, rfl⟩ : ∃ m, n = m + 60 := ⟨n - 60, by omega⟩
 exact lib_ok L m
theorem va_n {n : Nat} (h : 61 ≤ n) (s : G.Z) (hs : bF s) : TSR (CTp (L + 7000) n 15 [yR 0 s]) 6 := by
 obtain ⟨m, rfl⟩ : ∃ m, n = m + 1 := ⟨n - 1, by omega⟩
 rw [c15]
 exact Va_ok (rV L (by omega)) hs
theorem o0_n {n : Nat} (h : 61 ≤ n) (s : G.Z) (hs : bF s) : OSR (CTp (L + 7000) n 39 [yI (0 : Int), yR 0 s]) 20 := by
 obtain ⟨m, rfl⟩ : ∃ m, n = m + 1 := ⟨n - 1, by omega⟩
 rw [c39]
 exact Ob0 (rV L (by omega)) hs
theorem o1_n {n : Nat} (h : 62 ≤ n) (s : G.Z) (hs : bF s) : OSR (CTp (L + 7000) n 39 [yI (1 : Int), yR 0 s]) 200 := by
 obtain ⟨m, rfl⟩ : ∃ m, n = m + 1 := ⟨n - 1, by omega⟩
 rw [c39]
 exact Ob1 (rV L (by omega)) (by omega) (o0_n L (by omega)) hs
include hE
theorem ar_n {n : Nat} (h : 4 ≤ n) (f : G.Y) : ArR (CTp (L + 7000) n 44 [yS 15 E, yR 1 f]) := by
 obtain ⟨m, rfl⟩ : ∃ m, n = m + 4 := ⟨n - 4, by omega⟩
 exact Ar_ok hE f (by omega)
theorem t0_n {n : Nat} (h : 63 ≤ n) (s : G.Z) (hs : bF s) : TSR (CTp (L + 7000) n 12 [yS 15 E, yI (0 : Int), yR 0 s]) 204 := by
 obtain ⟨m, rfl⟩ : ∃ m, n = m + 1 := ⟨n - 1, by omega⟩
 rw [c12]
 exact Te_ok (rV L (by omega)) (by omega) (B := 204) (by omega) (by omega) (va_n L (by omega)) (o1_n L (by omega)) (ar_n L hE (by omega)) (fun h => by omega) hs
theorem t1_n {n : Nat} (h : 64 ≤ n) (s : G.Z) (hs : bF s) : TSR (CTp (L + 7000) n 12 [yS 15 E, yI (1 : Int), yR 0 s]) 621 := by
 obtain ⟨m, rfl⟩ : ∃ m, n = m + 1 := ⟨n - 1, by omega⟩
 rw [c12]
 exact Te_ok (rV L (by omega)) (by omega) (B := 204) (by omega) (by omega) (va_n L (by omega)) (o1_n L (by omega)) (ar_n L hE (by omega)) (fun _ => t0_n L hE (by omega)) hs
theorem t2_n {n : Nat} (h : 65 ≤ n) (s : G.Z) (hs : bF s) : TSR (CTp (L + 7000) n 12 [yS 15 E, yI (2 : Int), yR 0 s]) 1872 := by
 obtain ⟨m, rfl⟩ : ∃ m, n = m + 1 := ⟨n - 1, by omega⟩
 rw [c12]
 exact Te_ok (rV L (by omega)) (by omega) (B := 621) (by omega) (by omega) (va_n L (by omega)) (o1_n L (by omega)) (ar_n L hE (by omega)) (fun _ => t1_n L hE (by omega)) hs
theorem li_n {n : Nat} (h : 66 ≤ n) (s : G.Z) (hs : bF s) : TSR (CTp (L + 7000) n 45 [yS 15 E, yI (2 : Int), yR 0 s]) 2523 := by
 obtain ⟨m, rfl⟩ : ∃ m, n = m + 1 := ⟨n - 1, by omega⟩
 rw [c45]
 exact Li_ok (rV L (by omega)) (va_n L (by omega)) (t2_n L hE (by omega)) (t1_n L hE (by omega)) hs
omit hE in
theorem ad_n (hL : 100000 ≤ L) {n : Nat} (h : 60000 ≤ n) (a : List G.T) (t : G.T) (ha : cI a < 50000) : AdR (CTp (L + 7000) n 16 [yS 3 a, yS 3 ([t] : List G.T)]) (cI a + tsz t + 1) := by
 obtain ⟨m, rfl⟩ : ∃ m, n = m + 1 := ⟨n - 1, by omega⟩
 exact Ad_ok (by omega) (by omega) (by omega)
end
theorem smF_ok {E : List G.E} (h : smF E = true) : WOK E := by
 simp only [smF, smE, bjE, List.all_eq_true] at h
 exact ⟨Nat.le_of_ble_eq_true h.1, fun e he => Nat.le_of_ble_eq_true (h.2 e he).1, fun e he f hf => Nat.le_of_ble_eq_true ((h.2 e he).2 f hf)⟩
theorem obL_en {β : Type} {a : List G.E} {K : List G.E × Unit → Option β} : obL (D := U0.D) [.sl (.rc 15)] (some [yS 15 a]) K = K (a, ()) := rfl
end Go.TV
namespace Go.TV
open Go.AI Go.PI Go.Proofs
def bt (b : Bool) (t : G.T) : TVs := [yB b, yR 3 t]
theorem OcW_loop {c : TC0} {L : Nat} {s : G.T} {a : List G.T} (hb : a.length < 1000000000) : ∀ (l : List G.T) (k m : Nat), a.drop k = l → l.length < m →
    (∀ x, x ∈ l → c 73 (tt2 x s) = some (bt (!occ s x) s)) → zC c L m (a.length : Int) a (k : Int) s = some (bt (!occ' s l) s) := by
 intro l
 induction l with
 | nil =>
  intro k m h1 h3 _
  obtain ⟨m, rfl⟩ : ∃ m', m = m' + 1 := ⟨m - 1, by simp at h3; omega⟩
  have e1 := aW h1
  have e3 : decide ((k : Int) < (a.length : Int)) = false := by simp; omega
  rw [zC, B73x1, e3, aH, occ']; rfl
 | cons x l ih =>
  intro k m h1 h3 hc
  obtain ⟨m, rfl⟩ : ∃ m', m = m' + 1 := ⟨m - 1, by simp at h3; omega⟩
  obtain ⟨a1, a2, a3⟩ := aV h1
  have e3 : decide ((k : Int) < (a.length : Int)) = true := by simp; omega
  have hxy : c 73 [yR 3 x, yR 3 s] = some [yB (!occ s x), yR 3 s] := hc x (mhE ..)
  rw [zC, B73x1, e3, aI, aL, a1, dE, hxy, aDA, dF (by omega), occ']
  cases occ s x with
  | true => simp [cnd, bt]
  | false =>
   simp only [aH, Bool.not_false, bnT]
   rw [ih (k + 1) m a3 (by simp at h3; omega) fun z hz => hc z (mtE _ hz)]
   simp
theorem OcW_ok (s : G.T) : ∀ (t : G.T), wfT t → ∀ (L n : Nat), tsz t ≤ L → tsz t + 2 ≤ n → CTp L n 73 (tt2 t s) = some (bt (!occ s t) s) := by
 intro t
 induction t using qZ with
 | h k nm v l ih =>
  intro hw L n hL hn
  have hw' := hw
  have hL' := hL
  have hn' := hn
  simp only [wfT, tsz] at hw hL hn
  have hlen := dP l
  obtain ⟨n, rfl⟩ : ∃ n', n = n' + 2 := ⟨n - 2, by omega⟩
  have h1 : CTp L (n + 1) 89 [yR 3 ⟨k, nm, v, l⟩, yR 3 s] = some [yB (!decide ((⟨k, nm, v, l⟩ : G.T) = s)), yR 3 s] := by
   by_cases hnn : tsz (⟨k, nm, v, l⟩ : G.T) ≤ n
   ·have h2 : CTp L n 18 [yR 3 ⟨k, nm, v, l⟩, yR 3 s] = some [yB (decide ((⟨k, nm, v, l⟩ : G.T) = s))] := TEq_ok _ hw' s L n hL' hnn
    rw [c89, F89, B89x0, h2, cY]
   ·omega
  show CTp L (n + 1 + 1) 73 [yR 3 _, yR 3 _] = _
  rw [c73, F73, B73x0, h1, aDA, occ]
  by_cases e : s = ⟨k, nm, v, l⟩
  ·subst e; simp [cnd, bt]
  ·have e' : ¬ (⟨k, nm, v, l⟩ : G.T) = s := fun h => e h.symm
   by_cases e2 : k = 3
   ·subst e2
    simp only [e, e', decide_false, decide_true, Bool.not_false, bnT, aH, aI, G.T.kind, G.T.args, Bool.true_and, Bool.false_or]
    exact OcW_loop (by omega) l 0 L rfl (by omega) fun x hx => ih x hx (by have := bI hx; simp only [wfT]; omega) L (n + 1) (by have := bI hx; omega) (by have := bI hx; omega)
   ·simp [e, e', e2, cnd, bt, J73x2, B73x2, G.T.kind]
theorem OccP_ok (s t : G.T) (hw : wfT t) (L n : Nat) (hL : tsz t ≤ L) (hn : tsz t + 3 ≤ n) : CTp L n 50 (tt2 s t) = some (bb (occ s t)) := by
 obtain ⟨n, rfl⟩ : ∃ n', n = n' + 1 := ⟨n - 1, by omega⟩
 show CTp L (n + 1) 50 [yR 3 _, yR 3 _] = _
 have : CTp L n 73 [yR 3 t, yR 3 s] = some [yB (!occ s t), yR 3 s] := OcW_ok s t hw L n hL (by omega)
 rw [c50, F50, B50x0, this, aDA]
 simp [bb]
end Go.TV
namespace Go.TV
open Go.AI Go.PI Go.Proofs
def aDB : List UInt8 := [110, 111, 116]
def eqB : List UInt8 := [101, 113, 117, 97, 108]
theorem zY (x : G.T) : cI x.args + 4 ≤ tsz x := by cases x; simp only [G.T.args, tsz]; omega
theorem rX {x : G.T} {s : List UInt8} {k : Nat} (h : isA x s (k : Int) = true) : x.args.length = k := by
 simp only [isA, bjE, djE] at h; omega
theorem len1 {l : List G.T} (h : l.length = 1) : ∃ p, l = [p] := by
 match l, h with
 | [p], _ => exact ⟨p, rfl⟩
theorem len2 {l : List G.T} (h : l.length = 2) : ∃ p q, l = [p, q] := by
 match l, h with
 | [p, q], _ => exact ⟨p, q, rfl⟩
end Go.TV
namespace Go.TV
open Go.AI Go.PI Go.Proofs
def ztR : G.T := ⟨0, ⟨[], []⟩, ⟨0, [], [], ⟨[], []⟩, [], []⟩, []⟩
def sid (t : G.T) : Option (G.T × G.T) := match t.args with
 | [x] => if isA t aDB 1 then (match x.args with
  | [a, b] => if isA x eqB 2 then some (a, b) else none
  | _ => none) else none
 | _ => none
def aCs (t : G.T) : Rt := match sid t with
 | some p => some [⟨.rc 3, p.1⟩, ⟨.rc 3, p.2⟩, ⟨.bool, true⟩]
 | none => some [⟨.rc 3, ztR⟩, ⟨.rc 3, ztR⟩, ⟨.bool, false⟩]
theorem sid_sz {t : G.T} {p : G.T × G.T} (h : sid t = some p) : tsz p.1 + tsz p.2 ≤ tsz t := by
 unfold sid at h
 split at h
 ·rename_i x hx
  split at h
  ·split at h
   ·rename_i a b hy
    split at h
    ·simp only [ojE] at h
     subst h
     have h1 := zY t
     have h2 := zY x
     rw [hx] at h1; rw [hy] at h2
     simp only [cI] at h1 h2
     show tsz a + tsz b ≤ tsz t
     omega
    ·cases h
   ·cases h
  ·cases h
 ·cases h
theorem sidP_ok {t : G.T} {L n : Nat} : CTp L (n + 2) 17 [⟨.rc 3, t⟩] = aCs t := by
 have h1 : CTp L (n + 1) 47 [⟨.rc 3, t⟩, ⟨.str, aDB⟩, ⟨.int .i64, (1 : Int)⟩] = some [⟨.bool, isA t aDB 1⟩] := IsP_ok
 simp only [aDB] at h1
 rw [c17, F17, B17x0, h1, cY]
 change cnd (!isA t aDB 1) _ _ = _
 cases e : isA t aDB 1 with
 | false =>
  have : sid t = none := by unfold sid; split <;> simp [e]
  simp only [Bool.not_false, aI, aCl, aFF, aCs, this]; rfl
 | true =>
  obtain ⟨p, hp⟩ := len1 (rX (k := 1) e)
  have hi : idx t.args (0 : Int) = some p := by rw [hp]; rfl
  have h2 : CTp L (n + 1) 47 [⟨.rc 3, p⟩, ⟨.str, eqB⟩, ⟨.int .i64, (2 : Int)⟩] = some [⟨.bool, isA p eqB 2⟩] := IsP_ok
  simp only [eqB] at h2
  rw [bnT, aH, hi, dE, h2, cY]
  change aCl _ _ (!isA p eqB 2) _ _ _ = _
  cases e2 : isA p eqB 2 with
  | false =>
   have : sid t = none := by unfold sid; rw [hp]; simp [e, e2]; split <;> rfl
   simp only [Bool.not_false, aI, aCl, aFF, aCs, this]; rfl
  | true =>
   obtain ⟨a, b, hq⟩ := len2 (rX (k := 2) e2)
   have h3 : idx p.args (0 : Int) = some a := by rw [hq]; rfl
   have h4 : idx p.args (1 : Int) = some b := by rw [hq]; rfl
   have : sid t = some (a, b) := by unfold sid; rw [hp]; simp only [e]; rw [hq]; simp [e2]
   rw [aCl, aFF, bnT, aH, hi, dE, h3, dE, dE, h4, dE, aCs, this]
theorem sidR_ok {t : G.T} {L n : Nat} : CTp L (n + 3) 20 [⟨.rc 3, t⟩] = aCs t := by
 have h1 : CTp L (n + 2) 51 [⟨.rc 3, t⟩, ⟨.str, aDB⟩, ⟨.int .i64, (1 : Int)⟩] = some [⟨.bool, isA t aDB 1⟩] := Is_ok
 simp only [aDB] at h1
 rw [c20, F20, B20x0, h1, cY]
 change cnd (!isA t aDB 1) _ _ = _
 cases e : isA t aDB 1 with
 | false =>
  have : sid t = none := by unfold sid; split <;> simp [e]
  simp only [Bool.not_false, aI, aCk, aFE, aCs, this]; rfl
 | true =>
  obtain ⟨p, hp⟩ := len1 (rX (k := 1) e)
  have hi : idx t.args (0 : Int) = some p := by rw [hp]; rfl
  have h2 : CTp L (n + 2) 51 [⟨.rc 3, p⟩, ⟨.str, eqB⟩, ⟨.int .i64, (2 : Int)⟩] = some [⟨.bool, isA p eqB 2⟩] := Is_ok
  simp only [eqB] at h2
  rw [bnT, aH, hi, dE, h2, cY]
  change aCk _ _ (!isA p eqB 2) _ _ _ = _
  cases e2 : isA p eqB 2 with
  | false =>
   have : sid t = none := by unfold sid; rw [hp]; simp [e, e2]; split <;> rfl
   simp only [Bool.not_false, aI, aCk, aFE, aCs, this]; rfl
  | true =>
   obtain ⟨a, b, hq⟩ := len2 (rX (k := 2) e2)
   have h3 : idx p.args (0 : Int) = some a := by rw [hq]; rfl
   have h4 : idx p.args (1 : Int) = some b := by rw [hq]; rfl
   have : sid t = some (a, b) := by unfold sid; rw [hp]; simp only [e]; rw [hq]; simp [e2]
   rw [aCk, aFE, bnT, aH, hi, dE, h3, dE, dE, h4, dE, aCs, this]
noncomputable def els (t : G.T) (i : Nat) : List G.T → Nat → Bool
 | [], _ => false
 | x :: l, k => (!decide (k = i) && occ t x) || els t i l (k + 1)
theorem aEb {k i : Nat} : decide ((k : Int) = (i : Int)) = decide (k = i) := by
 by_cases h : k = i
 ·subst h; simp
 ·have : ¬ (k : Int) = (i : Int) := by omega
  simp [h, this]
theorem el_loop {L n : Nat} {t : G.T} {a : List G.T} {i : Nat} (hb : a.length < 1000000000) : ∀ (l : List G.T) (k m : Nat), a.drop k = l → l.length < m →
    (∀ x, x ∈ l → wfT x ∧ tsz x ≤ L ∧ tsz x + 3 ≤ n) → vQ (CTp L n) L m (a.length : Int) a (i : Int) (k : Int) t = some (bb (els t i l k)) := by
 intro l
 induction l with
 | nil =>
  intro k m h1 h3 _
  obtain ⟨m, rfl⟩ : ∃ m', m = m' + 1 := ⟨m - 1, by simp at h3; omega⟩
  have e1 := aW h1
  have e3 : decide ((k : Int) < (a.length : Int)) = false := by simp; omega
  rw [vQ, B19x1, e3, aH, els]; rfl
 | cons x l ih =>
  intro k m h1 h3 hc
  obtain ⟨m, rfl⟩ : ∃ m', m = m' + 1 := ⟨m - 1, by simp at h3; omega⟩
  obtain ⟨a1, a2, a3⟩ := aV h1
  obtain ⟨x1, x2, x3⟩ := hc x (mhE ..)
  have e3 : decide ((k : Int) < (a.length : Int)) = true := by simp; omega
  have hxy : CTp L n 50 [⟨.rc 3, t⟩, ⟨.rc 3, x⟩] = some [⟨.bool, occ t x⟩] := OccP_ok t x x1 L n x2 x3
  have q := ih (k + 1) m a3 (by simp at h3; omega) fun z hz => hc z (mtE _ hz)
  have q2 : aFt (CTp L n) L (vQ (CTp L n) L m) false (k : Int) (a.length : Int) a (i : Int) t = some (bb (els t i l (k + 1))) := by
   rw [aFt, B19x2, aH, dF (by omega)]; exact q
  rw [vQ, B19x1, e3, aI, aL, a1, dE, aEb, els]
  cases decide (k = i) with
  | true => rw [bnT, aH, q2, Bool.false_and, Bool.false_or]
  | false =>
   rw [Bool.not_false, aI, hxy, cY, Bool.true_and]
   simp only []
   cases occ t x with
   | true => rw [aFt, B19x2, aI, Bool.true_or]; rfl
   | false => rw [q2, Bool.false_or]
theorem el_ok {a : List G.T} {t : G.T} {i L n : Nat} (hw : cI a < 1000000000) (hL : cI a < L) (hn : cI a + 4 ≤ n) : CTp L n 19 [⟨.sl (.rc 3), a⟩, ⟨.int .i64, (i : Int)⟩, ⟨.rc 3, t⟩] = some [⟨.bool, els t i a 0⟩] := by
 have hlen := dP a
 obtain ⟨n, rfl⟩ : ∃ n', n = n' + 1 := ⟨n - 1, by omega⟩
 rw [c19]
 exact el_loop (by omega) a 0 L rfl (by omega) fun x hx => ⟨by have := bI hx; simp only [wfT]; omega, by have := bI hx; omega, by have := bI hx; omega⟩
theorem us_loop {L n : Nat} {t : G.T} {a : List G.T} {i : Nat} (ht : wfT t) (hk : t.kind = 3) (hb : a.length < 1000000000) : ∀ (l : List G.T) (k m : Nat), a.drop k = l → l.length < m →
    (∀ x, x ∈ l → wfT x ∧ tsz t + tsz x ≤ L ∧ tsz t + tsz x ≤ n) → sO (CTp L n) L m (i : Int) a (k : Int) t = some (bb (els t i l k)) := by
 have hkd : decide (t.kind = (3 : Int)) = true := by simp [hk]
 intro l
 induction l with
 | nil =>
  intro k m h1 h3 _
  obtain ⟨m, rfl⟩ : ∃ m', m = m' + 1 := ⟨m - 1, by simp at h3; omega⟩
  have e1 := aW h1
  have e3 : decide ((k : Int) < (a.length : Int)) = false := by simp; omega
  rw [sO, aCn, e3, aH, els, aCj, aFD, aH]; rfl
 | cons x l ih =>
  intro k m h1 h3 hc
  obtain ⟨m, rfl⟩ : ∃ m', m = m' + 1 := ⟨m - 1, by simp at h3; omega⟩
  obtain ⟨a1, a2, a3⟩ := aV h1
  obtain ⟨x1, x2, x3⟩ := hc x (mhE ..)
  have e3 : decide ((k : Int) < (a.length : Int)) = true := by simp; omega
  have hxy : CTp L n 54 [⟨.rc 3, t⟩, ⟨.rc 3, x⟩] = some [⟨.bool, occ t x⟩] := Occ_ok t ht x x1 L n x2 x3
  have q := ih (k + 1) m a3 (by simp at h3; omega) fun z hz => hc z (mtE _ hz)
  have q2 : aFs (CTp L n) L (sO (CTp L n) L m) false (k : Int) (i : Int) a t = some (bb (els t i l (k + 1))) := by
   rw [aFs, B22x3, aH, dF (by omega)]; exact q
  rw [sO, aCn, e3, aI, hkd, aCj, aFD, aI, aEb, els]
  cases decide (k = i) with
  | true => rw [bnT, aH, q2, Bool.false_and, Bool.false_or]
  | false =>
   rw [Bool.not_false, aI, aL, a1, dE, hxy, cY, Bool.true_and]
   simp only []
   cases occ t x with
   | true => rw [aFs, B22x3, aI, Bool.true_or]; rfl
   | false => rw [q2, Bool.false_or]
theorem us_ok {a : List G.T} {t : G.T} {i L n : Nat} (ht : wfT t) (hw : cI a < 1000000000) (hL : tsz t + cI a < L) (hn : tsz t + cI a + 2 ≤ n) : CTp L n 22 [⟨.sl (.rc 3), a⟩, ⟨.int .i64, (i : Int)⟩, ⟨.rc 3, t⟩] = some [⟨.bool, decide (t.kind = 3) && els t i a 0⟩] := by
 have hlen := dP a
 obtain ⟨n, rfl⟩ : ∃ n', n = n' + 1 := ⟨n - 1, by omega⟩
 rw [c22]
 by_cases hk : t.kind = 3
 ·rw [decide_eq_true hk, Bool.true_and]
  exact us_loop ht hk (by omega) a 0 L rfl (by omega) fun x hx => ⟨by have := bI hx; simp only [wfT]; omega, by have := bI hx; omega, by have := bI hx; omega⟩
 ·rw [decide_eq_false hk, Bool.false_and]
  obtain ⟨m, rfl⟩ : ∃ m, L = m + 1 := ⟨L - 1, by omega⟩
  show aCn (CTp (m + 1) n) (aCj (CTp (m + 1) n) (m + 1) (sO (CTp (m + 1) n) (m + 1) m)) (i : Int) a (0 : Int) t = _
  rw [aCn, decide_eq_false hk, aCj, aFD]
  cases decide ((0 : Int) < (a.length : Int)) <;> rfl
end Go.TV
namespace Go.TV
open Go.AI Go.PI Go.Proofs
def fR (k : Nat) (a b : Bool) : Rt := some [⟨.int .i64, (k : Int)⟩, ⟨.bool, a⟩, ⟨.bool, b⟩]
noncomputable def uE (cl : List G.T) (k : Nat) (t : G.T) : Bool := decide (t.kind = 3) && els t k cl 0
noncomputable def fnd (cl : List G.T) : List G.T → Nat → Rt
 | [], _ => fR 0 false false
 | x :: l, k => match sid x with
  | none => fnd cl l (k + 1)
  | some p => bif decide (p.1 = p.2) then fnd cl l (k + 1) else bif uE cl k p.1 then fR k false true else bif uE cl k p.2 then fR k true true else fnd cl l (k + 1)
theorem fnd_R (cl : List G.T) : ∀ (l : List G.T) (k : Nat), ∃ i a b, fnd cl l k = fR i a b
 | [], k => ⟨0, false, false, rfl⟩
 | x :: l, k => by
  rw [fnd]
  have ih := fnd_R cl l (k + 1)
  cases sid x with
  | none => exact ih
  | some p =>
   simp only []
   cases decide (p.1 = p.2) with
   | true => exact ih
   | false =>
    cases uE cl k p.1 with
    | true => exact ⟨_, _, _, rfl⟩
    | false =>
     cases uE cl k p.2 with
     | true => exact ⟨_, _, _, rfl⟩
     | false => exact ih
theorem rT {β : Type} {a b : G.T} {q : Bool} {K : G.T × G.T × Bool × Unit → Option β} : obL (D := U0.D) [.rc 3, .rc 3, .bool] (some [⟨.rc 3, a⟩, ⟨.rc 3, b⟩, ⟨.bool, q⟩]) K = K (a, b, q, ()) := rfl
theorem fp_loop {L n : Nat} {a : List G.T} (hw : cI a < 1000000000) (hL : cI a < L) (hn : cI a + 8 ≤ n) : ∀ (l : List G.T) (k m : Nat), a.drop k = l → l.length < m →
    W4x1 (CTp L n) L m (a.length : Int) a a (k : Int) = fnd a l k := by
 have hlen := dP a
 intro l
 induction l with
 | nil =>
  intro k m h1 h3
  obtain ⟨m, rfl⟩ : ∃ m', m = m' + 1 := ⟨m - 1, by simp at h3; omega⟩
  have e1 := aW h1
  have e3 : decide ((k : Int) < (a.length : Int)) = false := by simp; omega
  rw [W4x1, B4x1, e3, aH, fnd]; rfl
 | cons x l ih =>
  intro k m h1 h3
  obtain ⟨m, rfl⟩ : ∃ m', m = m' + 1 := ⟨m - 1, by simp at h3; omega⟩
  obtain ⟨a1, a2, a3⟩ := aV h1
  have hx : x ∈ a := List.mem_of_getElem? a1
  have hxs := bI hx
  have e3 : decide ((k : Int) < (a.length : Int)) = true := by simp; omega
  have q : J4x3 (CTp L n) L (W4x1 (CTp L n) L m) (k : Int) (a.length : Int) a a = fnd a l (k + 1) := by
   rw [J4x3, B4x3, dF (by omega)]
   exact ih (k + 1) m a3 (by simp at h3; omega)
  have hs : CTp L n 17 [⟨.rc 3, x⟩] = aCs x := by
   have := sidP_ok (t := x) (L := L) (n := n - 2)
   rwa [show n - 2 + 2 = n by omega] at this
  rw [W4x1, B4x1, e3, aI, aL, a1, dE, hs, fnd, aCs]
  cases e : sid x with
  | none =>
   simp only []
   rw [rT]
   simp only [Bool.not_false, aI]
   rw [J4x2, B4x2, aI, q]
  | some p =>
   obtain ⟨u, v⟩ := p
   have hp := sid_sz e
   simp only [] at hp
   have hq : CTp L n 18 [⟨.rc 3, u⟩, ⟨.rc 3, v⟩] = some [⟨.bool, decide (u = v)⟩] := TEq_ok u (by simp only [wfT]; omega) v L n (by omega) (by omega)
   have g : ∀ t : G.T, CTp L n 19 [⟨.sl (.rc 3), a⟩, ⟨.int .i64, (k : Int)⟩, ⟨.rc 3, t⟩] = some [⟨.bool, els t k a 0⟩] := fun t => el_ok hw hL (by omega)
   simp only []
   rw [rT]
   simp only [bnT, aH]
   rw [hq, cY]
   simp only []
   rw [J4x2, B4x2]
   cases decide (u = v) with
   | true => rw [aI, q]; rfl
   | false =>
    have g5 : ∀ b : Bool, J4x5 (CTp L n) L (W4x1 (CTp L n) L m) b (k : Int) (k : Int) (a.length : Int) a a = bif b then fR k true true else fnd a l (k + 1) := fun b => by
     rw [J4x5, B4x5]
     cases b with
     | true => rfl
     | false => rw [aH, q]; rfl
    have g4 : ∀ b : Bool, J4x4 (CTp L n) L (W4x1 (CTp L n) L m) b (k : Int) (k : Int) (a.length : Int) a a v = bif b then fR k false true else bif uE a k v then fR k true true else fnd a l (k + 1) := fun b => by
     rw [J4x4, B4x4]
     cases b with
     | true => rfl
     | false =>
      rw [aH, cdf, uE]
      cases decide (v.kind = (3 : Int)) with
      | true => rw [aI, g, cY, Bool.true_and]; exact g5 _
      | false => rw [aH, Bool.false_and]; exact g5 _
    rw [aH, cdf, uE]
    cases decide (u.kind = (3 : Int)) with
    | true => rw [aI, g, cY, Bool.true_and]; exact g4 _
    | false => rw [aH, Bool.false_and]; exact g4 _
theorem fp_ok {a : List G.T} {L n : Nat} (hw : cI a < 1000000000) (hL : cI a < L) (hn : cI a + 9 ≤ n) : CTp L n 4 [⟨.sl (.rc 3), a⟩] = fnd a a 0 := by
 have hlen := dP a
 obtain ⟨n, rfl⟩ : ∃ n', n = n' + 1 := ⟨n - 1, by omega⟩
 rw [c4]
 exact fp_loop hw hL (by omega) a 0 L rfl (by omega)
theorem fr_loop {L n : Nat} {a : List G.T} (hw : cI a < 500000000) (hL : 2 * cI a < L) (hn : 2 * cI a + 8 ≤ n) : ∀ (l : List G.T) (k m : Nat), a.drop k = l → l.length < m →
    W5x1 (CTp L n) L m a (k : Int) = fnd a l k := by
 have hlen := dP a
 intro l
 induction l with
 | nil =>
  intro k m h1 h3
  obtain ⟨m, rfl⟩ : ∃ m', m = m' + 1 := ⟨m - 1, by simp at h3; omega⟩
  have e1 := aW h1
  have e3 : decide ((k : Int) < (a.length : Int)) = false := by simp; omega
  rw [W5x1, B5x1, e3, aH, fnd]; rfl
 | cons x l ih =>
  intro k m h1 h3
  obtain ⟨m, rfl⟩ : ∃ m', m = m' + 1 := ⟨m - 1, by simp at h3; omega⟩
  obtain ⟨a1, a2, a3⟩ := aV h1
  have hx : x ∈ a := List.mem_of_getElem? a1
  have hxs := bI hx
  have e3 : decide ((k : Int) < (a.length : Int)) = true := by simp; omega
  have q : J5x3 (CTp L n) L (W5x1 (CTp L n) L m) (k : Int) a = fnd a l (k + 1) := by
   rw [J5x3, B5x3, dF (by omega)]
   exact ih (k + 1) m a3 (by simp at h3; omega)
  have hs : CTp L n 20 [⟨.rc 3, x⟩] = aCs x := by
   have := sidR_ok (t := x) (L := L) (n := n - 3)
   rwa [show n - 3 + 3 = n by omega] at this
  rw [W5x1, B5x1, e3, aI, aL, a1, dE, hs, fnd, aCs]
  cases e : sid x with
  | none =>
   simp only []
   rw [rT]
   simp only [Bool.not_false, aI]
   rw [J5x2, B5x2, aI, q]
  | some p =>
   obtain ⟨u, v⟩ := p
   have hp := sid_sz e
   simp only [] at hp
   have hq : CTp L n 21 [⟨.rc 3, u⟩, ⟨.rc 3, v⟩] = some [⟨.bool, decide (u = v)⟩] := aFB u (by simp only [wfT]; omega) v L n (by omega) (by omega)
   have g : ∀ t : G.T, tsz t ≤ tsz x → CTp L n 22 [⟨.sl (.rc 3), a⟩, ⟨.int .i64, (k : Int)⟩, ⟨.rc 3, t⟩] = some [⟨.bool, uE a k t⟩] := fun t ht => us_ok (by simp only [wfT]; omega) (by omega) (by omega) (by omega)
   have g1 := g u (by omega)
   have g2 := g v (by omega)
   simp only []
   rw [rT]
   simp only [bnT, aH]
   rw [hq, cY]
   simp only []
   rw [J5x2, B5x2]
   cases decide (u = v) with
   | true => rw [aI, q]; rfl
   | false =>
    rw [aH, cdf, g1, cY]
    simp only []
    cases uE a k u with
    | true => rfl
    | false =>
     rw [aH, cdf, g2, cY]
     simp only []
     cases uE a k v with
     | true => rfl
     | false => rw [aH, q]; rfl
theorem fr_ok {a : List G.T} {L n : Nat} (hw : cI a < 500000000) (hL : 2 * cI a < L) (hn : 2 * cI a + 9 ≤ n) : CTp L n 5 [⟨.sl (.rc 3), a⟩] = fnd a a 0 := by
 have hlen := dP a
 obtain ⟨n, rfl⟩ : ∃ n', n = n' + 1 := ⟨n - 1, by omega⟩
 rw [c5]
 exact fr_loop hw hL (by omega) a 0 L rfl (by omega)
end Go.TV
namespace Go.TV
open Go.AI Go.PI Go.Proofs
set_option maxRecDepth 20000
theorem awake_ok (L n : Nat) : CTp L (n + 1) 1 [] = some [⟨.bool, true⟩] :=
 call_o (x := ii1) (T := tpI) (y := .t) (by kernel_rfl) (by kernel_rfl) (by kernel_rfl) L n [] (by kernel_rfl)
section
variable (L : Nat) {E : List G.E} (hE : WOK E)
include hE
theorem cm_n (hL : 100000 ≤ L) {n : Nat} (h : 70000 ≤ n) (s : G.Z) (hs : bF s) : ClR (CTp (L + 7000) n 13 [⟨.sl (.rc 15), E⟩, ⟨.int .i64, (3 : Int)⟩, ⟨.int .i64, (2 : Int)⟩, ⟨.rc 0, s⟩]) 8000 := by
 obtain ⟨m, rfl⟩ : ∃ m, n = m + 1 := ⟨n - 1, by omega⟩
 rw [c13]
 obtain ⟨l, s', h1, h2, h3⟩ := Cm_ok (rV L (n := m) (by omega)) (L := L + 7000) (by omega) (li_n L hE (by omega)) (ad_n L hL (by omega)) (by omega) hs
 exact ⟨l, s', h1, by omega, h3⟩
theorem lf_n (hL : 100000 ≤ L) {n : Nat} (h : 80000 ≤ n) (s : G.Z) (hs : bF s) : ClR (CTp (L + 7000) n 3 [⟨.sl (.rc 15), E⟩, ⟨.rc 0, s⟩]) 40000 := by
 obtain ⟨m, rfl⟩ : ∃ m, n = m + 1 := ⟨n - 1, by omega⟩
 rw [c3]
 exact Lf_ok (rV L (by omega)) (by omega) (va_n L (by omega)) (t2_n L hE (by omega)) (t1_n L hE (by omega)) (cm_n L hE hL (by omega)) (ad_n L hL (by omega)) (by omega) (by omega) hs
end
theorem aDz {β : Type} {a : Int} {p q : Bool} {K : Int × Bool × Bool × Unit → Option β} : obL (D := U0.D) [.int .i64, .bool, .bool] (some [⟨.int .i64, a⟩, ⟨.bool, p⟩, ⟨.bool, q⟩]) K = K (a, p, q, ()) := rfl
theorem row17_of {c : TC0} {L : Nat} {a : List Int} (h1 : c 1 [] = some [⟨.bool, true⟩]) (hw : a.length ≤ 80 → ∃ E cl s k p q, c 2 [⟨.int .u32, (0 : Int)⟩] = some [⟨.sl (.rc 15), (E : List G.E)⟩] ∧ c 3 [⟨.sl (.rc 15), E⟩, ⟨.rc 0, (⟨a, 0⟩ : G.Z)⟩] = some [⟨.sl (.rc 3), (cl : List G.T)⟩, ⟨.rc 0, (s : G.Z)⟩] ∧
    c 4 [⟨.sl (.rc 3), cl⟩] = fR k p q ∧ c 5 [⟨.sl (.rc 3), cl⟩] = fR k p q) : F0 c L a = some [⟨.bool, true⟩] := by
 rw [F0, B0x0, h1, cY]
 simp only [bnT, aH]
 cases e : decide ((80 : Int) < (a.length : Int)) with
 | true => rfl
 | false =>
  simp only [dfN] at e
  obtain ⟨E, cl, s, k, p, q, k1, k2, k3, k4⟩ := hw (by omega)
  rw [aH, k1, obL_en]
  simp only []
  rw [k2, obL_cs]
  simp only []
  rw [k3, fR, aDz]
  simp only []
  rw [k4, fR, aDz]
  simp only [decide_true, aI, BEq.rfl]
  rfl
theorem row17_tv (a : List Int) (ha : ∀ x ∈ a, 0 ≤ x ∧ x < 256) (L M : Nat) : CTp (L + 207000) (M + 200001) 0 [⟨.sl (.int .u8), a⟩] = some [⟨.bool, true⟩] := by
 have e : L + 207000 = L + 200000 + 7000 := by omega
 rw [show M + 200001 = M + 200000 + 1 by omega, c0, e]
 generalize hl : L + 200000 = L1
 refine row17_of ?_ fun h80 => ?_
 ·exact awake_ok (L1 + 7000) (M + 199999)
 ·obtain ⟨E, h2, h3⟩ := world_ok L1 (M + 199841)
  obtain ⟨cl, s, h4, h5, h6⟩ := lf_n L1 (smF_ok h3) (by omega) (n := M + 200000) (by omega) ⟨a, 0⟩ ⟨ha, Int.le_refl _, by show (0 : Int) ≤ (a.length : Int); omega, h80⟩
  have q1 := fp_ok (a := cl) (L := L1 + 7000) (n := M + 200000) (by omega) (by omega) (by omega)
  have q2 := fr_ok (a := cl) (L := L1 + 7000) (n := M + 200000) (by omega) (by omega) (by omega)
  obtain ⟨k, p, q, hr⟩ := fnd_R cl cl 0
  rw [hr] at q1 q2
  exact ⟨E, cl, s, k, p, q, h2, h4, q1, q2⟩
end Go.TV
namespace Go.TV
open Go.AI Go.PI Go.Proofs
set_option maxRecDepth 20000
def u8V (cs : List Int) : List Value := cs.map fun x => .int .u8 x
def u8P (cs : List Int) : PV := cH 1 (cs.map fun x => .v (.int .u8 x))
def p00 : PSt := ⟨.nil, 0, [], []⟩
def nu0 : Nu := fun _ => none
def ga0 : Ga := fun _ => none
theorem mem0 {cs : List Value} : Mem nu0 ga0 p00 (st1 5 cs 1) where
 le := fun id x h => by cases h
 lt := fun id a h => by cases h
 inj := fun i j a h => by cases h
 live := fun id a h => by cases h
 get := fun id o h => by
  unfold PSt.get at h
  rw [show Nat.blt id p00.next = false from rfl] at h
  cases h
 free := fun a ha => by
  have h4 : 6 ≤ a := ha
  rw [lL, if_neg (by omega)]
 ver := fun g => by
  show (Tr.get Tr.nil g).getD 0 = 0
  rw [Tr.get_nil]; rfl
theorem aDY : ∀ cs : List Int, dK (cs.map fun x => PV.v (.int .u8 x)) = cs.map fun x => PV.v (.int .u8 x)
 | [] => rfl
 | x :: l => by
  have ih := aDY l
  simp only [dK] at ih ⊢
  rw [mpC, fmC, ih]; rfl
theorem arg_of {W : World} {v : Value} {cs : List Int} (hv : (v = .slice none 0 0 ∧ cs.length = 0) ∨ ∃ a cap, v = .slice (some a) cs.length cap ∧ cs.length ≤ cap ∧ (0 < cs.length → ∃ b off C t fr, a = ⟨b, off, none⟩ ∧ W.heap[b]? = some (Obj.cells C t fr) ∧ ∀ (i : Nat) (x : Value), (u8V cs)[i]? = some x → C[off + i]? = some x)) :
    ∃ (p : Option AI.Place) (u : Value), (∀ q, p = some q → RowW W q (u8V cs) 1) ∧ R nu0 (st1 5 (u8V cs) 1) (u8P cs) u ∧ AI.VR (mu1 5 p) u v := by
 rcases hv with ⟨rfl, h0⟩ | ⟨a, cap, rfl, hc, hrow⟩
 ·have : cs = [] := List.length_eq_zero_iff.1 h0
  subst this
  exact ⟨none, .slice none 0 0, fun q hq => (by cases hq), .emp0, .same _ rfl⟩
 ·by_cases hn : 0 < cs.length
  ·obtain ⟨b, off, C, t, fr, rfl, h1, h2⟩ := hrow hn
   refine ⟨some ⟨b, off, off + cap * 1, 1⟩, .slice (some ⟨5, 0, none⟩) cs.length (cs.length + 1), ?_, ?_, ?_⟩
   ·intro q hq; cases hq
    refine ⟨⟨C, t, fr, h1, h2⟩, ?_, rfl⟩
    intro x hx
    obtain ⟨k, _, rfl⟩ := List.mem_map.1 hx
    rfl
   ·have hne : u8P cs = .sl 1 (cs.map fun x => .v (.int .u8 x)) := by
     cases cs with
     | nil => simp at hn
     | cons x l => rfl
    rw [hne]
    have hl : cs.length = (cs.map fun x => PV.v (.int .u8 x)).length := by simp
    have hfl := aDY cs
    rw [hl]
    refine R.sl 1 _ 5 0 _ (u8V cs) (rdM 1) (nlR _) (fun e he => ?_) ⟨?_, fun k hk => by cases hk⟩ rfl ?_ (fun i x u hx hu => ?_)
    ·obtain ⟨k, _, rfl⟩ := List.mem_map.1 he
     exact ⟨rfl, rfl⟩
    ·exact PI.row_of_get (by rw [lL, if_pos rfl]) rfl
    ·simp [u8V]
    ·rw [hfl, List.getElem?_map, mjE] at hx
     obtain ⟨k, hk, rfl⟩ := hx
     rw [Nat.zero_add, u8V, List.getElem?_map, hk] at hu
     cases hu
     exact .v _ rfl
   ·exact .slc 5 0 cs.length (cs.length + 1) cap ⟨b, off, off + cap * 1, 1⟩ rfl (fun e => by omega) hc (by simp)
  ·have : cs = [] := List.length_eq_zero_iff.1 (by omega)
   subst this
   exact ⟨none, .slice (some ⟨0, 0, some 0⟩) 0 0, fun q hq => (by cases hq), .emp2 0 0 0 0, .emp a cap⟩
theorem law_pi {cs : List Int} (hb : ∀ x ∈ cs, 0 ≤ x ∧ x < 256) : ∃ own p', iK Tryz.prog orcI (wR Tryz.prog insL) 207000 200001 3 [(u8P cs, false)] p00 = some (.v (.bool true), own, p') := by
 have h0 := row17_tv cs hb 0 0
 have hT := callT_ok (U := U0) (T := tpI) (P := Tryz.prog) recOK (ttOK orcI (sigL insL)) (G := tabL Tryz.prog insL) (GP := wR Tryz.prog insL) (fun i s code rs h1 h2 => tabL_ok ka_ok i s code rs h1 h2) 207000 200001
 have hsig : tpI.sig 0 = some ii0.sig := (by kernel_rfl : sigL insL 0 = some ii0.sig)
 have hvr : VR U0 (.sl (.int .u8)) cs (u8P cs) := zP (U := U0) (.int .u8) cs rfl rfl
 obtain ⟨pv, own, p', h1, h2⟩ := hT 0 ii0.sig _ _ hsig h0 p00 (fun _ => none) [(u8P cs, false)] [(0, (.val ⟨.sl (.int .u8), cs⟩, []))] ⟨[], []⟩ {
  start := rfl
  len := rfl
  args := fun i y hy => by
   match i, hy with
   | 0, hy => cases hy; exact ⟨hvr, aE _ _⟩
   | i + 1, hy => cases hy
  bx := fun j b h => by cases h
  dom := fun _ _ => rfl
  lt := fun j e id h => by cases h
  inj := fun k k' e e' id h => by cases h
  wr := fun id h => by cases h }
 have hpv : pv = .v (.bool true) := of_bool h2.res.1
 subst hpv
 exact ⟨own, p', h1⟩
theorem aDL {W : World} {v : Value} {cs : List Int} (hb : ∀ x ∈ cs, 0 ≤ x ∧ x < 256) (ht : Lib.TabIs Tryz.prog W pwN .u64 Lib.pow10Tab)
    (hv : (v = .slice none 0 0 ∧ cs.length = 0) ∨ ∃ a cap, v = .slice (some a) cs.length cap ∧ cs.length ≤ cap ∧ (0 < cs.length → ∃ b off C t fr, a = ⟨b, off, none⟩ ∧ W.heap[b]? = some (Obj.cells C t fr) ∧ ∀ (i : Nat) (x : Value), (u8V cs)[i]? = some x → C[off + i]? = some x)) :
    Calls Tryz.prog 3 #[v] W fun e w' => e = .returned (.bool true) ∧ Kept W w' := by
 obtain ⟨p, u, hp, hr, hvr⟩ := arg_of hv
 obtain ⟨own, p', hpi⟩ := law_pi hb
 have hG : TabOK Tryz.prog (wR Tryz.prog insL) := ptabL_ok wW kb_ok
 obtain ⟨u', σ', ν', γ', h1, h2, _⟩ := aEU (O := orcI) hG 207000 200001 _ _ _ _ _ _ hpi nu0 ga0 (st1 5 (u8V cs) 1) #[u] mem0 ⟨rfl, fun i x w hx hw => by
  match i, hx, hw with
  | 0, hx, hw => cases hx; cases hw; exact hr
  | i + 1, hx, hw => cases hx⟩ (fun i x w hx _ => by
  match i, hx with
  | 0, hx => cases hx
  | i + 1, hx => cases hx)
 have hu : u' = .bool true := by cases h2; rfl
 subst hu
 obtain ⟨_, hc⟩ := aBe wW (orc_ok ht) 207000 200001 _ #[u] #[v] _ _ W (mu1 5 p) _ h1 (sim1 (by omega) hp (fun h => by omega)) ⟨rfl, fun i x w hx hw => by
  match i, hx, hw with
  | 0, hx, hw => cases hx; cases hw; exact hvr
  | i + 1, hx, hw => cases hx⟩
 refine hc.mono ?_
 rintro e w' ⟨μ', r', rfl, hr', hZ, _, _⟩
 have : r' = .bool true := by cases hr'; rfl
 subst this
 exact ⟨rfl, hZ.kept⟩
end Go.TV
namespace Go.Proofs.YtgeanbfoeopjfaaGreatDoor.fertFind
open Go.ChangeShapes Go.WideShapes Go.ChangeAt Go.RowKit Go.AI Go.TV
theorem own : ownKnob Tryz.prog.godebug = none := by kernel_rfl
theorem gPow : Tryz.prog.globalNamed pwN = some 0 := by kernel_rfl
theorem tPow : (Tryz.prog.globals[0]?).map (·.type) = some 267 := by kernel_rfl
theorem cE : Tryz.prog.cellsOf 66 = 1 := by kernel_rfl
theorem cT : Tryz.prog.cellsOf 267 = 20 := by kernel_rfl
theorem laidOut : laidOutB Tryz.prog = true := by kernel_rfl
theorem door_met (os : Os) (args : Array Value) : laidMetH Tryz.prog Rows.fertilizeFindRow.laid ((World.doorLaid Tryz.prog 400 os).forCall (fun _ _ => 0) ⟨#[], args, []⟩).memory :=
 laidMetH_of_parts3 (fuel := 8) (laidMet_of_run' 8 (by kernel_rfl) (by kernel_rfl)) (by kernel_rfl) (by kernel_rfl)
theorem tab_of {W : World} (h : laidMetH Tryz.prog Rows.fertilizeFindRow.laid W) : Lib.TabIs Tryz.prog W pwN .u64 Lib.pow10Tab := by
 rw [MakeChecks.laidMetH_plain _ _ _ (by kernel_rfl)] at h
 have h1 := laidMet.tail (laidMet.tail h)
 have e : (Rows.laid_internal_strconv_uint64pow10 : DataW Unit) = Lib.tabData .u64 Lib.pow10Tab := rfl
 rw [e] at h1
 exact Lib.tabIs_of_head gPow tPow Tryz.underlying267 Tryz.underlying66 cE cT h1
theorem vD {w : World} {a : Addr} {v : Value} (h : w.cell? a = some v) : ∃ C t fr, w.heap[a.block]? = some (Obj.cells C t fr) ∧ a.spot = none ∧ C[a.off]? = some v := by
 unfold World.cell? at h
 split at h
 ·rename_i C t fr hh
  split at h
  ·cases h
  ·rename_i hs; exact ⟨C, t, fr, hh, by simpa using hs, h⟩
 ·cases h
theorem aEP {w : World} {a : Addr} {N : Nat} {V : Nat → Value} (hN : 0 < N) (h : ∀ i, i < N → w.cell? (a.add i) = some (V i)) :
    ∃ b off C t fr, a = ⟨b, off, none⟩ ∧ w.heap[b]? = some (Obj.cells C t fr) ∧ ∀ i, i < N → C[off + i]? = some (V i) := by
 obtain ⟨b, off, spot⟩ := a
 have hspot : spot = none := by simpa [Addr.add] using World.cell?_spot (h 0 hN)
 subst hspot
 obtain ⟨C, t, fr, h1, _, h3⟩ := vD (h 0 hN)
 have e0 : (Addr.add ⟨b, off, none⟩ 0) = ⟨b, off, none⟩ := by rw [Go.WideShapes.add_plain]; rfl
 rw [e0] at h1 h3
 refine ⟨b, off, C, t, fr, rfl, h1, fun i hi => ?_⟩
 obtain ⟨C', t', fr', g1, _, g3⟩ := vD (h i hi)
 rw [Go.WideShapes.add_plain] at g1 g3
 simp only at g1 g3 h1
 rw [h1] at g1
 cases g1
 exact g3
set_option maxRecDepth 100000 in
theorem open_u8s {H : Type} {enc : TypeId × Value → H} {w : World} {b0 : Nat} {v : Value} {d : DataW H} {ps : List MemPlace} (hv : Value.okWide Tryz.prog w .any b0 22 v) (h : DataW.Trod enc Tryz.prog w 0 (fun _ => true) true 22 v d ps) :
    ∃ cs : List Int, (∀ k ∈ cs, 0 ≤ k ∧ k < 256) ∧ ((v = .slice none 0 0 ∧ cs.length = 0) ∨ ∃ a cap, v = .slice (some a) cs.length cap ∧ cs.length ≤ cap ∧ (0 < cs.length → ∃ b off C t fr, a = ⟨b, off, none⟩ ∧ w.heap[b]? = some (Obj.cells C t fr) ∧ ∀ (i : Nat) (x : Value), (u8V cs)[i]? = some x → C[off + i]? = some x)) := by
 obtain ⟨fuel, hf⟩ := h
 obtain ⟨a0, len, cap, rfl⟩ := Go.WideShapes.okWide_slice Tryz.underlying22 hv
 rcases Go.ChangeShapes.open_ints Tryz.underlying22 Tryz.underlying5 (by kernel_rfl) hf with ⟨hcs, hx⟩ | ⟨a, len', cap', zs, hcs, _, hl, hm, hz, hx, hcell, hws⟩
 ·have : Value.slice a0 len cap = .slice none 0 0 := by simpa [Value.cells] using hcs
  exact ⟨[], (by simp), Or.inl ⟨this, rfl⟩⟩
 ·have hvv : Value.slice a0 len cap = .slice (some a) len' cap' := by simpa [Value.cells] using hcs
  rw [if_pos rfl] at hz
  have hb : ∀ n ∈ zs, 0 ≤ n ∧ n ≤ 255 := fun n hn => Go.bounds_u8 (hws n hn)
  refine ⟨zs.take len', ?_, Or.inr ⟨a, cap', ?_, ?_, ?_⟩⟩
  ·intro k hk
   have := hb k (List.mem_of_mem_take hk); omega
  ·rw [hvv]; simp; omega
  ·simp; omega
  ·intro h0
   simp only [List.length_take] at h0
   obtain ⟨b, off, C, t, fr, rfl, g1, g2⟩ := aEP (V := fun i => .int .u8 (zs.getD i 0)) (N := zs.length) (by omega) hcell
   refine ⟨b, off, C, t, fr, rfl, g1, fun i x hx => ?_⟩
   simp only [u8V, List.getElem?_map, mjE] at hx
   obtain ⟨y, hy, rfl⟩ := hx
   rw [List.getElem?_take] at hy
   split at hy
   ·have hi := (List.getElem?_eq_some_iff.1 hy).1
    rw [g2 i hi]
    simp only [List.getD_eq_getElem?_getD, hy, Option.getD_some]
   ·cases hy
theorem aDN {W W' : World} (h : Kept W W') {p : MemPlace} (hp : p.block < W.heap.size) : W.sameAt W' p := by
 cases p with
 | cell b o => exact World.cell?_of_block (w := W) (h.old b hp)
 | map b => exact h.old b hp
theorem mK {H : Type} {enc : TypeId × Value → H} {P : Program} {W W' : World} (hl : laidOutB P = true) (hK : Kept W W') {sp : Nat → Bool} : ∀ {ts : List TypeId} {vs : List Value} {ds : List (DataW H)} {ps : List MemPlace}, (∀ t ∈ ts, P.readableRec t = true ∧ t < P.types.size) →
    DataW.TrodAll enc P W 0 (fun _ => true) true ts vs ds ps → (∀ p ∈ ps, p.block < W.heap.size) → (∀ p ∈ ps, sp p.block = true) → DataW.TrodAll enc P W' 0 sp true ts vs ds ps
 | [], [], [], _, _, h, _, _ => h
 | t :: _, _ :: _, _ :: _, _, hT, ⟨p, q, h1, h2, e⟩, hb, hs => ⟨p, q, WideElems.Trod_stays hl (hT t (List.mem_cons.2 (Or.inl rfl))).1 (hT t (List.mem_cons.2 (Or.inl rfl))).2 h1 (fun x hx => aDN hK (hb x (by rw [e]; exact List.mem_append_left _ hx))) (fun x hx => hs x (by rw [e]; exact List.mem_append_left _ hx)),
      mK hl hK (fun t ht => hT t (List.mem_cons.2 (Or.inr ht))) h2 (fun x hx => hb x (by rw [e]; exact List.mem_append_right _ hx)) (fun x hx => hs x (by rw [e]; exact List.mem_append_right _ hx)), e⟩
set_option maxRecDepth 100000 in
theorem lifted (os : Os) (started : os.Started) (H : Type) (enc : TypeId × Value → H) :
    ReturnsInHanded {} Tryz.checked os 3 .any (fun w args => (Rows.fertilizeFindSpec.pre enc Tryz.prog Tryz.f3 [] false w args ∧ laidMetH Tryz.prog Rows.fertilizeFindRow.laid w) ∧ sizedMet enc Tryz.prog Tryz.f3 (OpenSpec.ofChange Rows.fertilizeFindSpec) false w args)
      (Rows.fertilizeFindSpec.post enc Tryz.prog Tryz.f3 false true false false) := by
 refine returnsInHanded_of_change_and (C := Tryz.checked) (X := fun w _ => laidMetH Tryz.prog Rows.fertilizeFindRow.laid w) (fun _ _ _ hh h => h.of_heap hh) own started (by kernel_rfl) Tryz.func3
  (ChangeSpec.witness_shaped (enc := enc) (C := Tryz.checked) (os := os) (X := fun w _ => laidMetH Tryz.prog Rows.fertilizeFindRow.laid w) false (World.doorLaid Tryz.prog 400 os) #[.slice none 0 0] 8 rfl (World.shaped_of_RefB (by kernel_rfl) (by kernel_rfl)) (by kernel_rfl) (by kernel_rfl) (by kernel_rfl) (door_met os _)) ?_
 intro W base args ds gs before hval0 hW _ _ hL _
 have hval : ∀ (j : Nat) t v, Tryz.f3.params[j]? = some t → args[j]? = some v → Value.okWide Tryz.prog W .any base t v := hval0
 have hW' := hW
 obtain ⟨p, q, hA0, hV, rfl, hfz, hnd⟩ := hW
 have hA : DataW.TrodAll enc Tryz.prog W 0 (fun _ => true) true Tryz.f3.params.toList args.toList ds p := hA0
 have hlt : ∀ x ∈ p, x.block < W.heap.size := fun x hx => by simpa using hW'.lt x (List.mem_append_left _ hx)
 rw [Tryz.params3] at hA hval
 have hAk := hA
 obtain ⟨v0, d0, rfl, rfl, h0⟩ := trodAll_one hA
 obtain ⟨rfl, rfl⟩ := trodVars_none hV
 have o0 := hval 0 _ v0 rfl rfl
 obtain ⟨cs, hcs, hshape⟩ := open_u8s o0 h0
 clear hA0 hval0
 refine (aDL hcs (tab_of hL) hshape).mono fun e W' ⟨he, hK⟩ => ?_
 subst he
 have hg := hK.grown
 exact ⟨_, rfl, post_of_same (pv := []) hW' (fun _ _ _ => (trodAll_cons_mk (shut_bool Tryz.underlying4 _) trodAll_mk0)) (fun sp hsp => mK laidOut hK (by decide +kernel) hAk hlt (fun x hx => hsp x (List.mem_append_left _ hx))) (fun _ _ => rfl) rfl
  (hg.frame _) hg.2.1 (ok_one (by kernel_rfl) rfl (okWide_bool_mk Tryz.underlying4 _))⟩
theorem over : Rows.FertilizeFindSaid :=
 OpenClaim.holds_of_wide 3 Tryz.f3 rfl rfl rfl rfl rfl rfl rfl ⟨rfl, rfl, rfl, rfl, rfl⟩ rfl rfl rfl rfl rfl (by kernel_rfl) Tryz.func3 (by kernel_rfl)
  (of_decide_eq_true (by kernel_rfl)) (by unfold Func.isWrapper; first | (rw [if_pos (by decide +kernel)]; kernel_rfl) | (rw [if_neg (by decide +kernel)]; exact ⟨rfl, rfl⟩))
  (fun os started H enc _ => lifted os started H enc)
theorem proved : Rows.FertilizeFindCardSaid :=
 Claim7.holds_tied_plain_at .later [] [.data, .data, .data, .sentinel, .sentinel] true (true, "deb108ddb35a8b502c32a7164aaa5884a1ba91a0e6a232aafe27f420132e88b2") true
  over (fun _ h => by cases h) (by kernel_rfl) (fun _ h => by cases h) fertilizeFind_row_tie rfl ⟨rfl, rfl⟩ (by kernel_rfl) rfl
  (fun f fn hf hfn => by
   obtain rfl : f = 3 := Option.some.inj ((show Tryz.prog.funcNamed Rows.fertilizeFindRow.func = some 3 by kernel_rfl).symm.trans hf) |>.symm
   obtain rfl : fn = Tryz.f3 := (Option.some.inj (Tryz.func3.symm.trans hfn)).symm
   exact ⟨by kernel_rfl, fun j t ht => by
    rw [Tryz.params3] at ht
    have h3 : t = 22 := by
     rcases j with _ | j
     ·simpa using ht.symm
     ·simp at ht
    subst h3
    exact (show Tryz.prog.wantsStandIn 22 = false by kernel_rfl)⟩)
  (by kernel_rfl)
end Go.Proofs.YtgeanbfoeopjfaaGreatDoor.fertFind
