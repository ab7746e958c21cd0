import Derived.Test.YtbggbjpobkkbaaaGreatDoorKab
import Derived.Test.YtbggbjpobkkbaaaGreatDoorKai
import Derived.Test.YtbggbjpobkkbaaaGreatDoorKz
import Derived.Test.YtbggbjpobkkbaaaGreatDoorKy
import Derived.Test.YtbggbjpobkkbaaaGreatDoorKx
import Derived.Test.YtbggbjpobkkbaaaGreatDoorKaa
import Derived.Test.YtbggbjpobkkbaaaGreatDoorKr
import Derived.Test.YtbggbjpobkkbaaaGreatDoorKw
import Derived.Test.YtbggbjpobkkbaaaGreatDoorKv
set_option linter.unusedVariables false
set_option linter.unusedSimpArgs false
set_option linter.constructorNameAsVariable false
namespace Go.TV
open Go.AI Go.PI Go.Proofs
set_option maxRecDepth 20000
section
variable (L : Nat) {E : List G.E} (hE : WOK E)
theorem pQ {n : Nat} (h : 60 ≤ n) : Lib (CTp (L + 7000) n) := by
 obtain ⟨m, rfl⟩ : ∃ m, n = m + 60 := ⟨n - 60, by omega⟩
 exact lib_ok L m
theorem va_n {n : Nat} (h : 61 ≤ n) (s : G.Z) (hs : bE s) : TSR (CTp (L + 7000) n 18 [yR 0 s]) 6 := by
 obtain ⟨m, rfl⟩ : ∃ m, n = m + 1 := ⟨n - 1, by omega⟩
 rw [c18]
 exact Va_ok (pQ L (by omega)) hs
theorem o0_n {n : Nat} (h : 61 ≤ n) (s : G.Z) (hs : bE s) : OSR (CTp (L + 7000) n 19 [yI (0 : Int), yR 0 s]) 20 := by
 obtain ⟨m, rfl⟩ : ∃ m, n = m + 1 := ⟨n - 1, by omega⟩
 rw [c19]
 exact Ob0 (pQ L (by omega)) hs
theorem o1_n {n : Nat} (h : 62 ≤ n) (s : G.Z) (hs : bE s) : OSR (CTp (L + 7000) n 19 [yI (1 : Int), yR 0 s]) 200 := by
 obtain ⟨m, rfl⟩ : ∃ m, n = m + 1 := ⟨n - 1, by omega⟩
 rw [c19]
 exact Ob1 (pQ L (by omega)) (by omega) (o0_n L (by omega)) hs
include hE
theorem ar_n {n : Nat} (h : 4 ≤ n) (f : G.Y) : ArR (CTp (L + 7000) n 60 [yS 15 E, yR 1 f]) := by
 obtain ⟨m, rfl⟩ : ∃ m, n = m + 4 := ⟨n - 4, by omega⟩
 exact Ar_ok hE f (by omega)
theorem t0_n {n : Nat} (h : 63 ≤ n) (s : G.Z) (hs : bE s) : TSR (CTp (L + 7000) n 23 [yS 15 E, yI (0 : Int), yR 0 s]) 204 := by
 obtain ⟨m, rfl⟩ : ∃ m, n = m + 1 := ⟨n - 1, by omega⟩
 rw [c23]
 exact Te_ok (pQ L (by omega)) (by omega) (B := 204) (by omega) (by omega) (va_n L (by omega)) (o1_n L (by omega)) (ar_n L hE (by omega)) (fun h => by omega) hs
theorem t1_n {n : Nat} (h : 64 ≤ n) (s : G.Z) (hs : bE s) : TSR (CTp (L + 7000) n 23 [yS 15 E, yI (1 : Int), yR 0 s]) 621 := by
 obtain ⟨m, rfl⟩ : ∃ m, n = m + 1 := ⟨n - 1, by omega⟩
 rw [c23]
 exact Te_ok (pQ L (by omega)) (by omega) (B := 204) (by omega) (by omega) (va_n L (by omega)) (o1_n L (by omega)) (ar_n L hE (by omega)) (fun _ => t0_n L hE (by omega)) hs
theorem t2_n {n : Nat} (h : 65 ≤ n) (s : G.Z) (hs : bE s) : TSR (CTp (L + 7000) n 23 [yS 15 E, yI (2 : Int), yR 0 s]) 1872 := by
 obtain ⟨m, rfl⟩ : ∃ m, n = m + 1 := ⟨n - 1, by omega⟩
 rw [c23]
 exact Te_ok (pQ L (by omega)) (by omega) (B := 621) (by omega) (by omega) (va_n L (by omega)) (o1_n L (by omega)) (ar_n L hE (by omega)) (fun _ => t1_n L hE (by omega)) hs
theorem li_n {n : Nat} (h : 66 ≤ n) (s : G.Z) (hs : bE s) : TSR (CTp (L + 7000) n 17 [yS 15 E, yI (2 : Int), yR 0 s]) 2523 := by
 obtain ⟨m, rfl⟩ : ∃ m, n = m + 1 := ⟨n - 1, by omega⟩
 rw [c17]
 exact Li_ok (pQ L (by omega)) (va_n L (by omega)) (t2_n L hE (by omega)) (t1_n L hE (by omega)) hs
end
theorem smF_ok {E : List G.E} (h : smF E = true) : WOK E := by
 simp only [smF, smE, bjE, List.all_eq_true] at h
 exact ⟨Nat.le_of_ble_eq_true h.1, fun e he => Nat.le_of_ble_eq_true (h.2 e he).1, fun e he f hf => Nat.le_of_ble_eq_true ((h.2 e he).2 f hf)⟩
theorem obL_en {β : Type} {a : List G.E} {K : List G.E × Unit → Option β} : obL (D := U0.D) [.sl (.rc 15)] (some [yS 15 a]) K = K (a, ()) := rfl
noncomputable def addT (acc : List G.T) (t : G.T) : List G.T := if t ∈ acc then acc else acc ++ [t]
mutual
noncomputable def sub (acc : List G.T) : G.T → List G.T
 | ⟨k, n, v, l⟩ => if k = 3 then aDq (addT acc ⟨k, n, v, l⟩) l else addT acc ⟨k, n, v, l⟩
noncomputable def aDq (acc : List G.T) : List G.T → List G.T
 | [] => acc
 | x :: l => aDq (sub acc x) l
end
theorem aCd (acc : List G.T) (t : G.T) : (addT acc t).length ≤ acc.length + 1 := by
 unfold addT; split <;> simp
theorem aCe {acc : List G.T} {t : G.T} {B : Nat} (h : ∀ y ∈ acc, tsz y ≤ B) (ht : tsz t ≤ B) : ∀ y ∈ addT acc t, tsz y ≤ B := by
 unfold addT; split
 ·exact h
 ·intro y hy
  rcases List.mem_append.1 hy with hy | hy
  ·exact h y hy
  ·simp at hy; subst hy; exact ht
theorem sub'_len {l : List G.T} (ih : ∀ x ∈ l, ∀ acc, (sub acc x).length ≤ acc.length + tsz x) : ∀ acc, (aDq acc l).length ≤ acc.length + cZ l := by
 induction l with
 | nil => intro acc; simp [aDq, cZ]
 | cons x l ih2 =>
  intro acc
  simp only [aDq, cZ]
  have h1 := ih2 (fun y hy => ih y (mtE _ hy)) (sub acc x)
  have h2 := ih x (mhE ..) acc
  omega
theorem yQ : ∀ (t : G.T) (acc : List G.T), (sub acc t).length ≤ acc.length + tsz t := by
 intro t
 induction t using oX with
 | h k n v l ih =>
  intro acc
  simp only [sub, tsz]
  have h1 := aCd acc ⟨k, n, v, l⟩
  split
  ·have := sub'_len ih (addT acc ⟨k, n, v, l⟩); omega
  ·omega
theorem sub'_all {l : List G.T} {B : Nat} (ih : ∀ x ∈ l, ∀ acc, (∀ y ∈ acc, tsz y ≤ B) → tsz x ≤ B → ∀ y ∈ sub acc x, tsz y ≤ B) : (∀ x ∈ l, tsz x ≤ B) → ∀ acc, (∀ y ∈ acc, tsz y ≤ B) → ∀ y ∈ aDq acc l, tsz y ≤ B := by
 induction l with
 | nil => intro _ acc h; exact h
 | cons x l ih2 =>
  intro hl acc h
  simp only [aDq]
  exact ih2 (fun y hy => ih y (mtE _ hy)) (fun y hy => hl y (mtE _ hy)) _ (ih x (mhE ..) acc h (hl x (mhE ..)))
theorem aDT {B : Nat} : ∀ (t : G.T) (acc : List G.T), (∀ y ∈ acc, tsz y ≤ B) → tsz t ≤ B → ∀ y ∈ sub acc t, tsz y ≤ B := by
 intro t
 induction t using oX with
 | h k n v l ih =>
  intro acc h ht
  simp only [sub]
  have h1 := aCe h ht
  simp only [tsz] at ht
  split
  ·exact sub'_all (fun x hx acc h1 h2 => ih x hx acc h1 h2) (fun x hx => by have := aV hx; omega) _ h1
  ·exact h1
theorem ble_ok {a : Nat} (h : a < 6000000) : Nat.ble ((a + 1) * 176) 1073741824 = true := by
 apply Nat.ble_eq_true_of_le; omega
theorem aDS {c : TC0} {L : Nat} {t : G.T} {acc : List G.T} (hb : acc.length < 6000000) : ∀ (l : List G.T) (k m : Nat), acc.drop k = l → l.length + 1 < m →
    (∀ x, x ∈ l → c 30 (tt2 x t) = some (bb (decide (x = t)))) → qW c L m (k : Int) false acc t = aDe c L (if t ∈ l then acc else acc ++ [t]) t := by
 intro l
 induction l with
 | nil =>
  intro k m h1 h3 _
  obtain ⟨m, rfl⟩ : ∃ m', m = m' + 1 := ⟨m - 1, by simp at h3; omega⟩
  have e1 := bD h1
  have e3 : decide ((k : Int) < (acc.length : Int)) = false := by simp; omega
  rw [qW, aGA, e3, aI, aAN, aGz]
  simp only [aI, Bool.not_false, aK, lcS, lnN, Nat.zero_add, ble_ok hb, tX]
  simp
 | cons x l ih =>
  intro k m h1 h3 hc
  obtain ⟨m, rfl⟩ : ∃ m', m = m' + 2 := ⟨m - 2, by simp at h3; omega⟩
  obtain ⟨a1, a2, a3⟩ := bC h1
  have e3 : decide ((k : Int) < (acc.length : Int)) = true := by simp; omega
  have hxy : c 30 [yR 3 x, yR 3 t] = some [yB (decide (x = t))] := hc x (mhE ..)
  rw [qW, aGA, e3, aK, aAN, aGz]
  simp only [Bool.not_false, aK]
  rw [aN, a1, dR, hxy, dZ, eI (by omega)]
  by_cases e : x = t
  ·subst e
   simp only [decide_true]
   rw [qW, aGA]
   have : ∀ b : Bool, cnd b (aAN c L (qW c L m) (!true) ((k + 1 : Nat) : Int) true acc x) (aAN c L (qW c L m) false ((k + 1 : Nat) : Int) true acc x) = aDe c L acc x := by
    intro b
    cases b <;> simp [cnd, aAN, aGz]
   rw [this]; simp
  ·have e' : ¬ t = x := fun h => e h.symm
   simp only [e, decide_false]
   rw [ih (k + 1) (m + 1) a3 (by simp at h3; omega) fun z hz => hc z (mtE _ hz)]
   simp [e']
theorem aDR {c : TC0} {L B M : Nat} {t : G.T} (hb : t.args.length < 1000000000) : ∀ (l acc : List G.T) (k m : Nat), t.args.drop k = l → l.length < m → (∀ y ∈ acc, tsz y ≤ B) → (∀ y ∈ l, tsz y ≤ B) → acc.length + cZ l ≤ M →
    (∀ x, x ∈ l → ∀ acc : List G.T, (∀ y ∈ acc, tsz y ≤ B) → acc.length + tsz x ≤ M → c 56 (lt2 acc x) = some (tl1 (sub acc x))) → aAE c L m (k : Int) acc t = some (tl1 (aDq acc l)) := by
 intro l
 induction l with
 | nil =>
  intro acc k m h1 h3 _ _ _ _
  obtain ⟨m, rfl⟩ : ∃ m', m = m' + 1 := ⟨m - 1, by simp at h3; omega⟩
  have e1 := bD h1
  have e3 : decide ((k : Int) < (t.args.length : Int)) = false := by simp; omega
  rw [aAE, B56x4, e3, aI]; rfl
 | cons x l ih =>
  intro acc k m h1 h3 h4 h5 h6 hc
  obtain ⟨m, rfl⟩ : ∃ m', m = m' + 1 := ⟨m - 1, by simp at h3; omega⟩
  obtain ⟨a1, a2, a3⟩ := bC h1
  simp only [cZ] at h6
  have e3 : decide ((k : Int) < (t.args.length : Int)) = true := by simp; omega
  have hx := h5 x (mhE ..)
  have hxy : c 56 [yS 3 acc, yR 3 x] = some [yS 3 (sub acc x)] := hc x (mhE ..) acc h4 (by omega)
  rw [aAE, B56x4, e3, aK, aN, a1, dR, hxy, obL_l, eI (by omega)]
  exact ih (sub acc x) (k + 1) m a3 (by simp at h3; omega) (aDT x acc h4 hx) (fun y hy => h5 y (mtE _ hy)) (by have := yQ x acc; omega) fun z hz => hc z (mtE _ hz)
theorem sub_ok {B M : Nat} (hB : B < 1000000000) (hM : M < 6000000) : ∀ (t : G.T) (acc : List G.T) (L n : Nat), (∀ y ∈ acc, tsz y ≤ B) → tsz t ≤ B → acc.length + tsz t ≤ M → B + M + 2 ≤ L → B + tsz t ≤ n →
    CTp L n 56 (lt2 acc t) = some (tl1 (sub acc t)) := by
 intro t
 induction t using oX with
 | h k nm v l ih =>
  intro acc L n h1 h2 h3 hL hn
  have h2' := h2
  simp only [tsz] at h2 h3 hn
  have hlen := gD l
  obtain ⟨n, rfl⟩ : ∃ n', n = n' + 1 := ⟨n - 1, by omega⟩
  show CTp L (n + 1) 56 [yS 3 _, yR 3 _] = _
  rw [c56, F56, B56x0]
  have := aDS (c := CTp L n) (L := L) (t := ⟨k, nm, v, l⟩) (acc := acc) (by omega) acc 0 L rfl (by omega) fun x hx => aGx x (by have := h1 x hx; simp only [wfT]; omega) _ L n (by have := h1 x hx; omega) (by have := h1 x hx; omega)
  refine this.trans ?_
  change aDe _ L (addT acc ⟨k, nm, v, l⟩) _ = _
  rw [aDe, B56x3, sub]
  have hl := aCd acc ⟨k, nm, v, l⟩
  by_cases e : k = 3
  ·simp only [e, G.T.kind, decide_true, aK, if_true]
   subst e
   exact aDR (B := B) (M := M) (t := ⟨3, nm, v, l⟩) (by show l.length < _; omega) l (addT acc ⟨3, nm, v, l⟩) 0 L rfl (by omega) (aCe h1 h2') (fun y hy => by have := aV hy; omega) (by omega)
    fun x hx acc2 q1 q2 => ih x hx acc2 L n q1 (by have := aV hx; omega) q2 hL (by have := aV hx; omega)
  ·simp only [e, G.T.kind, decide_false, aI, if_false]; rfl
theorem Sub_loop {c : TC0} {L B M : Nat} {a : List G.T} (hb : a.length < 1000000000) : ∀ (l acc : List G.T) (k m : Nat), a.drop k = l → l.length < m → (∀ y ∈ acc, tsz y ≤ B) → (∀ y ∈ l, tsz y ≤ B) → acc.length + cZ l ≤ M →
    (∀ x, x ∈ l → ∀ acc : List G.T, (∀ y ∈ acc, tsz y ≤ B) → acc.length + tsz x ≤ M → c 56 (lt2 acc x) = some (tl1 (sub acc x))) → aAI c L m a (k : Int) acc = some (tl1 (aDq acc l)) := by
 intro l
 induction l with
 | nil =>
  intro acc k m h1 h3 _ _ _ _
  obtain ⟨m, rfl⟩ : ∃ m', m = m' + 1 := ⟨m - 1, by simp at h3; omega⟩
  have e1 := bD h1
  have e3 : decide ((k : Int) < (a.length : Int)) = false := by simp; omega
  rw [aAI, B22x1, e3, aI]; rfl
 | cons x l ih =>
  intro acc k m h1 h3 h4 h5 h6 hc
  obtain ⟨m, rfl⟩ : ∃ m', m = m' + 1 := ⟨m - 1, by simp at h3; omega⟩
  obtain ⟨a1, a2, a3⟩ := bC h1
  simp only [cZ] at h6
  have e3 : decide ((k : Int) < (a.length : Int)) = true := by simp; omega
  have hx := h5 x (mhE ..)
  have hxy : c 56 [yS 3 acc, yR 3 x] = some [yS 3 (sub acc x)] := hc x (mhE ..) acc h4 (by omega)
  rw [aAI, B22x1, e3, aK, aN, a1, dR, hxy, obL_l, eI (by omega)]
  exact ih (sub acc x) (k + 1) m a3 (by simp at h3; omega) (aDT x acc h4 hx) (fun y hy => h5 y (mtE _ hy)) (by have := yQ x acc; omega) fun z hz => hc z (mtE _ hz)
theorem Sub_ok {a : List G.T} {L n : Nat} (hw : cZ a < 6000000) (hL : 2 * cZ a + 2 ≤ L) (hn : 2 * cZ a < n) : CTp L n 22 (tl1 a) = some (tl1 (aDq [] a)) := by
 have hlen := gD a
 obtain ⟨n, rfl⟩ : ∃ n', n = n' + 1 := ⟨n - 1, by omega⟩
 show CTp L (n + 1) 22 [yS 3 _] = _
 rw [c22, F22, B22x0]
 exact Sub_loop (B := cZ a) (M := cZ a) (by omega) a [] 0 L rfl (by omega) (fun y hy => by cases hy) (fun y hy => aV hy) (by simp) fun x hx acc q1 q2 =>
  sub_ok (by omega) hw x acc L n q1 (aV hx) q2 (by omega) (by have := aV hx; omega)
set_option maxRecDepth 20000
section
variable {c : TC0} (h : Lib c)
include h
theorem Li1_ok {L : Nat} {E : List G.E} {A B : Nat} (hv : ∀ s, bE s → TSR (c 18 [⟨.rc 0, s⟩]) 6)
    (h2 : ∀ s, bE s → TSR (c 23 [⟨.sl (.rc 15), E⟩, ⟨.int .i64, (1 : Int)⟩, ⟨.rc 0, s⟩]) A) (h1 : ∀ s, bE s → TSR (c 23 [⟨.sl (.rc 15), E⟩, ⟨.int .i64, (0 : Int)⟩, ⟨.rc 0, s⟩]) B) {s : G.Z} (hs : bE s) :
    TSR (F17 c L E 1 s) (A + B + 30) := by
 obtain ⟨t, s2, e, g1, g2⟩ := h2 s hs
 obtain ⟨r, s3, e2, k1, k2, k3⟩ := h.nx s2 8 g2 (by omega)
 rw [F17, B17x0, e, dN, e2, fW]
 have key : ∀ (a : Bool) (b : G.T), TSR (aDi c L a r E 1 s3 t b) (A + B + 30) := fun a b => by
  rw [aDi, B17x1]
  cases a with
  | true =>
   rw [aK, h.l, bW]
   exact .mk (by rw [gK]; simp only [cZ]; omega) k3
  | false =>
   rw [aI]
   cases decide (r = (2 : Int)) with
   | true =>
    obtain ⟨t2, s4, e, q1, q2⟩ := h1 s3 k3
    rw [aK]
    show TSR (obL (D := U0.D) [.rc 3, .rc 0] (c 23 [⟨.sl (.rc 15), E⟩, ⟨.int .i64, (0 : Int)⟩, ⟨.rc 0, s3⟩]) _) _
    rw [e, dN]
    simp only []
    rw [h.l, bW]
    simp only []
    rw [h.l, bW]
    exact .mk (by rw [gK]; simp only [cZ]; rw [gK]; simp only [cZ]; omega) q2
   | false =>
    rw [aI]
    cases decide (r = (3 : Int)) with
    | true =>
     obtain ⟨t2, s4, e, q1, q2⟩ := hv s3 k3
     rw [aK, e, dN]
     simp only []
     rw [h.l, bW]
     simp only []
     rw [h.l, bW]
     exact .mk (by rw [gK]; simp only [cZ]; rw [gK]; simp only [cZ]; omega) q2
    | false =>
     rw [aI]
     cases decide (r = (4 : Int)) with
     | true =>
      obtain ⟨t2, s4, e, q1, q2⟩ := h1 s3 k3
      rw [aK]
      show TSR (obL (D := U0.D) [.rc 3, .rc 0] (c 23 [⟨.sl (.rc 15), E⟩, ⟨.int .i64, (0 : Int)⟩, ⟨.rc 0, s3⟩]) _) _
      rw [e, dN]
      simp only []
      rw [h.l, bW]
      exact .mk (by rw [gK]; simp only [cZ]; omega) q2
     | false =>
      rw [aI]
      cases decide (r = (5 : Int)) with
      | true =>
       obtain ⟨t1, s4, e, q1, q2⟩ := hv s3 k3
       rw [aK, e, dN]
       obtain ⟨t2, s5, e, q3, q4⟩ := h1 s4 q2
       show TSR (obL (D := U0.D) [.rc 3, .rc 0] (c 23 [⟨.sl (.rc 15), E⟩, ⟨.int .i64, (0 : Int)⟩, ⟨.rc 0, s4⟩]) _) _
       rw [e, dN]
       simp only []
       rw [h.l, bW]
       simp only []
       rw [h.l, bW]
       exact .mk (by rw [gK]; simp only [cZ]; rw [gK]; simp only [cZ]; omega) q4
      | false => exact .mk (by omega) k3
 cases decide (r = (0 : Int)) with
 | true => exact key _ _
 | false => exact key _ _
def TmR (x : Rt) (B : Nat) : Prop := ∃ t : G.T, x = some [⟨.rc 3, t⟩] ∧ tsz t ≤ B
set_option linter.unusedSectionVars false in
theorem Cx_loop {L : Nat} {E : List G.E} (hl : ∀ s, bE s → TSR (c 17 [⟨.sl (.rc 15), E⟩, ⟨.int .i64, (2 : Int)⟩, ⟨.rc 0, s⟩]) 2523) (hv : ∀ s, bE s → TSR (c 18 [⟨.rc 0, s⟩]) 6)
    (ho : ∀ s, bE s → OSR (c 19 [⟨.int .i64, (0 : Int)⟩, ⟨.rc 0, s⟩]) 20) (hN : TmR (c 21 [⟨.int .i64, (0 : Int)⟩]) 24) {r : Nat} (hr : r ≤ 5) :
    ∀ (j k m : Nat) (a : List G.T) (s : G.Z), r = k + j → cZ a ≤ 2524 * k → j < m → bE s → ClR (W4x1 c L m (r : Int) E 2 (k : Int) a s) 12620 := by
 intro j
 induction j with
 | zero =>
  intro k m a s h1 h4 h5 hs
  obtain ⟨m, rfl⟩ : ∃ m', m = m' + 1 := ⟨m - 1, by omega⟩
  have e3 : decide ((k : Int) < (r : Int)) = false := by simp; omega
  rw [W4x1, B4x1, e3, aI]
  exact ⟨a, s, rfl, by omega, hs⟩
 | succ j ih =>
  intro k m a s h1 h4 h5 hs
  obtain ⟨m, rfl⟩ : ∃ m', m = m' + 1 := ⟨m - 1, by omega⟩
  have e3 : decide ((k : Int) < (r : Int)) = true := by simp; omega
  obtain ⟨t, s', e, g1, g2⟩ := hl s hs
  obtain ⟨q, s3, e5, g3, g4, g5⟩ := h.nx s' 6 g2 (by omega)
  have fin : ∀ (u : G.T) (s4 : G.Z), tsz u ≤ 2523 → bE s4 → ClR (J4x2 c L (W4x1 c L m) a (k : Int) (r : Int) E 2 s4 u) 12620 := fun u s4 k1 k2 => by
   rw [J4x2, B4x2]
   have hla := gD a
   rw [show Nat.ble ((List.length a + List.length ([u] : List G.T)) * 176) 1073741824 = true from ble_ok (by omega), tX, eI (by omega)]
   exact ih (k + 1) m (a ++ [u]) s4 (by omega) (by rw [tsz'_app]; omega) (by omega) k2
  rw [W4x1, B4x1, e3, aK, e, dN]
  simp only []
  rw [e5, fW]
  simp only []
  cases decide (q = (0 : Int)) with
  | true =>
   obtain ⟨v, s4, e6, k1, k2⟩ := hv s3 g5
   rw [aK, e6, dN]
   simp only []
   rw [h.l, bW]
   exact fin _ _ (by simp only [gK, cZ]; omega) k2
  | false =>
   rw [aI]
   cases decide (q = (1 : Int)) with
   | true =>
    obtain ⟨v, s4, e6, k1, k2⟩ := hv s3 g5
    obtain ⟨o, s5, e7, k3, k4⟩ := ho s4 k2
    rw [aK, e6, dN]
    simp only []
    rw [e7, vI]
    simp only []
    rw [h.k, bW]
    simp only []
    rw [h.l, bW]
    exact fin _ _ (by simp only [gK, cZ, tC_sz]; omega) k4
   | false =>
    rw [aI]
    cases decide (q = (2 : Int)) with
    | true =>
     obtain ⟨v, s4, e6, k1, k2⟩ := hv s3 g5
     obtain ⟨z, e7, k3⟩ := hN
     rw [aK, e7, bW]
     simp only []
     rw [e6, dN]
     simp only []
     rw [h.l, bW]
     exact fin _ _ (by simp only [gK, cZ]; omega) k2
    | false =>
     rw [aI]
     exact fin _ _ (by omega) g5
theorem Cx_ok {L : Nat} {E : List G.E} (hL : 10 ≤ L) (hl : ∀ s, bE s → TSR (c 17 [⟨.sl (.rc 15), E⟩, ⟨.int .i64, (2 : Int)⟩, ⟨.rc 0, s⟩]) 2523) (hv : ∀ s, bE s → TSR (c 18 [⟨.rc 0, s⟩]) 6)
    (ho : ∀ s, bE s → OSR (c 19 [⟨.int .i64, (0 : Int)⟩, ⟨.rc 0, s⟩]) 20) (hN : TmR (c 21 [⟨.int .i64, (0 : Int)⟩]) 24) {s : G.Z} (hs : bE s) : ClR (F4 c L E 5 2 s) 12620 := by
 obtain ⟨r, s', e, g1, g2, g3⟩ := h.nx s 6 hs (by omega)
 rw [F4, B4x0, show IntKind.i64.wrap ((5 : Int) + 1) = 6 from rfl, e, fW]
 obtain ⟨m, rfl⟩ : ∃ m : Nat, r = (m : Int) := ⟨r.toNat, by omega⟩
 exact Cx_loop h hl hv ho hN (by omega) m 0 L [] s' (by omega) (Nat.zero_le _) (by omega) g3
def PbR (x : Rt) : Prop := ∃ (l : List G.T) (s : G.Z), x = some [⟨.sl (.rc 3), l⟩, ⟨.rc 0, s⟩]
theorem Pb_ok {L : Nat} {E : List G.E} {a b : List G.T} (hb : b.length < 5000000) (hS : c 22 (tl1 a) = some (tl1 b)) (hv : ∀ s, bE s → TSR (c 18 [⟨.rc 0, s⟩]) 6)
    (h2 : ∀ s, bE s → TSR (c 23 [⟨.sl (.rc 15), E⟩, ⟨.int .i64, (2 : Int)⟩, ⟨.rc 0, s⟩]) 1872) (h1 : ∀ s, bE s → TSR (c 17 [⟨.sl (.rc 15), E⟩, ⟨.int .i64, (1 : Int)⟩, ⟨.rc 0, s⟩]) 2000)
    (hN : TmR (c 21 [⟨.int .i64, (0 : Int)⟩]) 24) {s : G.Z} (hs : bE s) : PbR (F5 c L E a s) := by
 obtain ⟨v, s1, e1, k1, q1⟩ := hv s hs
 obtain ⟨t, s2, e2, k2, q2⟩ := h2 s1 q1
 obtain ⟨u, s3, e3, k3, q3⟩ := h1 s2 q2
 obtain ⟨z, e4, k4⟩ := hN
 have hS' : c 22 [⟨.sl (.rc 3), a⟩] = some [⟨.sl (.rc 3), b⟩] := hS
 rw [F5, B5x0, hS', obL_l]
 simp only []
 rw [e1, dN]
 simp only []
 rw [e2, dN]
 simp only []
 rw [e3, dN]
 simp only []
 rw [h.l, bW]
 simp only []
 rw [h.l, bW]
 simp only []
 rw [h.l, bW]
 simp only []
 rw [h.l, bW]
 simp only []
 rw [e4, bW]
 simp only []
 rw [h.l, bW]
 simp only []
 rw [show ∀ x1 x2 x3 x4 x5 x6 x7 : G.T, Nat.ble ((List.length b + List.length ([x1, x2, x3, x4, x5, x6, x7] : List G.T)) * 176) 1073741824 = true from fun _ _ _ _ _ _ _ => Nat.ble_eq_true_of_le (by simp only [lcS, lnN]; omega), tX]
 exact ⟨_, _, rfl⟩
end
section
variable (L : Nat) {E : List G.E} (hE : WOK E)
include hE
theorem l1_n {n : Nat} (h : 66 ≤ n) (s : G.Z) (hs : bE s) : TSR (CTp (L + 7000) n 17 [⟨.sl (.rc 15), E⟩, ⟨.int .i64, (1 : Int)⟩, ⟨.rc 0, s⟩]) 2000 := by
 obtain ⟨m, rfl⟩ : ∃ m, n = m + 1 := ⟨n - 1, by omega⟩
 rw [c17]
 exact (Li1_ok (pQ L (by omega)) (va_n L (by omega)) (t1_n L hE (by omega)) (t0_n L hE (by omega)) hs).le (by omega)
omit hE in
theorem n0_n {n : Nat} (h : 62 ≤ n) : TmR (CTp (L + 7000) n 21 [⟨.int .i64, (0 : Int)⟩]) 24 := by
 obtain ⟨m, rfl⟩ : ∃ m, n = m + 1 := ⟨n - 1, by omega⟩
 have hl := pQ L (n := m) (by omega)
 obtain ⟨o, e, k⟩ := hl.i 3 (by omega) (by omega)
 have e' : CTp (L + 7000) m 50 [⟨.int .i64, (0 : Int)⟩] = some [⟨.rc 2, o⟩] := e
 rw [c21, F21, B21x0, e', zG]
 simp only []
 rw [hl.k, bW]
 exact ⟨_, rfl, by rw [tC_sz]; omega⟩
theorem cx_n {n : Nat} (h : 70 ≤ n) (s : G.Z) (hs : bE s) : ClR (CTp (L + 7000) n 4 [⟨.sl (.rc 15), E⟩, ⟨.int .i64, (5 : Int)⟩, ⟨.int .i64, (2 : Int)⟩, ⟨.rc 0, s⟩]) 12620 := by
 obtain ⟨m, rfl⟩ : ∃ m, n = m + 1 := ⟨n - 1, by omega⟩
 rw [c4]
 exact Cx_ok (pQ L (by omega)) (by omega) (li_n L hE (by omega)) (va_n L (by omega)) (o0_n L (by omega)) (n0_n L (by omega)) hs
theorem pb_n (hL : 30000 ≤ L) {n : Nat} (h : 30000 ≤ n) (a : List G.T) (ha : cZ a ≤ 12620) (s : G.Z) (hs : bE s) : PbR (CTp (L + 7000) n 5 [⟨.sl (.rc 15), E⟩, ⟨.sl (.rc 3), a⟩, ⟨.rc 0, s⟩]) := by
 obtain ⟨m, rfl⟩ : ∃ m, n = m + 1 := ⟨n - 1, by omega⟩
 rw [c5]
 have hlen : (aDq [] a).length ≤ cZ a := by
  have := sub'_len (l := a) (fun x _ acc => yQ x acc) []
  simpa using this
 exact Pb_ok (pQ L (by omega)) (b := aDq [] a) (by omega) (Sub_ok (by omega) (by omega) (by omega)) (va_n L (by omega)) (t2_n L hE (by omega)) (l1_n L hE (by omega)) (n0_n L (by omega)) hs
end
theorem awk27_ok (L n : Nat) : CTp L (n + 1) 2 [] = some [⟨.bool, true⟩] :=
 call_o (x := ii2) (T := tpI) (y := .t) (by kernel_rfl) (by kernel_rfl) (by kernel_rfl) L n [] (by kernel_rfl)
theorem aEG {β : Type} {o : G.O} {b : Bool} {K : G.O × Bool × Unit → Option β} : obL (D := U0.D) [.rc 2, .bool] (some [⟨.rc 2, o⟩, ⟨.bool, b⟩]) K = K (o, b, ()) := rfl
theorem v14_loop {c : TC0} {L : Nat} {a l : List G.T} (h1 : ∀ u, c 6 [⟨.sl (.rc 3), a⟩, ⟨.rc 3, u⟩] = some (aDp a u)) (h2 : ∀ u, c 7 [⟨.sl (.rc 3), a⟩, ⟨.rc 3, u⟩] = some (aDp a u))
    (h3 : ∀ o : G.O, osz o ≤ cZ a + 20 → c 8 [⟨.rc 2, o⟩, ⟨.rc 2, o⟩] = some [⟨.bool, true⟩]) :
    ∀ (j k m : Nat), 40 = k + j → j < m → W0x1 c L m a l (k : Int) = some [⟨.bool, true⟩] := by
 intro j
 induction j with
 | zero =>
  intro k m e h
  obtain ⟨m, rfl⟩ : ∃ m', m = m' + 1 := ⟨m - 1, by omega⟩
  have e4 : decide ((k : Int) < 40) = false := by simp; omega
  rw [W0x1, B0x1, e4]
  cases decide ((k : Int) < (l.length : Int)) with
  | true => rw [aK]; rfl
  | false => rw [aI]; rfl
 | succ j ih =>
  intro k m e h
  obtain ⟨m, rfl⟩ : ∃ m', m = m' + 1 := ⟨m - 1, by omega⟩
  have e4 : decide ((k : Int) < 40) = true := by simp; omega
  rw [W0x1, B0x1, e4]
  by_cases hk : k < l.length
  ·have e5 : decide ((k : Int) < (l.length : Int)) = true := by simp; omega
   have e6 : idx l (k : Int) = some l[k] := by rw [aN]; exact geG hk
   obtain ⟨o, b, ho, hs⟩ := valR_ex a l[k]
   have k1 : c 6 [yS 3 a, yR 3 l[k]] = some [⟨.rc 2, o⟩, ⟨.bool, b⟩] := (h1 _).trans (by rw [ho])
   have k2 : c 7 [yS 3 a, yR 3 l[k]] = some [⟨.rc 2, o⟩, ⟨.bool, b⟩] := (h2 _).trans (by rw [ho])
   have k3 : c 8 [yR 2 o, yR 2 o] = some [⟨.bool, true⟩] := h3 o hs
   rw [e5, aK, J0x2, B0x2, aK, e6, dR, k1, aEG]
   simp only []
   rw [dR, k2, aEG]
   simp only [BEq.rfl, bnT, aI]
   rw [k3, dZ]
   simp only [bnT, J0x3, B0x3, aI]
   rw [eI (by omega)]
   exact ih (k + 1) m (by omega) (by omega)
  ·have e5 : decide ((k : Int) < (l.length : Int)) = false := by simp; omega
   rw [e5, aI]; rfl
theorem row14_of {c : TC0} {L : Nat} {a : List Int} (hL : 50 ≤ L) (h1 : c 2 [] = some [⟨.bool, true⟩]) (hw : a.length ≤ 100 → ∃ (E : List G.E) (cl l : List G.T) (s s2 : G.Z), c 3 [⟨.int .u32, (0 : Int)⟩] = some [⟨.sl (.rc 15), (E : List G.E)⟩] ∧
    c 4 [⟨.sl (.rc 15), E⟩, ⟨.int .i64, (5 : Int)⟩, ⟨.int .i64, (2 : Int)⟩, ⟨.rc 0, (⟨a, 0⟩ : G.Z)⟩] = some [⟨.sl (.rc 3), (cl : List G.T)⟩, ⟨.rc 0, (s : G.Z)⟩] ∧
    c 5 [⟨.sl (.rc 15), E⟩, ⟨.sl (.rc 3), cl⟩, ⟨.rc 0, s⟩] = some [⟨.sl (.rc 3), (l : List G.T)⟩, ⟨.rc 0, (s2 : G.Z)⟩] ∧
    (∀ u, c 6 [⟨.sl (.rc 3), cl⟩, ⟨.rc 3, u⟩] = some (aDp cl u)) ∧ (∀ u, c 7 [⟨.sl (.rc 3), cl⟩, ⟨.rc 3, u⟩] = some (aDp cl u)) ∧
    (∀ o : G.O, osz o ≤ cZ cl + 20 → c 8 [⟨.rc 2, o⟩, ⟨.rc 2, o⟩] = some [⟨.bool, true⟩])) : F0 c L a = some [⟨.bool, true⟩] := by
 rw [F0, B0x0, h1, dZ]
 simp only [bnT, aI]
 cases e : decide ((100 : Int) < (a.length : Int)) with
 | true => rfl
 | false =>
  simp only [dfN] at e
  obtain ⟨E, cl, l, s, s2, k1, k2, k3, k4, k5, k6⟩ := hw (by omega)
  rw [aI, k1, obL_en]
  simp only []
  rw [k2, obL_cs]
  simp only []
  rw [k3, obL_cs]
  exact v14_loop k4 k5 k6 40 0 L rfl (by omega)
theorem row14_tv (a : List Int) (ha : ∀ x ∈ a, 0 ≤ x ∧ x < 256) (L M : Nat) : CTp (L + 207000) (M + 200001) 0 [⟨.sl (.int .u8), a⟩] = some [⟨.bool, true⟩] := by
 have e : L + 207000 = L + 200000 + 7000 := by omega
 rw [show M + 200001 = M + 200000 + 1 by omega, c0, e]
 generalize hl : L + 200000 = L1
 refine row14_of (by omega) ?_ fun h80 => ?_
 ·exact awk27_ok (L1 + 7000) (M + 199999)
 ·obtain ⟨E, h2, h3⟩ := world_ok L1 (M + 199841)
  obtain ⟨cl, s, h4, h5, h6⟩ := cx_n L1 (smF_ok h3) (n := M + 200000) (by omega) ⟨a, 0⟩ ⟨ha, Int.le_refl _, by show (0 : Int) ≤ (a.length : Int); omega, h80⟩
  obtain ⟨l, s2, h7⟩ := pb_n L1 (smF_ok h3) (by omega) (n := M + 200000) (by omega) cl h5 s h6
  refine ⟨E, cl, l, s, s2, h2, h4, h7, fun u => vaP_ok (by omega) (by omega) (by omega), fun u => vaR_ok (by omega) (by omega) (by omega), fun o ho => ?_⟩
  have := aCn o (by simp only [wfO]; omega) o (L1 + 7000) (M + 200000) (by omega) (by omega)
  simpa [oo, bb] using this
def u8V (cs : List Int) : List Value := cs.map fun x => .int .u8 x
def u8P (cs : List Int) : PV := cU 1 (cs.map fun x => .v (.int .u8 x))
def p00 : PSt := ⟨.nil, 0, [], []⟩
def nu0 : Nu := fun _ => none
def ga0 : Ga := fun _ => none
theorem mem0 {cs : List Value} : Mem nu0 ga0 p00 (st1 3 cs 1) where
 le := fun id x h => by cases h
 lt := fun id a h => by cases h
 inj := fun i j a h => by cases h
 live := fun id a h => by cases h
 get := fun id o h => by
  unfold PSt.get at h
  rw [show Nat.blt id p00.next = false from rfl] at h
  cases h
 free := fun a ha => by
  have h4 : 4 ≤ a := ha
  rw [mO, if_neg (by omega)]
 ver := fun g => by
  show (Tr.get Tr.nil g).getD 0 = 0
  rw [Tr.get_nil]; rfl
theorem aE1 : ∀ cs : List Int, eA (cs.map fun x => PV.v (.int .u8 x)) = cs.map fun x => PV.v (.int .u8 x)
 | [] => rfl
 | x :: l => by
  have ih := aE1 l
  simp only [eA] at ih ⊢
  rw [mpC, fmC, ih]; rfl
theorem arg_of {W : World} {v : Value} {cs : List Int} (hv : (v = .slice none 0 0 ∧ cs.length = 0) ∨ ∃ a cap, v = .slice (some a) cs.length cap ∧ cs.length ≤ cap ∧ (0 < cs.length → ∃ b off C t fr, a = ⟨b, off, none⟩ ∧ W.heap[b]? = some (Obj.cells C t fr) ∧ ∀ (i : Nat) (x : Value), (u8V cs)[i]? = some x → C[off + i]? = some x)) :
    ∃ (p : Option AI.Place) (u : Value), (∀ q, p = some q → RowW W q (u8V cs) 1) ∧ R nu0 (st1 3 (u8V cs) 1) (u8P cs) u ∧ AI.VR (mu1 3 p) u v := by
 rcases hv with ⟨rfl, h0⟩ | ⟨a, cap, rfl, hc, hrow⟩
 ·have : cs = [] := List.length_eq_zero_iff.1 h0
  subst this
  exact ⟨none, .slice none 0 0, fun q hq => (by cases hq), .emp0, .same _ rfl⟩
 ·by_cases hn : 0 < cs.length
  ·obtain ⟨b, off, C, t, fr, rfl, h1, h2⟩ := hrow hn
   refine ⟨some ⟨b, off, off + cap * 1, 1⟩, .slice (some ⟨3, 0, none⟩) cs.length (cs.length + 1), ?_, ?_, ?_⟩
   ·intro q hq; cases hq
    refine ⟨⟨C, t, fr, h1, h2⟩, ?_, rfl⟩
    intro x hx
    obtain ⟨k, _, rfl⟩ := List.mem_map.1 hx
    rfl
   ·have hne : u8P cs = .sl 1 (cs.map fun x => .v (.int .u8 x)) := by
     cases cs with
     | nil => simp at hn
     | cons x l => rfl
    rw [hne]
    have hl : cs.length = (cs.map fun x => PV.v (.int .u8 x)).length := by simp
    have hfl := aE1 cs
    rw [hl]
    refine R.sl 1 _ 3 0 _ (u8V cs) (rdM 1) (nlR _) (fun e he => ?_) ⟨?_, fun k hk => by cases hk⟩ rfl ?_ (fun i x u hx hu => ?_)
    ·obtain ⟨k, _, rfl⟩ := List.mem_map.1 he
     exact ⟨rfl, rfl⟩
    ·exact PI.row_of_get (by rw [mO, if_pos rfl]) rfl
    ·simp [u8V]
    ·rw [hfl, List.getElem?_map, mjE] at hx
     obtain ⟨k, hk, rfl⟩ := hx
     rw [Nat.zero_add, u8V, List.getElem?_map, hk] at hu
     cases hu
     exact .v _ rfl
   ·exact .slc 3 0 cs.length (cs.length + 1) cap ⟨b, off, off + cap * 1, 1⟩ rfl (fun e => by omega) hc (by simp)
  ·have : cs = [] := List.length_eq_zero_iff.1 (by omega)
   subst this
   exact ⟨none, .slice (some ⟨0, 0, some 0⟩) 0 0, fun q hq => (by cases hq), .emp2 0 0 0 0, .emp a cap⟩
theorem law_pi {cs : List Int} (hb : ∀ x ∈ cs, 0 ≤ x ∧ x < 256) : ∃ own p', jL Tryz.prog orcI (yZ Go.Rf.cdP insL) 207000 200001 4 [(u8P cs, false)] p00 = some (.v (.bool true), own, p') := by
 have h0 := row14_tv cs hb 0 0
 have hT := callT_ok (U := U0) (T := tpI) (P := Tryz.prog) recOK (ttOK orcI (sigL insL)) (G := tabL Go.Rf.cdP insL) (GP := yZ Go.Rf.cdP insL) (fun i s code rs h1 h2 => tabL_ok ka_ok i s code rs h1 h2) 207000 200001
 have hsig : tpI.sig 0 = some ii0.sig := (by kernel_rfl : sigL insL 0 = some ii0.sig)
 have hvr : VR U0 (.sl (.int .u8)) cs (u8P cs) := aAK (U := U0) (.int .u8) cs rfl rfl
 obtain ⟨pv, own, p', h1, h2⟩ := hT 0 ii0.sig _ _ hsig h0 p00 (fun _ => none) [(u8P cs, false)] [(0, (.val ⟨.sl (.int .u8), cs⟩, []))] ⟨[], []⟩ {
  start := rfl
  len := rfl
  args := fun i y hy => by
   match i, hy with
   | 0, hy => cases hy; exact ⟨hvr, aE _ _⟩
   | i + 1, hy => cases hy
  bx := fun j b h => by cases h
  dom := fun _ _ => rfl
  lt := fun j e id h => by cases h
  inj := fun k k' e e' id h => by cases h
  wr := fun id h => by cases h }
 have hpv : pv = .v (.bool true) := of_bool h2.res.1
 subst hpv
 exact ⟨own, p', h1⟩
theorem aER {W : World} {v : Value} {cs : List Int} (hb : ∀ x ∈ cs, 0 ≤ x ∧ x < 256) (ht : Lib.TabIs Tryz.prog W pwN .u64 Lib.pow10Tab) (hz : 3 ≤ W.heap.size)
    (hv : (v = .slice none 0 0 ∧ cs.length = 0) ∨ ∃ a cap, v = .slice (some a) cs.length cap ∧ cs.length ≤ cap ∧ (0 < cs.length → ∃ b off C t fr, a = ⟨b, off, none⟩ ∧ W.heap[b]? = some (Obj.cells C t fr) ∧ ∀ (i : Nat) (x : Value), (u8V cs)[i]? = some x → C[off + i]? = some x)) :
    Calls Tryz.prog 4 #[v] W fun e w' => e = .returned (.bool true) ∧ Kept W w' := by
 obtain ⟨p, u, hp, hr, hvr⟩ := arg_of hv
 obtain ⟨own, p', hpi⟩ := law_pi hb
 have hG : aGn Tryz.prog Go.Rf.cdP (yZ Go.Rf.cdP insL) := aEn aEU kb_ok
 obtain ⟨u', σ', ν', γ', h1, h2, _⟩ := aFO (O := orcI) hG 207000 200001 _ _ _ _ _ _ hpi nu0 ga0 (st1 3 (u8V cs) 1) #[u] mem0 ⟨rfl, fun i x w hx hw => by
  match i, hx, hw with
  | 0, hx, hw => cases hx; cases hw; exact hr
  | i + 1, hx, hw => cases hx⟩ (fun i x w hx _ => by
  match i, hx with
  | 0, hx => cases hx
  | i + 1, hx => cases hx)
 have hu : u' = .bool true := by cases h2; rfl
 subst hu
 obtain ⟨_, hc⟩ := aB4 kf_all (fun w0 _ => Go.Rf.code_ok aEU w0) (orc_ok ht hz) 207000 200001 (W0.of W) rfl _ #[u] #[v] _ _ W (mu1 3 p) _ h1 (sim1 (by omega) hp (fun h => by omega) hz) ⟨rfl, fun i x w hx hw => by
  match i, hx, hw with
  | 0, hx, hw => cases hx; cases hw; exact hvr
  | i + 1, hx, hw => cases hx⟩
 refine hc.mono ?_
 rintro e w' ⟨μ', r', rfl, hr', hZ, _, _⟩
 have : r' = .bool true := by cases hr'; rfl
 subst this
 exact ⟨rfl, hZ.kept.toKept⟩
end Go.TV
