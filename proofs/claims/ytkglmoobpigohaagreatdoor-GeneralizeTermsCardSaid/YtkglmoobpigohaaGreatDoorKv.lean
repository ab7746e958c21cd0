import Derived.Test.YtkglmoobpigohaaGreatDoorKq
import Derived.Test.YtkglmoobpigohaaGreatDoorKu
import Derived.Test.YtkglmoobpigohaaGreatDoorKt
import Derived.Test.YtkglmoobpigohaaGreatDoorKs
set_option linter.unusedVariables false
set_option linter.unusedSimpArgs false
set_option linter.constructorNameAsVariable false
namespace Go.TV
open Go.AI Go.PI Go.Proofs
set_option maxRecDepth 20000
noncomputable section
variable (c : TC0) (e : Cu) (L : Nat)
def q95x0 (c : TC0) (e : Cu) : Kt := xK ii95
def q95x1 (c : TC0) (e : Cu) : Kt := xT ii95 c e [1, 1] (q95x0 c e)
def q95x2 (c : TC0) (e : Cu) : Kt := cI U0 0 (q95x1 c e)
def B95x0 (c : TC0) (k1 : Bool → G.E → Rt) (a0 : G.E) : Rt :=
 cnd (decide (a0.kind = (3 : Int))) (k1 (decide (a0.kind = (3 : Int))) a0) (cnd (decide (a0.kind = (5 : Int))) (k1 (decide (a0.kind = (5 : Int))) a0) (cnd (decide (a0.kind = (6 : Int))) (k1 (decide (a0.kind = (6 : Int))) a0) (k1 (decide (a0.kind = (7 : Int))) a0)))
def V95x0 (n : Nt) : G.E → Rt := fun x0 => n [yR 15 x0]
def B95x1 (c : TC0) (a5 : Bool) (b101 : G.E) : Rt :=
 cnd a5 (some [yS 4 b101.functions]) (some [yS 4 ([] : List G.F)])
def V95x1 (n : Nt) : Bool → G.E → Rt := fun x0 x1 => n [yB x0, yR 15 x1]
def X95x1 := V95x1 (xD ii95 e [1, 0, 1, 0, 1, 0] aFT (q95x2 c e))
theorem s95x0 : V95x0 (xF ii95 c e) = B95x0 c (X95x1 c e) := by kernel_rfl
theorem s95x1 : V95x1 (xA ii95 c e [1, 0, 1, 0, 1, 0] aFT (q95x2 c e)) = B95x1 c := by kernel_rfl
def J95x1 (c : TC0) (L : Nat) : Bool → G.E → Rt := B95x1 c
theorem j95x1 : X95x1 c (cu c L) = J95x1 c L := by rw [X95x1, aQ, s95x1]; rfl
def F95 (c : TC0) (L : Nat) : G.E → Rt := B95x0 c (J95x1 c L)
theorem e95 : V95x0 (xF ii95 c (cu c L)) = F95 c L := by rw [s95x0]; simp only [j95x1]; rfl
theorem c95 (a0 : G.E) (L n : Nat) : CTp L (n + 1) 95 [yR 15 a0] = F95 (CTp L n) L a0 := by rw [← e95]; exact cg (x := ii95) (by kernel_rfl) (by kernel_rfl) L n _
def q96x0 (c : TC0) (e : Cu) : Kt := xK aD1
def q96x1 (c : TC0) (e : Cu) : Kt := xT aD1 c e [1, 1, 1] (q96x0 c e)
def q96x2 (c : TC0) (e : Cu) : Kt := cI U0 0 (q96x1 c e)
def B96x0 (c : TC0) (e1 : Int → List G.T → Int → Rt) (k2 : Rt) (a0 : G.T) : Rt :=
 obL [.bool] (c 122 [yR 3 a0]) fun (r0 : Bool × Unit) =>
 cnd (!r0.1) (some [yB false]) (cnd (decide (a0.kind = (3 : Int))) (e1 (List.length a0.args : Int) a0.args (0 : Int)) (k2 ))
def V96x0 (n : Nt) : G.T → Rt := fun x0 => n [yR 3 x0]
def B96x1 (c : TC0) (n1 : Int → List G.T → Int → Rt) (k2 : Rt) (a16 : Int) (a15 : List G.T) (a17 : Int) : Rt :=
 cnd (decide (a17 < a16)) (ob (idx a15 a17) fun v0 =>
 obL [.bool] (c 96 [yR 3 v0]) fun (r1 : Bool × Unit) =>
 cnd (!r1.1) (some [yB false]) (n1 a16 a15 (IntKind.i64.wrap (a17 + (1 : Int))))) (k2 )
def V96x1 (n : Nt) : Int → List G.T → Int → Rt := fun x0 x1 x2 => n [yI x0, yS 3 x1, yI x2]
def X96x1 := V96x1 (xE aD1 e [1, 1, 0, 1, 0, 1, 0, 0] vV (q96x2 c e))
def B96x2 (c : TC0) : Rt :=
 some [yB true]
def V96x2 (n : Nt) : Rt := n []
def X96x2 := V96x2 (xD aD1 e [1, 1, 1, 0] aFS (q96x0 c e))
theorem s96x0 : V96x0 (xF aD1 c e) = B96x0 c (X96x1 c e) (X96x2 c e) := by kernel_rfl
theorem s96x1 (n1 : Nt) : V96x1 (xA aD1 c e [1, 1, 0, 1, 0, 1, 0, 0] vV (lpK U0 vV n1 (q96x2 c e))) = B96x1 c (V96x1 n1) (X96x2 c e) := by kernel_rfl
theorem s96x2 : V96x2 (xA aD1 c e [1, 1, 1, 0] aFS (q96x0 c e)) = B96x2 c := by kernel_rfl
def J96x2 (c : TC0) (L : Nat) : Rt := B96x2 c
theorem j96x2 : X96x2 c (cu c L) = J96x2 c L := by rw [X96x2, aQ, s96x2]; rfl
def aAF (c : TC0) (L : Nat) : Nat → Int → List G.T → Int → Rt
 | 0 => fun _ _ _ => none
 | n + 1 => B96x1 c (aAF c L n) (J96x2 c L)
theorem u96x1 (n : Nat) : V96x1 (xL aD1 c L [1, 1, 0, 1, 0, 1, 0, 0] vV (q96x2 c (cu c L)) n) = aAF c L n := by
 induction n with
 | zero => rfl
 | succ n ih => rw [eM, s96x1]; simp only [j96x2, ih]; rfl
theorem w96x1 : X96x1 c (cu c L) = aAF c L L := u96x1 c L L
def F96 (c : TC0) (L : Nat) : G.T → Rt := B96x0 c (aAF c L L) (J96x2 c L)
theorem e96 : V96x0 (xF aD1 c (cu c L)) = F96 c L := by rw [s96x0]; simp only [w96x1, j96x2]; rfl
theorem c96 (a0 : G.T) (L n : Nat) : CTp L (n + 1) 96 [yR 3 a0] = F96 (CTp L n) L a0 := by rw [← e96]; exact cg (x := aD1) (by kernel_rfl) (by kernel_rfl) L n _
def q97x0 (c : TC0) (e : Cu) : Kt := xK ii97
def q97x1 (c : TC0) (e : Cu) : Kt := xT ii97 c e [1, 1, 1] (q97x0 c e)
def q97x2 (c : TC0) (e : Cu) : Kt := cI U0 0 (q97x1 c e)
def B97x0 (c : TC0) (k1 : Bool → List UInt8 → Rt) (a0 : G.Y) : Rt :=
 cnd (!decide (a0.package = ([108, 105, 115, 112] : List UInt8))) (some [yI (0 : Int), yB false]) (cnd (decide (a0.name = ([105, 102] : List UInt8))) (some [yI (3 : Int), yB true]) (cnd (decide (a0.name = ([101, 113, 117, 97, 108] : List UInt8))) (k1 (decide (a0.name = ([101, 113, 117, 97, 108] : List UInt8))) a0.name) (cnd (decide (a0.name = ([99, 111, 110, 115] : List UInt8))) (k1 (decide (a0.name = ([99, 111, 110, 115] : List UInt8))) a0.name) (cnd (decide (a0.name = ([98, 105, 110, 97, 114, 121, 45, 43] : List UInt8))) (k1 (decide (a0.name = ([98, 105, 110, 97, 114, 121, 45, 43] : List UInt8))) a0.name) (cnd (decide (a0.name = ([98, 105, 110, 97, 114, 121, 45, 42] : List UInt8))) (k1 (decide (a0.name = ([98, 105, 110, 97, 114, 121, 45, 42] : List UInt8))) a0.name) (cnd (decide (a0.name = ([60] : List UInt8))) (k1 (decide (a0.name = ([60] : List UInt8))) a0.name) (cnd (decide (a0.name = ([105, 110, 116, 101, 114, 110] : List UInt8))) (k1 (decide (a0.name = ([105, 110, 116, 101, 114, 110] : List UInt8))) a0.name) (cnd (decide (a0.name = ([115, 116, 114, 105, 110, 103, 45, 97, 112, 112, 101, 110, 100] : List UInt8))) (k1 (decide (a0.name = ([115, 116, 114, 105, 110, 103, 45, 97, 112, 112, 101, 110, 100] : List UInt8))) a0.name) (k1 (decide (a0.name = ([115, 116, 114, 105, 110, 103, 45, 98, 121, 116, 101] : List UInt8))) a0.name)))))))))
def V97x0 (n : Nt) : G.Y → Rt := fun x0 => n [yR 1 x0]
def B97x1 (c : TC0) (k2 : Bool → Rt) (a11 : Bool) (a8 : List UInt8) : Rt :=
 cnd a11 (some [yI (2 : Int), yB true]) (cnd (decide (a8 = ([99, 97, 114] : List UInt8))) (k2 (decide (a8 = ([99, 97, 114] : List UInt8)))) (cnd (decide (a8 = ([99, 100, 114] : List UInt8))) (k2 (decide (a8 = ([99, 100, 114] : List UInt8)))) (cnd (decide (a8 = ([99, 111, 110, 115, 112] : List UInt8))) (k2 (decide (a8 = ([99, 111, 110, 115, 112] : List UInt8)))) (cnd (decide (a8 = ([115, 121, 109, 98, 111, 108, 112] : List UInt8))) (k2 (decide (a8 = ([115, 121, 109, 98, 111, 108, 112] : List UInt8)))) (cnd (decide (a8 = ([115, 116, 114, 105, 110, 103, 112] : List UInt8))) (k2 (decide (a8 = ([115, 116, 114, 105, 110, 103, 112] : List UInt8)))) (cnd (decide (a8 = ([114, 97, 116, 105, 111, 110, 97, 108, 112] : List UInt8))) (k2 (decide (a8 = ([114, 97, 116, 105, 111, 110, 97, 108, 112] : List UInt8)))) (cnd (decide (a8 = ([105, 110, 116, 101, 103, 101, 114, 112] : List UInt8))) (k2 (decide (a8 = ([105, 110, 116, 101, 103, 101, 114, 112] : List UInt8)))) (cnd (decide (a8 = ([117, 110, 97, 114, 121, 45, 45] : List UInt8))) (k2 (decide (a8 = ([117, 110, 97, 114, 121, 45, 45] : List UInt8)))) (cnd (decide (a8 = ([117, 110, 97, 114, 121, 45, 47] : List UInt8))) (k2 (decide (a8 = ([117, 110, 97, 114, 121, 45, 47] : List UInt8)))) (cnd (decide (a8 = ([110, 117, 109, 101, 114, 97, 116, 111, 114] : List UInt8))) (k2 (decide (a8 = ([110, 117, 109, 101, 114, 97, 116, 111, 114] : List UInt8)))) (cnd (decide (a8 = ([100, 101, 110, 111, 109, 105, 110, 97, 116, 111, 114] : List UInt8))) (k2 (decide (a8 = ([100, 101, 110, 111, 109, 105, 110, 97, 116, 111, 114] : List UInt8)))) (cnd (decide (a8 = ([102, 108, 111, 111, 114] : List UInt8))) (k2 (decide (a8 = ([102, 108, 111, 111, 114] : List UInt8)))) (cnd (decide (a8 = ([115, 121, 109, 98, 111, 108, 45, 110, 97, 109, 101] : List UInt8))) (k2 (decide (a8 = ([115, 121, 109, 98, 111, 108, 45, 110, 97, 109, 101] : List UInt8)))) (cnd (decide (a8 = ([115, 121, 109, 98, 111, 108, 45, 112, 97, 99, 107, 97, 103, 101, 45, 110, 97, 109, 101] : List UInt8))) (k2 (decide (a8 = ([115, 121, 109, 98, 111, 108, 45, 112, 97, 99, 107, 97, 103, 101, 45, 110, 97, 109, 101] : List UInt8)))) (cnd (decide (a8 = ([115, 116, 114, 105, 110, 103, 45, 108, 101, 110, 103, 116, 104] : List UInt8))) (k2 (decide (a8 = ([115, 116, 114, 105, 110, 103, 45, 108, 101, 110, 103, 116, 104] : List UInt8)))) (k2 (decide (a8 = ([98, 121, 116, 101, 45, 115, 116, 114, 105, 110, 103] : List UInt8)))))))))))))))))))
def V97x1 (n : Nt) : Bool → List UInt8 → Rt := fun x0 x1 => n [yB x0, yT x1]
def X97x1 := V97x1 (xD ii97 e [1, 1, 0, 1, 0, 1, 1, 1, 0] aFR (q97x2 c e))
def B97x2 (c : TC0) (a20 : Bool) : Rt :=
 cnd a20 (some [yI (1 : Int), yB true]) (some [yI (0 : Int), yB false])
def V97x2 (n : Nt) : Bool → Rt := fun x0 => n [yB x0]
def X97x2 := V97x2 (xD ii97 e [1, 1, 0, 1, 0, 1, 1, 1, 0, 1, 1, 0] aFQ (q97x2 c e))
theorem s97x0 : V97x0 (xF ii97 c e) = B97x0 c (X97x1 c e) := by kernel_rfl
theorem s97x1 : V97x1 (xA ii97 c e [1, 1, 0, 1, 0, 1, 1, 1, 0] aFR (q97x2 c e)) = B97x1 c (X97x2 c e) := by kernel_rfl
theorem s97x2 : V97x2 (xA ii97 c e [1, 1, 0, 1, 0, 1, 1, 1, 0, 1, 1, 0] aFQ (q97x2 c e)) = B97x2 c := by kernel_rfl
def J97x2 (c : TC0) (L : Nat) : Bool → Rt := B97x2 c
theorem j97x2 : X97x2 c (cu c L) = J97x2 c L := by rw [X97x2, aQ, s97x2]; rfl
def J97x1 (c : TC0) (L : Nat) : Bool → List UInt8 → Rt := B97x1 c (J97x2 c L)
theorem j97x1 : X97x1 c (cu c L) = J97x1 c L := by rw [X97x1, aQ, s97x1]; simp only [j97x2]; rfl
def F97 (c : TC0) (L : Nat) : G.Y → Rt := B97x0 c (J97x1 c L)
theorem e97 : V97x0 (xF ii97 c (cu c L)) = F97 c L := by rw [s97x0]; simp only [j97x1]; rfl
theorem c97 (a0 : G.Y) (L n : Nat) : CTp L (n + 1) 97 [yR 1 a0] = F97 (CTp L n) L a0 := by rw [← e97]; exact cg (x := ii97) (by kernel_rfl) (by kernel_rfl) L n _
def B98x0 (c : TC0) (a0 : G.T) (a1 : G.T) : Rt :=
 obL [.bool, .rc 3] (c 123 [yR 3 a1, yR 3 a0]) fun (r0 : Bool × G.T × Unit) =>
 some [yB (!r0.1)]
def V98x0 (n : Nt) : G.T → G.T → Rt := fun x0 x1 => n [yR 3 x0, yR 3 x1]
theorem s98x0 : V98x0 (xF ii98 c e) = B98x0 c := by kernel_rfl
def F98 (c : TC0) (L : Nat) : G.T → G.T → Rt := B98x0 c
theorem e98 : V98x0 (xF ii98 c (cu c L)) = F98 c L := s98x0 _ _
theorem c98 (a0 : G.T) (a1 : G.T) (L n : Nat) : CTp L (n + 1) 98 [yR 3 a0, yR 3 a1] = F98 (CTp L n) L a0 a1 := by rw [← e98]; exact cg (x := ii98) (by kernel_rfl) (by kernel_rfl) L n _
def q99x0 (c : TC0) (e : Cu) : Kt := xK ii99
def B99x0 (c : TC0) (k1 : Bool → Rt) (a0 : G.T) (a1 : List UInt8) (a2 : Int) : Rt :=
 cnd (decide (a0.kind = (3 : Int))) (cnd (decide (a0.name.package = ([108, 105, 115, 112] : List UInt8))) (cnd (decide (a0.name.name = a1)) (k1 (decide ((List.length a0.args : Int) = a2))) (k1 false)) (k1 false)) (k1 false)
def V99x0 (n : Nt) : G.T → List UInt8 → Int → Rt := fun x0 x1 x2 => n [yR 3 x0, yT x1, yI x2]
def B99x1 (c : TC0) (a6 : Bool) : Rt :=
 some [yB a6]
def V99x1 (n : Nt) : Bool → Rt := fun x0 => n [yB x0]
def X99x1 := V99x1 (xD ii99 e [1, 1, 0] aFP (q99x0 c e))
theorem s99x0 : V99x0 (xF ii99 c e) = B99x0 c (X99x1 c e) := by kernel_rfl
theorem s99x1 : V99x1 (xA ii99 c e [1, 1, 0] aFP (q99x0 c e)) = B99x1 c := by kernel_rfl
def J99x1 (c : TC0) (L : Nat) : Bool → Rt := B99x1 c
theorem j99x1 : X99x1 c (cu c L) = J99x1 c L := by rw [X99x1, aQ, s99x1]; rfl
def F99 (c : TC0) (L : Nat) : G.T → List UInt8 → Int → Rt := B99x0 c (J99x1 c L)
theorem e99 : V99x0 (xF ii99 c (cu c L)) = F99 c L := by rw [s99x0]; simp only [j99x1]; rfl
theorem c99 (a0 : G.T) (a1 : List UInt8) (a2 : Int) (L n : Nat) : CTp L (n + 1) 99 [yR 3 a0, yT a1, yI a2] = F99 (CTp L n) L a0 a1 a2 := by rw [← e99]; exact cg (x := ii99) (by kernel_rfl) (by kernel_rfl) L n _
def q100x0 (c : TC0) (e : Cu) : Kt := xK hX
def q100x1 (c : TC0) (e : Cu) : Kt := xT hX c e [1, 1] (q100x0 c e)
def aBB (c : TC0) (e : Cu) : Kt := cI U0 0 (q100x1 c e)
def q100x3 (c : TC0) (e : Cu) (n1 : Nt) : Kt := lpK U0 mT n1 (aBB c e)
def q100x4 (c : TC0) (e : Cu) (n1 : Nt) : Kt := cI U0 1 (q100x3 c e n1)
def q100x5 (c : TC0) (e : Cu) (n1 : Nt) : Kt := cI U0 2 (q100x4 c e n1)
def aBA (c : TC0) (e : Cu) (n1 : Nt) : Kt := cI U0 3 (q100x5 c e n1)
def aEO (c : TC0) (e : Cu) (n1 : Nt) : Kt := cI U0 5 (q100x5 c e n1)
def q100x8 (c : TC0) (e : Cu) (n2 : Nt) (n1 : Nt) : Kt := lpK U0 mS n2 (aBA c e n1)
def q100x9 (c : TC0) (e : Cu) (n2 : Nt) (n1 : Nt) : Kt := xT hX c e [1, 0, 0, 0, 1, 0, 0, 1, 1, 1, 0, 0, 0, 1] (q100x8 c e n2 n1)
def aHV (c : TC0) (e1 : List UInt8 → Int → Rt) (a0 : List UInt8) (a1 : Int) : Rt :=
 e1 a0 a1
def V100x0 (n : Nt) : List UInt8 → Int → Rt := fun x0 x1 => n [yT x0, yI x1]
def aC0 (c : TC0) (n1 : List UInt8 → Int → Rt) (e2 : List UInt8 → Int → Rt) (e3 : Int → List UInt8 → Int → Rt) (a0 : List UInt8) (a1 : Int) : Rt :=
 cnd (decide (a1 < (List.length a0 : Int))) (ob (idx a0 a1) fun v0 =>
 obL [.bool] (c 124 [⟨(.int .u8), (v0.toNat : Int)⟩]) fun (r1 : Bool × Unit) =>
 cnd r1.1 (n1 a0 (IntKind.i64.wrap (a1 + (1 : Int)))) (ob (idx a0 a1) fun v2 =>
 cnd (decide ((v2.toNat : Int) = (59 : Int))) (e2 a0 a1) (obL [.bool] (c 125 [yT a0, yI a1, ⟨(.int .u8), (35 : Int)⟩, ⟨(.int .u8), (124 : Int)⟩]) fun (r3 : Bool × Unit) =>
 cnd r3.1 (e3 (1 : Int) a0 (IntKind.i64.wrap (a1 + (2 : Int)))) (some [yI a1, yB true])))) (some [yI a1, yB true])
def iV (n : Nt) : List UInt8 → Int → Rt := fun x0 x1 => n [yT x0, yI x1]
def X100x1 := iV (xE hX e [1, 0, 0, 0] mT (aBB c e))
def B100x2 (c : TC0) (k4 : Bool → List UInt8 → Int → Rt) (a0 : List UInt8) (a1 : Int) : Rt :=
 cnd (decide (a1 < (List.length a0 : Int))) (ob (idx a0 a1) fun v0 =>
 k4 (!decide ((v0.toNat : Int) = (10 : Int))) a0 a1) (k4 false a0 a1)
def yC (n : Nt) : List UInt8 → Int → Rt := fun x0 x1 => n [yT x0, yI x1]
def X100x2 (n1 : Nt) := yC (xE hX e [1, 0, 0, 0, 1, 0, 0, 1, 1, 1, 0, 0, 0] mS (aBA c e n1))
def B100x3 (c : TC0) (n3 : Int → List UInt8 → Int → Rt) (n1 : List UInt8 → Int → Rt) (a6 : Int) (a0 : List UInt8) (a1 : Int) : Rt :=
 cnd (decide ((0 : Int) < a6)) (cnd (decide ((List.length a0 : Int) ≤ a1)) (some [yI a1, yB false]) (obL [.bool] (c 125 [yT a0, yI a1, ⟨(.int .u8), (35 : Int)⟩, ⟨(.int .u8), (124 : Int)⟩]) fun (r0 : Bool × Unit) =>
 cnd r0.1 (n3 (IntKind.i64.wrap (a6 + (1 : Int))) a0 (IntKind.i64.wrap (a1 + (2 : Int)))) (obL [.bool] (c 125 [yT a0, yI a1, ⟨(.int .u8), (124 : Int)⟩, ⟨(.int .u8), (35 : Int)⟩]) fun (r1 : Bool × Unit) =>
 cnd r1.1 (n3 (IntKind.i64.wrap (a6 - (1 : Int))) a0 (IntKind.i64.wrap (a1 + (2 : Int)))) (n3 a6 a0 (IntKind.i64.wrap (a1 + (1 : Int))))))) (n1 a0 a1)
def aCS (n : Nt) : Int → List UInt8 → Int → Rt := fun x0 x1 x2 => n [yI x0, yT x1, yI x2]
def X100x3 (n1 : Nt) := aCS (xE hX e [1, 0, 0, 0, 1, 0, 0, 1, 1, 1, 1, 1, 0, 1, 1, 0, 0] pD (aEO c e n1))
def B100x4 (c : TC0) (n2 : List UInt8 → Int → Rt) (n1 : List UInt8 → Int → Rt) (a33 : Bool) (a0 : List UInt8) (a1 : Int) : Rt :=
 cnd a33 (n2 a0 (IntKind.i64.wrap (a1 + (1 : Int)))) (n1 a0 a1)
def V100x4 (n : Nt) : Bool → List UInt8 → Int → Rt := fun x0 x1 x2 => n [yB x0, yT x1, yI x2]
def aHa (n2 : Nt) (n1 : Nt) := V100x4 (xD hX e [1, 0, 0, 0, 1, 0, 0, 1, 1, 1, 0, 0, 0, 0, 1, 0] aAx (q100x9 c e n2 n1))
theorem s100x0 : V100x0 (xF hX c e) = aHV c (X100x1 c e) := by kernel_rfl
theorem s100x1 (n1 : Nt) : iV (xA hX c e [1, 0, 0, 0] mT (lpK U0 mT n1 (aBB c e))) = aC0 c (iV n1) (X100x2 c e n1) (X100x3 c e n1) := by kernel_rfl
theorem s100x2 (n2 : Nt) (n1 : Nt) : yC (xA hX c e [1, 0, 0, 0, 1, 0, 0, 1, 1, 1, 0, 0, 0] mS (lpK U0 mS n2 (aBA c e n1))) = B100x2 c (aHa c e n2 n1) := by kernel_rfl
theorem s100x3 (n3 : Nt) (n1 : Nt) : aCS (xA hX c e [1, 0, 0, 0, 1, 0, 0, 1, 1, 1, 1, 1, 0, 1, 1, 0, 0] pD (lpK U0 pD n3 (aEO c e n1))) = B100x3 c (aCS n3) (iV n1) := by kernel_rfl
theorem s100x4 (n2 : Nt) (n1 : Nt) : V100x4 (xA hX c e [1, 0, 0, 0, 1, 0, 0, 1, 1, 1, 0, 0, 0, 0, 1, 0] aAx (q100x9 c e n2 n1)) = B100x4 c (yC n2) (iV n1) := by kernel_rfl
def aCM (c : TC0) (L : Nat) (n1 : List UInt8 → Int → Rt) : Nat → Int → List UInt8 → Int → Rt
 | 0 => fun _ _ _ => none
 | n + 1 => B100x3 c (aCM c L n1 n) n1
theorem u100x3 (n1 : Nt) (n : Nat) : aCS (xL hX c L [1, 0, 0, 0, 1, 0, 0, 1, 1, 1, 1, 1, 0, 1, 1, 0, 0] pD (aEO c (cu c L) n1) n) = aCM c L (iV n1) n := by
 induction n with
 | zero => rfl
 | succ n ih => rw [eM, s100x3]; simp only [ih]; rfl
theorem w100x3 (n1 : Nt) : X100x3 c (cu c L) n1 = aCM c L (iV n1) L := u100x3 c L n1 L
def J100x4 (c : TC0) (L : Nat) (n2 : List UInt8 → Int → Rt) (n1 : List UInt8 → Int → Rt) : Bool → List UInt8 → Int → Rt := B100x4 c n2 n1
theorem j100x4 (n2 : Nt) (n1 : Nt) : aHa c (cu c L) n2 n1 = J100x4 c L (yC n2) (iV n1) := by rw [aHa, aQ, s100x4]; rfl
def aCN (c : TC0) (L : Nat) (n1 : List UInt8 → Int → Rt) : Nat → List UInt8 → Int → Rt
 | 0 => fun _ _ => none
 | n + 1 => B100x2 c (J100x4 c L (aCN c L n1 n) n1)
theorem u100x2 (n1 : Nt) (n : Nat) : yC (xL hX c L [1, 0, 0, 0, 1, 0, 0, 1, 1, 1, 0, 0, 0] mS (aBA c (cu c L) n1) n) = aCN c L (iV n1) n := by
 induction n with
 | zero => rfl
 | succ n ih => rw [eM, s100x2]; simp only [j100x4, ih]; rfl
theorem w100x2 (n1 : Nt) : X100x2 c (cu c L) n1 = aCN c L (iV n1) L := u100x2 c L n1 L
def lN (c : TC0) (L : Nat) : Nat → List UInt8 → Int → Rt
 | 0 => fun _ _ => none
 | n + 1 => aC0 c (lN c L n) (aCN c L (lN c L n) L) (aCM c L (lN c L n) L)
theorem u100x1 (n : Nat) : iV (xL hX c L [1, 0, 0, 0] mT (aBB c (cu c L)) n) = lN c L n := by
 induction n with
 | zero => rfl
 | succ n ih => rw [eM, s100x1]; simp only [w100x2, w100x3, ih]; rfl
theorem w100x1 : X100x1 c (cu c L) = lN c L L := u100x1 c L L
def F100 (c : TC0) (L : Nat) : List UInt8 → Int → Rt := aHV c (lN c L L)
theorem e100 : V100x0 (xF hX c (cu c L)) = F100 c L := by rw [s100x0]; simp only [w100x1]; rfl
theorem c100 (a0 : List UInt8) (a1 : Int) (L n : Nat) : CTp L (n + 1) 100 [yT a0, yI a1] = F100 (CTp L n) L a0 a1 := by rw [← e100]; exact cg (x := hX) (by kernel_rfl) (by kernel_rfl) L n _
def aBz (c : TC0) (e : Cu) : Kt := xK hQ
def q101x1 (c : TC0) (e : Cu) : Kt := xT hQ c e [1, 1, 1, 1] (aBz c e)
def uP (c : TC0) (e : Cu) : Kt := cI U0 0 (q101x1 c e)
def q101x3 (c : TC0) (e : Cu) : Kt := xT hQ c e [1, 1, 1, 0, 1, 0, 1, 1, 1, 1, 1, 1, 1, 0, 1, 1, 1] (uP c e)
def q101x4 (c : TC0) (e : Cu) : Kt := xT hQ c e [1, 1, 1, 1, 1, 1, 1, 1, 1] (aBz c e)
def q101x5 (c : TC0) (e : Cu) : Kt := cI U0 1 (q101x4 c e)
def yF (c : TC0) (k1 : Bool → Int → G.K → G.X → G.K → G.X → Rt) (k2 : Int → G.K → G.X → G.K → G.X → Rt) (k3 : Int → G.K → G.X → G.K → G.X → Rt) (k4 : Bool → Int → Int → G.K → G.X → G.K → G.X → Rt) (a0 : List UInt8) (a1 : Int) : Rt :=
 ob (idx a0 a1) fun v0 =>
 cnd (decide ((v0.toNat : Int) = (40 : Int))) (some [yR 19 (G.K.mk (1 : Int) a1 ([] : List UInt8) ([] : List UInt8) ([] : List UInt8)), yI (IntKind.i64.wrap (a1 + (1 : Int))), yR 17 (G.X.mk (0 : Int) (0 : Int))]) (cnd (decide ((v0.toNat : Int) = (41 : Int))) (some [yR 19 (G.K.mk (2 : Int) a1 ([] : List UInt8) ([] : List UInt8) ([] : List UInt8)), yI (IntKind.i64.wrap (a1 + (1 : Int))), yR 17 (G.X.mk (0 : Int) (0 : Int))]) (cnd (decide ((v0.toNat : Int) = (39 : Int))) (some [yR 19 (G.K.mk (4 : Int) a1 ([] : List UInt8) ([] : List UInt8) ([] : List UInt8)), yI (IntKind.i64.wrap (a1 + (1 : Int))), yR 17 (G.X.mk (0 : Int) (0 : Int))]) (cnd (decide ((v0.toNat : Int) = (34 : Int))) (obL [.str, i6, .rc 17] (c 126 [yT a0, yI (IntKind.i64.wrap (a1 + (1 : Int))), ⟨(.int .u8), (34 : Int)⟩]) fun (r1 : List UInt8 × Int × G.X × Unit) =>
 cnd (decide (r1.2.2.1.err = (0 : Int))) (k1 (decide ((200 : Int) < (List.length r1.1 : Int))) r1.2.1 (G.K.mk (7 : Int) a1 ([] : List UInt8) r1.1 ([] : List UInt8)) r1.2.2.1 (G.K.mk (0 : Int) (0 : Int) ([] : List UInt8) ([] : List UInt8) ([] : List UInt8)) (G.X.mk (0 : Int) (0 : Int))) (k1 false r1.2.1 (G.K.mk (7 : Int) a1 ([] : List UInt8) r1.1 ([] : List UInt8)) r1.2.2.1 (G.K.mk (0 : Int) (0 : Int) ([] : List UInt8) ([] : List UInt8) ([] : List UInt8)) (G.X.mk (0 : Int) (0 : Int)))) (cnd (decide ((v0.toNat : Int) = (124 : Int))) (obL [.str, i6, .rc 17] (c 126 [yT a0, yI (IntKind.i64.wrap (a1 + (1 : Int))), ⟨(.int .u8), (124 : Int)⟩]) fun (r2 : List UInt8 × Int × G.X × Unit) =>
 cnd (decide (r2.2.2.1.err = (0 : Int))) (obL [.rc 17] (c 127 [yR 19 (G.K.mk (6 : Int) a1 ([] : List UInt8) r2.1 ([] : List UInt8)), yB true]) fun (r3 : G.X × Unit) =>
 k2 r2.2.1 (G.K.mk (6 : Int) a1 ([] : List UInt8) r2.1 ([] : List UInt8)) r3.1 (G.K.mk (0 : Int) (0 : Int) ([] : List UInt8) ([] : List UInt8) ([] : List UInt8)) (G.X.mk (0 : Int) (0 : Int))) (k2 r2.2.1 (G.K.mk (6 : Int) a1 ([] : List UInt8) r2.1 ([] : List UInt8)) r2.2.2.1 (G.K.mk (0 : Int) (0 : Int) ([] : List UInt8) ([] : List UInt8) ([] : List UInt8)) (G.X.mk (0 : Int) (0 : Int)))) (obL [.bool] (c 128 [⟨(.int .u8), (v0.toNat : Int)⟩]) fun (r4 : Bool × Unit) =>
 cnd (!r4.1) (obL [.rc 17] (c 84 [yI (12 : Int), yI a1]) fun (r5 : G.X × Unit) =>
 some [yR 19 (G.K.mk (0 : Int) a1 ([] : List UInt8) ([] : List UInt8) ([] : List UInt8)), yI a1, yR 17 r5.1]) (obL [i6] (c 129 [yT a0, yI a1]) fun (r6 : Int × Unit) =>
 ob (slc a0 a1 r6.1) fun v7 =>
 obL [.bool] (c 125 [yT a0, yI r6.1, ⟨(.int .u8), (58 : Int)⟩, ⟨(.int .u8), (58 : Int)⟩]) fun (r8 : Bool × Unit) =>
 cnd r8.1 (obL [.rc 19, i6, .rc 17] (c 130 [yT a0, yR 19 (G.K.mk (0 : Int) a1 ([] : List UInt8) ([] : List UInt8) ([] : List UInt8)), yT v7, yI r6.1]) fun (r9 : G.K × Int × G.X × Unit) =>
 some [yR 19 r9.1, yI r9.2.1, yR 17 r9.2.2.1]) (obL [.str, .str, .bool] (c 131 [yT v7]) fun (r10 : List UInt8 × List UInt8 × Bool × Unit) =>
 cnd (decide (v7 = ([46] : List UInt8))) (k3 r6.1 (G.K.mk (3 : Int) a1 ([] : List UInt8) ([] : List UInt8) ([] : List UInt8)) (G.X.mk (0 : Int) (0 : Int)) (G.K.mk (0 : Int) (0 : Int) ([] : List UInt8) ([] : List UInt8) ([] : List UInt8)) (G.X.mk (0 : Int) (0 : Int))) (cnd r10.2.2.1 (obL [.str] (c 132 [yT r10.2.1]) fun (r11 : List UInt8 × Unit) =>
 cnd (decide (r11.1 = ([48] : List UInt8))) (obL [.rc 17] (c 84 [yI (12 : Int), yI a1]) fun (r12 : G.X × Unit) =>
 some [yR 19 (G.K.mk (0 : Int) a1 ([] : List UInt8) ([] : List UInt8) ([] : List UInt8)), yI r6.1, yR 17 r12.1]) (obL [.str] (c 132 [yT r10.1]) fun (r13 : List UInt8 × Unit) =>
 obL [.str] (c 132 [yT r10.2.1]) fun (r14 : List UInt8 × Unit) =>
 obL [.str, .str] (c 93 [yT r13.1, yT r14.1]) fun (r15 : List UInt8 × List UInt8 × Unit) =>
 obL [i6] (c 133 [yT r15.1]) fun (r16 : Int × Unit) =>
 cnd (decide ((100 : Int) < r16.1)) (k4 true a1 r6.1 (G.K.mk (5 : Int) a1 ([] : List UInt8) r15.1 r15.2.1) (G.X.mk (0 : Int) (0 : Int)) (G.K.mk (0 : Int) (0 : Int) ([] : List UInt8) ([] : List UInt8) ([] : List UInt8)) (G.X.mk (0 : Int) (0 : Int))) (obL [i6] (c 133 [yT r15.2.1]) fun (r17 : Int × Unit) =>
 k4 (decide ((100 : Int) < r17.1)) a1 r6.1 (G.K.mk (5 : Int) a1 ([] : List UInt8) r15.1 r15.2.1) (G.X.mk (0 : Int) (0 : Int)) (G.K.mk (0 : Int) (0 : Int) ([] : List UInt8) ([] : List UInt8) ([] : List UInt8)) (G.X.mk (0 : Int) (0 : Int))))) (obL [.rc 17] (c 127 [yR 19 (G.K.mk (6 : Int) a1 ([] : List UInt8) v7 ([] : List UInt8)), yB false]) fun (r18 : G.X × Unit) =>
 k3 r6.1 (G.K.mk (6 : Int) a1 ([] : List UInt8) v7 ([] : List UInt8)) r18.1 (G.K.mk (0 : Int) (0 : Int) ([] : List UInt8) ([] : List UInt8) ([] : List UInt8)) (G.X.mk (0 : Int) (0 : Int)))))))))))
def V101x0 (n : Nt) : List UInt8 → Int → Rt := fun x0 x1 => n [yT x0, yI x1]
def B101x1 (c : TC0) (k5 : Int → G.K → G.X → G.K → G.X → Rt) (a65 : Bool) (a1 : Int) (b107 : G.K) (b108 : G.X) (b104 : G.K) (b106 : G.X) : Rt :=
 cnd a65 (obL [.rc 17] (c 84 [yI (2 : Int), yI b107.pos]) fun (r0 : G.X × Unit) =>
 k5 a1 b107 r0.1 b104 b106) (k5 a1 b107 b108 b104 b106)
def V101x1 (n : Nt) : Bool → Int → G.K → G.X → G.K → G.X → Rt := fun x0 x1 x2 x3 x4 x5 => n [yB x0, yI x1, yR 19 x2, yR 17 x3, yR 19 x4, yR 17 x5]
def aG9 := V101x1 (xD hQ e [1, 1, 1, 0, 1, 0, 1, 1, 1, 1, 1, 1, 1, 0, 1, 1, 0, 1, 0] aAw (q101x3 c e))
def B101x2 (c : TC0) (a1 : Int) (b107 : G.K) (b108 : G.X) (b104 : G.K) (b106 : G.X) : Rt :=
 some [yR 19 b107, yI a1, yR 17 b108]
def V101x2 (n : Nt) : Int → G.K → G.X → G.K → G.X → Rt := fun x0 x1 x2 x3 x4 => n [yI x0, yR 19 x1, yR 17 x2, yR 19 x3, yR 17 x4]
def aG8 := V101x2 (xD hQ e [1, 1, 1, 0, 1, 0, 1, 1, 1, 1, 1, 1, 1, 1, 1, 0, 1, 1, 1, 0] aAv (uP c e))
def B101x3 (c : TC0) (a10 : Int) (b107 : G.K) (b108 : G.X) (b104 : G.K) (b106 : G.X) : Rt :=
 some [yR 19 b107, yI a10, yR 17 b108]
def V101x3 (n : Nt) : Int → G.K → G.X → G.K → G.X → Rt := fun x0 x1 x2 x3 x4 => n [yI x0, yR 19 x1, yR 17 x2, yR 19 x3, yR 17 x4]
def aCE := V101x3 (xD hQ e [1, 1, 1, 1, 1, 1, 1, 1, 1, 0] aAu (aBz c e))
def B101x4 (c : TC0) (k3 : Int → G.K → G.X → G.K → G.X → Rt) (a163 : Bool) (a1 : Int) (a10 : Int) (b107 : G.K) (b108 : G.X) (b104 : G.K) (b106 : G.X) : Rt :=
 cnd a163 (obL [.rc 17] (c 84 [yI (2 : Int), yI a1]) fun (r0 : G.X × Unit) =>
 some [yR 19 b107, yI a10, yR 17 r0.1]) (k3 a10 b107 b108 b104 b106)
def V101x4 (n : Nt) : Bool → Int → Int → G.K → G.X → G.K → G.X → Rt := fun x0 x1 x2 x3 x4 x5 x6 => n [yB x0, yI x1, yI x2, yR 19 x3, yR 17 x4, yR 19 x5, yR 17 x6]
def aG7 := V101x4 (xD hQ e [1, 1, 1, 1, 1, 1, 1, 1, 0, 0, 1, 1, 1, 0, 1, 1, 1, 1, 0] aAt (q101x5 c e))
def B101x5 (c : TC0) (a1 : Int) (b107 : G.K) (b108 : G.X) (b104 : G.K) (b106 : G.X) : Rt :=
 some [yR 19 b107, yI a1, yR 17 b108]
def V101x5 (n : Nt) : Int → G.K → G.X → G.K → G.X → Rt := fun x0 x1 x2 x3 x4 => n [yI x0, yR 19 x1, yR 17 x2, yR 19 x3, yR 17 x4]
def aG6 := V101x5 (xD hQ e [1, 1, 1, 0, 1, 0, 1, 1, 1, 1, 1, 1, 1, 0, 1, 1, 1, 0] aAs (uP c e))
theorem s101x0 : V101x0 (xF hQ c e) = yF c (aG9 c e) (aG8 c e) (aCE c e) (aG7 c e) := by kernel_rfl
theorem s101x1 : V101x1 (xA hQ c e [1, 1, 1, 0, 1, 0, 1, 1, 1, 1, 1, 1, 1, 0, 1, 1, 0, 1, 0] aAw (q101x3 c e)) = B101x1 c (aG6 c e) := by kernel_rfl
theorem s101x2 : V101x2 (xA hQ c e [1, 1, 1, 0, 1, 0, 1, 1, 1, 1, 1, 1, 1, 1, 1, 0, 1, 1, 1, 0] aAv (uP c e)) = B101x2 c := by kernel_rfl
theorem s101x3 : V101x3 (xA hQ c e [1, 1, 1, 1, 1, 1, 1, 1, 1, 0] aAu (aBz c e)) = B101x3 c := by kernel_rfl
theorem s101x4 : V101x4 (xA hQ c e [1, 1, 1, 1, 1, 1, 1, 1, 0, 0, 1, 1, 1, 0, 1, 1, 1, 1, 0] aAt (q101x5 c e)) = B101x4 c (aCE c e) := by kernel_rfl
theorem s101x5 : V101x5 (xA hQ c e [1, 1, 1, 0, 1, 0, 1, 1, 1, 1, 1, 1, 1, 0, 1, 1, 1, 0] aAs (uP c e)) = B101x5 c := by kernel_rfl
def J101x2 (c : TC0) (L : Nat) : Int → G.K → G.X → G.K → G.X → Rt := B101x2 c
theorem j101x2 : aG8 c (cu c L) = J101x2 c L := by rw [aG8, aQ, s101x2]; rfl
def aHx (c : TC0) (L : Nat) : Int → G.K → G.X → G.K → G.X → Rt := B101x3 c
theorem j101x3 : aCE c (cu c L) = aHx c L := by rw [aCE, aQ, s101x3]; rfl
def J101x4 (c : TC0) (L : Nat) : Bool → Int → Int → G.K → G.X → G.K → G.X → Rt := B101x4 c (aHx c L)
theorem j101x4 : aG7 c (cu c L) = J101x4 c L := by rw [aG7, aQ, s101x4]; simp only [j101x3]; rfl
def J101x5 (c : TC0) (L : Nat) : Int → G.K → G.X → G.K → G.X → Rt := B101x5 c
theorem j101x5 : aG6 c (cu c L) = J101x5 c L := by rw [aG6, aQ, s101x5]; rfl
def J101x1 (c : TC0) (L : Nat) : Bool → Int → G.K → G.X → G.K → G.X → Rt := B101x1 c (J101x5 c L)
theorem j101x1 : aG9 c (cu c L) = J101x1 c L := by rw [aG9, aQ, s101x1]; simp only [j101x5]; rfl
def F101 (c : TC0) (L : Nat) : List UInt8 → Int → Rt := yF c (J101x1 c L) (J101x2 c L) (aHx c L) (J101x4 c L)
theorem e101 : V101x0 (xF hQ c (cu c L)) = F101 c L := by rw [s101x0]; simp only [j101x1, j101x2, j101x3, j101x4]; rfl
theorem c101 (a0 : List UInt8) (a1 : Int) (L n : Nat) : CTp L (n + 1) 101 [yT a0, yI a1] = F101 (CTp L n) L a0 a1 := by rw [← e101]; exact cg (x := hQ) (by kernel_rfl) (by kernel_rfl) L n _
def aBy (c : TC0) (e : Cu) : Kt := xK hJ
def q102x1 (c : TC0) (e : Cu) : Kt := xT hJ c e [1, 1, 1, 1] (aBy c e)
def aBx (c : TC0) (e : Cu) : Kt := cI U0 0 (q102x1 c e)
def q102x3 (c : TC0) (e : Cu) (n1 : Nt) : Kt := lpK U0 mR n1 (aBx c e)
def q102x4 (c : TC0) (e : Cu) (n1 : Nt) : Kt := cI U0 1 (q102x3 c e n1)
def q102x5 (c : TC0) (e : Cu) (n1 : Nt) : Kt := xT hJ c e [1, 1, 1, 0, 0, 0, 1, 0, 1] (q102x4 c e n1)
def q102x6 (c : TC0) (e : Cu) : Kt := xT hJ c e [1, 1, 1, 1, 0, 1, 1] (aBy c e)
def aEN (c : TC0) (e : Cu) : Kt := cI U0 3 (q102x6 c e)
def B102x0 (c : TC0) (e1 : Int → List G.O → G.P → G.O → G.O → G.X → Rt) (a1 : Int) (b0 : G.P) : Rt :=
 obL [.rc 2] (c 67 []) fun (r0 : G.O × Unit) =>
 e1 a1 ([] : List G.O) b0 r0.1 (G.O.mk (0 : Int) ([] : List UInt8) ([] : List UInt8) (G.Y.mk ([] : List UInt8) ([] : List UInt8)) ([] : List UInt8) ([] : List G.O)) (G.X.mk (0 : Int) (0 : Int))
def V102x0 (n : Nt) : Int → G.P → Rt := fun x0 x1 => n [yI x0, yR 20 x1]
def B102x1 (c : TC0) (k2 : Bool → List G.O → Int → G.P → G.O → G.O → G.X → Rt) (k3 : List G.O → G.P → G.O → G.O → G.X → Rt) (a1 : Int) (a6 : List G.O) (b0 : G.P) (b107 : G.O) (b104 : G.O) (b105 : G.X) : Rt :=
 ob (idx b0.t b0.pos) fun v0 =>
 cnd (!decide (v0.kind = (2 : Int))) (ob (idx b0.t b0.pos) fun v1 =>
 cnd (decide (v1.kind = (3 : Int))) (k2 (decide ((0 : Int) < (List.length a6 : Int))) a6 a1 b0 b107 b104 b105) (k2 false a6 a1 b0 b107 b104 b105)) (k3 a6 b0 b107 b104 b105)
def yA (n : Nt) : Int → List G.O → G.P → G.O → G.O → G.X → Rt := fun x0 x1 x2 x3 x4 x5 => n [yI x0, yS 2 x1, yR 20 x2, yR 2 x3, yR 2 x4, yR 17 x5]
def X102x1 := yA (xE hJ e [1, 1, 1, 0, 0, 0] mR (aBx c e))
def B102x2 (c : TC0) (k3 : List G.O → G.P → G.O → G.O → G.X → Rt) (n1 : Int → List G.O → G.P → G.O → G.O → G.X → Rt) (a43 : Bool) (a6 : List G.O) (a1 : Int) (b0 : G.P) (b107 : G.O) (b104 : G.O) (b105 : G.X) : Rt :=
 cnd a43 (obL [.rc 2, .rc 17, .rc 20] (c 85 [yI a1, yR 20 (G.P.mk b0.l b0.current b0.t (IntKind.i64.wrap (b0.pos + (1 : Int))))]) fun (r0 : G.O × G.X × G.P × Unit) =>
 cnd (!decide (r0.2.1.err = (0 : Int))) (some [yR 2 (G.O.mk (0 : Int) ([] : List UInt8) ([] : List UInt8) (G.Y.mk ([] : List UInt8) ([] : List UInt8)) ([] : List UInt8) ([] : List G.O)), yR 17 r0.2.1, yR 20 r0.2.2.1]) (ob (idx r0.2.2.1.t r0.2.2.1.pos) fun v1 =>
 cnd (decide (v1.kind = (2 : Int))) (k3 a6 r0.2.2.1 r0.1 b104 b105) (cnd (decide (v1.kind = (0 : Int))) (obL [.rc 17] (c 84 [yI (11 : Int), yI v1.pos]) fun (r2 : G.X × Unit) =>
 some [yR 2 (G.O.mk (0 : Int) ([] : List UInt8) ([] : List UInt8) (G.Y.mk ([] : List UInt8) ([] : List UInt8)) ([] : List UInt8) ([] : List G.O)), yR 17 r2.1, yR 20 r0.2.2.1]) (obL [.rc 17] (c 84 [yI (12 : Int), yI v1.pos]) fun (r3 : G.X × Unit) =>
 some [yR 2 (G.O.mk (0 : Int) ([] : List UInt8) ([] : List UInt8) (G.Y.mk ([] : List UInt8) ([] : List UInt8)) ([] : List UInt8) ([] : List G.O)), yR 17 r3.1, yR 20 r0.2.2.1])))) (obL [.rc 2, .rc 17, .rc 20] (c 85 [yI a1, yR 20 b0]) fun (r4 : G.O × G.X × G.P × Unit) =>
 cnd (!decide (r4.2.1.err = (0 : Int))) (some [yR 2 (G.O.mk (0 : Int) ([] : List UInt8) ([] : List UInt8) (G.Y.mk ([] : List UInt8) ([] : List UInt8)) ([] : List UInt8) ([] : List G.O)), yR 17 r4.2.1, yR 20 r4.2.2.1]) (chk (Nat.ble ((List.length a6 + List.length ([r4.1] : List G.O)) * 112) 1073741824) <|
 n1 a1 (a6 ++ ([r4.1] : List G.O)) r4.2.2.1 b107 b104 b105))
def V102x2 (n : Nt) : Bool → List G.O → Int → G.P → G.O → G.O → G.X → Rt := fun x0 x1 x2 x3 x4 x5 x6 => n [yB x0, yS 2 x1, yI x2, yR 20 x3, yR 2 x4, yR 2 x5, yR 17 x6]
def aG5 (n1 : Nt) := V102x2 (xD hJ e [1, 1, 1, 0, 0, 0, 1, 0, 0, 1, 0] aAr (q102x5 c e n1))
def B102x3 (c : TC0) (e4 : List G.O → Int → G.P → G.O → G.O → G.X → Rt) (a6 : List G.O) (b0 : G.P) (b107 : G.O) (b104 : G.O) (b105 : G.X) : Rt :=
 e4 a6 (IntKind.i64.wrap ((List.length a6 : Int) - (1 : Int))) (G.P.mk b0.l b0.current b0.t (IntKind.i64.wrap (b0.pos + (1 : Int)))) b107 b104 b105
def V102x3 (n : Nt) : List G.O → G.P → G.O → G.O → G.X → Rt := fun x0 x1 x2 x3 x4 => n [yS 2 x0, yR 20 x1, yR 2 x2, yR 2 x3, yR 17 x4]
def aCD := V102x3 (xD hJ e [1, 1, 1, 1, 0] aAq (aBy c e))
def B102x4 (c : TC0) (n4 : List G.O → Int → G.P → G.O → G.O → G.X → Rt) (a6 : List G.O) (a13 : Int) (b0 : G.P) (b107 : G.O) (b104 : G.O) (b105 : G.X) : Rt :=
 cnd (decide ((0 : Int) ≤ a13)) (ob (idx a6 a13) fun v0 =>
 obL [.rc 2] (c 73 [yR 2 v0, yR 2 b107]) fun (r1 : G.O × Unit) =>
 n4 a6 (IntKind.i64.wrap (a13 - (1 : Int))) b0 r1.1 b104 b105) (some [yR 2 b107, yR 17 (G.X.mk (0 : Int) (0 : Int)), yR 20 b0])
def aCR (n : Nt) : List G.O → Int → G.P → G.O → G.O → G.X → Rt := fun x0 x1 x2 x3 x4 x5 => n [yS 2 x0, yI x1, yR 20 x2, yR 2 x3, yR 2 x4, yR 17 x5]
def X102x4 := aCR (xE hJ e [1, 1, 1, 1, 0, 1, 0, 1, 0, 0] pC (aEN c e))
theorem s102x0 : V102x0 (xF hJ c e) = B102x0 c (X102x1 c e) := by kernel_rfl
theorem s102x1 (n1 : Nt) : yA (xA hJ c e [1, 1, 1, 0, 0, 0] mR (lpK U0 mR n1 (aBx c e))) = B102x1 c (aG5 c e n1) (aCD c e) := by kernel_rfl
theorem s102x2 (n1 : Nt) : V102x2 (xA hJ c e [1, 1, 1, 0, 0, 0, 1, 0, 0, 1, 0] aAr (q102x5 c e n1)) = B102x2 c (aCD c e) (yA n1) := by kernel_rfl
theorem s102x3 : V102x3 (xA hJ c e [1, 1, 1, 1, 0] aAq (aBy c e)) = B102x3 c (X102x4 c e) := by kernel_rfl
theorem s102x4 (n4 : Nt) : aCR (xA hJ c e [1, 1, 1, 1, 0, 1, 0, 1, 0, 0] pC (lpK U0 pC n4 (aEN c e))) = B102x4 c (aCR n4) := by kernel_rfl
def aCK (c : TC0) (L : Nat) : Nat → List G.O → Int → G.P → G.O → G.O → G.X → Rt
 | 0 => fun _ _ _ _ _ _ => none
 | n + 1 => B102x4 c (aCK c L n)
theorem u102x4 (n : Nat) : aCR (xL hJ c L [1, 1, 1, 1, 0, 1, 0, 1, 0, 0] pC (aEN c (cu c L)) n) = aCK c L n := by
 induction n with
 | zero => rfl
 | succ n ih => rw [eM, s102x4]; simp only [ih]; rfl
theorem w102x4 : X102x4 c (cu c L) = aCK c L L := u102x4 c L L
def aHw (c : TC0) (L : Nat) : List G.O → G.P → G.O → G.O → G.X → Rt := B102x3 c (aCK c L L)
theorem j102x3 : aCD c (cu c L) = aHw c L := by rw [aCD, aQ, s102x3]; simp only [w102x4]; rfl
def J102x2 (c : TC0) (L : Nat) (n1 : Int → List G.O → G.P → G.O → G.O → G.X → Rt) : Bool → List G.O → Int → G.P → G.O → G.O → G.X → Rt := B102x2 c (aHw c L) n1
theorem j102x2 (n1 : Nt) : aG5 c (cu c L) n1 = J102x2 c L (yA n1) := by rw [aG5, aQ, s102x2]; simp only [j102x3]; rfl
def aCL (c : TC0) (L : Nat) : Nat → Int → List G.O → G.P → G.O → G.O → G.X → Rt
 | 0 => fun _ _ _ _ _ _ => none
 | n + 1 => B102x1 c (J102x2 c L (aCL c L n)) (aHw c L)
theorem u102x1 (n : Nat) : yA (xL hJ c L [1, 1, 1, 0, 0, 0] mR (aBx c (cu c L)) n) = aCL c L n := by
 induction n with
 | zero => rfl
 | succ n ih => rw [eM, s102x1]; simp only [j102x2, j102x3, ih]; rfl
theorem w102x1 : X102x1 c (cu c L) = aCL c L L := u102x1 c L L
def F102 (c : TC0) (L : Nat) : Int → G.P → Rt := B102x0 c (aCL c L L)
theorem e102 : V102x0 (xF hJ c (cu c L)) = F102 c L := by rw [s102x0]; simp only [w102x1]; rfl
theorem c102 (a1 : Int) (b0 : G.P) (L n : Nat) : CTp L (n + 1) 102 [yI a1, yR 20 b0] = F102 (CTp L n) L a1 b0 := by rw [← e102]; exact cg (x := hJ) (by kernel_rfl) (by kernel_rfl) L n _
def q103x0 (c : TC0) (e : Cu) : Kt := xK nN
def q103x1 (c : TC0) (e : Cu) : Kt := xT nN c e [1, 1, 1, 1] (q103x0 c e)
def q103x2 (c : TC0) (e : Cu) : Kt := xT nN c e [1, 1, 1, 1, 1] (q103x0 c e)
def aEM (c : TC0) (e : Cu) : Kt := cI U0 0 (q103x2 c e)
def B103x0 (c : TC0) (k1 : Bool → List UInt8 → List UInt8 → G.A → G.Y → Rt) (a0 : List G.A) (a1 : List UInt8) (a2 : List UInt8) : Rt :=
 obL [.rc 5, .bool] (c 134 [yS 5 a0, yT a1]) fun (r0 : G.A × Bool × Unit) =>
 cnd (!r0.2.1) (some [yR 1 (G.Y.mk ([] : List UInt8) ([] : List UInt8)), yI (13 : Int)]) (cnd (decide ((List.length a2 : Int) < (1 : Int))) (k1 true a1 a2 r0.1 (G.Y.mk ([] : List UInt8) ([] : List UInt8))) (k1 (decide ((40 : Int) < (List.length a2 : Int))) a1 a2 r0.1 (G.Y.mk ([] : List UInt8) ([] : List UInt8))))
def V103x0 (n : Nt) : List G.A → List UInt8 → List UInt8 → Rt := fun x0 x1 x2 => n [yS 5 x0, yT x1, yT x2]
def B103x1 (c : TC0) (e2 : Int → List UInt8 → List UInt8 → G.A → G.Y → Rt) (a27 : Bool) (a1 : List UInt8) (a2 : List UInt8) (b108 : G.A) (b106 : G.Y) : Rt :=
 cnd a27 (some [yR 1 (G.Y.mk ([] : List UInt8) ([] : List UInt8)), yI (3 : Int)]) (e2 (0 : Int) a1 a2 b108 b106)
def V103x1 (n : Nt) : Bool → List UInt8 → List UInt8 → G.A → G.Y → Rt := fun x0 x1 x2 x3 x4 => n [yB x0, yT x1, yT x2, yR 5 x3, yR 1 x4]
def aG4 := V103x1 (xD nN e [1, 1, 1, 0, 1, 0] aAp (q103x1 c e))
def B103x2 (c : TC0) (n2 : Int → List UInt8 → List UInt8 → G.A → G.Y → Rt) (a10 : Int) (a1 : List UInt8) (a2 : List UInt8) (b108 : G.A) (b106 : G.Y) : Rt :=
 cnd (decide (a10 < (List.length b108.imports : Int))) (ob (idx b108.imports a10) fun v0 =>
 cnd (decide (v0.name = a2)) (ob (idx b108.imports a10) fun v1 =>
 some [yR 1 v1, yI (0 : Int)]) (n2 (IntKind.i64.wrap (a10 + (1 : Int))) a1 a2 b108 b106)) (some [yR 1 (G.Y.mk a1 a2), yI (0 : Int)])
def aCQ (n : Nt) : Int → List UInt8 → List UInt8 → G.A → G.Y → Rt := fun x0 x1 x2 x3 x4 => n [yI x0, yT x1, yT x2, yR 5 x3, yR 1 x4]
def X103x2 := aCQ (xE nN e [1, 1, 1, 1, 0, 1, 0, 0] pB (aEM c e))
theorem s103x0 : V103x0 (xF nN c e) = B103x0 c (aG4 c e) := by kernel_rfl
theorem s103x1 : V103x1 (xA nN c e [1, 1, 1, 0, 1, 0] aAp (q103x1 c e)) = B103x1 c (X103x2 c e) := by kernel_rfl
theorem s103x2 (n2 : Nt) : aCQ (xA nN c e [1, 1, 1, 1, 0, 1, 0, 0] pB (lpK U0 pB n2 (aEM c e))) = B103x2 c (aCQ n2) := by kernel_rfl
def aCJ (c : TC0) (L : Nat) : Nat → Int → List UInt8 → List UInt8 → G.A → G.Y → Rt
 | 0 => fun _ _ _ _ _ => none
 | n + 1 => B103x2 c (aCJ c L n)
theorem u103x2 (n : Nat) : aCQ (xL nN c L [1, 1, 1, 1, 0, 1, 0, 0] pB (aEM c (cu c L)) n) = aCJ c L n := by
 induction n with
 | zero => rfl
 | succ n ih => rw [eM, s103x2]; simp only [ih]; rfl
theorem w103x2 : X103x2 c (cu c L) = aCJ c L L := u103x2 c L L
def J103x1 (c : TC0) (L : Nat) : Bool → List UInt8 → List UInt8 → G.A → G.Y → Rt := B103x1 c (aCJ c L L)
theorem j103x1 : aG4 c (cu c L) = J103x1 c L := by rw [aG4, aQ, s103x1]; simp only [w103x2]; rfl
def F103 (c : TC0) (L : Nat) : List G.A → List UInt8 → List UInt8 → Rt := B103x0 c (J103x1 c L)
theorem e103 : V103x0 (xF nN c (cu c L)) = F103 c L := by rw [s103x0]; simp only [j103x1]; rfl
theorem c103 (a0 : List G.A) (a1 : List UInt8) (a2 : List UInt8) (L n : Nat) : CTp L (n + 1) 103 [yS 5 a0, yT a1, yT a2] = F103 (CTp L n) L a0 a1 a2 := by rw [← e103]; exact cg (x := nN) (by kernel_rfl) (by kernel_rfl) L n _
end
end Go.TV
namespace Go.TV
open Go.AI Go.PI Go.Proofs
set_option maxRecDepth 20000
noncomputable section
variable (c : TC0) (e : Cu) (L : Nat)
def q104x0 (c : TC0) (e : Cu) : Kt := xK vM
def q104x1 (c : TC0) (e : Cu) : Kt := xT vM c e [1, 1] (q104x0 c e)
def B104x0 (c : TC0) (k1 : Bool → Int → G.O → Rt) (a0 : G.O) (a1 : Int) : Rt :=
 cnd (!decide ((List.length a0.pair : Int) = (2 : Int))) (k1 true a1 a0) (k1 (decide (a1 ≤ (1 : Int))) a1 a0)
def V104x0 (n : Nt) : G.O → Int → Rt := fun x0 x1 => n [yR 2 x0, yI x1]
def B104x1 (c : TC0) (a13 : Bool) (a1 : Int) (b102 : G.O) : Rt :=
 cnd a13 (some [yI (1 : Int)]) (ob (idx b102.pair (0 : Int)) fun v0 =>
 obL [i6] (c 104 [yR 2 v0, yI (IntKind.i64.wrap (a1 - (1 : Int)))]) fun (r1 : Int × Unit) =>
 cnd (decide (a1 ≤ (IntKind.i64.wrap ((1 : Int) + r1.1)))) (some [yI a1]) (ob (idx b102.pair (1 : Int)) fun v2 =>
 obL [i6] (c 104 [yR 2 v2, yI (IntKind.i64.wrap (a1 - (IntKind.i64.wrap ((1 : Int) + r1.1))))]) fun (r3 : Int × Unit) =>
 some [yI (IntKind.i64.wrap ((IntKind.i64.wrap ((1 : Int) + r1.1)) + r3.1))]))
def V104x1 (n : Nt) : Bool → Int → G.O → Rt := fun x0 x1 x2 => n [yB x0, yI x1, yR 2 x2]
def aG3 := V104x1 (xD vM e [1, 0, 1, 0] aAo (q104x1 c e))
theorem s104x0 : V104x0 (xF vM c e) = B104x0 c (aG3 c e) := by kernel_rfl
theorem s104x1 : V104x1 (xA vM c e [1, 0, 1, 0] aAo (q104x1 c e)) = B104x1 c := by kernel_rfl
def J104x1 (c : TC0) (L : Nat) : Bool → Int → G.O → Rt := B104x1 c
theorem j104x1 : aG3 c (cu c L) = J104x1 c L := by rw [aG3, aQ, s104x1]; rfl
def F104 (c : TC0) (L : Nat) : G.O → Int → Rt := B104x0 c (J104x1 c L)
theorem e104 : V104x0 (xF vM c (cu c L)) = F104 c L := by rw [s104x0]; simp only [j104x1]; rfl
theorem c104 (a0 : G.O) (a1 : Int) (L n : Nat) : CTp L (n + 1) 104 [yR 2 a0, yI a1] = F104 (CTp L n) L a0 a1 := by rw [← e104]; exact cg (x := vM) (by kernel_rfl) (by kernel_rfl) L n _
def q110x0 (c : TC0) (e : Cu) : Kt := xK nM
def q110x1 (c : TC0) (e : Cu) : Kt := xT nM c e [1, 1] (q110x0 c e)
def aBw (c : TC0) (e : Cu) : Kt := cI U0 0 (q110x1 c e)
def q110x3 (c : TC0) (e : Cu) (n1 : Nt) : Kt := lpK U0 mQ n1 (aBw c e)
def q110x4 (c : TC0) (e : Cu) (n1 : Nt) : Kt := xT nM c e [1, 0, 1, 0, 0, 1, 1] (q110x3 c e n1)
def q110x5 (c : TC0) (e : Cu) (n1 : Nt) : Kt := cI U0 1 (q110x4 c e n1)
def B110x0 (c : TC0) (e1 : List G.E → Int → G.Y → G.M → Rt) (a0 : List G.E) (a1 : G.Y) : Rt :=
 e1 a0 (0 : Int) a1 (G.M.mk (G.Y.mk ([] : List UInt8) ([] : List UInt8)) ([] : List G.Y) false (G.T.mk (0 : Int) (G.Y.mk ([] : List UInt8) ([] : List UInt8)) (G.O.mk (0 : Int) ([] : List UInt8) ([] : List UInt8) (G.Y.mk ([] : List UInt8) ([] : List UInt8)) ([] : List UInt8) ([] : List G.O)) ([] : List G.T)))
def V110x0 (n : Nt) : List G.E → G.Y → Rt := fun x0 x1 => n [yS 15 x0, yR 1 x1]
def B110x1 (c : TC0) (k2 : Bool → Int → List G.E → G.Y → G.M → Rt) (a0 : List G.E) (a6 : Int) (b103 : G.Y) (b104 : G.M) : Rt :=
 cnd (decide (a6 < (List.length a0 : Int))) (ob (idx a0 a6) fun v0 =>
 cnd (decide (v0.kind = (2 : Int))) (ob (idx a0 a6) fun v1 =>
 k2 (decide (v1.mac.name = b103)) a6 a0 b103 b104) (k2 false a6 a0 b103 b104)) (some [yR 6 (G.M.mk (G.Y.mk ([] : List UInt8) ([] : List UInt8)) ([] : List G.Y) false (G.T.mk (0 : Int) (G.Y.mk ([] : List UInt8) ([] : List UInt8)) (G.O.mk (0 : Int) ([] : List UInt8) ([] : List UInt8) (G.Y.mk ([] : List UInt8) ([] : List UInt8)) ([] : List UInt8) ([] : List G.O)) ([] : List G.T))), yB false])
def xZ (n : Nt) : List G.E → Int → G.Y → G.M → Rt := fun x0 x1 x2 x3 => n [yS 15 x0, yI x1, yR 1 x2, yR 6 x3]
def X110x1 := xZ (xE nM e [1, 0, 1, 0, 0] mQ (aBw c e))
def B110x2 (c : TC0) (n1 : List G.E → Int → G.Y → G.M → Rt) (a28 : Bool) (a6 : Int) (a0 : List G.E) (b103 : G.Y) (b104 : G.M) : Rt :=
 cnd a28 (ob (idx a0 a6) fun v0 =>
 some [yR 6 v0.mac, yB true]) (n1 a0 (IntKind.i64.wrap (a6 + (1 : Int))) b103 b104)
def V110x2 (n : Nt) : Bool → Int → List G.E → G.Y → G.M → Rt := fun x0 x1 x2 x3 x4 => n [yB x0, yI x1, yS 15 x2, yR 1 x3, yR 6 x4]
def aG2 (n1 : Nt) := V110x2 (xD nM e [1, 0, 1, 0, 0, 1, 0, 0, 1, 0] aAn (q110x5 c e n1))
theorem s110x0 : V110x0 (xF nM c e) = B110x0 c (X110x1 c e) := by kernel_rfl
theorem s110x1 (n1 : Nt) : xZ (xA nM c e [1, 0, 1, 0, 0] mQ (lpK U0 mQ n1 (aBw c e))) = B110x1 c (aG2 c e n1) := by kernel_rfl
theorem s110x2 (n1 : Nt) : V110x2 (xA nM c e [1, 0, 1, 0, 0, 1, 0, 0, 1, 0] aAn (q110x5 c e n1)) = B110x2 c (xZ n1) := by kernel_rfl
def J110x2 (c : TC0) (L : Nat) (n1 : List G.E → Int → G.Y → G.M → Rt) : Bool → Int → List G.E → G.Y → G.M → Rt := B110x2 c n1
theorem j110x2 (n1 : Nt) : aG2 c (cu c L) n1 = J110x2 c L (xZ n1) := by rw [aG2, aQ, s110x2]; rfl
def aCI (c : TC0) (L : Nat) : Nat → List G.E → Int → G.Y → G.M → Rt
 | 0 => fun _ _ _ _ => none
 | n + 1 => B110x1 c (J110x2 c L (aCI c L n))
theorem u110x1 (n : Nat) : xZ (xL nM c L [1, 0, 1, 0, 0] mQ (aBw c (cu c L)) n) = aCI c L n := by
 induction n with
 | zero => rfl
 | succ n ih => rw [eM, s110x1]; simp only [j110x2, ih]; rfl
theorem w110x1 : X110x1 c (cu c L) = aCI c L L := u110x1 c L L
def F110 (c : TC0) (L : Nat) : List G.E → G.Y → Rt := B110x0 c (aCI c L L)
theorem e110 : V110x0 (xF nM c (cu c L)) = F110 c L := by rw [s110x0]; simp only [w110x1]; rfl
theorem c110 (a0 : List G.E) (a1 : G.Y) (L n : Nat) : CTp L (n + 1) 110 [yS 15 a0, yR 1 a1] = F110 (CTp L n) L a0 a1 := by rw [← e110]; exact cg (x := nM) (by kernel_rfl) (by kernel_rfl) L n _
def B122x0 (c : TC0) (a0 : G.T) : Rt :=
 some [yB (!decide (a0.kind = (1 : Int)))]
def V122x0 (n : Nt) : G.T → Rt := fun x0 => n [yR 3 x0]
theorem s122x0 : V122x0 (xF ii122 c e) = B122x0 c := by kernel_rfl
def F122 (c : TC0) (L : Nat) : G.T → Rt := B122x0 c
theorem e122 : V122x0 (xF ii122 c (cu c L)) = F122 c L := s122x0 _ _
theorem c122 (a0 : G.T) (L n : Nat) : CTp L (n + 1) 122 [yR 3 a0] = F122 (CTp L n) L a0 := by rw [← e122]; exact cg (x := ii122) (by kernel_rfl) (by kernel_rfl) L n _
def aEL (c : TC0) (e : Cu) : Kt := xK mH
def q123x1 (c : TC0) (e : Cu) : Kt := xT mH c e [1, 1, 1] (aEL c e)
def aEK (c : TC0) (e : Cu) : Kt := cI U0 0 (q123x1 c e)
def aHU (c : TC0) (e1 : Int → List G.T → Int → G.T → Rt) (k2 : G.T → Rt) (a0 : G.T) (b0 : G.T) : Rt :=
 obL [.bool, .rc 3] (c 147 [yR 3 a0, yR 3 b0]) fun (r0 : Bool × G.T × Unit) =>
 cnd (!r0.1) (some [yB false, yR 3 r0.2.1]) (cnd (decide (a0.kind = (3 : Int))) (e1 (List.length a0.args : Int) a0.args (0 : Int) r0.2.1) (k2 r0.2.1))
def V123x0 (n : Nt) : G.T → G.T → Rt := fun x0 x1 => n [yR 3 x0, yR 3 x1]
def aCZ (c : TC0) (n1 : Int → List G.T → Int → G.T → Rt) (k2 : G.T → Rt) (a16 : Int) (a15 : List G.T) (a17 : Int) (b0 : G.T) : Rt :=
 cnd (decide (a17 < a16)) (ob (idx a15 a17) fun v0 =>
 obL [.bool, .rc 3] (c 123 [yR 3 v0, yR 3 b0]) fun (r1 : Bool × G.T × Unit) =>
 cnd (!r1.1) (some [yB false, yR 3 r1.2.1]) (n1 a16 a15 (IntKind.i64.wrap (a17 + (1 : Int))) r1.2.1)) (k2 b0)
def aCP (n : Nt) : Int → List G.T → Int → G.T → Rt := fun x0 x1 x2 x3 => n [yI x0, yS 3 x1, yI x2, yR 3 x3]
def X123x1 := aCP (xE mH e [1, 1, 0, 1, 0, 1, 0, 0] pA (aEK c e))
def aHT (c : TC0) (b0 : G.T) : Rt :=
 some [yB true, yR 3 b0]
def V123x2 (n : Nt) : G.T → Rt := fun x0 => n [yR 3 x0]
def aCC := V123x2 (xD mH e [1, 1, 1, 0] aAm (aEL c e))
theorem s123x0 : V123x0 (xF mH c e) = aHU c (X123x1 c e) (aCC c e) := by kernel_rfl
theorem s123x1 (n1 : Nt) : aCP (xA mH c e [1, 1, 0, 1, 0, 1, 0, 0] pA (lpK U0 pA n1 (aEK c e))) = aCZ c (aCP n1) (aCC c e) := by kernel_rfl
theorem s123x2 : V123x2 (xA mH c e [1, 1, 1, 0] aAm (aEL c e)) = aHT c := by kernel_rfl
def aCW (c : TC0) (L : Nat) : G.T → Rt := aHT c
theorem j123x2 : aCC c (cu c L) = aCW c L := by rw [aCC, aQ, s123x2]; rfl
def pP (c : TC0) (L : Nat) : Nat → Int → List G.T → Int → G.T → Rt
 | 0 => fun _ _ _ _ => none
 | n + 1 => aCZ c (pP c L n) (aCW c L)
theorem u123x1 (n : Nat) : aCP (xL mH c L [1, 1, 0, 1, 0, 1, 0, 0] pA (aEK c (cu c L)) n) = pP c L n := by
 induction n with
 | zero => rfl
 | succ n ih => rw [eM, s123x1]; simp only [j123x2, ih]; rfl
theorem w123x1 : X123x1 c (cu c L) = pP c L L := u123x1 c L L
def F123 (c : TC0) (L : Nat) : G.T → G.T → Rt := aHU c (pP c L L) (aCW c L)
theorem e123 : V123x0 (xF mH c (cu c L)) = F123 c L := by rw [s123x0]; simp only [w123x1, j123x2]; rfl
theorem c123 (a0 : G.T) (b0 : G.T) (L n : Nat) : CTp L (n + 1) 123 [yR 3 a0, yR 3 b0] = F123 (CTp L n) L a0 b0 := by rw [← e123]; exact cg (x := mH) (by kernel_rfl) (by kernel_rfl) L n _
def q124x0 (c : TC0) (e : Cu) : Kt := xK zQ
def aHS (c : TC0) (k1 : Bool → Rt) (a0 : Int) : Rt :=
 cnd (decide (a0 = (32 : Int))) (k1 true) (cnd (decide (a0 = (9 : Int))) (k1 true) (cnd (decide (a0 = (10 : Int))) (k1 true) (k1 (decide (a0 = (13 : Int))))))
def V124x0 (n : Nt) : Int → Rt := fun x0 => n [⟨(.int .u8), x0⟩]
def aHR (c : TC0) (a2 : Bool) : Rt :=
 some [yB a2]
def V124x1 (n : Nt) : Bool → Rt := fun x0 => n [yB x0]
def aG1 := V124x1 (xD zQ e [1, 1, 0] aAl (q124x0 c e))
theorem s124x0 : V124x0 (xF zQ c e) = aHS c (aG1 c e) := by kernel_rfl
theorem s124x1 : V124x1 (xA zQ c e [1, 1, 0] aAl (q124x0 c e)) = aHR c := by kernel_rfl
def aHv (c : TC0) (L : Nat) : Bool → Rt := aHR c
theorem j124x1 : aG1 c (cu c L) = aHv c L := by rw [aG1, aQ, s124x1]; rfl
def F124 (c : TC0) (L : Nat) : Int → Rt := aHS c (aHv c L)
theorem e124 : V124x0 (xF zQ c (cu c L)) = F124 c L := by rw [s124x0]; simp only [j124x1]; rfl
theorem c124 (a0 : Int) (L n : Nat) : CTp L (n + 1) 124 [⟨(.int .u8), a0⟩] = F124 (CTp L n) L a0 := by rw [← e124]; exact cg (x := zQ) (by kernel_rfl) (by kernel_rfl) L n _
def q125x0 (c : TC0) (e : Cu) : Kt := xK zP
def aHQ (c : TC0) (k1 : Bool → Rt) (a0 : List UInt8) (a1 : Int) (a2 : Int) (a3 : Int) : Rt :=
 cnd (decide ((0 : Int) ≤ a1)) (cnd (decide ((IntKind.i64.wrap (a1 + (1 : Int))) < (List.length a0 : Int))) (ob (idx a0 a1) fun v0 =>
 cnd (decide ((v0.toNat : Int) = a2)) (ob (idx a0 (IntKind.i64.wrap (a1 + (1 : Int)))) fun v1 =>
 k1 (decide ((v1.toNat : Int) = a3))) (k1 false)) (k1 false)) (k1 false)
def V125x0 (n : Nt) : List UInt8 → Int → Int → Int → Rt := fun x0 x1 x2 x3 => n [yT x0, yI x1, ⟨(.int .u8), x2⟩, ⟨(.int .u8), x3⟩]
def aHP (c : TC0) (a8 : Bool) : Rt :=
 some [yB a8]
def V125x1 (n : Nt) : Bool → Rt := fun x0 => n [yB x0]
def aG0 := V125x1 (xD zP e [1, 1, 0] aAk (q125x0 c e))
theorem s125x0 : V125x0 (xF zP c e) = aHQ c (aG0 c e) := by kernel_rfl
theorem s125x1 : V125x1 (xA zP c e [1, 1, 0] aAk (q125x0 c e)) = aHP c := by kernel_rfl
def aHu (c : TC0) (L : Nat) : Bool → Rt := aHP c
theorem j125x1 : aG0 c (cu c L) = aHu c L := by rw [aG0, aQ, s125x1]; rfl
def F125 (c : TC0) (L : Nat) : List UInt8 → Int → Int → Int → Rt := aHQ c (aHu c L)
theorem e125 : V125x0 (xF zP c (cu c L)) = F125 c L := by rw [s125x0]; simp only [j125x1]; rfl
theorem c125 (a0 : List UInt8) (a1 : Int) (a2 : Int) (a3 : Int) (L n : Nat) : CTp L (n + 1) 125 [yT a0, yI a1, ⟨(.int .u8), a2⟩, ⟨(.int .u8), a3⟩] = F125 (CTp L n) L a0 a1 a2 a3 := by rw [← e125]; exact cg (x := zP) (by kernel_rfl) (by kernel_rfl) L n _
def q127x0 (c : TC0) (e : Cu) : Kt := xK vL
def q127x1 (c : TC0) (e : Cu) : Kt := xT vL c e [1, 1] (q127x0 c e)
def q127x2 (c : TC0) (e : Cu) : Kt := cI U0 0 (q127x1 c e)
def aHO (c : TC0) (k1 : Bool → G.K → G.X → Rt) (a0 : G.K) (a1 : Bool) : Rt :=
 cnd (decide ((40 : Int) < (List.length a0.text : Int))) (obL [.rc 17] (c 84 [yI (2 : Int), yI a0.pos]) fun (r0 : G.X × Unit) =>
 some [yR 17 r0.1]) (cnd a1 (cnd (decide (a0.text = ([] : List UInt8))) (k1 true a0 (G.X.mk (0 : Int) (0 : Int))) (cnd (!decide (a0.package = ([] : List UInt8))) (obL [.bool] (c 148 [yT a0.package]) fun (r1 : Bool × Unit) =>
 k1 (!r1.1) a0 (G.X.mk (0 : Int) (0 : Int))) (k1 false a0 (G.X.mk (0 : Int) (0 : Int))))) (cnd (!decide (a0.package = ([] : List UInt8))) (obL [.bool] (c 148 [yT a0.package]) fun (r2 : Bool × Unit) =>
 k1 (!r2.1) a0 (G.X.mk (0 : Int) (0 : Int))) (k1 false a0 (G.X.mk (0 : Int) (0 : Int)))))
def V127x0 (n : Nt) : G.K → Bool → Rt := fun x0 x1 => n [yR 19 x0, yB x1]
def B127x1 (c : TC0) (a13 : Bool) (b102 : G.K) (b104 : G.X) : Rt :=
 cnd a13 (obL [.rc 17] (c 84 [yI (3 : Int), yI b102.pos]) fun (r0 : G.X × Unit) =>
 some [yR 17 r0.1]) (some [yR 17 (G.X.mk (0 : Int) (0 : Int))])
def V127x1 (n : Nt) : Bool → G.K → G.X → Rt := fun x0 x1 x2 => n [yB x0, yR 19 x1, yR 17 x2]
def aGZ := V127x1 (xD vL e [1, 0, 0, 1, 1, 1, 0] aAj (q127x2 c e))
theorem s127x0 : V127x0 (xF vL c e) = aHO c (aGZ c e) := by kernel_rfl
theorem s127x1 : V127x1 (xA vL c e [1, 0, 0, 1, 1, 1, 0] aAj (q127x2 c e)) = B127x1 c := by kernel_rfl
def J127x1 (c : TC0) (L : Nat) : Bool → G.K → G.X → Rt := B127x1 c
theorem j127x1 : aGZ c (cu c L) = J127x1 c L := by rw [aGZ, aQ, s127x1]; rfl
def F127 (c : TC0) (L : Nat) : G.K → Bool → Rt := aHO c (J127x1 c L)
theorem e127 : V127x0 (xF vL c (cu c L)) = F127 c L := by rw [s127x0]; simp only [j127x1]; rfl
theorem c127 (a0 : G.K) (a1 : Bool) (L n : Nat) : CTp L (n + 1) 127 [yR 19 a0, yB a1] = F127 (CTp L n) L a0 a1 := by rw [← e127]; exact cg (x := vL) (by kernel_rfl) (by kernel_rfl) L n _
def q128x0 (c : TC0) (e : Cu) : Kt := xK zO
def aHN (c : TC0) (k1 : Bool → Rt) (a0 : Int) : Rt :=
 cnd (decide ((33 : Int) ≤ a0)) (cnd (decide (a0 ≤ (126 : Int))) (cnd (!decide (a0 = (40 : Int))) (cnd (!decide (a0 = (41 : Int))) (cnd (!decide (a0 = (39 : Int))) (cnd (!decide (a0 = (34 : Int))) (cnd (!decide (a0 = (59 : Int))) (cnd (!decide (a0 = (124 : Int))) (k1 (!decide (a0 = (58 : Int)))) (k1 false)) (k1 false)) (k1 false)) (k1 false)) (k1 false)) (k1 false)) (k1 false)) (k1 false)
def V128x0 (n : Nt) : Int → Rt := fun x0 => n [⟨(.int .u8), x0⟩]
def aHM (c : TC0) (a2 : Bool) : Rt :=
 some [yB a2]
def V128x1 (n : Nt) : Bool → Rt := fun x0 => n [yB x0]
def aGY := V128x1 (xD zO e [1, 1, 0] aAi (q128x0 c e))
theorem s128x0 : V128x0 (xF zO c e) = aHN c (aGY c e) := by kernel_rfl
theorem s128x1 : V128x1 (xA zO c e [1, 1, 0] aAi (q128x0 c e)) = aHM c := by kernel_rfl
def aHt (c : TC0) (L : Nat) : Bool → Rt := aHM c
theorem j128x1 : aGY c (cu c L) = aHt c L := by rw [aGY, aQ, s128x1]; rfl
def F128 (c : TC0) (L : Nat) : Int → Rt := aHN c (aHt c L)
theorem e128 : V128x0 (xF zO c (cu c L)) = F128 c L := by rw [s128x0]; simp only [j128x1]; rfl
theorem c128 (a0 : Int) (L n : Nat) : CTp L (n + 1) 128 [⟨(.int .u8), a0⟩] = F128 (CTp L n) L a0 := by rw [← e128]; exact cg (x := zO) (by kernel_rfl) (by kernel_rfl) L n _
def q129x0 (c : TC0) (e : Cu) : Kt := xK nL
def q129x1 (c : TC0) (e : Cu) : Kt := xT nL c e [1, 1] (q129x0 c e)
def aBv (c : TC0) (e : Cu) : Kt := cI U0 0 (q129x1 c e)
def q129x3 (c : TC0) (e : Cu) (n1 : Nt) : Kt := lpK U0 mP n1 (aBv c e)
def q129x4 (c : TC0) (e : Cu) (n1 : Nt) : Kt := xT nL c e [1, 0, 0, 0, 1] (q129x3 c e n1)
def aHL (c : TC0) (e1 : List UInt8 → Int → Rt) (a0 : List UInt8) (a1 : Int) : Rt :=
 e1 a0 a1
def V129x0 (n : Nt) : List UInt8 → Int → Rt := fun x0 x1 => n [yT x0, yI x1]
def aCY (c : TC0) (k2 : Bool → List UInt8 → Int → Rt) (a0 : List UInt8) (a1 : Int) : Rt :=
 cnd (decide (a1 < (List.length a0 : Int))) (ob (idx a0 a1) fun v0 =>
 obL [.bool] (c 128 [⟨(.int .u8), (v0.toNat : Int)⟩]) fun (r1 : Bool × Unit) =>
 k2 r1.1 a0 a1) (k2 false a0 a1)
def xY (n : Nt) : List UInt8 → Int → Rt := fun x0 x1 => n [yT x0, yI x1]
def X129x1 := xY (xE nL e [1, 0, 0, 0] mP (aBv c e))
def yE (c : TC0) (n1 : List UInt8 → Int → Rt) (a14 : Bool) (a0 : List UInt8) (a1 : Int) : Rt :=
 cnd a14 (n1 a0 (IntKind.i64.wrap (a1 + (1 : Int)))) (some [yI a1])
def V129x2 (n : Nt) : Bool → List UInt8 → Int → Rt := fun x0 x1 x2 => n [yB x0, yT x1, yI x2]
def aGX (n1 : Nt) := V129x2 (xD nL e [1, 0, 0, 0, 0, 1, 0] aAh (q129x4 c e n1))
theorem s129x0 : V129x0 (xF nL c e) = aHL c (X129x1 c e) := by kernel_rfl
theorem s129x1 (n1 : Nt) : xY (xA nL c e [1, 0, 0, 0] mP (lpK U0 mP n1 (aBv c e))) = aCY c (aGX c e n1) := by kernel_rfl
theorem s129x2 (n1 : Nt) : V129x2 (xA nL c e [1, 0, 0, 0, 0, 1, 0] aAh (q129x4 c e n1)) = yE c (xY n1) := by kernel_rfl
def yD (c : TC0) (L : Nat) (n1 : List UInt8 → Int → Rt) : Bool → List UInt8 → Int → Rt := yE c n1
theorem j129x2 (n1 : Nt) : aGX c (cu c L) n1 = yD c L (xY n1) := by rw [aGX, aQ, s129x2]; rfl
def pO (c : TC0) (L : Nat) : Nat → List UInt8 → Int → Rt
 | 0 => fun _ _ => none
 | n + 1 => aCY c (yD c L (pO c L n))
theorem u129x1 (n : Nat) : xY (xL nL c L [1, 0, 0, 0] mP (aBv c (cu c L)) n) = pO c L n := by
 induction n with
 | zero => rfl
 | succ n ih => rw [eM, s129x1]; simp only [j129x2, ih]; rfl
theorem w129x1 : X129x1 c (cu c L) = pO c L L := u129x1 c L L
def F129 (c : TC0) (L : Nat) : List UInt8 → Int → Rt := aHL c (pO c L L)
theorem e129 : V129x0 (xF nL c (cu c L)) = F129 c L := by rw [s129x0]; simp only [w129x1]; rfl
theorem c129 (a0 : List UInt8) (a1 : Int) (L n : Nat) : CTp L (n + 1) 129 [yT a0, yI a1] = F129 (CTp L n) L a0 a1 := by rw [← e129]; exact cg (x := nL) (by kernel_rfl) (by kernel_rfl) L n _
def qU (c : TC0) (e : Cu) : Kt := xK dX
def q131x1 (c : TC0) (e : Cu) : Kt := xT dX c e [1, 1, 1] (qU c e)
def q131x2 (c : TC0) (e : Cu) : Kt := xT dX c e [1, 1, 1, 0, 1, 1] (qU c e)
def aBu (c : TC0) (e : Cu) : Kt := cI U0 0 (q131x2 c e)
def q131x4 (c : TC0) (e : Cu) (n3 : Nt) : Kt := lpK U0 mO n3 (aBu c e)
def q131x5 (c : TC0) (e : Cu) (n3 : Nt) : Kt := xT dX c e [1, 1, 1, 0, 1, 0, 0, 0, 1] (q131x4 c e n3)
def q131x6 (c : TC0) (e : Cu) : Kt := xT dX c e [1, 1, 1, 0, 1, 1, 1, 1, 1] (qU c e)
def q131x7 (c : TC0) (e : Cu) : Kt := xT dX c e [1, 1, 1, 0, 1, 1, 1, 1, 1, 1] (qU c e)
def aBt (c : TC0) (e : Cu) : Kt := cI U0 2 (q131x7 c e)
def q131x9 (c : TC0) (e : Cu) (n6 : Nt) : Kt := lpK U0 mN n6 (aBt c e)
def q131x10 (c : TC0) (e : Cu) (n6 : Nt) : Kt := xT dX c e [1, 1, 1, 0, 1, 1, 1, 1, 1, 0, 1, 0, 0, 1, 1] (q131x9 c e n6)
def aEJ (c : TC0) (e : Cu) (n6 : Nt) : Kt := cI U0 3 (q131x10 c e n6)
def aHK (c : TC0) (k1 : Bool → Int → List UInt8 → Rt) (a0 : List UInt8) : Rt :=
 cnd (decide ((0 : Int) < (List.length a0 : Int))) (ob (idx a0 (0 : Int)) fun v0 =>
 k1 (decide ((v0.toNat : Int) = (45 : Int))) (0 : Int) a0) (k1 false (0 : Int) a0)
def V131x0 (n : Nt) : List UInt8 → Rt := fun x0 => n [yT x0]
def aHJ (c : TC0) (k2 : Int → List UInt8 → Rt) (a15 : Bool) (a5 : Int) (a0 : List UInt8) : Rt :=
 cnd a15 (k2 (1 : Int) a0) (k2 a5 a0)
def V131x1 (n : Nt) : Bool → Int → List UInt8 → Rt := fun x0 x1 x2 => n [yB x0, yI x1, yT x2]
def aGW := V131x1 (xD dX e [1, 1, 0, 1, 0] aAg (q131x1 c e))
def aHI (c : TC0) (e3 : Int → List UInt8 → Int → Rt) (a5 : Int) (a0 : List UInt8) : Rt :=
 e3 a5 a0 a5
def V131x2 (n : Nt) : Int → List UInt8 → Rt := fun x0 x1 => n [yI x0, yT x1]
def aGV := V131x2 (xD dX e [1, 1, 1, 0] aAf (qU c e))
def aHH (c : TC0) (k4 : Bool → Int → List UInt8 → Int → Rt) (a5 : Int) (a0 : List UInt8) (a6 : Int) : Rt :=
 cnd (decide (a6 < (List.length a0 : Int))) (ob (idx a0 a6) fun v0 =>
 cnd (decide ((48 : Int) ≤ (v0.toNat : Int))) (ob (idx a0 a6) fun v1 =>
 k4 (decide ((v1.toNat : Int) ≤ (57 : Int))) a5 a0 a6) (k4 false a5 a0 a6)) (k4 false a5 a0 a6)
def xX (n : Nt) : Int → List UInt8 → Int → Rt := fun x0 x1 x2 => n [yI x0, yT x1, yI x2]
def X131x3 := xX (xE dX e [1, 1, 1, 0, 1, 0, 0, 0] mO (aBu c e))
def B131x4 (c : TC0) (n3 : Int → List UInt8 → Int → Rt) (k5 : Bool → List UInt8 → Int → Rt) (a32 : Bool) (a5 : Int) (a0 : List UInt8) (a6 : Int) : Rt :=
 cnd a32 (n3 a5 a0 (IntKind.i64.wrap (a6 + (1 : Int)))) (cnd (decide (a6 = a5)) (some [yT ([] : List UInt8), yT ([] : List UInt8), yB false]) (cnd (decide (a6 = (List.length a0 : Int))) (some [yT a0, yT ([49] : List UInt8), yB true]) (ob (idx a0 a6) fun v0 =>
 cnd (!decide ((v0.toNat : Int) = (47 : Int))) (k5 true a0 a6) (k5 (decide ((IntKind.i64.wrap (a6 + (1 : Int))) = (List.length a0 : Int))) a0 a6))))
def V131x4 (n : Nt) : Bool → Int → List UInt8 → Int → Rt := fun x0 x1 x2 x3 => n [yB x0, yI x1, yT x2, yI x3]
def aGU (n3 : Nt) := V131x4 (xD dX e [1, 1, 1, 0, 1, 0, 0, 0, 0, 1, 0] aAe (q131x5 c e n3))
def B131x5 (c : TC0) (e6 : Int → List UInt8 → Int → Rt) (a53 : Bool) (a0 : List UInt8) (a6 : Int) : Rt :=
 cnd a53 (some [yT ([] : List UInt8), yT ([] : List UInt8), yB false]) (e6 (IntKind.i64.wrap (a6 + (1 : Int))) a0 a6)
def V131x5 (n : Nt) : Bool → List UInt8 → Int → Rt := fun x0 x1 x2 => n [yB x0, yT x1, yI x2]
def aGT := V131x5 (xD dX e [1, 1, 1, 0, 1, 1, 1, 1, 0, 1, 0] aAd (q131x6 c e))
def B131x6 (c : TC0) (k7 : Bool → Int → List UInt8 → Int → Rt) (a7 : Int) (a0 : List UInt8) (a6 : Int) : Rt :=
 cnd (decide (a7 < (List.length a0 : Int))) (ob (idx a0 a7) fun v0 =>
 cnd (decide ((v0.toNat : Int) < (48 : Int))) (k7 true a7 a0 a6) (ob (idx a0 a7) fun v1 =>
 k7 (decide ((57 : Int) < (v1.toNat : Int))) a7 a0 a6)) (ob (slc a0 (0 : Int) a6) fun v2 =>
 ob (slc a0 (IntKind.i64.wrap (a6 + (1 : Int))) (List.length a0 : Int)) fun v3 =>
 some [yT v2, yT v3, yB true])
def xV (n : Nt) : Int → List UInt8 → Int → Rt := fun x0 x1 x2 => n [yI x0, yT x1, yI x2]
def X131x6 := xV (xE dX e [1, 1, 1, 0, 1, 1, 1, 1, 1, 0, 1, 0, 0] mN (aBt c e))
def B131x7 (c : TC0) (n6 : Int → List UInt8 → Int → Rt) (a71 : Bool) (a7 : Int) (a0 : List UInt8) (a6 : Int) : Rt :=
 cnd a71 (some [yT ([] : List UInt8), yT ([] : List UInt8), yB false]) (n6 (IntKind.i64.wrap (a7 + (1 : Int))) a0 a6)
def V131x7 (n : Nt) : Bool → Int → List UInt8 → Int → Rt := fun x0 x1 x2 x3 => n [yB x0, yI x1, yT x2, yI x3]
def aGS (n6 : Nt) := V131x7 (xD dX e [1, 1, 1, 0, 1, 1, 1, 1, 1, 0, 1, 0, 0, 1, 0, 0, 1, 0] aAc (aEJ c e n6))
theorem s131x0 : V131x0 (xF dX c e) = aHK c (aGW c e) := by kernel_rfl
theorem s131x1 : V131x1 (xA dX c e [1, 1, 0, 1, 0] aAg (q131x1 c e)) = aHJ c (aGV c e) := by kernel_rfl
theorem s131x2 : V131x2 (xA dX c e [1, 1, 1, 0] aAf (qU c e)) = aHI c (X131x3 c e) := by kernel_rfl
theorem s131x3 (n3 : Nt) : xX (xA dX c e [1, 1, 1, 0, 1, 0, 0, 0] mO (lpK U0 mO n3 (aBu c e))) = aHH c (aGU c e n3) := by kernel_rfl
theorem s131x4 (n3 : Nt) : V131x4 (xA dX c e [1, 1, 1, 0, 1, 0, 0, 0, 0, 1, 0] aAe (q131x5 c e n3)) = B131x4 c (xX n3) (aGT c e) := by kernel_rfl
theorem s131x5 : V131x5 (xA dX c e [1, 1, 1, 0, 1, 1, 1, 1, 0, 1, 0] aAd (q131x6 c e)) = B131x5 c (X131x6 c e) := by kernel_rfl
theorem s131x6 (n6 : Nt) : xV (xA dX c e [1, 1, 1, 0, 1, 1, 1, 1, 1, 0, 1, 0, 0] mN (lpK U0 mN n6 (aBt c e))) = B131x6 c (aGS c e n6) := by kernel_rfl
theorem s131x7 (n6 : Nt) : V131x7 (xA dX c e [1, 1, 1, 0, 1, 1, 1, 1, 1, 0, 1, 0, 0, 1, 0, 0, 1, 0] aAc (aEJ c e n6)) = B131x7 c (xV n6) := by kernel_rfl
def J131x7 (c : TC0) (L : Nat) (n6 : Int → List UInt8 → Int → Rt) : Bool → Int → List UInt8 → Int → Rt := B131x7 c n6
theorem j131x7 (n6 : Nt) : aGS c (cu c L) n6 = J131x7 c L (xV n6) := by rw [aGS, aQ, s131x7]; rfl
def aCH (c : TC0) (L : Nat) : Nat → Int → List UInt8 → Int → Rt
 | 0 => fun _ _ _ => none
 | n + 1 => B131x6 c (J131x7 c L (aCH c L n))
theorem u131x6 (n : Nat) : xV (xL dX c L [1, 1, 1, 0, 1, 1, 1, 1, 1, 0, 1, 0, 0] mN (aBt c (cu c L)) n) = aCH c L n := by
 induction n with
 | zero => rfl
 | succ n ih => rw [eM, s131x6]; simp only [j131x7, ih]; rfl
theorem w131x6 : X131x6 c (cu c L) = aCH c L L := u131x6 c L L
def J131x5 (c : TC0) (L : Nat) : Bool → List UInt8 → Int → Rt := B131x5 c (aCH c L L)
theorem j131x5 : aGT c (cu c L) = J131x5 c L := by rw [aGT, aQ, s131x5]; simp only [w131x6]; rfl
def aHq (c : TC0) (L : Nat) (n3 : Int → List UInt8 → Int → Rt) : Bool → Int → List UInt8 → Int → Rt := B131x4 c n3 (J131x5 c L)
theorem j131x4 (n3 : Nt) : aGU c (cu c L) n3 = aHq c L (xX n3) := by rw [aGU, aQ, s131x4]; simp only [j131x5]; rfl
def rX (c : TC0) (L : Nat) : Nat → Int → List UInt8 → Int → Rt
 | 0 => fun _ _ _ => none
 | n + 1 => aHH c (aHq c L (rX c L n))
theorem u131x3 (n : Nat) : xX (xL dX c L [1, 1, 1, 0, 1, 0, 0, 0] mO (aBu c (cu c L)) n) = rX c L n := by
 induction n with
 | zero => rfl
 | succ n ih => rw [eM, s131x3]; simp only [j131x4, ih]; rfl
theorem w131x3 : X131x3 c (cu c L) = rX c L L := u131x3 c L L
def aHr (c : TC0) (L : Nat) : Int → List UInt8 → Rt := aHI c (rX c L L)
theorem j131x2 : aGV c (cu c L) = aHr c L := by rw [aGV, aQ, s131x2]; simp only [w131x3]; rfl
def aHs (c : TC0) (L : Nat) : Bool → Int → List UInt8 → Rt := aHJ c (aHr c L)
theorem j131x1 : aGW c (cu c L) = aHs c L := by rw [aGW, aQ, s131x1]; simp only [j131x2]; rfl
def F131 (c : TC0) (L : Nat) : List UInt8 → Rt := aHK c (aHs c L)
theorem e131 : V131x0 (xF dX c (cu c L)) = F131 c L := by rw [s131x0]; simp only [j131x1]; rfl
theorem c131 (a0 : List UInt8) (L n : Nat) : CTp L (n + 1) 131 [yT a0] = F131 (CTp L n) L a0 := by rw [← e131]; exact cg (x := dX) (by kernel_rfl) (by kernel_rfl) L n _
def q134x0 (c : TC0) (e : Cu) : Kt := xK tG
def q134x1 (c : TC0) (e : Cu) : Kt := xT tG c e [1, 1] (q134x0 c e)
def aEI (c : TC0) (e : Cu) : Kt := cI U0 0 (q134x1 c e)
def B134x0 (c : TC0) (e1 : List UInt8 → List G.A → Int → G.A → Rt) (a0 : List G.A) (a1 : List UInt8) : Rt :=
 e1 a1 a0 (0 : Int) (G.A.mk ([] : List UInt8) ([] : List G.Y))
def V134x0 (n : Nt) : List G.A → List UInt8 → Rt := fun x0 x1 => n [yS 5 x0, yT x1]
def B134x1 (c : TC0) (n1 : List UInt8 → List G.A → Int → G.A → Rt) (a1 : List UInt8) (a0 : List G.A) (a6 : Int) (b104 : G.A) : Rt :=
 cnd (decide (a6 < (List.length a0 : Int))) (ob (idx a0 a6) fun v0 =>
 cnd (decide (v0.name = a1)) (ob (idx a0 a6) fun v1 =>
 some [yR 5 v1, yB true]) (n1 a1 a0 (IntKind.i64.wrap (a6 + (1 : Int))) b104)) (some [yR 5 (G.A.mk ([] : List UInt8) ([] : List G.Y)), yB false])
def aCO (n : Nt) : List UInt8 → List G.A → Int → G.A → Rt := fun x0 x1 x2 x3 => n [yT x0, yS 5 x1, yI x2, yR 5 x3]
def X134x1 := aCO (xE tG e [1, 0, 1, 0, 0] oZ (aEI c e))
theorem s134x0 : V134x0 (xF tG c e) = B134x0 c (X134x1 c e) := by kernel_rfl
theorem s134x1 (n1 : Nt) : aCO (xA tG c e [1, 0, 1, 0, 0] oZ (lpK U0 oZ n1 (aEI c e))) = B134x1 c (aCO n1) := by kernel_rfl
def aCG (c : TC0) (L : Nat) : Nat → List UInt8 → List G.A → Int → G.A → Rt
 | 0 => fun _ _ _ _ => none
 | n + 1 => B134x1 c (aCG c L n)
theorem u134x1 (n : Nat) : aCO (xL tG c L [1, 0, 1, 0, 0] oZ (aEI c (cu c L)) n) = aCG c L n := by
 induction n with
 | zero => rfl
 | succ n ih => rw [eM, s134x1]; simp only [ih]; rfl
theorem w134x1 : X134x1 c (cu c L) = aCG c L L := u134x1 c L L
def F134 (c : TC0) (L : Nat) : List G.A → List UInt8 → Rt := B134x0 c (aCG c L L)
theorem e134 : V134x0 (xF tG c (cu c L)) = F134 c L := by rw [s134x0]; simp only [w134x1]; rfl
theorem c134 (a0 : List G.A) (a1 : List UInt8) (L n : Nat) : CTp L (n + 1) 134 [yS 5 a0, yT a1] = F134 (CTp L n) L a0 a1 := by rw [← e134]; exact cg (x := tG) (by kernel_rfl) (by kernel_rfl) L n _
def aHG (c : TC0) (a0 : G.T) (b0 : G.T) : Rt :=
 obL [.bool] (c 53 [yR 3 a0, yR 3 b0]) fun (r0 : Bool × Unit) =>
 some [yB (!r0.1), yR 3 b0]
def V147x0 (n : Nt) : G.T → G.T → Rt := fun x0 x1 => n [yR 3 x0, yR 3 x1]
theorem s147x0 : V147x0 (xF ii147 c e) = aHG c := by kernel_rfl
def F147 (c : TC0) (L : Nat) : G.T → G.T → Rt := aHG c
theorem e147 : V147x0 (xF ii147 c (cu c L)) = F147 c L := s147x0 _ _
theorem c147 (a0 : G.T) (b0 : G.T) (L n : Nat) : CTp L (n + 1) 147 [yR 3 a0, yR 3 b0] = F147 (CTp L n) L a0 b0 := by rw [← e147]; exact cg (x := ii147) (by kernel_rfl) (by kernel_rfl) L n _
def q156x0 (c : TC0) (e : Cu) : Kt := xK kF
def q156x1 (c : TC0) (e : Cu) : Kt := xT kF c e [1, 1] (q156x0 c e)
def q156x2 (c : TC0) (e : Cu) : Kt := xT kF c e [1, 1, 1] (q156x0 c e)
def aBs (c : TC0) (e : Cu) : Kt := cI U0 0 (q156x2 c e)
def q156x4 (c : TC0) (e : Cu) (n2 : Nt) : Kt := lpK U0 mM n2 (aBs c e)
def q156x5 (c : TC0) (e : Cu) (n2 : Nt) : Kt := xT kF c e [1, 1, 0, 1, 0, 0, 1, 1] (q156x4 c e n2)
def q156x6 (c : TC0) (e : Cu) (n2 : Nt) : Kt := cI U0 1 (q156x5 c e n2)
def B156x0 (c : TC0) (k1 : Bool → List UInt8 → Rt) (a0 : List UInt8) : Rt :=
 cnd (decide ((List.length a0 : Int) < (1 : Int))) (k1 true a0) (cnd (decide ((40 : Int) < (List.length a0 : Int))) (k1 true a0) (ob (idx a0 (0 : Int)) fun v0 =>
 cnd (decide ((v0.toNat : Int) < (97 : Int))) (k1 true a0) (ob (idx a0 (0 : Int)) fun v1 =>
 k1 (decide ((122 : Int) < (v1.toNat : Int))) a0)))
def V156x0 (n : Nt) : List UInt8 → Rt := fun x0 => n [yT x0]
def B156x1 (c : TC0) (e2 : List UInt8 → Int → Rt) (a22 : Bool) (a0 : List UInt8) : Rt :=
 cnd a22 (some [yB false]) (e2 a0 (0 : Int))
def V156x1 (n : Nt) : Bool → List UInt8 → Rt := fun x0 x1 => n [yB x0, yT x1]
def aGR := V156x1 (xD kF e [1, 0, 1, 0] aAb (q156x1 c e))
def B156x2 (c : TC0) (k3 : Bool → Int → List UInt8 → Rt) (a0 : List UInt8) (a3 : Int) : Rt :=
 cnd (decide (a3 < (List.length a0 : Int))) (ob (idx a0 a3) fun v0 =>
 cnd (decide ((v0.toNat : Int) < (97 : Int))) (cnd (decide ((v0.toNat : Int) < (48 : Int))) (k3 (!decide ((v0.toNat : Int) = (45 : Int))) a3 a0) (cnd (decide ((57 : Int) < (v0.toNat : Int))) (k3 (!decide ((v0.toNat : Int) = (45 : Int))) a3 a0) (k3 false a3 a0))) (cnd (decide ((122 : Int) < (v0.toNat : Int))) (cnd (decide ((v0.toNat : Int) < (48 : Int))) (k3 (!decide ((v0.toNat : Int) = (45 : Int))) a3 a0) (cnd (decide ((57 : Int) < (v0.toNat : Int))) (k3 (!decide ((v0.toNat : Int) = (45 : Int))) a3 a0) (k3 false a3 a0))) (k3 false a3 a0))) (some [yB true])
def xU (n : Nt) : List UInt8 → Int → Rt := fun x0 x1 => n [yT x0, yI x1]
def X156x2 := xU (xE kF e [1, 1, 0, 1, 0, 0] mM (aBs c e))
def B156x3 (c : TC0) (n2 : List UInt8 → Int → Rt) (a49 : Bool) (a3 : Int) (a0 : List UInt8) : Rt :=
 cnd a49 (some [yB false]) (n2 a0 (IntKind.i64.wrap (a3 + (1 : Int))))
def V156x3 (n : Nt) : Bool → Int → List UInt8 → Rt := fun x0 x1 x2 => n [yB x0, yI x1, yT x2]
def aGQ (n2 : Nt) := V156x3 (xD kF e [1, 1, 0, 1, 0, 0, 1, 0, 0, 1, 1, 0] aAa (q156x6 c e n2))
theorem s156x0 : V156x0 (xF kF c e) = B156x0 c (aGR c e) := by kernel_rfl
theorem s156x1 : V156x1 (xA kF c e [1, 0, 1, 0] aAb (q156x1 c e)) = B156x1 c (X156x2 c e) := by kernel_rfl
theorem s156x2 (n2 : Nt) : xU (xA kF c e [1, 1, 0, 1, 0, 0] mM (lpK U0 mM n2 (aBs c e))) = B156x2 c (aGQ c e n2) := by kernel_rfl
theorem s156x3 (n2 : Nt) : V156x3 (xA kF c e [1, 1, 0, 1, 0, 0, 1, 0, 0, 1, 1, 0] aAa (q156x6 c e n2)) = B156x3 c (xU n2) := by kernel_rfl
def J156x3 (c : TC0) (L : Nat) (n2 : List UInt8 → Int → Rt) : Bool → Int → List UInt8 → Rt := B156x3 c n2
theorem j156x3 (n2 : Nt) : aGQ c (cu c L) n2 = J156x3 c L (xU n2) := by rw [aGQ, aQ, s156x3]; rfl
def aCF (c : TC0) (L : Nat) : Nat → List UInt8 → Int → Rt
 | 0 => fun _ _ => none
 | n + 1 => B156x2 c (J156x3 c L (aCF c L n))
theorem u156x2 (n : Nat) : xU (xL kF c L [1, 1, 0, 1, 0, 0] mM (aBs c (cu c L)) n) = aCF c L n := by
 induction n with
 | zero => rfl
 | succ n ih => rw [eM, s156x2]; simp only [j156x3, ih]; rfl
theorem w156x2 : X156x2 c (cu c L) = aCF c L L := u156x2 c L L
def J156x1 (c : TC0) (L : Nat) : Bool → List UInt8 → Rt := B156x1 c (aCF c L L)
theorem j156x1 : aGR c (cu c L) = J156x1 c L := by rw [aGR, aQ, s156x1]; simp only [w156x2]; rfl
def F156 (c : TC0) (L : Nat) : List UInt8 → Rt := B156x0 c (J156x1 c L)
theorem e156 : V156x0 (xF kF c (cu c L)) = F156 c L := by rw [s156x0]; simp only [j156x1]; rfl
theorem c156 (a0 : List UInt8) (L n : Nat) : CTp L (n + 1) 156 [yT a0] = F156 (CTp L n) L a0 := by rw [← e156]; exact cg (x := kF) (by kernel_rfl) (by kernel_rfl) L n _
end
end Go.TV
namespace Go.TV
open Go.AI Go.PI Go.Proofs
def kB : List UInt8 := [108, 105, 115, 112]
def isA (t : G.T) (s : List UInt8) (k : Int) : Bool := decide (t.kind = 3) && decide (t.name = ⟨kB, s⟩) && decide ((t.args.length : Int) = k)
def tsi (t : G.T) (s : List UInt8) (k : Int) : TVs := [yR 3 t, yT s, yI k]
theorem obL_y {β : Type} {b : G.Y} {K : G.Y × Unit → Option β} : obL (D := U0.D) [.rc 1] (some [yR 1 b]) K = K (b, ()) := rfl
theorem aFd {β : Type} {b : Bool} {t : G.T} {K : Bool × G.T × Unit → Option β} : obL (D := U0.D) [.bool, .rc 3] (some [yB b, yR 3 t]) K = K (b, t, ()) := rfl
theorem Lisp_ok {s : List UInt8} {L n : Nat} : CTp L (n + 1) 31 [yT s] = some [yR 1 (⟨kB, s⟩ : G.Y)] := by
 rw [c31]; rfl
theorem Is_ok {t : G.T} {s : List UInt8} {k : Int} {L n : Nat} : CTp L (n + 2) 57 (tsi t s k) = some (bb (isA t s k)) := by
 show CTp L (n + 1 + 1) 57 [yR 3 _, yT _, yI _] = _
 rw [c57, F57, B57x0, Lisp_ok, obL_y]
 simp only [J57x1, B57x1, isA]
 by_cases e1 : t.kind = 3
 ·by_cases e2 : t.name = ⟨kB, s⟩
  ·simp [e1, e2, cnd, bb]
  ·simp [e1, e2, cnd, bb]
 ·simp [e1, cnd, bb]
theorem IsP_ok {t : G.T} {s : List UInt8} {k : Int} {L n : Nat} : CTp L (n + 1) 99 (tsi t s k) = some (bb (isA t s k)) := by
 show CTp L (n + 1) 99 [yR 3 _, yT _, yI _] = _
 rw [c99, F99, B99x0]
 simp only [J99x1, B99x1, isA]
 cases t with | mk kk nm v l =>
 cases nm with | mk p q =>
 by_cases e1 : kk = 3
 ·by_cases e2 : p = kB
  ·by_cases e3 : q = s
   ·simp [G.T.kind, G.T.name, G.T.args, G.Y.package, G.Y.name, kB, e1, e2, e3, cnd, bb]
   ·simp [G.T.kind, G.T.name, G.T.args, G.Y.package, G.Y.name, kB, e1, e2, e3, cnd, bb]
  ·have e2' : ¬ p = [108, 105, 115, 112] := e2
   simp [G.T.kind, G.T.name, G.T.args, G.Y.package, G.Y.name, kB, e1, e2', cnd, bb]
 ·simp [G.T.kind, e1, cnd, bb]
mutual
def gnd : G.T → Bool
 | ⟨k, _, _, l⟩ => !decide (k = 1) && (!decide (k = 3) || gnd' l)
def gnd' : List G.T → Bool
 | [] => true
 | x :: l => gnd x && gnd' l
end
theorem Gnd_loop {c : TC0} {L : Nat} {a : List G.T} (hb : a.length < 1000000000) : ∀ (l : List G.T) (k m : Nat), a.drop k = l → l.length < m →
    (∀ x, x ∈ l → c 96 [yR 3 x] = some (bb (gnd x))) → aAF c L m (a.length : Int) a (k : Int) = some (bb (gnd' l)) := by
 intro l
 induction l with
 | nil =>
  intro k m h1 h3 _
  obtain ⟨m, rfl⟩ : ∃ m', m = m' + 1 := ⟨m - 1, by simp at h3; omega⟩
  have e1 := aK h1
  have e3 : decide ((k : Int) < (a.length : Int)) = false := by simp; omega
  rw [aAF, B96x1, e3, aE, gnd']; rfl
 | cons x l ih =>
  intro k m h1 h3 hc
  obtain ⟨m, rfl⟩ : ∃ m', m = m' + 1 := ⟨m - 1, by simp at h3; omega⟩
  obtain ⟨a1, a2, a3⟩ := aL h1
  have e3 : decide ((k : Int) < (a.length : Int)) = true := by simp; omega
  have hxy : c 96 [yR 3 x] = some [yB (gnd x)] := hc x (mhE ..)
  rw [aAF, B96x1, e3, aM, aJ, a1, cO, hxy, bN, bO (by omega), gnd']
  cases gnd x with
  | false => simp [cnd, bb]
  | true =>
   simp only [aE, bnT]
   rw [ih (k + 1) m a3 (by simp at h3; omega) fun z hz => hc z (mtE _ hz)]
   simp
theorem GndW_ok : ∀ (t : G.T), wfT t → ∀ (L n : Nat), tsz t ≤ L → tsz t ≤ n → CTp L n 96 [yR 3 t] = some (bb (gnd t)) := by
 intro t
 induction t using bP with
 | h k nm v l ih =>
  intro hw L n hL hn
  simp only [wfT, tsz] at hw hL hn
  have hlen := cG l
  obtain ⟨n, rfl⟩ : ∃ n', n = n' + 2 := ⟨n - 2, by omega⟩
  have h1 : CTp L (n + 1) 122 [yR 3 ⟨k, nm, v, l⟩] = some [yB (!decide (k = 1))] := by rw [c122]; rfl
  show CTp L (n + 1 + 1) 96 [yR 3 _] = _
  rw [c96, F96, B96x0, h1, bN, gnd]
  by_cases e : k = 1
  ·simp [e, cnd, bb]
  ·by_cases e2 : k = 3
   ·simp only [e, e2, decide_false, decide_true, Bool.not_false, bnT, aE, aM, G.T.kind, G.T.args, Bool.true_and, Bool.false_or]
    exact Gnd_loop (by omega) l 0 L rfl (by omega) fun x hx => ih x hx (by have := aG hx; simp only [wfT]; omega) L (n + 1) (by have := aG hx; omega) (by have := aG hx; omega)
   ·simp [e, e2, cnd, bb, J96x2, B96x2, G.T.kind]
theorem Gnd_ok (t : G.T) (hw : wfT t) (L n : Nat) (hL : tsz t ≤ L) (hn : tsz t < n) : CTp L n 76 [yR 3 t] = some (bb (gnd t)) := by
 obtain ⟨n, rfl⟩ : ∃ n', n = n' + 1 := ⟨n - 1, by omega⟩
 rw [c76, F76, B76x0]
 have := GndW_ok t hw L n hL (by omega)
 simp only [bb] at this
 rw [this, bN]; rfl
end Go.TV
