/-
  Contracts: quivers.
-/
import Derived.Test.YtpngpgbmkkjjgaaC1
namespace Go.Proofs.Ytpngpgbmkkjjgaa
open Go.RowKit

structure Quiver where
  vertices : Int
  src : List Int
  tgt : List Int
deriving DecidableEq

def Shp.quiver : Shp Quiver := ⟨3, fun w cs x S => ∃ a n c a' n' c' S1 S2, cs = [.int .i64 x.vertices, .slice a n c, .slice a' n' c'] ∧ fits x.vertices ∧ SliceRd Shp.int w a n c x.src S1 ∧ SliceRd Shp.int w a' n' c' x.tgt S2 ∧ S = S1 ++ S2⟩
theorem Shp.quiver_good : Shp.quiver.Good where
  pos := by simp [Shp.quiver]
  len := by rintro w cs x S ⟨a, n, c, a', n', c', S1, S2, rfl, _⟩; rfl
  one := by rintro w cs x S ⟨a, n, c, a', n', c', S1, S2, rfl, _⟩ u hu; simp at hu; rcases hu with rfl | rfl | rfl <;> rfl
  keep := by
    rintro w w' cs x S ⟨a, n, c, a', n', c', S1, S2, h, hf, h1, h2, rfl⟩ hk
    exact ⟨a, n, c, a', n', c', S1, S2, h, hf, h1.keep Shp.int_good (fun b hb => hk b (by simp [hb])), h2.keep Shp.int_good (fun b hb => hk b (by simp [hb])), rfl⟩
  lt := by
    rintro w cs x S ⟨a, n, c, a', n', c', S1, S2, h, hf, h1, h2, rfl⟩ b hb
    rcases List.mem_append.1 hb with h' | h'
    · exact h1.lt Shp.int_good b h'
    · exact h2.lt Shp.int_good b h'

/-- What StarOf returns. -/
def starV (n : Int) : Quiver := if inR n 1 4 then ⟨n + 1, (List.range n.toNat).map fun i : Nat => (i : Int), List.replicate n.toNat n⟩ else ⟨0, [], []⟩



/-! ### the laws' own comparisons and marks of quivers -/

set_option maxHeartbeats 400000 in
theorem c_eqQuiver (cs1 cs2 : Array Value) (x : Quiver) (S1 S2 : List Nat) (w : World) (h1 : Shp.quiver.rd w cs1.toList x S1) (h2 : Shp.quiver.rd w cs2.toList x S2) :
    Calls Try.prog 14 #[.agg cs1, .agg cs2] w (Ret w fun v _ => v = .bool true) := by
  obtain ⟨a1, n1, c1, a1', n1', c1', T1, T1', e1, f1, r1, r1', -⟩ := h1
  obtain ⟨a2, n2, c2, a2', n2', c2', T2, T2', e2, f2, r2, r2', -⟩ := h2
  obtain rfl := arr_of e1
  obtain rfl := arr_of e2
  have b0 : Below w.heap.size w ((w.alloc (.cells #[.int .i64 x.vertices, .slice a1 n1 c1, .slice a1' n1' c1'] 27)).alloc (.cells #[.int .i64 x.vertices, .slice a2 n2 c2, .slice a2' n2' c2'] 27)) := ((Below.refl _ _).alloc (Nat.le_refl _) _).alloc (by simp) _
  have B0 := Lib.hid b0
  have R1 := Lib.hid (r1.row.below b0)
  have R2 := Lib.hid (r2.row.below b0)
  have R1' := Lib.hid (r1'.row.below b0)
  have R2' := Lib.hid (r2'.row.below b0)
  clear r1 r2 r1' r2' e1 e2 f1 f2 b0
  go_enter Try.func14, Try.ntmps14
  go_wp2_with fail
  refine (c_eqIntS _ _ _ _ _ _ _ _ _ R1.out R2.out).mono ?_
  rintro e w1 ⟨rfl, q1, rfl⟩
  have R3 := Lib.hid (R1'.out.below (below_drewN q1 (Below.refl _ _)))
  have R4 := Lib.hid (R2'.out.below (below_drewN q1 (Below.refl _ _)))
  go_wp2_with fail
  refine (c_eqIntS _ _ _ _ _ _ _ _ _ R3.out R4.out).mono ?_
  rintro e w1 ⟨rfl, q2, rfl⟩
  go_wp2
  go_ret
  exact ⟨_, rfl, below_drewN _ B0.out, rfl⟩

def Quiver.marked (x : Quiver) (k : Int) : Quiver := ⟨x.vertices, marks k x.src.length, marks (k + x.src.length) x.tgt.length⟩
def Quiver.size (x : Quiver) : Nat := x.src.length + x.tgt.length


end Go.Proofs.Ytpngpgbmkkjjgaa
