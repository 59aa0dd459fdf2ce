/-
  Contracts: copies of quivers, the zero representation, counting.
-/
import Derived.Test.YtpngpgbmkkjjgaaC8
import Derived.Deep.RegionLaw
namespace Go.Proofs.Ytpngpgbmkkjjgaa
open Go.RowKit

def cellNow (w : World) (a : Addr) : Value := (w.cell? a).getD (.bool false)
theorem cellNow_eq {w : World} {a : Addr} {v : Value} (h : w.cell? a = some v) : w.cell? a = some (cellNow w a) := by simp [cellNow, h]

/-- What stays while a quiver is copied. -/
structure XClone (w : World) (qv : Int) (a1 : Option Addr) (n1 c1 : Nat) (a2 : Option Addr) (n2 c2 : Nat) (qs qt : List Int) (T1 T2 : List Nat) (wr : World) : Prop where
  size : w.heap.size + 2 ≤ wr.heap.size
  box : At wr w.heap.size 0 [.int .i64 qv, .slice a1 n1 c1, .slice a2 n2 c2]
  res : ∃ x y z, At wr (w.heap.size + 1) 0 [x, y, z]
  src : SliceRd Shp.int wr a1 n1 c1 qs T1
  tgt : SliceRd Shp.int wr a2 n2 c2 qt T2
  bel : Below w.heap.size w wr
  low : ∀ b ∈ T1 ++ T2, b < w.heap.size

theorem XClone.below {w : World} {qv : Int} {a1 : Option Addr} {n1 c1 : Nat} {a2 : Option Addr} {n2 c2 : Nat} {qs qt : List Int} {T1 T2 : List Nat} {wr w' : World} (h : XClone w qv a1 n1 c1 a2 n2 c2 qs qt T1 T2 wr) (hb : Below wr.heap.size wr w') : XClone w qv a1 n1 c1 a2 n2 c2 qs qt T1 T2 w' where
  size := Nat.le_trans h.size hb.size
  box := h.box.keep (hb.block _ (by have := h.size; omega))
  res := by obtain ⟨x, y, z, hA⟩ := h.res; exact ⟨x, y, z, hA.keep (hb.block _ (by have := h.size; omega))⟩
  src := h.src.below Shp.int_good hb
  tgt := h.tgt.below Shp.int_good hb
  bel := h.bel.trans (hb.mono h.bel.size)
  low := h.low
theorem XClone.drew {w : World} {qv : Int} {a1 : Option Addr} {n1 c1 : Nat} {a2 : Option Addr} {n2 c2 : Nat} {qs qt : List Int} {T1 T2 : List Nat} {wr : World} (h : XClone w qv a1 n1 c1 a2 n2 c2 qs qt T1 T2 wr) : XClone w qv a1 n1 c1 a2 n2 c2 qs qt T1 T2 wr.drew :=
  h.below ⟨rfl, rfl, rfl, Nat.le_refl _, fun _ _ => rfl⟩
theorem XClone.set {w : World} {qv : Int} {a1 : Option Addr} {n1 c1 : Nat} {a2 : Option Addr} {n2 c2 : Nat} {qs qt : List Int} {T1 T2 : List Nat} {wr : World} (h : XClone w qv a1 n1 c1 a2 n2 c2 qs qt T1 T2 wr) (x y z : Value) :
    XClone w qv a1 n1 c1 a2 n2 c2 qs qt T1 T2 (((wr.setCell ⟨w.heap.size + 1, 0, none⟩ x).setCell ⟨w.heap.size + 1, 1, none⟩ y).setCell ⟨w.heap.size + 1, 2, none⟩ z) := by
  have hfr : Frm [w.heap.size + 1] wr (((wr.setCell ⟨w.heap.size + 1, 0, none⟩ x).setCell ⟨w.heap.size + 1, 1, none⟩ y).setCell ⟨w.heap.size + 1, 2, none⟩ z) := (((Frm.refl _ _).setCell (by simp) _).setCell (by simp) _).setCell (by simp) _
  exact {
    size := by simpa using h.size
    box := h.box.frm hfr (by have := h.size; omega) (by simp)
    res := by
      obtain ⟨x0, y0, z0, hA⟩ := h.res
      exact ⟨_, _, _, ((hA.set 0 x (by simp)).set 1 y (by simp)).set 2 z (by simp)⟩
    src := h.src.frm Shp.int_good hfr (fun b hb hm => by have := h.low b (by simp [hb]); simp at hm; omega)
    tgt := h.tgt.frm Shp.int_good hfr (fun b hb hm => by have := h.low b (by simp [hb]); simp at hm; omega)
    bel := ((h.bel.setCell (Nat.le_succ _) _).setCell (Nat.le_succ _) _).setCell (Nat.le_succ _) _
    low := h.low }
theorem XClone.held {w : World} {qv : Int} {a1 : Option Addr} {n1 c1 : Nat} {a2 : Option Addr} {n2 c2 : Nat} {qs qt : List Int} {T1 T2 : List Nat} {wr : World} (h : XClone w qv a1 n1 c1 a2 n2 c2 qs qt T1 T2 wr) :
    wr.cell? ⟨w.heap.size, 0, none⟩ = some (.int .i64 qv) ∧ wr.cell? ⟨w.heap.size, 1, none⟩ = some (.slice a1 n1 c1) ∧ wr.cell? ⟨w.heap.size, 2, none⟩ = some (.slice a2 n2 c2) ∧
    wr.cell? ⟨w.heap.size + 1, 0, none⟩ = some (cellNow wr ⟨w.heap.size + 1, 0, none⟩) ∧ wr.cell? ⟨w.heap.size + 1, 1, none⟩ = some (cellNow wr ⟨w.heap.size + 1, 1, none⟩) ∧ wr.cell? ⟨w.heap.size + 1, 2, none⟩ = some (cellNow wr ⟨w.heap.size + 1, 2, none⟩) ∧
    wr.frozen? ⟨w.heap.size + 1, 0, none⟩ = false ∧ wr.frozen? ⟨w.heap.size + 1, 1, none⟩ = false ∧ wr.frozen? ⟨w.heap.size + 1, 2, none⟩ = false ∧ Hid (XClone w qv a1 n1 c1 a2 n2 c2 qs qt T1 T2 wr) := by
  obtain ⟨x, y, z, hA⟩ := h.res
  exact ⟨h.box.c0, h.box.c1, h.box.c2, cellNow_eq hA.c0, cellNow_eq hA.c1, cellNow_eq hA.c2, hA.f0, hA.f1, hA.f2, h⟩

theorem clone_done {w : World} {qv : Int} {a1 : Option Addr} {n1 c1 : Nat} {a2 : Option Addr} {n2 c2 : Nat} {qs qt : List Int} {T1 T2 : List Nat} {wr : World} (h : XClone w qv a1 n1 c1 a2 n2 c2 qs qt T1 T2 wr) (hf : fits qv)
    {e B1 B2 : Nat} {v1 v2 : Value} {S1 S2 : List Nat} (h1 : Own e Shp.int wr B1 v1 qs S1) (h2 : Own e Shp.int wr B2 v2 qt S2) (hB1 : w.heap.size + 2 ≤ B1) (hB2 : w.heap.size + 2 ≤ B2) (hd : ∀ b ∈ S1, b ∉ S2) (x y z : Value) :
    ∃ S, Below w.heap.size w (((wr.setCell ⟨w.heap.size + 1, 0, none⟩ x).setCell ⟨w.heap.size + 1, 1, none⟩ y).setCell ⟨w.heap.size + 1, 2, none⟩ z) ∧
      Shp.quiver.rd (((wr.setCell ⟨w.heap.size + 1, 0, none⟩ x).setCell ⟨w.heap.size + 1, 1, none⟩ y).setCell ⟨w.heap.size + 1, 2, none⟩ z) [.int .i64 qv, v1, v2] ⟨qv, qs, qt⟩ S ∧ New w.heap.size S := by
  have hfr : Frm [w.heap.size + 1] wr (((wr.setCell ⟨w.heap.size + 1, 0, none⟩ x).setCell ⟨w.heap.size + 1, 1, none⟩ y).setCell ⟨w.heap.size + 1, 2, none⟩ z) := (((Frm.refl _ _).setCell (by simp) _).setCell (by simp) _).setCell (by simp) _
  obtain ⟨b1, m1, d1, S1', rfl, -, rd1, new1, sub1⟩ := h1.rd
  obtain ⟨b2, m2, d2, S2', rfl, -, rd2, new2, sub2⟩ := h2.rd
  refine ⟨S1' ++ S2', (h.set x y z).bel, ⟨_, _, _, _, _, _, S1', S2', rfl, hf, rd1.frm Shp.int_good hfr (fun b hb hm => ?_), rd2.frm Shp.int_good hfr (fun b hb hm => ?_), rfl⟩, ?_⟩
  · have := new1.2 b hb; simp at hm; omega
  · have := new2.2 b hb; simp at hm; omega
  · exact New.append (new1.mono (by omega)) (new2.mono (by omega)) (fun b hb hm => hd b (sub1 b hb) (sub2 b hm))

set_option maxRecDepth 20000 in
set_option maxHeartbeats 2000000 in
theorem c_Quiver_clone (cs : Array Value) (q : Quiver) (S : List Nat) (w : World) (h : Shp.quiver.rd w cs.toList q S) (hs : q.src.length ≤ 1048576) (ht : q.tgt.length ≤ 1048576) :
    Calls Try.prog 95 #[.agg cs] w (Ret w fun v w' => ∃ cs S, v = .agg cs ∧ Shp.quiver.rd w' cs.toList q S ∧ New w.heap.size S) := by
  obtain ⟨a1, n1, c1, a2, n2, c2, T1, T2, e1, f1, r1, r2, -⟩ := h
  obtain rfl := arr_of e1
  obtain ⟨qv, qs, qt⟩ := q
  simp only at r1 r2 f1 hs ht
  have hn1 : n1 ≤ 1048576 := by rw [← r1.1]; exact hs
  have hn2 : n2 ≤ 1048576 := by rw [← r2.1]; exact ht
  have b0 : Below w.heap.size w (w.alloc (.cells #[.int .i64 qv, .slice a1 n1 c1, .slice a2 n2 c2] 27)) := (Below.refl _ _).alloc (Nat.le_refl _) _
  have b1 : Below (w.alloc (.cells #[.int .i64 qv, .slice a1 n1 c1, .slice a2 n2 c2] 27)).heap.size (w.alloc (.cells #[.int .i64 qv, .slice a1 n1 c1, .slice a2 n2 c2] 27)) ((w.alloc (.cells #[.int .i64 qv, .slice a1 n1 c1, .slice a2 n2 c2] 27)).alloc (.cells #[.int .i64 0, .slice none 0 0, .slice none 0 0] 27)) := (Below.refl _ _).alloc (Nat.le_refl _) _
  have hX : XClone w qv a1 n1 c1 a2 n2 c2 qs qt T1 T2 ((w.alloc (.cells #[.int .i64 qv, .slice a1 n1 c1, .slice a2 n2 c2] 27)).alloc (.cells #[.int .i64 0, .slice none 0 0, .slice none 0 0] 27)) := {
    size := by simp
    box := (At.alloc w #[.int .i64 qv, .slice a1 n1 c1, .slice a2 n2 c2] 27).keep (b1.block _ (by simp))
    res := ⟨.int .i64 0, .slice none 0 0, .slice none 0 0, by have := At.alloc (w.alloc (.cells #[.int .i64 qv, .slice a1 n1 c1, .slice a2 n2 c2] 27)) #[.int .i64 0, .slice none 0 0, .slice none 0 0] 27; rw [World.size_alloc] at this; exact this⟩
    src := (r1.below Shp.int_good b0).below Shp.int_good b1
    tgt := (r2.below Shp.int_good b0).below Shp.int_good b1
    bel := below_then b0 b1
    low := fun b hb => by
      rcases List.mem_append.1 hb with h | h
      · exact r1.lt Shp.int_good b h
      · exact r2.lt Shp.int_good b h }
  have X0 := Lib.hid hX
  have F1 := Lib.hid f1
  clear r1 r2 e1 f1 b0 b1 hX hs ht
  go_enter Try.func95, Try.ntmps95
  go_wp2
  generalize (w.alloc (.cells #[.int .i64 qv, .slice a1 n1 c1, .slice a2 n2 c2] 27)).alloc (.cells #[.int .i64 0, .slice none 0 0, .slice none 0 0] 27) = W at *
  go_region_held3 (fun wr => wr.cell? ⟨w.heap.size, 0, none⟩ = some (.int .i64 qv) ∧ wr.cell? ⟨w.heap.size, 1, none⟩ = some (.slice a1 n1 c1) ∧ wr.cell? ⟨w.heap.size, 2, none⟩ = some (.slice a2 n2 c2) ∧
    wr.cell? ⟨w.heap.size + 1, 0, none⟩ = some (cellNow wr ⟨w.heap.size + 1, 0, none⟩) ∧ wr.cell? ⟨w.heap.size + 1, 1, none⟩ = some (cellNow wr ⟨w.heap.size + 1, 1, none⟩) ∧ wr.cell? ⟨w.heap.size + 1, 2, none⟩ = some (cellNow wr ⟨w.heap.size + 1, 2, none⟩) ∧
    wr.frozen? ⟨w.heap.size + 1, 0, none⟩ = false ∧ wr.frozen? ⟨w.heap.size + 1, 1, none⟩ = false ∧ wr.frozen? ⟨w.heap.size + 1, 2, none⟩ = false ∧ Hid (XClone w qv a1 n1 c1 a2 n2 c2 qs qt T1 T2 wr))
    (first | exact XClone.held (Hid.out (by assumption)) | exact XClone.held (XClone.drew (Hid.out (by assumption))) | exact XClone.held (XClone.set (Hid.out (by assumption)) _ _ _))
    (first
      | (go_at_call 96; refine Calls.mono (c_Clone_int a1 n1 c1 qs T1 _ (XClone.src (Hid.out (by go_split_ands; assumption))) hn1) ?_; rintro e w1 ⟨v1, rfl, hb, S1, hO⟩; obtain ⟨b1, m1, d1, rfl⟩ := hO.form; have XA : Hid (XClone w qv a1 n1 c1 a2 n2 c2 qs qt T1 T2 w1) := XClone.below (Hid.out (by go_split_ands; assumption)) hb; have OA := Lib.hid (And.intro hO hb); clear hO hb)
      | (go_at_call 96; refine Calls.mono (c_Clone_int a2 n2 c2 qt T2 _ (XClone.tgt (Hid.out (by go_split_ands; assumption))) hn2) ?_; rintro e w2 ⟨v2, rfl, hb, S2, hO⟩; obtain ⟨b2, m2, d2, rfl⟩ := hO.form; have XB : Hid (XClone w qv a1 n1 c1 a2 n2 c2 qs qt T1 T2 w2) := XClone.below (Hid.out (by go_split_ands; assumption)) hb; have OB := Lib.hid (And.intro hO hb); clear hO hb))
  obtain ⟨S, hb, hr, hn⟩ := clone_done XB.out F1.out (OA.out.1.below Shp.int_good OB.out.2) OB.out.1 (by have := X0.out.size; show _ ≤ W.heap.size; omega) (by have := XA.out.size; omega) (fun b h1 h2 => by have := OA.out.1.lt Shp.int_good b h1; have := OB.out.1.new.2 b h2; omega) (.int .i64 qv) (.slice b1 m1 d1) (.slice b2 m2 d2)
  have HR := Lib.hid (And.intro hb (And.intro hr hn))
  have HA := Lib.hid XB.out.res
  clear hb hr hn
  go_wp2
  obtain ⟨x, y, z, hA⟩ := HA.out
  have q0 := hA.c0
  have q1 := hA.c1
  have q2 := hA.c2
  refine bodyPost_ret (v := .agg #[.int .i64 qv, .slice b1 m1 d1, .slice b2 m2 d2]) (by simp [results, Try.results95, go_sem, q0, q1, q2]) rfl ⟨_, rfl, HR.out.1, _, S, rfl, HR.out.2.1, HR.out.2.2⟩

/-! ### three blocks of a walk: a parameter, a result, a variable -/

theorem At.cN {w : World} {b : Nat} {cs : List Value} (h : At w b 0 cs) (j : Nat) {x : Value} (hj : cs[j]? = some x) : w.cell? ⟨b, j, none⟩ = some x := by have := (h j x hj).1; rwa [Nat.zero_add] at this
theorem At.fN {w : World} {b : Nat} {cs : List Value} (h : At w b 0 cs) (j : Nat) {x : Value} (hj : cs[j]? = some x) : w.frozen? ⟨b, j, none⟩ = false := by have := (h j x hj).2; rwa [Nat.zero_add] at this

/-- What stays while the forms are appended. -/
structure XZ (w : World) (R : Nat) (bcs ecs rcs : List Value) (wr : World) : Prop where
  box : At wr w.heap.size 0 bcs
  res : At wr (w.heap.size + 1) 0 ecs
  rep : At wr R 0 rcs
  bel : Below w.heap.size w wr
  lo : w.heap.size + 1 < R
  hi : R < wr.heap.size
theorem XZ.below {w : World} {R : Nat} {bcs ecs rcs : List Value} {wr w' : World} (h : XZ w R bcs ecs rcs wr) (hb : Below wr.heap.size wr w') : XZ w R bcs ecs rcs w' where
  box := h.box.keep (hb.block _ (by have := h.lo; have := h.hi; omega))
  res := h.res.keep (hb.block _ (by have := h.lo; have := h.hi; omega))
  rep := h.rep.keep (hb.block _ h.hi)
  bel := h.bel.trans (hb.mono h.bel.size)
  lo := h.lo
  hi := Nat.lt_of_lt_of_le h.hi hb.size
theorem XZ.frm {w : World} {R : Nat} {bcs ecs rcs : List Value} {wr w' : World} {S : List Nat} (h : XZ w R bcs ecs rcs wr) (hb : Frm S wr w') (hS : ∀ b ∈ S, R + 1 ≤ b) : XZ w R bcs ecs rcs w' where
  box := h.box.frm hb (by have := h.lo; have := h.hi; omega) (fun hm => by have := hS _ hm; have := h.lo; omega)
  res := h.res.frm hb (by have := h.lo; have := h.hi; omega) (fun hm => by have := hS _ hm; have := h.lo; omega)
  rep := h.rep.frm hb h.hi (fun hm => by have := hS _ hm; omega)
  bel := h.bel.trans (hb.to_below h.bel.size (fun b hb => by have := hS b hb; have := h.lo; omega))
  lo := h.lo
  hi := Nat.lt_of_lt_of_le h.hi hb.size
theorem XZ.set {w : World} {R : Nat} {bcs ecs rcs : List Value} {wr : World} (h : XZ w R bcs ecs rcs wr) (j : Nat) (v : Value) (hj : j < rcs.length) : XZ w R bcs ecs (rcs.set j v) (wr.setCell ⟨R, j, none⟩ v) where
  box := h.box.setOff (by have := h.lo; show R ≠ _; omega) _
  res := h.res.setOff (by have := h.lo; show R ≠ _; omega) _
  rep := by have := h.rep.set j v hj; rwa [Nat.zero_add] at this
  bel := h.bel.setCell (by have := h.lo; show _ ≤ R; omega) _
  lo := h.lo
  hi := by simpa using h.hi
theorem XZ.drew {w : World} {R : Nat} {bcs ecs rcs : List Value} {wr : World} (h : XZ w R bcs ecs rcs wr) : XZ w R bcs ecs rcs wr.drew := h.below ⟨rfl, rfl, rfl, Nat.le_refl _, fun _ _ => rfl⟩


/-! ### the zero representation -/

def ddN (d : List Int) (j : Int) : Nat := (d[j.toNat]?.getD 0).toNat
def zForm (q : Quiver) (d : List Int) (k : Nat) : Mat := ⟨ddN d (q.tgt[k]?.getD 0), ddN d (q.src[k]?.getD 0), List.replicate (ddN d (q.tgt[k]?.getD 0) * ddN d (q.src[k]?.getD 0)) 0⟩
def zForms (q : Quiver) (d : List Int) (k : Nat) : List Mat := (List.range k).map (zForm q d)
theorem zForms_succ (q : Quiver) (d : List Int) (k : Nat) : zForms q d (k + 1) = zForms q d k ++ [zForm q d k] := by simp [zForms, List.range_succ]

theorem dd_at {q : Quiver} {d : List Int} (h : dimsV q d = true) {l : List Int} (hl : l.all (fun x => inR x 0 (q.vertices - 1)) = true) {k : Nat} (hk : k < l.length) :
    ∃ j : Nat, l[k]?.getD 0 = (j : Int) ∧ j < d.length ∧ d[j]?.getD 0 = (ddN d (l[k]?.getD 0) : Int) ∧ ddN d (l[k]?.getD 0) ≤ 4 := by
  obtain ⟨h1, h2, h3, h4⟩ := dimsV_parts h
  have a := inR_true (all_get (p := fun x => inR x 0 (q.vertices - 1)) (d := 0) hl hk)
  refine ⟨(l[k]?.getD 0).toNat, by omega, by omega, ?_⟩
  have b := inR_true (all_get (p := fun x => inR x 0 4) (d := 0) (k := (l[k]?.getD 0).toNat) h3 (by omega))
  unfold ddN
  omega

theorem et_mat : ElemTy Try.prog 53 107 Shp.mat.size 40 :=
  ElemTy.mk' (z := .agg #[.int .i64 0, .int .i64 0, .slice none 0 0]) Try.underlying53 (by kernel_rfl) rfl

set_option maxRecDepth 20000 in
set_option maxHeartbeats 4000000 in
theorem c_zeroRep (p : Int) (cs : Array Value) (q : Quiver) (S : List Nat) (a : Option Addr) (n c : Nat) (d : List Int) (S' : List Nat) (w : World) (h : Shp.quiver.rd w cs.toList q S) (hd : SliceRd Shp.int w a n c d S') (hv : dimsV q d = true) :
    Calls Try.prog 45 #[.int .i64 p, .agg cs, .slice a n c] w (Ret w fun v w' => ∃ x0 x1 x2 x3 x4 af nf cf S, v = .agg #[x0, x1, x2, x3, x4, .slice af nf cf] ∧ SliceRd Shp.mat w' af nf cf (zForms q d q.src.length) S) := by
  have h0 := h
  obtain ⟨a1, n1, c1, a2, n2, c2, T1, T2, e1, f1, r1, r2, -⟩ := h
  obtain rfl := arr_of e1
  obtain ⟨qv, qs, qt⟩ := q
  have hq := quivV_parts (dimsV_parts hv).1
  simp only at r1 r2 f1 hq
  have hn : n ≤ 5 := by have := (dimsV_parts hv).2.1; have := hd.1; simp only at *; omega
  have hn1 : n1 ≤ 6 := by have := r1.1; omega
  have hn2 : n2 = n1 := by have := r1.1; have := r2.1; omega
  subst hn2
  have b0 : Below w.heap.size w (w.alloc (.cells #[.int .i64 qv, .slice a1 n2 c1, .slice a2 n2 c2] 27)) := (Below.refl _ _).alloc (Nat.le_refl _) _
  have b1 : Below (w.alloc (.cells #[.int .i64 qv, .slice a1 n2 c1, .slice a2 n2 c2] 27)).heap.size (w.alloc (.cells #[.int .i64 qv, .slice a1 n2 c1, .slice a2 n2 c2] 27)) ((w.alloc (.cells #[.int .i64 qv, .slice a1 n2 c1, .slice a2 n2 c2] 27)).alloc (.cells #[.int .i64 0, .int .i64 0, .slice none 0 0, .slice none 0 0, .slice none 0 0, .slice none 0 0] 55)) := (Below.refl _ _).alloc (Nat.le_refl _) _
  have hbox := (At.alloc w #[.int .i64 qv, .slice a1 n2 c1, .slice a2 n2 c2] 27).keep (b1.block _ (by simp))
  have hres := At.alloc (w.alloc (.cells #[.int .i64 qv, .slice a1 n2 c1, .slice a2 n2 c2] 27)) #[.int .i64 0, .int .i64 0, .slice none 0 0, .slice none 0 0, .slice none 0 0, .slice none 0 0] 55
  rw [World.size_alloc] at hres
  have HQ := Lib.hid (c_Quiver_clone _ _ _ _ (Shp.quiver_good.below (Shp.quiver_good.below h0 b0) b1) (by show qs.length ≤ _; omega) (by show qt.length ≤ _; omega))
  have HV := Lib.hid hv
  have HH := Lib.hid hq
  have R1 := Lib.hid r1
  have R2 := Lib.hid r2
  have RD := Lib.hid hd
  have AB := Lib.hid (And.intro hbox (And.intro hres (below_then b0 b1)))
  clear r1 r2 e1 f1 b0 b1 h0 hd hq hv hbox hres
  go_enter Try.func45, Try.ntmps45
  go_wp2_with fail
  refine HQ.out.mono ?_
  rintro e w1 ⟨v, rfl, hb1, cs1, S1, rfl, hr1, -⟩
  obtain ⟨p1, m1, d1, p2, m2, d2, U1, U2, e1, g1, s1, s2, -⟩ := hr1
  obtain rfl := arr_of e1
  have HC := Lib.hid (c_Clone_int a n c d S' w1 (RD.out.below Shp.int_good (below_then AB.out.2.2 hb1)) (by omega))
  have A1 : Hid (At w1 w.heap.size 0 [.int .i64 qv, .slice a1 n2 c1, .slice a2 n2 c2] ∧ At w1 (w.heap.size + 1) 0 [.int .i64 0, .int .i64 0, .slice none 0 0, .slice none 0 0, .slice none 0 0, .slice none 0 0] ∧ Below w.heap.size w w1 ∧ w.heap.size + 2 ≤ w1.heap.size) :=
    ⟨AB.out.1.keep (hb1.block _ (by simp; omega)), AB.out.2.1.keep (hb1.block _ (by simp)), below_then AB.out.2.2 hb1, by have := hb1.size; simpa using this⟩
  clear hb1 e1 g1 s1 s2 HQ AB
  go_wp2_with fail
  refine HC.out.mono ?_
  rintro e w2 ⟨v, rfl, hb2, S2, hO2⟩
  obtain ⟨p3, m3, d3, rfl⟩ := hO2.form
  have A2 : Hid (At w2 w.heap.size 0 [.int .i64 qv, .slice a1 n2 c1, .slice a2 n2 c2] ∧ At w2 (w.heap.size + 1) 0 [.int .i64 0, .int .i64 0, .slice none 0 0, .slice none 0 0, .slice none 0 0, .slice none 0 0] ∧ Below w.heap.size w w2 ∧ w.heap.size + 2 ≤ w2.heap.size) :=
    ⟨A1.out.1.keep (hb2.block _ (by have := A1.out.2.2.2; omega)), A1.out.2.1.keep (hb2.block _ (by have := A1.out.2.2.2; omega)), below_then A1.out.2.2.1 hb2, by have := hb2.size; have := A1.out.2.2.2; omega⟩
  have q1 : ∀ o, (w2.alloc o).cell? ⟨w.heap.size, 1, none⟩ = some (.slice a1 n2 c1) := fun o => (A2.out.1.keep (((Below.refl w2.heap.size w2).alloc (Nat.le_refl _) o).block _ (by have := A2.out.2.2.2; omega))).c1
  clear hb2 hO2 HC A1
  have HX0 : Hid (XZ w w2.heap.size [.int .i64 qv, .slice a1 n2 c1, .slice a2 n2 c2] [.int .i64 0, .int .i64 0, .slice none 0 0, .slice none 0 0, .slice none 0 0, .slice none 0 0] [.int .i64 p, .int .i64 qv, .slice p1 m1 d1, .slice p2 m2 d2, .slice p3 m3 d3, .slice none 0 0]
      (w2.alloc (.cells #[.int .i64 p, .int .i64 qv, .slice p1 m1 d1, .slice p2 m2 d2, .slice p3 m3 d3, .slice none 0 0] 55))) := by
    have b := (Below.refl w2.heap.size w2).alloc (Nat.le_refl _) (.cells #[.int .i64 p, .int .i64 qv, .slice p1 m1 d1, .slice p2 m2 d2, .slice p3 m3 d3, .slice none 0 0] 55)
    have hz := A2.out.2.2.2
    exact ⟨A2.out.1.keep (b.block _ (by omega)), A2.out.2.1.keep (b.block _ (by omega)), At.alloc w2 _ _, below_then A2.out.2.2.1 b, by omega, by simp⟩
  go_wp2
  generalize hR : w2.heap.size = R at *
  clear hR
  generalize (w2.alloc (.cells #[.int .i64 p, .int .i64 qv, .slice p1 m1 d1, .slice p2 m2 d2, .slice p3 m3 d3, .slice none 0 0] 55)) = W at *
  clear q1 A2
  go_loopw [19] (fun i wr => ∃ (k : Nat) (aF : Option Addr) (nF cF : Nat) (SF : List Nat), k ≤ n2 ∧ i = .int .i64 k ∧
    Hid (XZ w R [.int .i64 qv, .slice a1 n2 c1, .slice a2 n2 c2] [.int .i64 0, .int .i64 0, .slice none 0 0, .slice none 0 0, .slice none 0 0, .slice none 0 0] [.int .i64 p, .int .i64 qv, .slice p1 m1 d1, .slice p2 m2 d2, .slice p3 m3 d3, .slice aF nF cF] wr) ∧
    Hid (Own 107 Shp.mat wr (R + 1) (.slice aF nF cF) (zForms ⟨qv, qs, qt⟩ d k) SF)) (fun i _ => n2 - (intOf i).toNat)
  case atStart => exact ⟨0, none, 0, 0, [], Nat.zero_le _, rfl, HX0, Own.nil _ _ _ _⟩
  case round =>
    obtain ⟨k, aF, nF, cF, SF, hk, rfl, HX, HO⟩ := hrel
    by_cases hlt : k < n2
    · obtain ⟨jt, ht1, ht2, ht3, ht4⟩ := dd_at HV.out (l := qt) HH.out.2.2.2.2 (k := k) (by have := R2.out.1; omega)
      obtain ⟨js, hs1, hs2, hs3, hs4⟩ := dd_at HV.out (l := qs) HH.out.2.2.2.1 (k := k) (by have := R1.out.1; omega)
      obtain ⟨bt, ot, rfl, hbt, hct⟩ := R2.out.row.cell (by omega)
      obtain ⟨bs, os, rfl, hbs, hcs⟩ := R1.out.row.cell (by omega)
      have hnl := RD.out.1
      obtain ⟨bd, od, rfl, hbd, hcd⟩ := RD.out.row.cell (by omega)
      have k1 := (hct k hlt).1
      have k2 := (hcs k hlt).1
      have k3 := (hcd jt (by omega)).1
      have k4 := (hcd js (by omega)).1
      rw [ht1] at k1
      rw [hs1] at k2
      rw [ht3] at k3
      rw [hs3] at k4
      have HZ : Hid (zForm ⟨qv, qs, qt⟩ d k = ⟨ddN d (qt[k]?.getD 0), ddN d (qs[k]?.getD 0), List.replicate (ddN d (qt[k]?.getD 0) * ddN d (qs[k]?.getD 0)) 0⟩) := rfl
      generalize ddN d (qt[k]?.getD 0) = r at *
      generalize ddN d (qs[k]?.getD 0) = s at *
      have HELD : Hid (∀ v5 w', XZ w R [.int .i64 qv, .slice (some ⟨bs, os, none⟩) n2 c1, .slice (some ⟨bt, ot, none⟩) n2 c2] [.int .i64 0, .int .i64 0, .slice none 0 0, .slice none 0 0, .slice none 0 0, .slice none 0 0] [.int .i64 p, .int .i64 qv, .slice p1 m1 d1, .slice p2 m2 d2, .slice p3 m3 d3, v5] w' →
          w'.cell? ⟨w.heap.size, 2, none⟩ = some (.slice (some ⟨bt, ot, none⟩) n2 c2) ∧ w'.cell? ⟨bt, ot + k, none⟩ = some (.int .i64 jt) ∧ w'.cell? ⟨bd, od + jt, none⟩ = some (.int .i64 r) ∧ w'.cell? ⟨bd, od + js, none⟩ = some (.int .i64 s) ∧ w'.frozen? ⟨R, 5, none⟩ = false) :=
        fun v5 w' hx => ⟨hx.box.c2, (hx.bel.cell hbt).trans k1, (hx.bel.cell hbd).trans k3, (hx.bel.cell hbd).trans k4, hx.rep.fN 5 rfl⟩
      have h1 := HELD.out _ _ HX.out
      have u1 := (HX.out.bel.cell hbs).trans k2
      have hB : Hid (r * s ≤ 1048576 ∧ r ≤ 1048576 ∧ s ≤ 1048576) := ⟨Nat.le_trans (Nat.mul_le_mul ht4 hs4) (by decide), by omega, by omega⟩
      have z0 : (0 : Int) ≤ (k : Int) := by omega
      have z1 : (k : Int) < (n2 : Int) := by omega
      have z2 : (0 : Int) ≤ (jt : Int) := by omega
      have z3 : (jt : Int) < (n : Int) := by omega
      have z4 : (0 : Int) ≤ (js : Int) := by omega
      have z5 : (js : Int) < (n : Int) := by omega
      have k5 := HX.out.rep.cN 5 rfl
      clear hct hcs hcd ht1 hs1 ht3 hs3 k1 k2 k3 k4 h1 hnl ht2 hs2
      obtain ⟨h1, h2, h3, h4, h5⟩ := HELD.out _ _ HX.out
      go_wp2
      go_region_law
        (first
          | (refine step_app1 et_mat Shp.mat_good rfl (.tmp 25) (.tmp 39) (by rfl) (by rfl) M3.out.2.2.1 M3.out.2.2.2.2 (cs := [.int .i64 r, .int .i64 s, .slice a3 n3 c3]) (by rfl) rfl M3.out.1 M3.out.2.1 M3.out.2.2.2.1 (by simp [zForms]; omega) (by simp [zForms]; omega) ?_; intro v4 w4 S4 hO4 hF4 hS4; obtain ⟨a4, n4, c4, rfl⟩ := hO4.form; have X4 := Lib.hid (X3.out.frm hF4 (M3.out.2.2.1.new.2)); have k8 := X4.out.rep.cN 5 rfl; have k9 := X4.out.rep.fN 5 rfl; have O4 := Lib.hid hO4; clear hO4 hF4 hS4)
          | (go_simp; go_at_call 97; refine Calls.mono (c_zero r s _ hB.out.1 hB.out.2.1 hB.out.2.2) ?_; rintro e w3 ⟨v, rfl, hb3, cs3, S3, rfl, hr3, hn3⟩; obtain ⟨a3, n3, c3, e3, g1, g2, s3⟩ := hr3; obtain rfl := arr_of e3
             have X3 := Lib.hid ((XZ.drew HX.out).below hb3)
             have M3 : Hid (Shp.mat.rd w3 [.int .i64 r, .int .i64 s, .slice a3 n3 c3] ⟨r, s, List.replicate (r * s) 0⟩ S3 ∧ New (R + 1) S3 ∧ Own 107 Shp.mat w3 (R + 1) (.slice aF nF cF) (zForms ⟨qv, qs, qt⟩ d k) SF ∧ (∀ b ∈ SF, b ∉ S3) ∧ R + 1 ≤ w3.heap.size) :=
               ⟨⟨a3, n3, c3, rfl, g1, g2, s3⟩, hn3.mono (HX.out.hi), (HO.out.below Shp.mat_good (w' := wr.drew) ⟨rfl, rfl, rfl, Nat.le_refl _, fun _ _ => rfl⟩).below Shp.mat_good hb3, fun b hb hm => by have := HO.out.lt Shp.mat_good b hb; have := hn3.2 b hm; exact absurd this (Nat.not_le.2 (by assumption)), X3.out.hi⟩
             have k6 := X3.out.rep.cN 5 rfl
             have k7 : ∀ o, (w3.alloc o).cell? ⟨R, 5, none⟩ = some (.slice aF nF cF) := fun o => (X3.out.below ((Below.refl _ _).alloc (Nat.le_refl _) o)).rep.cN 5 rfl
             clear hb3 hn3 g1 g2 s3 e3))
      all_goals (
        go_wp2
        go_roundw
        · refine ⟨k + 1, a4, n4, c4, S4, by omega, by go_num, X4.out.set 5 _ (by simp), ?_⟩
          show Own _ _ _ _ _ _ _
          rw [zForms_succ, HZ.out]
          exact O4.out.setOff Shp.mat_good (fun hm => absurd (show R + 1 ≤ R from O4.out.new.2 _ hm) (by omega)) _
        · simp [intOf]; omega)
    · obtain rfl : k = n2 := by omega
      have p0 := HX.out.rep.cN 0 rfl
      have p1' := HX.out.rep.cN 1 rfl
      have p2' := HX.out.rep.cN 2 rfl
      have p3' := HX.out.rep.cN 3 rfl
      have p4' := HX.out.rep.cN 4 rfl
      have p5' := HX.out.rep.cN 5 rfl
      have o0 := HX.out.res.cN 0 rfl
      have o1 := HX.out.res.cN 1 rfl
      have o2 := HX.out.res.cN 2 rfl
      have o3 := HX.out.res.cN 3 rfl
      have o4 := HX.out.res.cN 4 rfl
      have o5 := HX.out.res.cN 5 rfl
      have i0 := HX.out.res.fN 0 rfl
      have i1 := HX.out.res.fN 1 rfl
      have i2 := HX.out.res.fN 2 rfl
      have i3 := HX.out.res.fN 3 rfl
      have i4 := HX.out.res.fN 4 rfl
      have i5 := HX.out.res.fN 5 rfl
      have HE : Hid (∀ u0 u1 u2 u3 u4 u5 : Value, ∃ S, Below w.heap.size w ((((((wr.setCell ⟨w.heap.size + 1, 0, none⟩ u0).setCell ⟨w.heap.size + 1, 1, none⟩ u1).setCell ⟨w.heap.size + 1, 2, none⟩ u2).setCell ⟨w.heap.size + 1, 3, none⟩ u3).setCell ⟨w.heap.size + 1, 4, none⟩ u4).setCell ⟨w.heap.size + 1, 5, none⟩ u5) ∧
          SliceRd Shp.mat ((((((wr.setCell ⟨w.heap.size + 1, 0, none⟩ u0).setCell ⟨w.heap.size + 1, 1, none⟩ u1).setCell ⟨w.heap.size + 1, 2, none⟩ u2).setCell ⟨w.heap.size + 1, 3, none⟩ u3).setCell ⟨w.heap.size + 1, 4, none⟩ u4).setCell ⟨w.heap.size + 1, 5, none⟩ u5) aF nF cF (zForms ⟨qv, qs, qt⟩ d qs.length) S) := by
        intro u0 u1 u2 u3 u4 u5
        have hfr : Frm [w.heap.size + 1] wr ((((((wr.setCell ⟨w.heap.size + 1, 0, none⟩ u0).setCell ⟨w.heap.size + 1, 1, none⟩ u1).setCell ⟨w.heap.size + 1, 2, none⟩ u2).setCell ⟨w.heap.size + 1, 3, none⟩ u3).setCell ⟨w.heap.size + 1, 4, none⟩ u4).setCell ⟨w.heap.size + 1, 5, none⟩ u5) :=
          ((((((Frm.refl _ _).setCell (by simp) _).setCell (by simp) _).setCell (by simp) _).setCell (by simp) _).setCell (by simp) _).setCell (by simp) _
        obtain ⟨_, _, _, S1', hv1, -, rd1, new1, sub1⟩ := HO.out.rd
        cases hv1
        rw [R1.out.1]
        refine ⟨S1', HX.out.bel.trans (hfr.to_below HX.out.bel.size (fun b hb => by simp at hb; omega)), rd1.frm Shp.mat_good hfr (fun b hb hm => ?_)⟩
        have h1 := new1.2 b hb
        have h2 := HX.out.lo
        simp at hm
        omega
      go_wp2
      obtain ⟨S, hb, hr⟩ := HE.out (.int .i64 p) (.int .i64 qv) (.slice p1 m1 d1) (.slice p2 m2 d2) (.slice p3 m3 d3) (.slice aF nF cF)
      exact bodyPost_ret (v := .agg #[.int .i64 p, .int .i64 qv, .slice p1 m1 d1, .slice p2 m2 d2, .slice p3 m3 d3, .slice aF nF cF]) (by simp [results, Try.results45, go_sem, o0, o1, o2, o3, o4, o5]) rfl ⟨_, rfl, hb, _, _, _, _, _, _, _, _, S, rfl, hr⟩
end Go.Proofs.Ytpngpgbmkkjjgaa
