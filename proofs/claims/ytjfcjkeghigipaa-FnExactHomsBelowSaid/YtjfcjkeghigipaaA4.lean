/-
  The effects of single operations: those that leave the memory as it is. No program stands in this text.
-/
import Derived.Test.YtjfcjkeghigipaaA3
namespace Go.Proofs.Ytjfcjkeghigipaa
open Go.RowKit

section
variable {P : Program} {T : List (Nat × Ty)} (hT : TyOk P T) {dst : Option Tmp} {ty : TypeId} {pos : String} {aft : Array Edge} {g : Option (Nat × Bool)} {ins : Operand → Option AV} {hp : Hp}

theorem repA_sc {w : World} {h : Hp} {u : Us} {ν : Nu} {z : Value} (hz : z.oneCell' = true) : RepA w h u ν (.sc z) z := by
  show z = z ∧ _
  exact ⟨rfl, hz⟩
theorem eff_move {x : Operand} {v : AV} (hx : ins x = some v) : AEff P ⟨dst, .move x, ty, pos, aft, g⟩ ins hp ⟨v, [], [], []⟩ :=
  AEff.pure fun C s ν a w hi _ hs => ⟨a.eval x, by simp [execOp], hs.ev ((hi x (by simp [Op.operands])).trans hx)⟩
theorem eff_assign {x : Operand} {v : AV} (hx : ins x = some v) : AEff P ⟨dst, .assign x, ty, pos, aft, g⟩ ins hp ⟨v, [], [], []⟩ :=
  AEff.pure fun C s ν a w hi _ hs => ⟨a.eval x, by simp [execOp], hs.ev ((hi x (by simp [Op.operands])).trans hx)⟩
theorem eff_pick {c x y : Operand} {t : Bool} {v : AV} (hc : ins c = some (.sc (.bool t))) (hx : ins (if t then x else y) = some v) : AEff P ⟨dst, .pick c x y, ty, pos, aft, g⟩ ins hp ⟨v, [], [], []⟩ :=
  AEff.pure fun C s ν a w hi _ hs => by
    have h1 := hs.ev ((hi c (by simp [Op.operands])).trans hc)
    simp only [RepA, RepB, Rep1] at h1
    refine ⟨a.eval (if t then x else y), ?_, hs.ev ((hi _ ?_).trans hx)⟩
    · simp only [execOp, h1.1]
      cases t <;> simp [asBool]
    · cases t <;> simp [Op.operands]
theorem eff_bin {op : BinOp} {t t' : TypeId} {x y : Operand} {u v z : Value} (hx : ins x = some (.sc u)) (hy : ins y = some (.sc v)) (hz : z.oneCell' = true)
    (hr : ∀ w, (do eqGuard op t x y u v; binOp op t u v : Sem Value).run P w = .ok z w) : AEff P ⟨dst, .binOp op t x y t', ty, pos, aft, g⟩ ins hp ⟨.sc z, [], [], []⟩ :=
  AEff.pure fun C s ν a w hi _ hs => by
    have h1 := hs.ev ((hi x (by simp [Op.operands])).trans hx)
    have h2 := hs.ev ((hi y (by simp [Op.operands])).trans hy)
    simp only [RepA, RepB, Rep1] at h1 h2
    refine ⟨z, ?_, repA_sc hz⟩
    simp only [execOp, h1.1, h2.1]
    have := hr w
    simp only [Sem.run_bind, Sem.run_pure] at this ⊢
    rw [this]
    rfl
theorem eff_un {op : UnOp} {t : TypeId} {x : Operand} {u z : Value} (hx : ins x = some (.sc u)) (hz : z.oneCell' = true) (hr : ∀ w, (Op.unary op u).run P w = .ok z w) : AEff P ⟨dst, .unOp op t x, ty, pos, aft, g⟩ ins hp ⟨.sc z, [], [], []⟩ :=
  AEff.pure fun C s ν a w hi _ hs => by
    have h1 := hs.ev ((hi x (by simp [Op.operands])).trans hx)
    simp only [RepA, RepB, Rep1] at h1
    refine ⟨z, ?_, repA_sc hz⟩
    simp [execOp, h1.1, hr w]
theorem eff_convert {t t' : TypeId} {x : Operand} {u z : Value} (hx : ins x = some (.sc u)) (hz : z.oneCell' = true) (hr : ∀ w, (convert t t' u).run P w = .ok z w) : AEff P ⟨dst, .convert t t' x, ty, pos, aft, g⟩ ins hp ⟨.sc z, [], [], []⟩ :=
  AEff.pure fun C s ν a w hi _ hs => by
    have h1 := hs.ev ((hi x (by simp [Op.operands])).trans hx)
    simp only [RepA, RepB, Rep1] at h1
    refine ⟨z, ?_, repA_sc hz⟩
    simp [execOp, h1.1, hr w]
theorem eff_makeFunc {f : FuncId} {caps : Array Operand} {vs : List AV} (hx : caps.toList.map ins = vs.map some) (hv : ∀ v ∈ vs, (∀ cs, v ≠ .agg cs) ∧ (∀ f cs, v ≠ .fn f cs) ∧ ∀ cs, v ≠ .tuple cs) : AEff P ⟨dst, .makeFunc (.func f) #[] caps, ty, pos, aft, g⟩ ins hp ⟨.fn f vs, [], [], []⟩ :=
  AEff.pure fun C s ν a w hi _ hs => by
    refine ⟨.func (.func f) #[] (caps.map a.eval), by simp [execOp, Instr.makeFunc], ?_⟩
    simp only [RepA, RepB]
    refine ⟨caps.toList.map a.eval, by congr 1; apply Array.ext'; simp, ?_⟩
    have hi' : ∀ x ∈ caps.toList, s.ev x = ins x := fun x hx' => hi x (by simp [Op.operands]; exact Array.mem_toList_iff.1 hx')
    revert hx hi' hv
    generalize caps.toList = l
    intro hx hv hi'
    induction l generalizing vs with
    | nil => cases vs with
      | nil => simp [All2]
      | cons v vs => simp at hx
    | cons c l ih =>
      cases vs with
      | nil => simp at hx
      | cons v vs =>
        simp only [List.map_cons, List.cons.injEq] at hx
        simp only [All2, List.map_cons]
        refine ⟨a.eval c, _, rfl, ?_, ih hx.2 (fun u hu => hv u (by simp [hu])) (fun x hx' => hi' x (by simp [hx']))⟩
        have h1 := hs.ev ((hi' c (by simp)).trans hx.1)
        have h2 := hv v (by simp)
        cases v <;> simp only [RepA, RepB] at h1 <;> first
          | exact h1
          | exact absurd rfl (h2.1 _)
          | exact absurd rfl (h2.2.1 _ _)
          | exact absurd rfl (h2.2.2 _)

theorem eff_extract {x : Operand} {i : Nat} {vs : List AV} {v : AV} (hx : ins x = some (.tuple vs)) (hi : vs[i]? = some v) (hv : ∀ cs, v ≠ .tuple cs) : AEff P ⟨dst, .extract x i, ty, pos, aft, g⟩ ins hp ⟨v, [], [], []⟩ :=
  AEff.pure fun C s ν a w hi' _ hs => by
    have h1 := hs.ev ((hi' x (by simp [Op.operands])).trans hx)
    simp only [RepA] at h1
    obtain ⟨us, h1, h2⟩ := h1
    obtain ⟨u, h3, h4⟩ := h2.get hi
    refine ⟨u, by simp [execOp, Instr.extract, h1, h3], ?_⟩
    cases v <;> simp only [RepA] <;> first
      | exact h4
      | exact absurd rfl (hv _)

theorem TyIs.field {P : Program} {t : Nat} {y : Ty} {i : TypeInfo} {z : Value} {d : TypeDesc} {fs : List (Nat × Nat)} (h : TyIs P t y i z d) (hd : y.desc = .struct fs) {f off ft : Nat} (hf : fs[f]? = some (off, ft)) :
    ∃ fields, P.underlying t = some (.struct fields) ∧ ∃ fd, fields[f]? = some fd ∧ fd.offset = off ∧ fd.type = ft := by
  have hdd := h.desc
  rw [hd] at hdd
  have hu := h.und
  cases d <;> simp only [descB, Bool.false_eq_true, beq_iff_eq] at hdd
  rename_i fields
  refine ⟨fields, hu, ?_⟩
  rw [← hdd, List.getElem?_map] at hf
  cases hq : fields.toList[f]? with
  | none => rw [hq] at hf; cases hf
  | some fd => rw [hq] at hf; simp at hf; exact ⟨fd, by simpa using hq, hf.1, hf.2⟩

include hT
theorem eff_fieldAddr_ptr {x : Operand} {st f off ft : Nat} {b i j : Nat} {blk : Blk} {y yf : Ty} {fs : List (Nat × Nat)} (hy : tyOf T st = some y) (hd : y.desc = .struct fs) (hf : fs[f]? = some (off, ft)) (hft : tyOf T ft = some yf) (hsz : yf.size ≠ 0)
    (hx : ins x = some (.ptr b i j)) (hb : hp b = some blk) : AEff P ⟨dst, .fieldAddr st x f, ty, pos, aft, g⟩ ins hp ⟨.ptr b i (j + off), [b], [], []⟩ :=
  AEff.pure fun C s ν a w hi ht hs => by
    have h1 := hs.ev ((hi x (by simp [Op.operands])).trans hx)
    simp only [RepA, RepB, Rep1] at h1
    have hb' : s.heap b = some blk := (ht b (by simp)).trans hb
    obtain ⟨β, c, h2, h3⟩ := h1.2 blk hb'
    obtain ⟨ii, z, d, hy'⟩ := hT.is hy
    obtain ⟨if', zf, df, hyf⟩ := hT.is hft
    obtain ⟨fields, hu, fd, hf1, hf2, hf3⟩ := hy'.field hd hf
    refine ⟨.pointer (some ⟨β, i * blk.k + (j + off), none⟩), ?_, ?_⟩
    · simp only [execOp, Instr.fieldAt, Sem.run_bind, run_und hu, Result.andThen_ok, hf1, h3, Instr.sureAddr, fieldPlace, Sem.run_pure, hf3, run_size hyf.info, hyf.size, hsz, if_false, hf2]
      rw [Addr.add_lit, Nat.add_assoc]
    · simp only [RepA, RepB, Rep1]
      refine ⟨h1.1, fun blk' hb2 => ?_⟩
      rw [hb'] at hb2
      cases hb2
      exact ⟨β, c, h2, rfl⟩
theorem eff_fieldAddr_ref {x : Operand} {st f off ft : Nat} {cs : List AV} {y yf : Ty} {fs : List (Nat × Nat)} (hy : tyOf T st = some y) (hd : y.desc = .struct fs) (hf : fs[f]? = some (off, ft)) (hft : tyOf T ft = some yf) (hsz : yf.size ≠ 0)
    (hx : ins x = some (.ref cs)) : AEff P ⟨dst, .fieldAddr st x f, ty, pos, aft, g⟩ ins hp ⟨.ref (cs.drop off), [], [], []⟩ :=
  AEff.pure fun C s ν a w hi ht hs => by
    have h1 := hs.ev ((hi x (by simp [Op.operands])).trans hx)
    simp only [RepA, RepB, Rep1] at h1
    obtain ⟨S, h1, h2⟩ := h1
    simp only [RepD] at h1
    obtain ⟨b, o, S', h3, h4, rfl, h5⟩ := h1
    obtain ⟨ii, z, d, hy'⟩ := hT.is hy
    obtain ⟨if', zf, df, hyf⟩ := hT.is hft
    obtain ⟨fields, hu, fd, hf1, hf2, hf3⟩ := hy'.field hd hf
    obtain ⟨S2, h6, h7⟩ := h5.drop off
    refine ⟨.pointer (some ⟨b, o + off, none⟩), ?_, ?_⟩
    · simp only [execOp, Instr.fieldAt, Sem.run_bind, run_und hu, Result.andThen_ok, hf1, h3, Instr.sureAddr, fieldPlace, Sem.run_pure, hf3, run_size hyf.info, hyf.size, hsz, if_false, hf2]
      rw [Addr.add_lit]
    · simp only [RepA, RepB, Rep1]
      refine ⟨b :: S2, ?_, ?_⟩
      · simp only [RepD]
        exact ⟨b, o + off, S2, rfl, h4, rfl, h6⟩
      · intro y hy
        rcases List.mem_cons.1 hy with rfl | h'
        · exact h2 y (by simp)
        · exact h2 y (by simp [h7 y h'])

def pack (agg : Bool) (cs : List AV) : AV := bif agg then .agg cs else cs.headD .dead

theorem eff_load_ptr {x : Operand} {t : Nat} {y : Ty} {b i j : Nat} {blk : Blk} {cs : List AV} (hy : tyOf T t = some y) (h1 : (y.desc.isAgg || Nat.beq y.size 1) = true) (hx : ins x = some (.ptr b i j)) (hb : hp b = some blk) (hi : blk.es[i]? = some cs) (hn : j + y.size ≤ cs.length) :
    AEff P ⟨dst, .load t x, ty, pos, aft, g⟩ ins hp ⟨pack y.desc.isAgg (((cs.drop j).take y.size).map view), [b], [], []⟩ :=
  AEff.pure fun C s ν a w hi' ht hs => by
    have hp1 := hs.ev ((hi' x (by simp [Op.operands])).trans hx)
    simp only [RepA, RepB, Rep1] at hp1
    have hb' : s.heap b = some blk := (ht b (by simp)).trans hb
    obtain ⟨β, c, h2, h3⟩ := hp1.2 blk hb'
    obtain ⟨φ, hh⟩ := hs.heap
    obtain ⟨β', c', vs, e1, e2, e3, e4, e5⟩ := hh.cells hb' hi hn
    rw [h2] at e1
    cases e1
    obtain ⟨ii, z, d, hy'⟩ := hT.is hy
    have hr := run_loadVar_cells (P := P) hy' (w := w) (b := β) (o := i * blk.k + j) (vs := vs) e2 (fun hg => by rw [hg] at h1; simpa using Nat.eq_of_beq_eq_true h1) (fun m u hu => (e4 m u hu).1)
    refine ⟨_, by simp only [execOp, Instr.loadAt, h3, Instr.sureAddr, Sem.run_bind, Sem.run_pure, Result.andThen_ok]; rw [hr]; rfl, ?_⟩
    cases hg : y.desc.isAgg with
    | true =>
      simp only [pack, cond_true, if_true, RepA, RepB]
      exact ⟨vs, rfl, e3⟩
    | false =>
      rw [hg] at h1
      have hs1 : y.size = 1 := Nat.eq_of_beq_eq_true (by simpa using h1)
      simp only [pack, cond_false]
      revert e2 e3 e5
      generalize ((cs.drop j).take y.size).map view = ds
      intro e2 e3 e5
      match ds, vs, e3 with
      | [], vs, e3 => simp only [All2] at e3; subst e3; simp [hs1] at e2
      | d :: ds, vs, e3 =>
        obtain ⟨v, r, rfl, e6, e7⟩ := e3
        simp only [List.headD_cons, List.getElem?_cons_zero, Option.getD_some]
        have : RepB w s.heap s.used ν d v ∧ RepA w s.heap s.used ν d v := by
          cases d <;> simp only [RepA, RepB, Rep1] at e6 ⊢ <;> first | exact ⟨e6, e6⟩ | exact e6.elim
        exact this.2

def plainD : AV → Bool
  | .sc _ => true
  | .list _ _ => true
  | .ref _ => true
  | _ => false
omit hT in
theorem RepD.rep1 {w : World} {h : Hp} {u : Us} {ν : Nu} {x : AV} {v : Value} {S : List Nat} (r : RepD w x v S) (hp : plainD x = true) (hf : ∀ y ∈ S, Free h ν y) : Rep1 w h u ν x v := by
  cases x <;> simp only [plainD, Bool.false_eq_true] at hp
  · simp only [RepD] at r; exact ⟨r.1, r.2.1⟩
  · exact ⟨S, r, hf⟩
  · exact ⟨S, r, hf⟩
omit hT in
theorem RepVs.rep1 {w : World} {h : Hp} {u : Us} {ν : Nu} : ∀ {cs : List AV} {vs : List Value} {S : List Nat}, RepVs w cs vs S → (cs.all plainD) = true → (∀ y ∈ S, Free h ν y) → All2 (Rep1 w h u ν) cs vs
  | [], _, _, r, _, _ => by simp only [RepVs] at r; simp [All2, r.1]
  | c :: cs, vs, S, r, hp, hf => by
    simp only [RepVs] at r
    obtain ⟨v, r, S1, S2, rfl, rfl, h3, h4⟩ := r
    simp only [List.all_cons, Bool.and_eq_true] at hp
    exact ⟨v, r, rfl, h3.rep1 hp.1 (fun y hy => hf y (by simp [hy])), h4.rep1 hp.2 (fun y hy => hf y (by simp [hy]))⟩
omit hT in
theorem Rep1.repA {w : World} {h : Hp} {u : Us} {ν : Nu} {x : AV} {v : Value} (r : Rep1 w h u ν x v) : RepA w h u ν x v := by
  cases x <;> simp only [RepA, RepB, Rep1] at r ⊢ <;> first | exact r | exact r.elim
omit hT in
theorem Rep1.repB {w : World} {h : Hp} {u : Us} {ν : Nu} {x : AV} {v : Value} (r : Rep1 w h u ν x v) : RepB w h u ν x v := by
  cases x <;> simp only [RepB, Rep1] at r ⊢ <;> first | exact r | exact r.elim

theorem eff_load_ref {x : Operand} {t : Nat} {y : Ty} {cs : List AV} (hy : tyOf T t = some y) (h1 : (y.desc.isAgg || Nat.beq y.size 1) = true) (hx : ins x = some (.ref cs)) (hn : y.size ≤ cs.length) (hpl : (cs.take y.size).all plainD = true) :
    AEff P ⟨dst, .load t x, ty, pos, aft, g⟩ ins hp ⟨pack y.desc.isAgg (cs.take y.size), [], [], []⟩ :=
  AEff.pure fun C s ν a w hi' ht hs => by
    have hp1 := hs.ev ((hi' x (by simp [Op.operands])).trans hx)
    simp only [RepA, RepB, Rep1, RepD] at hp1
    obtain ⟨S, ⟨b, o, S', h3, h4, rfl, h5⟩, h2⟩ := hp1
    obtain ⟨us, g1, g2, g3, g4⟩ := h5.vals
    obtain ⟨S2, g5, g6⟩ := g1.take y.size
    obtain ⟨ii, z, d, hy'⟩ := hT.is hy
    have hl : (us.take y.size).length = y.size := by simp; omega
    have hr := run_loadVar_cells (P := P) hy' (w := w) (b := b) (o := o) (vs := us.take y.size) hl (fun hg => by rw [hg] at h1; simpa using Nat.eq_of_beq_eq_true h1) (fun m u hu => by
      have hm : m < y.size := by
        rcases Nat.lt_or_ge m y.size with h' | h'
        · exact h'
        · rw [List.getElem?_eq_none (by omega)] at hu; cases hu
      rw [List.getElem?_take_of_lt hm] at hu
      exact (g4 m u hu).1)
    refine ⟨_, by simp only [execOp, Instr.loadAt, h3, Instr.sureAddr, Sem.run_bind, Sem.run_pure, Result.andThen_ok]; rw [hr]; rfl, ?_⟩
    have e3 := g5.rep1 (u := s.used) hpl (fun y hy => h2 y (by simp [g6 y hy]))
    cases hg : y.desc.isAgg with
    | true =>
      simp only [pack, cond_true, if_true, RepA, RepB]
      exact ⟨_, rfl, e3⟩
    | false =>
      rw [hg] at h1
      have hs1 : y.size = 1 := Nat.eq_of_beq_eq_true (by simpa using h1)
      simp only [pack, cond_false]
      revert e3 hl
      generalize us.take y.size = vs
      generalize cs.take y.size = ds
      intro hl e3
      match ds, vs, e3 with
      | [], vs, e3 => simp only [All2] at e3; subst e3; simp [hs1] at hl
      | d :: ds, vs, e3 =>
        obtain ⟨v, r, rfl, e6, e7⟩ := e3
        simp only [List.headD_cons, List.getElem?_cons_zero, Option.getD_some]
        exact e6.repA

omit hT in
theorem TyIs.slice {P : Program} {t : Nat} {y : Ty} {i : TypeInfo} {z : Value} {d : TypeDesc} {e : Nat} (h : TyIs P t y i z d) (hd : y.desc = .slice e) : P.underlying t = some (.slice e) := by
  have hdd := h.desc
  rw [hd] at hdd
  have hu := h.und
  cases d <;> simp only [descB, Bool.false_eq_true, beq_iff_eq, Bool.and_eq_true] at hdd
  rw [hu]
  rw [hdd]
omit hT in
theorem TyIs.array {P : Program} {t : Nat} {y : Ty} {i : TypeInfo} {z : Value} {d : TypeDesc} {n e : Nat} (h : TyIs P t y i z d) (hd : y.desc = .array n e) : P.underlying t = some (.array n e) := by
  have hdd := h.desc
  rw [hd] at hdd
  have hu := h.und
  cases d <;> simp only [descB, Bool.false_eq_true, beq_iff_eq, Bool.and_eq_true] at hdd
  rw [hu]
  rw [hdd.1, hdd.2]

theorem eff_indexAddr_list {x ix : Operand} {t e k : Nat} {y ye : Ty} {es : List (List AV)} {kk : IntKind} {m : Nat} {cs : List AV} (hy : tyOf T t = some y) (hd : y.desc = .slice e) (hye : tyOf T e = some ye) (hk : ye.size = k)
    (hx : ins x = some (.list k es)) (hix : ins ix = some (.sc (.int kk (m : Int)))) (hm : es[m]? = some cs) : AEff P ⟨dst, .indexAddr t x ix, ty, pos, aft, g⟩ ins hp ⟨.ref cs, [], [], []⟩ :=
  AEff.pure fun C s ν a w hi ht hs => by
    have h1 := hs.ev ((hi x (by simp [Op.operands])).trans hx)
    have h2 := hs.ev ((hi ix (by simp [Op.operands])).trans hix)
    simp only [RepA, RepB, Rep1, RepD] at h1 h2
    obtain ⟨S, ⟨ao, c, h3, h4, h5, h6⟩, h7⟩ := h1
    have hml : m < es.length := by
      rcases Nat.lt_or_ge m es.length with h' | h'
      · exact h'
      · rw [List.getElem?_eq_none h'] at hm; cases hm
    rcases h6 with ⟨h6, _⟩ | ⟨b, o, S', rfl, h8, rfl, h9⟩
    · rw [h6] at hml; simp at hml
    · obtain ⟨g1, S2, g2, g3⟩ := h9.at hm
      obtain ⟨i1, z1, d1, y1⟩ := hT.is hy
      obtain ⟨i2, z2, d2, y2⟩ := hT.is hye
      refine ⟨.pointer (some ⟨b, o + m * k, none⟩), ?_, ?_⟩
      · have hin : (0 : Int) ≤ m ∧ (m : Int) < (es.length : Int) := by omega
        simp only [execOp, Instr.indexAt, h3, h2.1, asIntOf, Sem.run_bind, Sem.run_pure, Result.andThen_ok, run_und (y1.slice hd), Sem.run_ite]
        rw [if_pos hin]
        simp only [Sem.run_bind, Sem.run_pure, Result.andThen_ok, run_size y2.info, y2.size, hk, Int.toNat_natCast]
        rw [Addr.add_lit]
      · simp only [RepA, RepB, Rep1]
        refine ⟨b :: S2, ?_, ?_⟩
        · simp only [RepD]
          exact ⟨b, o + m * k, S2, rfl, h8, rfl, g2⟩
        · intro y hy
          rcases List.mem_cons.1 hy with rfl | h'
          · exact h7 y (by simp)
          · exact h7 y (by simp [g3 y h'])

theorem eff_indexAddr_own {x ix : Operand} {t e : Nat} {y ye : Ty} {b i n : Nat} {blk : Blk} {kk : IntKind} {m : Nat} (hy : tyOf T t = some y) (hd : y.desc = .slice e) (hye : tyOf T e = some ye) (hb : hp b = some blk) (hk : ye.size = blk.k)
    (hx : ins x = some (.own b i n)) (hix : ins ix = some (.sc (.int kk (m : Int)))) (hm : m < n) : AEff P ⟨dst, .indexAddr t x ix, ty, pos, aft, g⟩ ins hp ⟨.ptr b (i + m) 0, [b], [], []⟩ :=
  AEff.pure fun C s ν a w hi ht hs => by
    have h1 := hs.ev ((hi x (by simp [Op.operands])).trans hx)
    have h2 := hs.ev ((hi ix (by simp [Op.operands])).trans hix)
    simp only [RepA, RepB, Rep1] at h1 h2
    have hb' : s.heap b = some blk := (ht b (by simp)).trans hb
    obtain ⟨h3, h4, h5⟩ := h1.2 blk hb'
    obtain ⟨φ, hh⟩ := hs.heap
    obtain ⟨_, ⟨_, hx⟩, _, _⟩ := hh.blk b blk hb'
    rcases hx with ⟨q1, q2, _⟩ | ⟨β, c, arr, ty', T', vs, q1, q2, q3, q4, q5, q6, q7, q8⟩
    · rw [q2] at h3; simp at h3; omega
    · obtain ⟨i1, z1, d1, y1⟩ := hT.is hy
      obtain ⟨i2, z2, d2, y2⟩ := hT.is hye
      refine ⟨.pointer (some ⟨β, (i + m) * blk.k + 0, none⟩), ?_, ?_⟩
      · have hin : (0 : Int) ≤ m ∧ (m : Int) < (n : Int) := by omega
        simp only [execOp, Instr.indexAt, (h5 β c q1).pos (by omega), h2.1, asIntOf, Sem.run_bind, Sem.run_pure, Result.andThen_ok, run_und (y1.slice hd), Sem.run_ite]
        rw [if_pos hin]
        simp only [Sem.run_bind, Sem.run_pure, Result.andThen_ok, run_size y2.info, y2.size, hk, Int.toNat_natCast]
        rw [Addr.add_lit, Nat.add_mul, Nat.add_zero]
      · simp only [RepA, RepB, Rep1]
        refine ⟨h1.1, fun blk' hb2 => ?_⟩
        rw [hb'] at hb2
        cases hb2
        exact ⟨β, c, q1, rfl⟩

theorem eff_indexAddr_arr {x ix : Operand} {t e : Nat} {y ye : Ty} {b i j n : Nat} {blk : Blk} {kk : IntKind} {m : Nat} (hy : tyOf T t = some y) (hd : y.desc = .array n e) (hye : tyOf T e = some ye) (hb : hp b = some blk)
    (hx : ins x = some (.ptr b i j)) (hix : ins ix = some (.sc (.int kk (m : Int)))) (hm : m < n) : AEff P ⟨dst, .indexAddr t x ix, ty, pos, aft, g⟩ ins hp ⟨.ptr b i (j + m * ye.size), [b], [], []⟩ :=
  AEff.pure fun C s ν a w hi ht hs => by
    have h1 := hs.ev ((hi x (by simp [Op.operands])).trans hx)
    have h2 := hs.ev ((hi ix (by simp [Op.operands])).trans hix)
    simp only [RepA, RepB, Rep1] at h1 h2
    have hb' : s.heap b = some blk := (ht b (by simp)).trans hb
    obtain ⟨β, c, h3, h4⟩ := h1.2 blk hb'
    obtain ⟨i1, z1, d1, y1⟩ := hT.is hy
    obtain ⟨i2, z2, d2, y2⟩ := hT.is hye
    refine ⟨.pointer (some ⟨β, i * blk.k + (j + m * ye.size), none⟩), ?_, ?_⟩
    · have hin : (0 : Int) ≤ m ∧ (m : Int) < (n : Int) := by omega
      simp only [execOp, Instr.indexAt, h4, h2.1, asIntOf, Sem.run_bind, Sem.run_pure, Result.andThen_ok, run_und (y1.array hd), Sem.run_ite, Instr.sureAddr]
      rw [if_pos hin]
      simp only [Sem.run_bind, Sem.run_pure, Result.andThen_ok, run_size y2.info, y2.size, Int.toNat_natCast]
      rw [Addr.add_lit, Nat.add_assoc]
    · simp only [RepA, RepB, Rep1]
      refine ⟨h1.1, fun blk' hb2 => ?_⟩
      rw [hb'] at hb2
      cases hb2
      exact ⟨β, c, h3, rfl⟩

theorem eff_len_list {x : Operand} {t e k : Nat} {y : Ty} {es : List (List AV)} {dty : TypeId} (hy : tyOf T t = some y) (hd : y.desc = .slice e) (hx : ins x = some (.list k es)) :
    AEff P ⟨dst, .call ⟨.builtin .len, #[x], #[t]⟩, dty, pos, aft, g⟩ ins hp ⟨.sc (.int .i64 es.length), [], [], []⟩ :=
  AEff.pure fun C s ν a w hi ht hs => by
    have h1 := hs.ev ((hi x (by simp [Op.operands, Call.operands])).trans hx)
    simp only [RepA, RepB, Rep1, RepD] at h1
    obtain ⟨S, ⟨ao, c, h3, h4, h5, h6⟩, h7⟩ := h1
    obtain ⟨i1, z1, d1, y1⟩ := hT.is hy
    refine ⟨.int .i64 es.length, ?_, repA_sc rfl⟩
    simp [execOp, resolve, invoke, builtin, Builtin.len_, h3, run_und (y1.slice hd), goInt]
theorem eff_len_own {x : Operand} {t e : Nat} {y : Ty} {b i n : Nat} {blk : Blk} {dty : TypeId} (hy : tyOf T t = some y) (hd : y.desc = .slice e) (hb : hp b = some blk) (hx : ins x = some (.own b i n)) :
    AEff P ⟨dst, .call ⟨.builtin .len, #[x], #[t]⟩, dty, pos, aft, g⟩ ins hp ⟨.sc (.int .i64 n), [b], [], []⟩ :=
  AEff.pure fun C s ν a w hi ht hs => by
    have h1 := hs.ev ((hi x (by simp [Op.operands, Call.operands])).trans hx)
    simp only [RepA, RepB, Rep1] at h1
    have hb' : s.heap b = some blk := (ht b (by simp)).trans hb
    obtain ⟨h3, h4, h5⟩ := h1.2 blk hb'
    obtain ⟨i1, z1, d1, y1⟩ := hT.is hy
    obtain ⟨φ, hh⟩ := hs.heap
    obtain ⟨_, ⟨_, hx⟩, _, _⟩ := hh.blk b blk hb'
    refine ⟨.int .i64 n, ?_, repA_sc rfl⟩
    rcases hx with ⟨q1, q2, _⟩ | ⟨β, c, arr, ty', T', vs, q1, q2, q3, q4, q5, q6, q7, q8⟩
    · rw [q2] at h3
      have : n = 0 := by simp at h3; omega
      subst this
      simp [execOp, resolve, invoke, builtin, Builtin.len_, h4 q1, run_und (y1.slice hd), goInt]
    · obtain ⟨o, ho, _⟩ := h5 β c q1
      simp [execOp, resolve, invoke, builtin, Builtin.len_, ho, run_und (y1.slice hd), goInt]
theorem eff_len_nil {x : Operand} {t e k : Nat} {y : Ty} {dty : TypeId} (hy : tyOf T t = some y) (hd : y.desc = .slice e) (hx : ins x = some (.nil k)) :
    AEff P ⟨dst, .call ⟨.builtin .len, #[x], #[t]⟩, dty, pos, aft, g⟩ ins hp ⟨.sc (.int .i64 0), [], [], []⟩ :=
  AEff.pure fun C s ν a w hi ht hs => by
    have h1 := hs.ev ((hi x (by simp [Op.operands, Call.operands])).trans hx)
    simp only [RepA, RepB, Rep1] at h1
    obtain ⟨i1, z1, d1, y1⟩ := hT.is hy
    refine ⟨.int .i64 0, ?_, repA_sc rfl⟩
    simp [execOp, resolve, invoke, builtin, Builtin.len_, h1, run_und (y1.slice hd), goInt]
end
end Go.Proofs.Ytjfcjkeghigipaa
