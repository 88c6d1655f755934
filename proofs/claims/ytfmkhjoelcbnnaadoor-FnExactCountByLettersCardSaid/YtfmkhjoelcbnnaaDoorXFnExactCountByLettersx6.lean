-- Written by a program of this session (wip/xprint.py), which follows the kit's print; no kit file.
import Derived.Test.YtfmkhjoelcbnnaaDoorXFnExactCountByLettersx0
import Derived.Test.YtfmkhjoelcbnnaaDoorXFnExactCountByLettersx4
import Derived.Test.YtfmkhjoelcbnnaaDoorXFnExactCountByLettersx5
namespace Go.Proofs.YtfmkhjoelcbnnaaDoor.XFnExactCountByLetters
open Go.RowKit Go.Proofs.YtfmkhjoelcbnnaaDoor.Hand Go.Proofs.YtfmkhjoelcbnnaaDoorW.PrintWords Go.Proofs.YtfmkhjoelcbnnaaDoorW.PrintLast Go.Proofs.YtfmkhjoelcbnnaaDoorW.PrintMore
attribute [local go_sem] max2_int min2_int max_two min_two max_three min_three max_four min_four   -- for this text's walks alone
set_option linter.unusedVariables false
set_option linter.unusedSimpArgs false

-- impl_CountByLetters: function 10, by hand
open Go.Proofs.YtfmkhjoelcbnnaaDoor.Hand Go.Maps
theorem impl_CountByLetters.lawK : Keyed Tryd.prog 42 := Keyed.of_law (deep_law_laid (P := Tryd.prog) (by kernel_rfl) (m := 2) (by omega) (of_decide_eq_true (by kernel_rfl)) (by kernel_rfl) (by kernel_rfl))
theorem impl_CountByLetters.key3 (a b c : Int) (ha : (Lit.int .i64 a).wf = true) (hb : (Lit.int .i64 b).wf = true) (hc : (Lit.int .i64 c).wf = true) : ∃ l, keyOf Tryd.prog 42 (.agg #[.int .i64 a, .int .i64 b, .int .i64 c]) = some l := by
  have hk : Tryd.prog.keyType 42 = true := by kernel_rfl
  have hsz : ∃ m, Tryd.prog.types.size = m + 1 := ⟨Tryd.prog.types.size - 1, by kernel_rfl⟩
  have hint : Tryd.prog.underlying 3 = some (.int .i64) := Tryd.underlying3
  have hcell : Tryd.prog.cellsOf 3 = 1 := by kernel_rfl
  have hcs : Tryd.prog.cellsOf 42 = 3 := by kernel_rfl
  obtain ⟨m, hm⟩ := hsz
  unfold keyOf
  simp only [Tryd.underlying42]
  rw [if_pos (by simp [hk, Value.formed, Tryd.underlying42, hcs]), hm]
  unfold Program.keyLits
  simp only [Tryd.underlying42, Value.cells]
  rw [if_pos (by rw [hcs]; rfl), hcell, show List.range 3 = [0, 1, 2] from rfl]
  simp [Program.keyLits, hint, ha, hb, hc]
theorem cl_eq3 (a b c d e f : Int) (W : World) : (Op.equalIn 10000 42 (.agg #[.int .i64 a, .int .i64 b, .int .i64 c]) (.agg #[.int .i64 d, .int .i64 e, .int .i64 f])).run Tryd.prog W = .ok (a == d && (b == e && c == f)) W := by
  obtain ⟨i0, hi, -, -, -⟩ := info_parts (show (Tryd.prog.info? 3).map (fun i => (i.zero, i.size, i.bytes)) = some (some (.int .i64 0), 1, 8) by kernel_rfl)
  have hc : Tryd.prog.cellsOf 3 = 1 := by kernel_rfl
  rw [run_equalIn_array (P := Tryd.prog) W 9999 (n := 3) (e := 3) _ _ Tryd.underlying42 hi, hc, show List.range 3 = [0, 1, 2] from rfl]
  have p1 : ∀ (x y z : Int), (part 3 #[.int .i64 x, .int .i64 y, .int .i64 z] 0).run Tryd.prog W = .ok (.int .i64 x) W := fun x y z => by kernel_rfl
  have p2 : ∀ (x y z : Int), (part 3 #[.int .i64 x, .int .i64 y, .int .i64 z] 1).run Tryd.prog W = .ok (.int .i64 y) W := fun x y z => by kernel_rfl
  have p3 : ∀ (x y z : Int), (part 3 #[.int .i64 x, .int .i64 y, .int .i64 z] 2).run Tryd.prog W = .ok (.int .i64 z) W := fun x y z => by kernel_rfl
  have q : ∀ x y : Int, (Op.equalIn 9999 3 (.int .i64 x) (.int .i64 y)).run Tryd.prog W = .ok (x == y) W := fun x y => run_equalIn_int W 9998 3 .i64 .i64 x y Tryd.underlying3
  simp only [Op.eqItems, Sem.run_bind, Nat.zero_mul, Nat.one_mul, Nat.mul_one, p1, p2, p3, q, Result.andThen_ok]
  cases a == d <;> cases hbe : b == e <;> cases hcf : c == f <;> simp [p2, p3, q, hbe, hcf]
/-- a row of counts -/
def rowZ (x : List Int) : Prop := ∃ a b c : Nat, x = [(a : Int), (b : Int), (c : Int)] ∧ a ≤ 8 ∧ b ≤ 8 ∧ c ≤ 8 ∧ 1 ≤ a + b + c
def rowZb (x : List Int) : Bool := decide (x.length = 3) && x.all (fun z => decide (0 ≤ z ∧ z ≤ 8)) && decide (1 ≤ x.sum)
theorem rowZ_of {x : List Int} (h : rowZb x = true) : rowZ x := by
  unfold rowZb at h
  simp only [Bool.and_eq_true, decide_eq_true_eq, List.all_eq_true] at h
  obtain ⟨⟨h1, h2⟩, h3⟩ := h
  match x, h1, h2, h3 with
  | [a, b, c], _, h2, h3 =>
    have ha := h2 a (by simp)
    have hb := h2 b (by simp)
    have hc := h2 c (by simp)
    simp only [List.sum_cons, List.sum_nil] at h3
    exact ⟨a.toNat, b.toNat, c.toNat, by simp only [Int.toNat_of_nonneg ha.1, Int.toNat_of_nonneg hb.1, Int.toNat_of_nonneg hc.1], by omega, by omega, by omega, by omega⟩
def okk (a b c x0 x1 x2 k : Nat) : Bool := (decide (k = 0) || decide (x0 ≤ a)) && ((decide (k ≤ 1) || decide (x1 ≤ b)) && (decide (k ≤ 2) || decide (x2 ≤ c)))
theorem okk_1 (a b c x0 x1 x2 : Nat) : decide (0 ≤ (a : Int) - x0) = okk a b c x0 x1 x2 1 := by
  have e : (0 ≤ (a : Int) - x0) ↔ x0 ≤ a := by omega
  simp [okk, e]
theorem okk_2 (a b c x0 x1 x2 : Nat) (h : true = okk a b c x0 x1 x2 1) : decide (0 ≤ (b : Int) - x1) = okk a b c x0 x1 x2 2 := by
  have e : (0 ≤ (b : Int) - x1) ↔ x1 ≤ b := by omega
  simp [okk] at h
  simp [okk, e, h]
theorem okk_3 (a b c x0 x1 x2 : Nat) (h : true = okk a b c x0 x1 x2 2) : decide (0 ≤ (c : Int) - x2) = okk a b c x0 x1 x2 3 := by
  have e : (0 ≤ (c : Int) - x2) ↔ x2 ≤ c := by omega
  simp [okk] at h
  simp [okk, e, h]
theorem okk_f1 (a b c x0 x1 x2 : Nat) (h : false = okk a b c x0 x1 x2 0) : false = okk a b c x0 x1 x2 1 := by simp [okk] at h
theorem okk_f2 (a b c x0 x1 x2 : Nat) (h : false = okk a b c x0 x1 x2 1) : false = okk a b c x0 x1 x2 2 := by
  simp [okk] at h
  simp [okk, show ¬ x0 ≤ a by omega]
theorem okk_f3 (a b c x0 x1 x2 : Nat) (h : false = okk a b c x0 x1 x2 2) : false = okk a b c x0 x1 x2 3 := by
  by_cases h0 : x0 ≤ a
  · simp [okk, h0] at h
    simp [okk, h0, show ¬ x1 ≤ b by omega]
  · simp [okk, h0]
mutual
def impl_CountByLetters.count : Nat → List (List Int) → Nat → Nat → Nat → Option Int
  | 0, _, _, _, _ => none
  | q + 1, own, a, b, c => if a = 0 ∧ b = 0 ∧ c = 0 then some 1 else (if a + b + c ≤ 12 ∧ own.length ≤ 12 ∧ own.all rowZb = true then impl_CountByLetters.loop q own a b c 0 0 else none)
def impl_CountByLetters.loop : Nat → List (List Int) → Nat → Nat → Nat → Int → Nat → Option Int
  | 0, _, _, _, _, _, _ => none
  | q + 1, own, a, b, c, sum, i => if i < own.length then (if (own.getD i []).getD 0 0 ≤ a ∧ (own.getD i []).getD 1 0 ≤ b ∧ (own.getD i []).getD 2 0 ≤ c then ((impl_CountByLetters.count q own (a - ((own.getD i []).getD 0 0).toNat) (b - ((own.getD i []).getD 1 0).toNat) (c - ((own.getD i []).getD 2 0).toNat)).bind fun r => impl_CountByLetters.loop q own a b c (wrap64 (sum + r)) (i + 1)) else impl_CountByLetters.loop q own a b c sum (i + 1)) else some sum
end
theorem impl_CountByLetters.mono_l : ∀ q, (∀ own a b c, LeO (impl_CountByLetters.count q own a b c) (impl_CountByLetters.count (q + 1) own a b c)) ∧ (∀ own a b c sum i, LeO (impl_CountByLetters.loop q own a b c sum i) (impl_CountByLetters.loop (q + 1) own a b c sum i))
  | 0 => ⟨fun _ _ _ _ r h => by simp [impl_CountByLetters.count] at h, fun _ _ _ _ _ _ r h => by simp [impl_CountByLetters.loop] at h⟩
  | q + 1 => by
    obtain ⟨ih1, ih2⟩ := impl_CountByLetters.mono_l q
    refine ⟨fun own a b c => ?_, fun own a b c sum i => ?_⟩
    · unfold impl_CountByLetters.count
      exact LeO.ite (LeO.refl _) (LeO.ite (ih2 _ _ _ _ _ _) (LeO.refl _))
    · unfold impl_CountByLetters.loop
      exact LeO.ite (LeO.ite (LeO.bind (ih1 _ _ _ _) fun r => ih2 _ _ _ _ _ _) (ih2 _ _ _ _ _ _)) (LeO.refl _)
theorem impl_CountByLetters.count_le {own : List (List Int)} {a b c : Nat} {q q' : Nat} (hq : q ≤ q') {r : Int} (h : impl_CountByLetters.count q own a b c = some r) : impl_CountByLetters.count q' own a b c = some r := by
  induction hq with
  | refl => exact h
  | step _ ih => exact (impl_CountByLetters.mono_l _).1 _ _ _ _ _ ih
theorem impl_CountByLetters.count_one {own : List (List Int)} {a b c : Nat} {q q' : Nat} {r r' : Int} (h : impl_CountByLetters.count q own a b c = some r) (h' : impl_CountByLetters.count q' own a b c = some r') : r = r' := by
  rcases Nat.le_total q q' with e | e
  · exact Option.some.inj ((impl_CountByLetters.count_le e h).symm.trans h')
  · exact Option.some.inj (h.symm.trans (impl_CountByLetters.count_le e h'))
/-- what is written down -/
def impl_CountByLetters.known (own : List (List Int)) (key : Value) (v : Int) : Prop := ∃ (a b c q : Nat), key = .agg #[.int .i64 (a : Int), .int .i64 (b : Int), .int .i64 (c : Int)] ∧ impl_CountByLetters.count q own a b c = some v
/-- what the search sees -/
structure ClBox (w : World) (own : List (List Int)) (A : Option Addr) (cap : Nat) (Bk Bo Bf M n : Nat) (okO : Nat → Prop) : Prop where
  hk : w.cell? ⟨Bk, 0, none⟩ = some (.map (some M))
  ho : w.cell? ⟨Bo, 0, none⟩ = some (.slice A own.length cap)
  hf : w.cell? ⟨Bf, 0, none⟩ = some (.func (.func 25) #[] #[.pointer (some ⟨Bk, 0, none⟩), .pointer (some ⟨Bo, 0, none⟩), .pointer (some ⟨Bf, 0, none⟩)])
  ne : Bk ≠ M ∧ Bo ≠ M ∧ Bf ≠ M
  lt : Bk < w.heap.size ∧ Bo < w.heap.size ∧ Bf < w.heap.size
  row : Kd.R (Kd.slice 3 (Kd.int .i64)) 23 w 0 okO (.slice A own.length cap) own
  ok : ∀ k, okO k → k ≠ M
  memo : Memo Tryd.prog 42 3 w M n (impl_CountByLetters.known own)
theorem cl_cell {w w' : World} {b : Nat} (h : w'.heap[b]? = w.heap[b]?) : w'.cell? ⟨b, 0, none⟩ = w.cell? ⟨b, 0, none⟩ := by
  unfold World.cell?
  simp only [h]
/-- the world turns elsewhere, and the map grows -/
theorem ClBox.turn {w w' : World} {own : List (List Int)} {A : Option Addr} {cap Bk Bo Bf M n n' : Nat} {okO : Nat → Prop} (h : ClBox w own A cap Bk Bo Bf M n okO) (hg : w.grownBy w' (some M)) (hm : Memo Tryd.prog 42 3 w' M n' (impl_CountByLetters.known own)) : ClBox w' own A cap Bk Bo Bf M n' okO := by
  obtain ⟨n1, n2, n3⟩ := h.ne
  obtain ⟨l1, l2, l3⟩ := h.lt
  have hb : ∀ k, k < w.heap.size → k ≠ M → w'.heap[k]? = w.heap[k]? := fun k hk hne => hg.block k hk (fun e => hne (by injection e))
  have hs := hg.size
  exact ⟨(cl_cell (hb _ l1 n1)).trans h.hk, (cl_cell (hb _ l2 n2)).trans h.ho, (cl_cell (hb _ l3 n3)).trans h.hf, h.ne, ⟨by omega, by omega, by omega⟩, Kd.R_mono (Kd.R_move (Kd.R_bound h.row) (fun k hk => hb k hk.2.2.1 (h.ok k hk.1))) (fun k hk => hk.1), h.ok, hm⟩
theorem ClBox.same {w w' : World} {own : List (List Int)} {A : Option Addr} {cap Bk Bo Bf M n : Nat} {okO : Nat → Prop} (h : ClBox w own A cap Bk Bo Bf M n okO) (hb : Below w.heap.size w w') : ClBox w' own A cap Bk Bo Bf M n okO :=
  h.turn ⟨hb.os, hb.tape, hb.output, hb.size, fun k hk _ => hb.block k hk⟩ (h.memo.move (hb.block _ h.memo.lt))
theorem cl_fresh {w w' : World} {M : Option Nat} (hb : Below w.heap.size w w') : w.grownBy w' M := ⟨hb.os, hb.tape, hb.output, hb.size, fun k hk _ => hb.block k hk⟩
theorem cl_trans {w w1 w2 : World} {M : Option Nat} (h : w.grownBy w1 M) (k : w1.grownBy w2 M) : w.grownBy w2 M :=
  ⟨k.os.trans h.os, k.tape.trans h.tape, k.output.trans h.output, Nat.le_trans h.size k.size, fun i hi hne => (k.block i (Nat.lt_of_lt_of_le hi h.size) hne).trans (h.block i hi hne)⟩
theorem cl_wf {n : Int} (h1 : -9223372036854775808 ≤ n) (h2 : n ≤ 9223372036854775807) : (Lit.int .i64 n).wf = true := by
  simp only [Lit.wf, IntKind.min, IntKind.max, IntKind.signed, IntKind.bits, Bool.and_eq_true, decide_eq_true_eq, if_true]
  omega
theorem cl_new (W : World) (o : Obj) : (W.alloc o).heap[W.heap.size]? = some o := by unfold World.alloc; simp
theorem cl_set {n : Nat} {w W : World} (h : Below n w W) {g j : Nat} (hg : n ≤ g) (v : Value) : Below n w (W.setCell ⟨g, j, none⟩ v) :=
  ⟨h.os, h.tape, h.output, by have := h.size; simpa [World.setCell] using this, fun k hk => (Below.heap_setCell W ⟨g, j, none⟩ v k (by show k ≠ g; omega)).trans (h.block k hk)⟩
theorem cl_pow {a b c x0 x1 x2 D : Nat} (hx : x0 ≤ 8 ∧ x1 ≤ 8 ∧ x2 ≤ 8 ∧ 1 ≤ x0 + x1 + x2) (hD : D = 13 ^ (a + b + c - 1)) (hle : x0 ≤ a ∧ x1 ≤ b ∧ x2 ≤ c) : 13 ^ ((a - x0) + (b - x1) + (c - x2)) ≤ D := by
  rw [hD]
  exact Nat.pow_le_pow_right (by omega) (by omega)
theorem cl_bound {a b c x0 x1 x2 n n' i len D : Nat} (hx : x0 ≤ 8 ∧ x1 ≤ 8 ∧ x2 ≤ 8 ∧ 1 ≤ x0 + x1 + x2) (hn : n + 13 * D ≤ 4611686018427387904) (hn' : n' ≤ n + i * D) (hi : i < len) (hl : len ≤ 12) (hD : D = 13 ^ (a + b + c - 1)) (hle : x0 ≤ a ∧ x1 ≤ b ∧ x2 ≤ c) : n' + 13 ^ ((a - x0) + (b - x1) + (c - x2)) ≤ 4611686018427387904 := by
  have h1 := cl_pow hx hD hle
  have h2 := Nat.mul_le_mul_right D (show i ≤ 11 by omega)
  omega
set_option maxHeartbeats 8000000 in
set_option maxRecDepth 100000 in
theorem impl_CountByLetters.count_calls : ∀ (q : Nat) (own : List (List Int)) (A : Option Addr) (cap Bk Bo Bf M n : Nat) (okO : Nat → Prop) (a b c : Nat) (r : Int) (w : World),
    ClBox w own A cap Bk Bo Bf M n okO → n + 13 ^ (a + b + c) ≤ 4611686018427387904 → impl_CountByLetters.count q own a b c = some r →
    Calls Tryd.prog 25 #[.agg #[.int .i64 (a : Int), .int .i64 (b : Int), .int .i64 (c : Int)], .pointer (some ⟨Bk, 0, none⟩), .pointer (some ⟨Bo, 0, none⟩), .pointer (some ⟨Bf, 0, none⟩)] w fun e w' => e = .returned (.int .i64 r) ∧ w.grownBy w' (some M) ∧ Memo Tryd.prog 42 3 w' M (n + 13 ^ (a + b + c)) (impl_CountByLetters.known own) := by
  intro q
  induction q using Nat.strongRecOn with
  | _ q ih =>
    intro own A cap Bk Bo Bf M n okO a b c r w hbox hn h
    have BOX0 := Aside0.mk hbox
    have hb1 : Below w.heap.size w (w.alloc (.cells #[.int .i64 (a : Int), .int .i64 (b : Int), .int .i64 (c : Int)] 42)) := below_alloc (Below.refl _ _) _
    have BOX := Aside0.mk (hbox.same hb1)
    have HB1 := Aside0.mk hb1
    have HN := Aside0.mk hn
    cases q with
    | zero => exact absurd h (by simp [impl_CountByLetters.count])
    | succ q =>
      simp only [impl_CountByLetters.count] at h
      by_cases c1 : a = 0 ∧ b = 0 ∧ c = 0
      · rw [if_pos c1] at h
        obtain rfl := Option.some.inj h
        obtain ⟨rfl, rfl, rfl⟩ := c1
        have heq := fun W => cl_eq3 0 0 0 0 0 0 W
        clear hbox hn h hb1
        go_enter Tryd.func25, Tryd.ntmps25
        go_wp2
        go_ret
        exact ⟨rfl, cl_fresh HB1.out, (BOX.out.memo).mono (Nat.le_add_right _ _)⟩
      · rw [if_neg c1] at h
        split at h
        case isFalse => cases h
        rename_i hgd
        have HGD := Aside0.mk hgd
        have H := Aside0.mk h
        have HORIG := Aside0.mk h
        have HC1 := Aside0.mk c1
        obtain ⟨kl, hkey⟩ := impl_CountByLetters.key3 (a : Int) (b : Int) (c : Int) (cl_wf (by omega) (by omega)) (cl_wf (by omega) (by omega)) (cl_wf (by omega) (by omega))
        have hne : ((a : Int) == 0 && ((b : Int) == 0 && (c : Int) == 0)) = false := by
          rw [Bool.eq_false_iff]
          intro q_
          simp only [Bool.and_eq_true, beq_iff_eq] at q_
          exact c1 (by omega)
        have heq := fun W => (cl_eq3 (a : Int) (b : Int) (c : Int) 0 0 0 W).trans (by rw [hne])
        have hcm := BOX.out.hk
        have hz : (zeroValue 3).run Tryd.prog (w.alloc (.cells #[.int .i64 (a : Int), .int .i64 (b : Int), .int .i64 (c : Int)] 42)) = .ok (.int .i64 0) (w.alloc (.cells #[.int .i64 (a : Int), .int .i64 (b : Int), .int .i64 (c : Int)] 42)) := by kernel_rfl
        have hlook := memo_look impl_CountByLetters.lawK Tryd.underlying39 Tryd.underlying3 hz BOX.out.memo hkey
        clear hbox hn h c1 hb1 hgd hz hne
        rcases hlook with hrun | ⟨v, hv, hrun⟩
        · have HKEY := Aside0.mk hkey
          obtain ⟨D, hD⟩ : ∃ D, D = 13 ^ (a + b + c - 1) := ⟨_, rfl⟩
          have HDD := Aside0.mk hD
          have HD2 := Aside0.mk (show 13 ^ (a + b + c) = 13 * D from by
            have e9 : a + b + c = (a + b + c - 1) + 1 := by have := HC1.out; omega
            rw [hD]
            conv => lhs; rw [e9, Nat.pow_succ]
            omega)
          have HD1 := Aside0.mk (show 1 ≤ D from by rw [hD]; exact Nat.pow_pos (by omega))
          have HN2 := Aside0.mk (show n + 13 * D ≤ 4611686018427387904 from by rw [← HD2.out]; exact HN.out)
          rw [HD2.out]
          have HML := Aside0.mk (show M < w.heap.size from BOX0.out.memo.lt)
          have hco := BOX.out.ho
          clear hkey hD
          go_enter Tryd.func25, Tryd.ntmps25
          go_wp2
          go_loopg [8, 27] q (fun kq v8 v27 w' => ∃ (sum : Int) (i n' : Nat), v8 = .int .i64 sum ∧ v27 = .int .i64 (i : Int) ∧ Aside0 (i ≤ own.length ∧ (Lit.int .i64 sum).wf = true) ∧ Aside0 (impl_CountByLetters.loop kq own a b c sum i = some r) ∧ Aside0 (kq ≤ q) ∧ Aside0 (w.grownBy w' (some M)) ∧ Aside0 (w'.heap[w.heap.size]? = some (.cells #[.int .i64 (a : Int), .int .i64 (b : Int), .int .i64 (c : Int)] 42 (0, 0))) ∧ Aside0 (n' ≤ n + i * D) ∧ Aside0 (ClBox w' own A cap Bk Bo Bf M n' okO))
          case atStart => exact ⟨0, 0, n, rfl, rfl, ⟨Nat.zero_le _, by decide⟩, H, ⟨Nat.le_refl _⟩, ⟨cl_fresh HB1.out⟩, ⟨cl_new _ _⟩, ⟨by omega⟩, BOX⟩
          case round =>
            clear hrun hcm hco heq H
            obtain ⟨sum, i, n', rfl, rfl, HI, HA, HK1, HG, HS, HNN, BX⟩ := hrel
            cases gk with
            | zero => exact absurd HA.out (by simp [impl_CountByLetters.loop])
            | succ k1 =>
              have H := HA.out
              clear HA
              simp only [impl_CountByLetters.loop] at H
              by_cases d1 : i < own.length
              · rename World => W0
                rw [if_pos d1] at H
                have hxb : rowZb (own.getD i []) = true := List.all_eq_true.1 HGD.out.2.2 _ (by
                  rw [List.getD_eq_getElem?_getD, List.getElem?_eq_getElem d1, Option.getD_some]
                  exact List.getElem_mem d1)
                obtain ⟨x0, x1, x2, hxe, b0, b1, b2, bs⟩ := rowZ_of hxb
                have HXB := Aside0.mk (And.intro b0 (And.intro b1 (And.intro b2 bs)))
                simp only [hxe, List.getD_cons_zero, List.getD_cons_succ, Int.toNat_natCast] at H
                have H7 := Aside0.mk H
                obtain ⟨gO, capO, eO, -, -, -⟩ := Kd.R_form BX.out.row (by omega)
                injection eO with eA _ eC
                subst eA
                subst eC
                obtain ⟨cc, -, hM, hcell, -⟩ := Kd.R_elem BX.out.row [] (i : Int) (by omega) (by omega)
                obtain ⟨v, rfl, hR⟩ := hM
                have hx := hcell 0 v rfl
                simp only [Nat.mul_one, Nat.add_zero, Kd.slice, Int.toNat_natCast] at hx
                rw [Int.toNat_natCast, hxe] at hR
                obtain ⟨Ai, ci, rfl⟩ := Kd.R_slice hR
                have hC := (Kd.R_reads' hR).2.2
                have hci := (Kd.R_reads' hR).2.1
                obtain ⟨adr, rfl, hr0⟩ := Kd.at_int hC 0 (by omega) (by simp)
                obtain ⟨ad1, ea1, hr1⟩ := Kd.at_int hC 1 (by omega) (by simp)
                obtain ⟨ad2, ea2, hr2⟩ := Kd.at_int hC 2 (by omega) (by simp)
                obtain rfl := Option.some.inj ea1
                obtain rfl := Option.some.inj ea2
                have HR0 := Aside0.mk hr0
                have HR1 := Aside0.mk hr1
                have HR2 := Aside0.mk hr2
                have d1b : decide ((i : Int) < (own.length : Int)) = true := decide_eq_true (by omega)
                have d1c : decide (i < own.length) = true := decide_eq_true d1
                have hs0 : W0.cell? ⟨w.heap.size, 0, none⟩ = some (.int .i64 (a : Int)) := blk_cell HS.out 0
                have hs1 : W0.cell? ⟨w.heap.size, 1, none⟩ = some (.int .i64 (b : Int)) := blk_cell HS.out 1
                have hs2 : W0.cell? ⟨w.heap.size, 2, none⟩ = some (.int .i64 (c : Int)) := blk_cell HS.out 2
                clear hxb hxe b0 b1 b2 bs H hcell hR hC ea1 ea2 hr0 hr1 hr2
                go_wp2
                go_loopg [12, 32] 3 (fun kq v12 v32 w' => ∃ (k : Nat) (bk : Bool), v12 = .bool bk ∧ v32 = .int .i64 (k : Int) ∧ Aside0 (k ≤ 3 ∧ 3 ≤ kq + k ∧ bk = okk a b c x0 x1 x2 k) ∧ Aside0 (Below W0.heap.size W0 w') ∧ Aside0 (w'.heap[W0.heap.size]? = some (.cells #[.int .i64 (if 0 < k then (a : Int) - x0 else a), .int .i64 (if 1 < k then (b : Int) - x1 else b), .int .i64 (if 2 < k then (c : Int) - x2 else c)] 42 (0, 0))))
                case atStart => exact ⟨0, true, rfl, rfl, ⟨by omega, by omega, by simp [okk]⟩, ⟨below_alloc (Below.refl _ _) _⟩, ⟨by simpa using cl_new W0 _⟩⟩
                case round =>
                  obtain ⟨k, bk, rfl, rfl, HK3, HB3, HC3⟩ := hrel
                  have hq0 : wr.cell? adr = some (.int .i64 (x0 : Int)) := by
                    have h9 : wr.cell? (adr.add 0) = some (.int .i64 (x0 : Int)) := (HB3.out.cell (World.block_lt_of_cell? _ _ HR0.out)).trans HR0.out
                    simpa [Addr.add] using h9
                  have hq1 : wr.cell? { adr with off := adr.off + 1, spot := none } = some (.int .i64 (x1 : Int)) := by
                    have h9 : wr.cell? (adr.add 1) = some (.int .i64 (x1 : Int)) := (HB3.out.cell (World.block_lt_of_cell? _ _ HR1.out)).trans HR1.out
                    simpa [Addr.add] using h9
                  have hq2 : wr.cell? { adr with off := adr.off + 2, spot := none } = some (.int .i64 (x2 : Int)) := by
                    have h9 : wr.cell? (adr.add 2) = some (.int .i64 (x2 : Int)) := (HB3.out.cell (World.block_lt_of_cell? _ _ HR2.out)).trans HR2.out
                    simpa [Addr.add] using h9
                  have hn0 := blk_cell HC3.out 0
                  have hn1 := blk_cell HC3.out 1
                  have hn2 := blk_cell HC3.out 2
                  have hf0 := blk_frozen HC3.out 0
                  have hf1 := blk_frozen HC3.out 1
                  have hf2 := blk_frozen HC3.out 2
                  have hk4 : k = 0 ∨ k = 1 ∨ k = 2 ∨ k = 3 := by have := HK3.out; omega
                  rcases hk4 with rfl | rfl | rfl | rfl
                  · cases gk with
                    | zero => exact absurd HK3.out.2.1 (by omega)
                    | succ g1 =>
                      have HW := Aside0.mk (show wrap64 ((a : Int) - x0) = (a : Int) - x0 from by unfold wrap64; have := HXB.out; have := HGD.out; omega)
                      simp at hn0 hn1 hn2
                      go_wp2
                      go_still_tail 9, (by kernel_rfl)
                      change wpList _ _ _ _ _ wr.drew
                      replace HB3 := Aside0.mk (below_drew1 HB3.out)
                      replace HC3 := Aside0.mk (show wr.drew.heap[W0.heap.size]? = _ from HC3.out)
                      replace hq0 : wr.drew.cell? adr = _ := hq0
                      replace hn0 : wr.drew.cell? ⟨W0.heap.size, 0, none⟩ = _ := hn0
                      replace hf0 : wr.drew.frozen? ⟨W0.heap.size, 0, none⟩ = _ := hf0
                      generalize wr.drew = W4 at HB3 HC3 hq0 hn0 hf0 ⊢
                      have HBS := Aside0.mk (cl_set HB3.out (j := 0) (Nat.le_refl _) (.int .i64 (wrap64 ((a : Int) - x0))))
                      have HCS := Aside0.mk (blk_set HC3.out 0 (.int .i64 (wrap64 ((a : Int) - x0))))
                      cases bk with
                      | true =>
                        go_wp2
                        go_roundg g1
                        case measure => omega
                        case rel => exact ⟨1, decide (0 ≤ wrap64 ((a : Int) - x0)), rfl, rfl, ⟨by omega, by have := HK3.out; omega, by rw [HW.out]; exact okk_1 a b c x0 x1 x2⟩, HBS, ⟨by have := HCS.out; rw [HW.out] at this ⊢; simpa using this⟩⟩
                      | false =>
                        go_wp2
                        go_roundg g1
                        case measure => omega
                        case rel => exact ⟨1, false, rfl, rfl, ⟨by omega, by have := HK3.out; omega, okk_f1 a b c x0 x1 x2 HK3.out.2.2⟩, HBS, ⟨by have := HCS.out; rw [HW.out] at this ⊢; simpa using this⟩⟩
                  · cases gk with
                    | zero => exact absurd HK3.out.2.1 (by omega)
                    | succ g1 =>
                      have HW := Aside0.mk (show wrap64 ((b : Int) - x1) = (b : Int) - x1 from by unfold wrap64; have := HXB.out; have := HGD.out; omega)
                      simp at hn0 hn1 hn2
                      go_wp2
                      go_still_tail 9, (by kernel_rfl)
                      change wpList _ _ _ _ _ wr.drew
                      replace HB3 := Aside0.mk (below_drew1 HB3.out)
                      replace HC3 := Aside0.mk (show wr.drew.heap[W0.heap.size]? = _ from HC3.out)
                      replace hq0 : wr.drew.cell? adr = _ := hq0
                      replace hn1 : wr.drew.cell? ⟨W0.heap.size, 1, none⟩ = _ := hn1
                      replace hf1 : wr.drew.frozen? ⟨W0.heap.size, 1, none⟩ = _ := hf1
                      generalize wr.drew = W4 at HB3 HC3 hq0 hn1 hf1 ⊢
                      have HBS := Aside0.mk (cl_set HB3.out (j := 1) (Nat.le_refl _) (.int .i64 (wrap64 ((b : Int) - x1))))
                      have HCS := Aside0.mk (blk_set HC3.out 1 (.int .i64 (wrap64 ((b : Int) - x1))))
                      cases bk with
                      | true =>
                        go_wp2
                        go_roundg g1
                        case measure => omega
                        case rel => exact ⟨2, decide (0 ≤ wrap64 ((b : Int) - x1)), rfl, rfl, ⟨by omega, by have := HK3.out; omega, by rw [HW.out]; exact okk_2 a b c x0 x1 x2 HK3.out.2.2⟩, HBS, ⟨by have := HCS.out; rw [HW.out] at this ⊢; simpa using this⟩⟩
                      | false =>
                        go_wp2
                        go_roundg g1
                        case measure => omega
                        case rel => exact ⟨2, false, rfl, rfl, ⟨by omega, by have := HK3.out; omega, okk_f2 a b c x0 x1 x2 HK3.out.2.2⟩, HBS, ⟨by have := HCS.out; rw [HW.out] at this ⊢; simpa using this⟩⟩
                  · cases gk with
                    | zero => exact absurd HK3.out.2.1 (by omega)
                    | succ g1 =>
                      have HW := Aside0.mk (show wrap64 ((c : Int) - x2) = (c : Int) - x2 from by unfold wrap64; have := HXB.out; have := HGD.out; omega)
                      simp at hn0 hn1 hn2
                      go_wp2
                      go_still_tail 9, (by kernel_rfl)
                      change wpList _ _ _ _ _ wr.drew
                      replace HB3 := Aside0.mk (below_drew1 HB3.out)
                      replace HC3 := Aside0.mk (show wr.drew.heap[W0.heap.size]? = _ from HC3.out)
                      replace hq0 : wr.drew.cell? adr = _ := hq0
                      replace hn2 : wr.drew.cell? ⟨W0.heap.size, 2, none⟩ = _ := hn2
                      replace hf2 : wr.drew.frozen? ⟨W0.heap.size, 2, none⟩ = _ := hf2
                      generalize wr.drew = W4 at HB3 HC3 hq0 hn2 hf2 ⊢
                      have HBS := Aside0.mk (cl_set HB3.out (j := 2) (Nat.le_refl _) (.int .i64 (wrap64 ((c : Int) - x2))))
                      have HCS := Aside0.mk (blk_set HC3.out 2 (.int .i64 (wrap64 ((c : Int) - x2))))
                      cases bk with
                      | true =>
                        go_wp2
                        go_roundg g1
                        case measure => omega
                        case rel => exact ⟨3, decide (0 ≤ wrap64 ((c : Int) - x2)), rfl, rfl, ⟨by omega, by have := HK3.out; omega, by rw [HW.out]; exact okk_3 a b c x0 x1 x2 HK3.out.2.2⟩, HBS, ⟨by have := HCS.out; rw [HW.out] at this ⊢; simpa using this⟩⟩
                      | false =>
                        go_wp2
                        go_roundg g1
                        case measure => omega
                        case rel => exact ⟨3, false, rfl, rfl, ⟨by omega, by have := HK3.out; omega, okk_f3 a b c x0 x1 x2 HK3.out.2.2⟩, HBS, ⟨by have := HCS.out; rw [HW.out] at this ⊢; simpa using this⟩⟩
                  · have BX3 := Aside0.mk (BX.out.same HB3.out)
                    have HS3 := Aside0.mk ((HB3.out.block w.heap.size (blk_lt HS.out)).trans HS.out)
                    have hcf := BX3.out.hf
                    have hok := HK3.out.2.2
                    simp at hn0 hn1 hn2
                    cases bk with
                    | true =>
                      have hle : x0 ≤ a ∧ x1 ≤ b ∧ x2 ≤ c := by simp [okk] at hok; exact hok
                      have H := H7.out
                      clear H7
                      rw [if_pos (by omega)] at H
                      replace H := Option.bind_eq_some_iff.mp H
                      obtain ⟨rr, A20, H⟩ := H
                      have A2 := Aside0.mk A20
                      have H8 := Aside0.mk H
                      have HNB := Aside0.mk (cl_bound HXB.out HN2.out HNN.out d1 HGD.out.2.1 HDD.out hle)
                      have hcall := fun W (hbx : ClBox W own (some ⟨gO, 0, none⟩) cap Bk Bo Bf M n' okO) => ih k1 (by have := HK1.out; omega) own (some ⟨gO, 0, none⟩) cap Bk Bo Bf M n' okO (a - x0) (b - x1) (c - x2) rr W hbx HNB.out A2.out
                      rw [show ((a - x0 : Nat) : Int) = (a : Int) - x0 by omega, show ((b - x1 : Nat) : Int) = (b : Int) - x1 by omega, show ((c - x2 : Nat) : Int) = (c : Int) - x2 by omega] at hcall
                      clear H A20 hok
                      go_wp2_with (go_at_call 25; (with_reducible refine (hcall _ BX3.out).mono ?_); rintro e w9 ⟨rfl, hg9, hm9⟩; have HG9 := Aside0.mk hg9; have HM9 := Aside0.mk hm9; clear hg9 hm9)
                      have e1 : Aside0 (wrap64 ((i : Int) + 1) = ((i + 1 : Nat) : Int)) := ⟨by unfold wrap64; have := HGD.out; omega⟩
                      go_wp2
                      go_roundg k1
                      case measure => have := HK1.out; omega
                      case rel => exact ⟨wrap64 (sum + rr), i + 1, n' + D, rfl, by rw [e1.out], ⟨d1, wrap64_wf _⟩, H8, ⟨by have := HK1.out; omega⟩, ⟨cl_trans HG.out (cl_trans (cl_fresh HB3.out) HG9.out)⟩, ⟨(HG9.out.block w.heap.size (blk_lt HS3.out) (by intro q_; injection q_ with q_; have := HML.out; omega)).trans HS3.out⟩, ⟨by have := HNN.out; rw [Nat.add_mul]; omega⟩, ⟨BX3.out.turn HG9.out (HM9.out.mono (Nat.add_le_add_left (cl_pow HXB.out HDD.out hle) _))⟩⟩
                    | false =>
                      have hle : ¬ (x0 ≤ a ∧ x1 ≤ b ∧ x2 ≤ c) := by
                        intro q_
                        simp [okk, q_] at hok
                      have H := H7.out
                      clear H7
                      rw [if_neg (by omega)] at H
                      have H8 := Aside0.mk H
                      clear H hok hle
                      have e1 : Aside0 (wrap64 ((i : Int) + 1) = ((i + 1 : Nat) : Int)) := ⟨by unfold wrap64; have := HGD.out; omega⟩
                      go_wp2
                      go_roundg k1
                      case measure => have := HK1.out; omega
                      case rel => exact ⟨sum, i + 1, n', rfl, by rw [e1.out], ⟨d1, HI.out.2⟩, H8, ⟨by have := HK1.out; omega⟩, ⟨cl_trans HG.out (cl_fresh HB3.out)⟩, HS3, ⟨by have := HNN.out; rw [Nat.add_mul]; omega⟩, BX3⟩
              · rw [if_neg d1] at H
                obtain rfl := Option.some.inj H
                have d1b : decide ((i : Int) < (own.length : Int)) = false := decide_eq_false (by omega)
                have d1c : decide (i < own.length) = false := decide_eq_false d1
                have hcm := BX.out.hk
                have hs0 : wr.cell? ⟨w.heap.size, 0, none⟩ = some (.int .i64 (a : Int)) := blk_cell HS.out 0
                have hs1 : wr.cell? ⟨w.heap.size, 1, none⟩ = some (.int .i64 (b : Int)) := blk_cell HS.out 1
                have hs2 : wr.cell? ⟨w.heap.size, 2, none⟩ = some (.int .i64 (c : Int)) := blk_cell HS.out 2
                obtain ⟨w2, hput, hm2, hg2⟩ := memo_put impl_CountByLetters.lawK Tryd.underlying39 Tryd.underlying3 BX.out.memo (by have := HNN.out; have := HN2.out; have := Nat.mul_le_mul_right D (show i ≤ 12 by have := HI.out; have := HGD.out; omega); unfold maxLen; omega) HKEY.out HI.out.2 ⟨a, b, c, q + 1, rfl, by simp only [impl_CountByLetters.count]; rw [if_neg HC1.out, if_pos HGD.out]; exact HORIG.out⟩
                have HM2 := Aside0.mk hm2
                have HG2 := Aside0.mk hg2
                clear hm2 hg2 d1
                go_wp2
                go_ret
                exact ⟨rfl, cl_trans HG.out HG2.out, HM2.out.mono (by have := HNN.out; have := HD1.out; have := Nat.mul_le_mul_right D (show i ≤ 12 by have := HI.out; have := HGD.out; omega); omega)⟩
        · obtain ⟨a', b', c', q', hkk, hv2⟩ := hv
          simp only [Value.agg.injEq, Array.mk.injEq, List.cons.injEq, Value.int.injEq, true_and, and_true] at hkk
          obtain ⟨e1, e2, e3⟩ := hkk
          obtain rfl : a = a' := by omega
          obtain rfl : b = b' := by omega
          obtain rfl : c = c' := by omega
          obtain rfl : r = v := impl_CountByLetters.count_one (q := q + 1) (by simp only [impl_CountByLetters.count]; rw [if_neg HC1.out, if_pos HGD.out]; exact H.out) hv2
          clear hkey hv2 e1 e2 e3
          go_enter Tryd.func25, Tryd.ntmps25
          go_wp2
          go_ret
          exact ⟨rfl, cl_fresh HB1.out, (BOX.out.memo).mono (Nat.le_add_right _ _)⟩
def impl_CountByLetters.rows : Nat → List ByteArray → Option (List (List Int))
  | _, [] => some []
  | k, x :: xs => (impl_lettersOf.f k x).bind fun r => (impl_CountByLetters.rows k xs).bind fun rs => some (r :: rs)
theorem impl_CountByLetters.rows_mono (k : Nat) : ∀ l, LeO (impl_CountByLetters.rows k l) (impl_CountByLetters.rows (k + 1) l)
  | [] => LeO.refl _
  | x :: xs => LeO.bind (impl_lettersOf.mono _ _) fun _ => LeO.bind (impl_CountByLetters.rows_mono k xs) fun _ => LeO.refl _
theorem impl_CountByLetters.rows_get {k : Nat} : ∀ {l : List ByteArray} {rs : List (List Int)}, impl_CountByLetters.rows k l = some rs → rs.length = l.length ∧ ∀ j, j < l.length → impl_lettersOf.f k (rdOf ByteArray.empty l (j : Int)) = some (rs.getD j [])
  | [], rs, h => by
    obtain rfl := Option.some.inj h
    exact ⟨rfl, fun j hj => absurd hj (by simp)⟩
  | x :: xs, rs, h => by
    simp only [impl_CountByLetters.rows] at h
    replace h := Option.bind_eq_some_iff.mp h
    obtain ⟨r, h1, h⟩ := h
    replace h := Option.bind_eq_some_iff.mp h
    obtain ⟨rs', h2, h⟩ := h
    obtain rfl := Option.some.inj h
    obtain ⟨e, g⟩ := impl_CountByLetters.rows_get h2
    refine ⟨by simp [e], fun j hj => ?_⟩
    cases j with
    | zero => simpa [rdOf] using h1
    | succ j =>
      have := g j (by simpa using hj)
      simpa [rdOf] using this
def impl_CountByLetters.okc (l0 : List ByteArray) (l1 : List Int) : Prop := l0.length ≤ 12 ∧ l1.length = 3 ∧ (0 ≤ rd l1 0 ∧ 0 ≤ rd l1 1 ∧ 0 ≤ rd l1 2) ∧ rd l1 0 + rd l1 1 + rd l1 2 ≤ 12
instance (l0 : List ByteArray) (l1 : List Int) : Decidable (impl_CountByLetters.okc l0 l1) := by unfold impl_CountByLetters.okc; infer_instance
def impl_CountByLetters.f (k : Nat) (l0 : List ByteArray) (l1 : List Int) : Option (Int × Bool) := (impl_isSet.f k l0).bind fun b1 => if b1 = true then ((impl_areCounts.f k l1).bind fun b2 => if b2 = true then (if impl_CountByLetters.okc l0 l1 then ((impl_CountByLetters.rows k l0).bind fun rs => (impl_CountByLetters.count k rs (rd l1 0).toNat (rd l1 1).toNat (rd l1 2).toNat).bind fun c => some (c, true)) else none) else some (0, false)) else some (0, false)
theorem impl_CountByLetters.mono : ∀ a0 a1 k, LeO (impl_CountByLetters.f k a0 a1) (impl_CountByLetters.f (k + 1) a0 a1) := fun _ _ k => by
  unfold impl_CountByLetters.f
  exact LeO.bind (impl_isSet.mono _ _) fun _ => LeO.ite (LeO.bind (impl_areCounts.mono _ _) fun _ => LeO.ite (LeO.ite (LeO.bind (impl_CountByLetters.rows_mono _ _) fun _ => LeO.bind ((impl_CountByLetters.mono_l k).1 _ _ _ _) fun _ => LeO.refl _) (LeO.refl _)) (LeO.refl _)) (LeO.refl _)
theorem cl_makeMap {P : Program} {w : World} {ops : Array Oper} {rest : List Oper} {o : Oper} {a : Act} {Q : Exit → Act → World → Prop} (hg : o.guard = none) (t : TypeId) (hop : o.op = Op.makeMap t none)
    (hK : wpList P ops Q rest (a.put o.dst (.map (some w.heap.size))) (w.alloc (.map #[] 0))) : wpList P ops Q (o :: rest) a w := by
  refine wpList_plain hg fun K' hK' => ?_
  unfold Oper.wp
  simp [execOp, hop, run_makeMap, Result.andThen]
  exact hK' _ _ hK
theorem cl_three {W : World} {M Bo : Nat} {o1 o2 o3 : Obj} (h1 : W.heap[M]? = some o1) (h2 : W.heap[M + 1]? = some o2) (h3 : W.heap[Bo]? = some o3) : M < W.heap.size ∧ M + 1 < W.heap.size ∧ Bo < W.heap.size := ⟨blk_lt h1, blk_lt h2, blk_lt h3⟩
theorem cl_fresh3 {W : World} {M Bo : Nat} (h : M < W.heap.size ∧ M + 1 < W.heap.size ∧ Bo < W.heap.size) : ∀ k, W.heap.size ≤ k → k ≠ M ∧ k ≠ M + 1 ∧ k ≠ Bo := fun k hk => ⟨by omega, by omega, by omega⟩
theorem cl_rowok {W : World} {M Bo base : Nat} {v x : Value} {rs : List (List Int)} (hR : Kd.R (Kd.slice 3 (Kd.int .i64)) 23 W base (fun k => k ≠ M ∧ k ≠ M + 1 ∧ k ≠ Bo) v rs) (h : M < W.heap.size ∧ M + 1 < W.heap.size ∧ Bo < W.heap.size) (hb : ∀ k, x.ownBlock = some k → W.heap.size ≤ k) : ∀ k, some k = x.ownBlock → (k ≠ M ∧ k ≠ M + 1 ∧ k ≠ Bo) ∧ some k ≠ v.ownBlock := fun k hk => by
  have h1 := hb k hk.symm
  exact ⟨⟨by omega, by omega, by omega⟩, fun e_ => by have := Kd.R_lt hR k e_.symm; omega⟩
theorem cl_thirteen {n : Nat} (h : n ≤ 12) : 0 + 13 ^ n ≤ 4611686018427387904 := by
  have : 13 ^ n ≤ 13 ^ 12 := Nat.pow_le_pow_right (by omega) h
  have e : (13 : Nat) ^ 12 = 23298085122481 := by decide
  omega
theorem cl_end {w W W' : World} {M : Nat} (hb : Below w.heap.size w W) (hg : W.grownBy W' (some M)) (hM : w.heap.size ≤ M) : Below w.heap.size w W' :=
  ⟨hg.os.trans hb.os, hg.tape.trans hb.tape, hg.output.trans hb.output, Nat.le_trans hb.size hg.size, fun k hk => (hg.block k (Nat.lt_of_lt_of_le hk hb.size) (fun e => by injection e with e; omega)).trans (hb.block k hk)⟩
theorem cl_start {wr : World} {rs : List (List Int)} {A : Option Addr} {cp M Bo base T a b c : Nat} (hM : wr.heap[M]? = some (.map #[] 0)) (hK : wr.heap[M + 1]? = some (.cells #[.map (some M)] 39 (0, 0))) (hO : wr.heap[Bo]? = some (.cells #[.slice A rs.length cp] 40 (0, 0)))
    (hR : Kd.R (Kd.slice 3 (Kd.int .i64)) 23 wr base (fun k => k ≠ M ∧ k ≠ M + 1 ∧ k ≠ Bo) (.slice A rs.length cp) rs) (hm : Memo Tryd.prog 42 3 wr M 0 (impl_CountByLetters.known rs)) (hne : Bo ≠ M) :
    ClBox (wr.alloc (.cells #[.func (.func 25) #[] #[.pointer (some ⟨M + 1, 0, none⟩), .pointer (some ⟨Bo, 0, none⟩), .pointer (some ⟨wr.heap.size, 0, none⟩)]] T)) rs A cp (M + 1) Bo wr.heap.size M 0 (fun k => k ≠ M ∧ k ≠ M + 1 ∧ k ≠ Bo) := by
  have l1 := blk_lt hM
  have l2 := blk_lt hK
  have l3 := blk_lt hO
  exact ⟨cell_of_one (blk_alloc hK _), cell_of_one (blk_alloc hO _), cell_of_one (cl_new _ _), ⟨by omega, hne, by omega⟩, ⟨by simp; omega, by simp; omega, by simp⟩, Kd.R_lower (Kd.R_alloc hR _) (Nat.zero_le _), fun k hk => hk.1, hm.move (Below.heap_alloc _ _ _ l1)⟩
theorem cl_cell0 {wr : World} {adr : Addr} {F v : Value} {T : Nat} (h : wr.cell? (adr.add 0) = some v) : (wr.alloc (.cells #[F] T)).cell? adr = some v := by
  have h' : wr.cell? adr = some v := by simpa [Addr.add] using h
  exact ((below_alloc (Below.refl wr.heap.size wr) (.cells #[F] T)).cell (World.block_lt_of_cell? _ _ h')).trans h'
theorem cl_cell1 {wr : World} {adr : Addr} {F v : Value} {T j : Nat} (h : wr.cell? (adr.add (j + 1)) = some v) : (wr.alloc (.cells #[F] T)).cell? { block := adr.block, off := adr.off + (j + 1), spot := none } = some v := by
  have h' : wr.cell? { block := adr.block, off := adr.off + (j + 1), spot := none } = some v := by simpa [Addr.add] using h
  exact ((below_alloc (Below.refl wr.heap.size wr) (.cells #[F] T)).cell (World.block_lt_of_cell? _ _ h')).trans h'
set_option maxHeartbeats 2000000 in
set_option maxRecDepth 100000 in
theorem impl_CountByLetters.calls (k : Nat) (A0 : Option Addr) (c0 : Nat) (l0 : List ByteArray) (A1 : Option Addr) (c1 : Nat) (l1 : List Int) (r1 : Int) (r2 : Bool) (w : World) (hr0 : Kd.C Kd.string w A0 l0.length l0) (hc0 : l0.length ≤ c0) (hr1 : Kd.C (Kd.int .i64) w A1 l1.length l1) (hc1 : l1.length ≤ c1) (h : impl_CountByLetters.f k l0 l1 = some (r1, r2)) :
    Calls Tryd.prog 10 #[.slice A0 l0.length c0, .slice A1 l1.length c1] w fun e w' => e = .returned (.tuple #[.int .i64 r1, .bool r2]) ∧ Below w.heap.size w w' := by
  have HR0 := Aside0.mk hr0
  have HC0 := Aside0.mk hc0
  have HR1 := Aside0.mk hr1
  have HC1 := Aside0.mk hc1
  unfold impl_CountByLetters.f at h
  replace h := Option.bind_eq_some_iff.mp h
  obtain ⟨b1, A1_, h⟩ := h
  have A1_ := Aside0.mk A1_
  rename_i a1old
  clear a1old
  clear hr0 hc0 hr1 hc1
  cases b1 with
  | false =>
    obtain ⟨rfl, rfl⟩ : 0 = r1 ∧ false = r2 := by simpa using h
    clear h
    go_enter Tryd.func10, Tryd.ntmps10
    go_wp2_with (go_at_call 22; (with_reducible refine (impl_isSet.calls k A0 c0 l0 false _ HR0.out HC0.out A1_.out).mono ?_); rintro e w7 ⟨rfl, hb⟩; have HB7 := Aside0.mk hb; clear hb)
    go_ret2
    exact ⟨rfl, HB7.out⟩
  | true =>
    rw [if_pos rfl] at h
    replace h := Option.bind_eq_some_iff.mp h
    obtain ⟨b2, A2_, h⟩ := h
    have A2_ := Aside0.mk A2_
    rename_i a2old
    clear a2old
    cases b2 with
    | false =>
      obtain ⟨rfl, rfl⟩ : 0 = r1 ∧ false = r2 := by simpa using h
      clear h
      go_enter Tryd.func10, Tryd.ntmps10
      go_wp2_with (first
        | (go_at_call 22; (with_reducible refine (impl_isSet.calls k A0 c0 l0 true _ HR0.out HC0.out A1_.out).mono ?_); rintro e w7 ⟨rfl, hb⟩; have HB7 := Aside0.mk hb; clear hb)
        | (go_at_call 23; (with_reducible refine (impl_areCounts.calls k A1 c1 l1 false _ (Kd.C_below HR1.out HB7.out) HC1.out A2_.out).mono ?_); rintro e w8 ⟨rfl, hb⟩; have HB8 := Aside0.mk hb; clear hb))
      go_ret2
      exact ⟨rfl, below_step HB7.out HB8.out⟩
    | true =>
      rw [if_pos rfl] at h
      split at h
      case isFalse => cases h
      rename_i hokc
      replace h := Option.bind_eq_some_iff.mp h
      obtain ⟨rs, A3_, h⟩ := h
      replace h := Option.bind_eq_some_iff.mp h
      obtain ⟨cc, A4_, h⟩ := h
      simp only [Option.some.injEq, Prod.mk.injEq] at h
      obtain ⟨rfl, rfl⟩ := h
      obtain ⟨a, b, c, rfl, habc⟩ : ∃ a b c : Nat, l1 = [(a : Int), (b : Int), (c : Int)] ∧ a + b + c ≤ 12 := by
        obtain ⟨-, h3, ⟨p0, p1, p2⟩, hs⟩ := hokc
        match l1, h3 with
        | [x, y, z], _ =>
          simp [rd] at p0 p1 p2 hs
          exact ⟨x.toNat, y.toNat, z.toNat, by simp [Int.toNat_of_nonneg p0, Int.toNat_of_nonneg p1, Int.toNat_of_nonneg p2], by omega⟩
      have A4_ := Aside0.mk (show impl_CountByLetters.count k rs a b c = some cc from by simpa [rd] using A4_)
      have HABC := Aside0.mk habc
      have HLEN := Aside0.mk hokc.1
      have HRG := Aside0.mk (impl_CountByLetters.rows_get A3_)
      clear hokc habc A3_
      have hAC := fun W (hC : Kd.C (Kd.int .i64) W A1 3 [(a : Int), (b : Int), (c : Int)]) => impl_areCounts.calls k A1 c1 [(a : Int), (b : Int), (c : Int)] true W hC HC1.out A2_.out
      simp only [List.length_cons, List.length_nil, Nat.zero_add, Nat.reduceAdd] at hAC
      rename_i a4old
      clear a4old
      go_enter Tryd.func10, Tryd.ntmps10
      go_upto_region 3 with (first
        | (go_at_call 22; (with_reducible refine (impl_isSet.calls k A0 c0 l0 true _ HR0.out HC0.out A1_.out).mono ?_); rintro e w7 ⟨rfl, hb⟩; have HB7 := Aside0.mk hb; clear hb)
        | (go_at_call 23; (with_reducible refine (hAC _ (Kd.C_below HR1.out HB7.out)).mono ?_); rintro e w8 ⟨rfl, hb⟩; have HB8 := Aside0.mk (below_step HB7.out hb); clear hb))
      go_upto_region 4 with (refine cl_makeMap rfl 39 rfl ?_; simp only [Act.put, List.setIfInBounds_toArray, List.set_cons_zero, List.set_cons_succ])
      have HM := Aside0.mk (show ((w8.alloc (.map #[] 0)).alloc (.cells #[.map (some w8.heap.size)] 39)).heap[w8.heap.size]? = some (.map #[] 0) from by
        rw [Below.heap_alloc _ _ _ (by simp)]
        exact cl_new _ _)
      have HK := Aside0.mk (show ((w8.alloc (.map #[] 0)).alloc (.cells #[.map (some w8.heap.size)] 39)).heap[w8.heap.size + 1]? = some (.cells #[.map (some w8.heap.size)] 39 (0, 0)) from by
        have := cl_new (w8.alloc (.map #[] 0)) (.cells #[.map (some w8.heap.size)] 39)
        simpa using this)
      have HB4 := Aside0.mk (show Below w.heap.size w ((w8.alloc (.map #[] 0)).alloc (.cells #[.map (some w8.heap.size)] 39)) from below_alloc (below_alloc HB8.out _) _)
      have HMW := Aside0.mk HB8.out.size
      have HMEM4 := Aside0.mk (show Memo Tryd.prog 42 3 ((w8.alloc (.map #[] 0)).alloc (.cells #[.map (some w8.heap.size)] 39)) w8.heap.size 0 (impl_CountByLetters.known rs) from (memo_made w8).move (Below.heap_alloc _ _ _ (by simp)))
      generalize ((w8.alloc (.map #[] 0)).alloc (.cells #[.map (some w8.heap.size)] 39)) = W4 at HM HK HB4 HMEM4 ⊢
      generalize w8.heap.size = M at HM HK HMW HMEM4 ⊢
      clear hAC HB7 HB8
      go_upto_region 5 with ((with_reducible refine gate_dst (N := 20) rfl ?_); refine Kd.R_lit (Kd.slice 3 (Kd.int .i64)) (w0 := W4) W4.heap.size 23 ?hg (N := 20) ?hd (xs := ([] : List (List Int))) (inner := []) (ok := fun _ => True) (okp := fun _ => True) ?hr ?hp (fun _ hk => hk) trivial (Below.refl _ _) (Nat.le_refl _) (by simp) ?_; (case hd => rfl); (case hg => rfl); (case hr => first | (go_simp; done) | (go_simp; rfl)); (case hp => exact (Reps.none _ _)); intro v5 w5 ho hb hg_ hnew_; clear hg_ hnew_; (obtain ⟨A5, c5, e5⟩ := Kd.R_slice ho); subst e5; have HO5 := Aside0.mk ho; have HB5 := Aside0.mk hb; clear ho hb)
      have HMB := Aside0.mk (show w.heap.size ≤ M ∧ M + 1 < W4.heap.size from ⟨HMW.out, blk_lt HK.out⟩)
      have HB6 := Aside0.mk (show Below w.heap.size w (w5.alloc (.cells #[.slice A5 0 c5] 40)) from below_alloc (below_step HB4.out HB5.out) _)
      have HM6 := Aside0.mk (show (w5.alloc (.cells #[.slice A5 0 c5] 40)).heap[M]? = some (.map #[] 0) from blk_alloc ((HB5.out.block _ (blk_lt HM.out)).trans HM.out) _)
      have HK6 := Aside0.mk (show (w5.alloc (.cells #[.slice A5 0 c5] 40)).heap[M + 1]? = some (.cells #[.map (some M)] 39 (0, 0)) from blk_alloc ((HB5.out.block _ (blk_lt HK.out)).trans HK.out) _)
      have HO6 := Aside0.mk (show (w5.alloc (.cells #[.slice A5 0 c5] 40)).heap[w5.heap.size]? = some (.cells #[.slice A5 0 c5] 40 (0, 0)) from cl_new _ _)
      have HR6 := Aside0.mk (show Kd.R (Kd.slice 3 (Kd.int .i64)) 23 (w5.alloc (.cells #[.slice A5 0 c5] 40)) w.heap.size (fun k => k ≠ M ∧ k ≠ M + 1 ∧ k ≠ w5.heap.size) (.slice A5 0 c5) (rs.take 0) from
        Kd.R_lower (Kd.R_alloc (Kd.R_mono (Kd.R_bound HO5.out) (fun k hk => ⟨by have := hk.2.1; have := HMB.out; omega, by have := hk.2.1; have := HMB.out; omega, by have := hk.2.2.1; omega⟩)) _) (by have := HMB.out; omega))
      have HBO := Aside0.mk (show M + 1 < w5.heap.size from Nat.lt_of_lt_of_le HMB.out.2 HB5.out.size)
      generalize (w5.alloc (.cells #[.slice A5 0 c5] 40)) = W6 at HB6 HM6 HK6 HO6 HR6 ⊢
      generalize w5.heap.size = Bo at HO6 HR6 HBO ⊢
      have HM4 := HM
      clear HO5 HB5 HM HK HB4 HMB
      go_wp2
      go_loopg [23] l0.length (fun kq v23 w' => ∃ (j : Nat) (A : Option Addr) (cp : Nat), v23 = .int .i64 (j : Int) ∧ Aside0 (j ≤ l0.length ∧ l0.length ≤ kq + j) ∧ Aside0 (Below w.heap.size w w') ∧ Aside0 (w'.heap[M]? = some (.map #[] 0)) ∧ Aside0 (w'.heap[M + 1]? = some (.cells #[.map (some M)] 39 (0, 0))) ∧ Aside0 (w'.heap[Bo]? = some (.cells #[.slice A j cp] 40 (0, 0))) ∧ Aside0 (Kd.R (Kd.slice 3 (Kd.int .i64)) 23 w' w.heap.size (fun k => k ≠ M ∧ k ≠ M + 1 ∧ k ≠ Bo) (.slice A j cp) (rs.take j)))
      case atStart => exact ⟨0, A5, c5, rfl, ⟨by omega, by omega⟩, HB6, HM6, HK6, HO6, HR6⟩
      case round =>
        clear HB6 HM6 HK6 HO6 HR6
        obtain ⟨j, A, cp, rfl, HJ, HB, HM, HK, HO, HR⟩ := hrel
        have hco : wr.cell? ⟨Bo, 0, none⟩ = some (.slice A j cp) := cell_of_one HO.out
        by_cases d1 : j < l0.length
        · have d1b : decide ((j : Int) < (l0.length : Int)) = true := decide_eq_true (by omega)
          have d1c : decide (j < l0.length) = true := decide_eq_true d1
          have H1 := HRG.out.2 j d1
          have H1 := Aside0.mk H1
          obtain ⟨ad, e1, hx⟩ := Kd.at_string HR0.out (j : Int) (by omega) (by omega)
          cases e1
          replace hx := (HB.out.cell (World.block_lt_of_cell? w _ hx)).trans hx
          simp only [Int.toNat_natCast] at hx
          cases gk with
          | zero => exact absurd HJ.out.2 (by omega)
          | succ k1 =>
            have HNE := Aside0.mk (show some Bo ≠ (Value.slice A j cp).ownBlock from fun e_ => (HR.out.1 Bo e_.symm).2.2 rfl)
            have HNM := Aside0.mk (show some M ≠ (Value.slice A j cp).ownBlock ∧ some (M + 1) ≠ (Value.slice A j cp).ownBlock from ⟨fun e_ => (HR.out.1 M e_.symm).1 rfl, fun e_ => (HR.out.1 (M + 1) e_.symm).2.1 rfl⟩)
            have HLL := Aside0.mk (show ((rs.take j).length + 1) * 24 ≤ 140737488355328 from by have := HLEN.out; have := HRG.out.1; rw [List.length_take]; omega)
            go_upto_region 8 with fail
            obtain ⟨row, hrow⟩ : ∃ row, row = rs.getD j [] := ⟨_, rfl⟩
            rw [← hrow] at H1
            have HRW := Aside0.mk hrow
            clear hrow hx
            have hcall := fun W => impl_lettersOf.calls k (rdOf ByteArray.empty l0 (j : Int)) row W H1.out
            go_region_law (first
              | (go_simp; go_at_call 24; (with_reducible refine (hcall _).mono ?_); rintro e w12 ⟨v12, rfl, ho, hb⟩; (obtain ⟨Ar, cr, er⟩ := Kd.R_slice ho); subst er; have HPM := Aside0.mk (Kd.M_row (e := 3) (Kd.R_mono (Kd.R_tight rfl (Kd.R_lower ho (below_drew1 HB.out).size)) (fun _ h => h))); have HPK := Aside0.mk (cl_rowok (Kd.R_drew HR.out) (cl_three (W := wr.drew) HM.out HK.out HO.out) (Kd.R_base ho)); have HB13 := Aside0.mk (below_step (below_drew1 HB.out) hb); have HBO12 := Aside0.mk ((hb.block Bo (blk_lt HO.out)).trans HO.out); have HM12 := Aside0.mk ((hb.block M (blk_lt HM.out)).trans HM.out); have HK12 := Aside0.mk ((hb.block (M + 1) (blk_lt HK.out)).trans HK.out); have HPF := Aside0.mk (cl_fresh3 (cl_three HM12.out HK12.out HBO12.out)); have HR12 := Aside0.mk (Kd.R_below (Kd.R_drew HR.out) hb); have hco2 := cell_of_one HBO12.out; have hco4 := cell_of_one (blk_alloc HBO12.out (.cells #[.slice Ar row.length cr] 23)); clear ho hb)
              | (refine Kd.R_append_step (Kd.slice 3 (Kd.int .i64)) (w0 := w) w.heap.size rfl (.tmp 27) (.tmp 30) 40 23 (.slice none 0 0) 24 rfl Tryd.underlying40 (by kernel_rfl) rfl (by decide) (by omega) (.slice A j cp) (rs.take j) row [.slice Ar row.length cr] (fun k => k ≠ M ∧ k ≠ M + 1 ∧ k ≠ Bo) (fun k => some k = (Value.slice Ar row.length cr).ownBlock) rfl rfl ?aP ?aK ?aF ?aO ?aB ?aS ?aL ?_; (case aP => exact HPM.out); (case aK => exact HPK.out); (case aF => exact HPF.out); (case aO => exact HR12.out); (case aB => exact HB13.out); (case aS => exact HB13.out.size); (case aL => exact HLL.out); intro v13 w13 ho hb hg hat; (obtain ⟨A13, c13, e13⟩ := Kd.R_slice ho); subst e13; have HO13 := Aside0.mk ho; have HB14 := Aside0.mk hb; have hbl := (hg.block Bo (blk_lt HBO12.out) HNE.out).trans HBO12.out; have hmm := (hg.block M (blk_lt HM12.out) HNM.out.1).trans HM12.out; have hkk := (hg.block (M + 1) (blk_lt HK12.out) HNM.out.2).trans HK12.out; have HBL13 := Aside0.mk hbl; have HM13 := Aside0.mk hmm; have HK13 := Aside0.mk hkk; have hco3 := cell_of_one hbl; have hfz3 := blk_frozen hbl 0; clear ho hb hg hat hbl hmm hkk))
            all_goals
              have hmin : min j rs.length = j := by have := HRG.out.1; omega
              have htk : rs.take j ++ [row] = rs.take (j + 1) := by
                have h5 : j < rs.length := by have := HRG.out.1; omega
                rw [HRW.out, List.take_succ_eq_append_getElem h5, List.getD_eq_getElem?_getD, List.getElem?_eq_getElem h5, Option.getD_some]
              have h6 : (rs.take j ++ [row]).length = j + 1 := by rw [htk, List.length_take]; have := HRG.out.1; omega
              rw [h6, htk] at HO13
              simp only [hmin]
              have HS1 := Aside0.mk (blk_set HBL13.out 0 (.slice A13 (j + 1) c13))
              have HS2 := Aside0.mk ((Below.heap_setCell w13 ⟨Bo, 0, none⟩ (.slice A13 (j + 1) c13) M (by have := HBO.out; show M ≠ Bo; omega)).trans HM13.out)
              have HS3 := Aside0.mk ((Below.heap_setCell w13 ⟨Bo, 0, none⟩ (.slice A13 (j + 1) c13) (M + 1) (by have := HBO.out; show M + 1 ≠ Bo; omega)).trans HK13.out)
              have HS4 := Aside0.mk (Kd.R_far (p := ⟨Bo, 0, none⟩) HO13.out (fun k hk => hk.2.2) (.slice A13 (j + 1) c13))
              have HS5 := Aside0.mk (HB14.out.setCell (p := ⟨Bo, 0, none⟩) (by have := HBO.out; have := HMW.out; show w.heap.size ≤ Bo; omega) (.slice A13 (j + 1) c13))
              generalize w13.setCell ⟨Bo, 0, none⟩ (.slice A13 (j + 1) c13) = W14 at HS1 HS2 HS3 HS4 HS5 ⊢
              have e1 : Aside0 (wrap64 ((j : Int) + 1) = ((j + 1 : Nat) : Int)) := ⟨by unfold wrap64; have := HLEN.out; omega⟩
              clear hmin htk h6 hco hco2 hco3 hco4 hfz3 hcall HO13 HB14 HBL13 HM13 HK13 HR12 HPF HPK HPM HB13 HBO12 HM12 HK12 H1 HRW
              go_wp2
              go_roundg k1
              case measure => omega
              case rel => exact ⟨j + 1, A13, c13, by rw [e1.out], ⟨by omega, by have := HJ.out; omega⟩, HS5, HS2, HS3, ⟨by simpa using HS1.out⟩, HS4⟩
        · have d1b : decide ((j : Int) < (l0.length : Int)) = false := decide_eq_false (by omega)
          have d1c : decide (j < l0.length) = false := decide_eq_false d1
          have hj : j = l0.length := by have := HJ.out; omega
          subst hj
          have hrl : rs.length = l0.length := HRG.out.1
          have HR2 := Aside0.mk (show Kd.R (Kd.slice 3 (Kd.int .i64)) 23 wr w.heap.size (fun k => k ≠ M ∧ k ≠ M + 1 ∧ k ≠ Bo) (.slice A rs.length cp) rs from by have := HR.out; rwa [← hrl, List.take_length] at this)
          have HO2 := Aside0.mk (show wr.heap[Bo]? = some (.cells #[.slice A rs.length cp] 40 (0, 0)) from by rw [hrl]; exact HO.out)
          obtain ⟨adr, rfl, hr0⟩ := Kd.at_int HR1.out 0 (by omega) (by simp)
          obtain ⟨ad1, ea1, hr1⟩ := Kd.at_int HR1.out 1 (by omega) (by simp)
          obtain ⟨ad2, ea2, hr2⟩ := Kd.at_int HR1.out 2 (by omega) (by simp)
          obtain rfl := Option.some.inj ea1
          obtain rfl := Option.some.inj ea2
          have HQ0 : Aside0 (wr.cell? (adr.add 0) = some (.int .i64 (a : Int))) := Aside0.mk ((HB.out.cell (World.block_lt_of_cell? _ _ hr0)).trans hr0)
          have HQ1 : Aside0 (wr.cell? (adr.add 1) = some (.int .i64 (b : Int))) := Aside0.mk ((HB.out.cell (World.block_lt_of_cell? _ _ hr1)).trans hr1)
          have HQ2 : Aside0 (wr.cell? (adr.add 2) = some (.int .i64 (c : Int))) := Aside0.mk ((HB.out.cell (World.block_lt_of_cell? _ _ hr2)).trans hr2)
          clear d1 hrl hr0 hr1 hr2 ea1 ea2 hco d1c
          go_upto_region 12 with fail
          have HBX := Aside0.mk (cl_start (a := a) (b := b) (c := c) (T := 41) HM.out HK.out HO2.out HR2.out (HMEM4.out.move (HM.out.trans HM4.out.symm)) (by have := HBO.out; omega))
          have hq0 := cl_cell0 (F := .func (.func 25) #[] #[.pointer (some ⟨M + 1, 0, none⟩), .pointer (some ⟨Bo, 0, none⟩), .pointer (some ⟨wr.heap.size, 0, none⟩)]) (T := 41) HQ0.out
          have hq1 := cl_cell1 (j := 0) (F := .func (.func 25) #[] #[.pointer (some ⟨M + 1, 0, none⟩), .pointer (some ⟨Bo, 0, none⟩), .pointer (some ⟨wr.heap.size, 0, none⟩)]) (T := 41) HQ1.out
          have hq2 := cl_cell1 (j := 1) (F := .func (.func 25) #[] #[.pointer (some ⟨M + 1, 0, none⟩), .pointer (some ⟨Bo, 0, none⟩), .pointer (some ⟨wr.heap.size, 0, none⟩)]) (T := 41) HQ2.out
          have hs2 : ∀ W, (Instr.arrayAt 42 (.slice (some adr) 3 c1)).run Tryd.prog W = .ok (.pointer (some adr)) W := fun W => by kernel_rfl
          have HBW := Aside0.mk (below_alloc HB.out (.cells #[.func (.func 25) #[] #[.pointer (some ⟨M + 1, 0, none⟩), .pointer (some ⟨Bo, 0, none⟩), .pointer (some ⟨wr.heap.size, 0, none⟩)]] 41))
          generalize (wr.alloc (.cells #[.func (.func 25) #[] #[.pointer (some ⟨M + 1, 0, none⟩), .pointer (some ⟨Bo, 0, none⟩), .pointer (some ⟨wr.heap.size, 0, none⟩)]] 41)) = WF at HBX hq0 hq1 hq2 HBW ⊢
          generalize wr.heap.size = Bf at HBX ⊢
          have hcf := HBX.out.hf
          have hcall := fun W (hbx : ClBox W rs A cp (M + 1) Bo Bf M 0 (fun k => k ≠ M ∧ k ≠ M + 1 ∧ k ≠ Bo)) => impl_CountByLetters.count_calls k rs A cp (M + 1) Bo Bf M 0 (fun k => k ≠ M ∧ k ≠ M + 1 ∧ k ≠ Bo) a b c cc W hbx (cl_thirteen HABC.out) A4_.out
          go_region_law (go_simp; go_at_call 25; (with_reducible refine (hcall _ (HBX.out.same (below_drew1 (Below.refl _ _)))).mono ?_); rintro e w9 ⟨rfl, hg9, hm9⟩; have HG9 := Aside0.mk hg9; clear hg9 hm9)
          all_goals
            have HEND := Aside0.mk (cl_end (below_drew1 HBW.out) HG9.out HMW.out)
            clear HG9
            go_wp2
            go_ret2
            exact ⟨rfl, HEND.out⟩

/-! ### laws_eqStringS: function 11 -/
def laws_eqStringS.l0 : Nat → List ByteArray → List ByteArray → Int → Option (Bool)
  | 0, _, _, _ => none
  | k + 1, x0, x1, x5 => if x5 < (x0.length : Int) then (if 0 ≤ x5 then (if x5 < (x1.length : Int) then (if (rdOf ByteArray.empty x0 x5).toList = (rdOf ByteArray.empty x1 x5).toList then (laws_eqStringS.l0 k x0 x1 (wrap64 (x5 + 1))) else (some false)) else (none)) else (none)) else (some true)
def laws_eqStringS.f (k : Nat) (l0 : List ByteArray) (l1 : List ByteArray) : Option (Bool) := if (l0.length : Int) = (l1.length : Int) then (laws_eqStringS.l0 k l0 l1 0) else (some false)
theorem laws_eqStringS.mono_l : ∀ k, (∀ y0 y1 y2, LeO (laws_eqStringS.l0 k y0 y1 y2) (laws_eqStringS.l0 (k + 1) y0 y1 y2))
  | 0 => fun _ _ _ r h => by simp [laws_eqStringS.l0] at h
  | k + 1 => by
    have ih0 := laws_eqStringS.mono_l k
    · intro y0 y1 y2
      unfold laws_eqStringS.l0
      repeat' first
      | (with_reducible exact ih0 _ _ _)
      | (with_reducible exact LeO.refl _)
      | (with_reducible exact LeO.none _)
      | (with_reducible refine LeO.ite ?_ ?_)
      | (with_reducible refine LeO.bind ?_ (fun _ => ?_))
      | exact ih0 _ _ _
      | exact LeO.none _
      | refine LeO.ite ?_ ?_
      | refine LeO.bind ?_ (fun _ => ?_)
theorem laws_eqStringS.mono : ∀ a0 a1 k, LeO (laws_eqStringS.f k a0 a1) (laws_eqStringS.f (k + 1) a0 a1) := by
  intro a0 a1 k
  have ih0 := laws_eqStringS.mono_l k
  unfold laws_eqStringS.f
  repeat' first
      | (with_reducible exact ih0 _ _ _)
      | (with_reducible exact LeO.refl _)
      | (with_reducible exact LeO.none _)
      | (with_reducible refine LeO.ite ?_ ?_)
      | (with_reducible refine LeO.bind ?_ (fun _ => ?_))
      | exact ih0 _ _ _
      | exact LeO.none _
      | refine LeO.ite ?_ ?_
      | refine LeO.bind ?_ (fun _ => ?_)
set_option maxHeartbeats 8000000 in
set_option maxRecDepth 100000 in
theorem laws_eqStringS.calls (k : Nat) (A0 : Option Addr) (c0 : Nat) (l0 : List ByteArray) (A1 : Option Addr) (c1 : Nat) (l1 : List ByteArray) (r : Bool) (w : World) (hr0 : Kd.C Kd.string w A0 l0.length l0) (hc0 : l0.length ≤ c0) (hr1 : Kd.C Kd.string w A1 l1.length l1) (hc1 : l1.length ≤ c1) (h : laws_eqStringS.f k l0 l1 = some r) :
    Calls Tryd.prog 11 #[.slice A0 l0.length c0, .slice A1 l1.length c1] w fun e w' => e = .returned (.bool r) ∧ Drawn0 w w' := by
  have HR0 := Aside0.mk hr0
  have HC0 := Aside0.mk hc0
  clear hr0 hc0
  have HR1 := Aside0.mk hr1
  have HC1 := Aside0.mk hc1
  clear hr1 hc1
  have H : (if (l0.length : Int) = (l1.length : Int) then (laws_eqStringS.l0 k l0 l1 0) else (some false)) = some r := h
  clear h
  by_cases c3 : (l0.length : Int) = (l1.length : Int)
  · rw [if_pos c3] at H
    have c3b0 : ((l0.length : Int) == (l1.length : Int)) = true := beq_iff_eq.mpr c3
    have c3b1 : ((l0.length : Int) != (l1.length : Int)) = false := bne_eq_false_iff_eq.mpr c3
    have c3b2 : (l0.length == l1.length) = true := by first | simpa using c3 | (simp at c3 ⊢; omega)
    clear c3
    have H' := Aside0.mk H
    clear H
    go_enter Tryd.func11, Tryd.ntmps11
    go_wp2
    repeat (go_quiet (fail); try go_wp2)
    go_loopg [5] k (fun kq v5 w' => ∃ (x5_1 : Int), v5 = .int .i64 x5_1 ∧ Aside0 (laws_eqStringS.l0 kq l0 l1 x5_1 = some r) ∧ Aside0 (kq ≤ k) ∧ Drawn0 w w')
    case atStart => exact ⟨(0), (by first | rfl | (simp; done) | (simp [*]; done) | (simp only [IntWalk.i64_left]; done) | (simp [IntWalk.i64_left]; done) | (simp [*, IntWalk.i64_left]; done)), H', ⟨Nat.le_refl _⟩, by repeat (first | exact Drawn0.refl _ | apply Drawn0.step)⟩
    case round =>
      clear H'
      try clear c1
      try clear p2
      try clear c3
      try clear c3b0
      try clear c3b1
      try clear c3b2
      obtain ⟨x5_1, rfl, HA, HK1, ⟨m1, rfl⟩⟩ := hrel
      cases gk with
      | zero => exact absurd HA.out (by simp [laws_eqStringS.l0])
      | succ k1 =>
        have H := HA.out
        clear HA
        simp only [laws_eqStringS.l0] at H
        by_cases c4 : x5_1 < (l0.length : Int)
        · rw [if_pos c4] at H
          have c4b0 : decide (x5_1 < (l0.length : Int)) = true := decide_eq_true c4
          clear c4
          by_cases c5 : 0 ≤ x5_1
          · rw [if_pos c5] at H
            have c5b0 : decide (0 ≤ x5_1) = true := decide_eq_true c5
            clear c5
            by_cases c6 : x5_1 < (l1.length : Int)
            · rw [if_pos c6] at H
              have c6b0 : decide (x5_1 < (l1.length : Int)) = true := decide_eq_true c6
              clear c6
              by_cases c7 : (rdOf ByteArray.empty l0 x5_1).toList = (rdOf ByteArray.empty l1 x5_1).toList
              · rw [if_pos c7] at H
                have c7b0 : ((rdOf ByteArray.empty l0 x5_1).toList == (rdOf ByteArray.empty l1 x5_1).toList) = true := beq_iff_eq.mpr c7
                have c7b1 : ((rdOf ByteArray.empty l0 x5_1).toList != (rdOf ByteArray.empty l1 x5_1).toList) = false := bne_eq_false_iff_eq.mpr c7
                clear c7
                have H' := Aside0.mk H
                clear H
                have p182 : 0 ≤ (x5_1 : Int) := of_decide_eq_true (by first | (with_reducible assumption) | assumption)
                have q182 : x5_1 < (l0.length : Int) := of_decide_eq_true (by first | (with_reducible assumption) | assumption)
                obtain ⟨ad182, e182, hx182_0⟩ := Kd.at_string HR0.out x5_1 p182 q182
                cases e182
                replace p182 := eq_true p182
                replace q182 := eq_true q182
                have p183 : 0 ≤ (x5_1 : Int) := of_decide_eq_true (by first | (with_reducible assumption) | assumption)
                have q183 : x5_1 < (l1.length : Int) := of_decide_eq_true (by first | (with_reducible assumption) | assumption)
                obtain ⟨ad183, e183, hx183_0⟩ := Kd.at_string HR1.out x5_1 p183 q183
                cases e183
                replace p183 := eq_true p183
                replace q183 := eq_true q183
                go_wp2
                repeat (go_quiet (fail); try go_wp2)
                go_roundg k1
                case measure => have := HK1.out; omega
                case rel => exact ⟨(wrap64 (x5_1 + 1)), (by first | rfl | (simp; done) | (simp [*]; done) | (simp only [IntWalk.i64_left]; done) | (simp [IntWalk.i64_left]; done) | (simp [*, IntWalk.i64_left]; done)), H', ⟨by have := HK1.out; omega⟩, by repeat (first | exact Drawn0.refl _ | apply Drawn0.step)⟩
              · rw [if_neg c7] at H
                have c7b0 : ((rdOf ByteArray.empty l0 x5_1).toList == (rdOf ByteArray.empty l1 x5_1).toList) = false := beq_eq_false_iff_ne.mpr c7
                have c7b1 : ((rdOf ByteArray.empty l0 x5_1).toList != (rdOf ByteArray.empty l1 x5_1).toList) = true := bne_iff_ne.mpr c7
                obtain rfl := Option.some.inj H
                have p182 : 0 ≤ (x5_1 : Int) := of_decide_eq_true (by first | (with_reducible assumption) | assumption)
                have q182 : x5_1 < (l0.length : Int) := of_decide_eq_true (by first | (with_reducible assumption) | assumption)
                obtain ⟨ad182, e182, hx182_0⟩ := Kd.at_string HR0.out x5_1 p182 q182
                cases e182
                replace p182 := eq_true p182
                replace q182 := eq_true q182
                have p183 : 0 ≤ (x5_1 : Int) := of_decide_eq_true (by first | (with_reducible assumption) | assumption)
                have q183 : x5_1 < (l1.length : Int) := of_decide_eq_true (by first | (with_reducible assumption) | assumption)
                obtain ⟨ad183, e183, hx183_0⟩ := Kd.at_string HR1.out x5_1 p183 q183
                cases e183
                replace p183 := eq_true p183
                replace q183 := eq_true q183
                go_wp2
                repeat (go_quiet (fail); try go_wp2)
                go_ret
                exact ⟨by first | rfl | (simp; done) | (simp [*]; done) | (simp only [IntWalk.i64_left]; done) | (simp [IntWalk.i64_left]; done) | (simp [*, IntWalk.i64_left]; done), by repeat (first | exact Drawn0.refl _ | apply Drawn0.step)⟩
            · rw [if_neg c6] at H
              exact absurd H (by simp)
          · rw [if_neg c5] at H
            exact absurd H (by simp)
        · rw [if_neg c4] at H
          have c4b0 : decide (x5_1 < (l0.length : Int)) = false := decide_eq_false c4
          clear c4
          obtain rfl := Option.some.inj H
          go_wp2
          repeat (go_quiet (fail); try go_wp2)
          go_ret
          exact ⟨by first | rfl | (simp; done) | (simp [*]; done) | (simp only [IntWalk.i64_left]; done) | (simp [IntWalk.i64_left]; done) | (simp [*, IntWalk.i64_left]; done), by repeat (first | exact Drawn0.refl _ | apply Drawn0.step)⟩
  · rw [if_neg c3] at H
    have c3b0 : ((l0.length : Int) == (l1.length : Int)) = false := beq_eq_false_iff_ne.mpr c3
    have c3b1 : ((l0.length : Int) != (l1.length : Int)) = true := bne_iff_ne.mpr c3
    have c3b2 : (l0.length == l1.length) = false := by first | simpa using c3 | (simp at c3 ⊢; omega)
    obtain rfl := Option.some.inj H
    go_enter Tryd.func11, Tryd.ntmps11
    go_wp2
    repeat (go_quiet (fail); try go_wp2)
    go_ret
    exact ⟨by first | rfl | (simp; done) | (simp [*]; done) | (simp only [IntWalk.i64_left]; done) | (simp [IntWalk.i64_left]; done) | (simp [*, IntWalk.i64_left]; done), by repeat (first | exact Drawn0.refl _ | apply Drawn0.step)⟩

end Go.Proofs.YtfmkhjoelcbnnaaDoor.XFnExactCountByLetters
