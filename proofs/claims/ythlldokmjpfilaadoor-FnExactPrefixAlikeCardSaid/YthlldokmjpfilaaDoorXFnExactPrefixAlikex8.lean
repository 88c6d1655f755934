-- Written by a program of this session (wip/xprint.py), which follows the kit's print; no kit file.
import Derived.Test.YthlldokmjpfilaaDoorXFnExactPrefixAlikex0
import Derived.Test.YthlldokmjpfilaaDoorXFnExactPrefixAlikex6
import Derived.Test.YthlldokmjpfilaaDoorXFnExactPrefixAlikex7
namespace Go.Proofs.YthlldokmjpfilaaDoor.XFnExactPrefixAlike
open Go.RowKit Go.Proofs.YthlldokmjpfilaaDoor.Hand Go.Proofs.YthlldokmjpfilaaDoorW.PrintWords Go.Proofs.YthlldokmjpfilaaDoorW.PrintLast Go.Proofs.YthlldokmjpfilaaDoorW.PrintMore
attribute [local go_sem] max2_int min2_int max_two min_two max_three min_three max_four min_four   -- for this text's walks alone
set_option linter.unusedVariables false
set_option linter.unusedSimpArgs false

-- impl_PrefixAlike: function 7, by hand
-- NEEDS loop.example/g01164/impl.wordsWith
-- NEEDS loop.example/g01164/impl.lettersOf
-- NEEDS loop.example/g01164/impl.isFreeOf
-- NEEDS loop.example/g01164/impl.ordered
-- NEEDS slices.Clone[[]string,string]
open Go.Proofs.YthlldokmjpfilaaDoor.Hand
mutual
def impl_PrefixAlike.find : Nat → List ByteArray → List ByteArray → Option (Option (List ByteArray))
  | 0, _, _ => none
  | q + 1, set, done => if done.length = set.length then some (some done) else (if done.length < set.length ∧ set.length ≤ 1000 then ((impl_lettersOf.f q (rdOf ByteArray.empty set done.length)).bind fun c => (impl_wordsWith.f q c).bind fun ws => impl_PrefixAlike.loop q set done ws 0) else none)
def impl_PrefixAlike.loop : Nat → List ByteArray → List ByteArray → List ByteArray → Nat → Option (Option (List ByteArray))
  | 0, _, _, _, _ => none
  | q + 1, set, done, ws, i => if i < ws.length then ((impl_isFreeOf.f done (rdOf ByteArray.empty ws i)).bind fun b => if b = true then ((impl_PrefixAlike.find q set (done ++ [rdOf ByteArray.empty ws i])).bind fun r => match r with | some x => some (some x) | none => impl_PrefixAlike.loop q set done ws (i + 1)) else impl_PrefixAlike.loop q set done ws (i + 1)) else some none
end
def impl_PrefixAlike.g (k : Nat) (l0 : List ByteArray) : Option (List ByteArray × Bool) := (impl_PrefixAlike.find k l0 []).bind fun r => match r with | some x => (impl_ordered.f x).bind fun o => some (o, true) | none => some ([], false)
def impl_PrefixAlike.f (k : Nat) (l0 : List ByteArray) : Option (List ByteArray × Bool) := (impl_isSet.f k l0).bind fun b => if b = true then (if (l0.length : Int) > 6 then some ([], false) else ((impl_lengthsOf.f k l0).bind fun ls => (impl_sumWeights.f k ls).bind fun s => if s > 14 then some ([], false) else impl_PrefixAlike.g k l0)) else some ([], false)
theorem impl_PrefixAlike.mono_l : ∀ k, (∀ set done, LeO (impl_PrefixAlike.find k set done) (impl_PrefixAlike.find (k + 1) set done)) ∧ (∀ set done ws i, LeO (impl_PrefixAlike.loop k set done ws i) (impl_PrefixAlike.loop (k + 1) set done ws i))
  | 0 => ⟨fun _ _ r h => by simp [impl_PrefixAlike.find] at h, fun _ _ _ _ r h => by simp [impl_PrefixAlike.loop] at h⟩
  | k + 1 => by
    obtain ⟨ih1, ih2⟩ := impl_PrefixAlike.mono_l k
    refine ⟨fun set done => ?_, fun set done ws i => ?_⟩
    · unfold impl_PrefixAlike.find
      exact LeO.ite (LeO.refl _) (LeO.ite (LeO.bind (impl_lettersOf.mono _ _) fun c => LeO.bind (impl_wordsWith.mono _ _) fun ws => ih2 _ _ _ _) (LeO.refl _))
    · unfold impl_PrefixAlike.loop
      refine LeO.ite (LeO.bind (LeO.refl _) fun b => LeO.ite (LeO.bind (ih1 _ _) fun r => ?_) (ih2 _ _ _ _)) (LeO.refl _)
      cases r with
      | some x => exact LeO.refl _
      | none => exact ih2 _ _ _ _
theorem impl_PrefixAlike.mono : ∀ a0 k, LeO (impl_PrefixAlike.f k a0) (impl_PrefixAlike.f (k + 1) a0) := by
  intro a0 k
  unfold impl_PrefixAlike.f impl_PrefixAlike.g
  exact LeO.bind (impl_isSet.mono _ _) fun b => LeO.ite (LeO.ite (LeO.refl _) (LeO.bind (impl_lengthsOf.mono _ _) fun ls => LeO.bind (impl_sumWeights.mono _ _) fun s => LeO.ite (LeO.refl _) (LeO.bind ((impl_PrefixAlike.mono_l k).1 _ _) fun r => LeO.refl _))) (LeO.refl _)
/-- what the search sees: the set, itself -/
structure PaBox (w : World) (A0 : Option Addr) (c0 : Nat) (set : List ByteArray) (Bs Bf : Nat) : Prop where
  hs : w.cell? ⟨Bs, 0, none⟩ = some (.slice A0 set.length c0)
  hf : w.cell? ⟨Bf, 0, none⟩ = some (.func (.func 18) #[] #[.pointer (some ⟨Bs, 0, none⟩), .pointer (some ⟨Bf, 0, none⟩)])
  ls : Bs < w.heap.size
  lf : Bf < w.heap.size
  row : Kd.C Kd.string w A0 set.length set
theorem PaBox.below {w w' : World} {A0 : Option Addr} {c0 : Nat} {set : List ByteArray} {Bs Bf : Nat} (h : PaBox w A0 c0 set Bs Bf) (hb : Below w.heap.size w w') : PaBox w' A0 c0 set Bs Bf :=
  ⟨(hb.cell (p := ⟨Bs, 0, none⟩) h.ls).trans h.hs, (hb.cell (p := ⟨Bf, 0, none⟩) h.lf).trans h.hf, Nat.lt_of_lt_of_le h.ls hb.size, Nat.lt_of_lt_of_le h.lf hb.size, Kd.C_below h.row hb⟩
/-- what the search hands back -/
def PaBack (w w' : World) (base : Nat) (r : Option (List ByteArray)) (e : Ending) : Prop := Below w.heap.size w w' ∧ ((r = none ∧ e = .returned (.slice none 0 0)) ∨ ∃ x g cap, r = some x ∧ e = .returned (.slice (some ⟨g, 0, none⟩) x.length cap) ∧ Kd.R Kd.string 9 w' base (fun _ => True) (.slice (some ⟨g, 0, none⟩) x.length cap) x)
theorem PaBack.nil {w w' : World} {base : Nat} {e : Ending} (h : PaBack w w' base none e) : Below w.heap.size w w' ∧ e = .returned (.slice none 0 0) := by
  obtain ⟨hb, ⟨-, he⟩ | ⟨x, g, cap, h9, -⟩⟩ := h
  · exact ⟨hb, he⟩
  · cases h9
theorem PaBack.got {w w' : World} {base : Nat} {y : List ByteArray} {e : Ending} (h : PaBack w w' base (some y) e) : Below w.heap.size w w' ∧ ∃ g cap, e = .returned (.slice (some ⟨g, 0, none⟩) y.length cap) ∧ Kd.R Kd.string 9 w' base (fun _ => True) (.slice (some ⟨g, 0, none⟩) y.length cap) y := by
  obtain ⟨hb, ⟨h9, -⟩ | ⟨x, g, cap, h9, he, hr⟩⟩ := h
  · cases h9
  · obtain rfl := Option.some.inj h9
    exact ⟨hb, g, cap, he, hr⟩
set_option maxHeartbeats 8000000 in
set_option maxRecDepth 100000 in
theorem impl_PrefixAlike.find_calls : ∀ (q : Nat) (A0 : Option Addr) (c0 : Nat) (set : List ByteArray) (Bs Bf : Nat) (done : List ByteArray) (r : Option (List ByteArray)) (w : World) (base g cap n : Nat),
    PaBox w A0 c0 set Bs Bf → Kd.R Kd.string 9 w base (fun _ => True) (.slice (some ⟨g, 0, none⟩) n cap) done → base ≤ w.heap.size → n = done.length → impl_PrefixAlike.find q set done = some r →
    Calls Tryd.prog 18 #[.slice (some ⟨g, 0, none⟩) n cap, .pointer (some ⟨Bs, 0, none⟩), .pointer (some ⟨Bf, 0, none⟩)] w fun e w' => PaBack w w' base r e := by
  intro q
  induction q using Nat.strongRecOn with
  | _ q ih =>
    intro A0 c0 set Bs Bf done r w base g cap n hbox hrow hbase hn h
    have BOX := Aside0.mk hbox
    have ROW := Aside0.mk hrow
    have HBASE := Aside0.mk hbase
    have HN := Aside0.mk hn
    have hcs := hbox.hs
    cases q with
    | zero => exact absurd h (by simp [impl_PrefixAlike.find])
    | succ q =>
      simp only [impl_PrefixAlike.find] at h
      by_cases c1 : done.length = set.length
      · rw [if_pos c1] at h
        obtain rfl := Option.some.inj h
        have c1a : ((n : Int) = (set.length : Int)) = True := eq_true (by omega)
        have c1b : decide ((n : Int) = (set.length : Int)) = true := decide_eq_true (by omega)
        have c1c : ((n : Int) == (set.length : Int)) = true := beq_iff_eq.2 (by omega)
        clear hbox hrow hbase hn h c1
        go_enter Tryd.func18, Tryd.ntmps18
        go_wp2
        go_ret
        have hr := ROW.out
        rw [HN.out] at hr
        exact ⟨Below.refl _ _, Or.inr ⟨done, g, cap, rfl, by rw [HN.out]; rfl, hr⟩⟩
      · rw [if_neg c1] at h
        split at h
        case isFalse => cases h
        rename_i hfit
        have HFIT := Aside0.mk hfit
        obtain ⟨c, hc, h1⟩ := Option.bind_eq_some_iff.mp h
        obtain ⟨ws, hw, h2⟩ := Option.bind_eq_some_iff.mp h1
        have A1 := Aside0.mk hc
        have A2 := Aside0.mk hw
        have H' := Aside0.mk h2
        have c1a : ((n : Int) = (set.length : Int)) = False := eq_false (by omega)
        have c1b : decide ((n : Int) = (set.length : Int)) = false := decide_eq_false (by omega)
        have c1c : ((n : Int) == (set.length : Int)) = false := beq_eq_false_iff_ne.2 (by omega)
        have c1d : (0 : Int) ≤ (n : Int) := by omega
        have c1e : (n : Int) < (set.length : Int) := by omega
        obtain ⟨ad, ead, hx⟩ := Kd.at_string hbox.row (n : Int) c1d c1e
        rw [Int.toNat_natCast] at hx
        obtain ⟨x, hxx⟩ : ∃ x, x = rdOf ByteArray.empty set (n : Int) := ⟨_, rfl⟩
        rw [← hxx] at hx
        have A1 := Aside0.mk (show impl_lettersOf.f q x = some c from by rw [hxx, HN.out]; exact A1.out)
        rename_i a1old
        clear a1old
        subst ead
        have hlo := fun W => impl_lettersOf.calls q x c W A1.out
        have hww := fun W A c9 hC hle => impl_wordsWith.calls q A c9 c ws W hC hle A2.out
        clear hbox hrow hbase hn h hfit c1 hxx hc h1 hw h2
        go_enter Tryd.func18, Tryd.ntmps18
        go_wp2_with (first
          | (go_at_call 20; (with_reducible refine (hlo _).mono ?_); rintro e w6 ⟨v6, rfl, ho6, hb6⟩; (obtain ⟨A6, c6, e6, hle6, hC6⟩ := Kd.R_reads ho6); subst e6; have HC6 := Aside0.mk hC6; have HLE6 := Aside0.mk hle6; have HB6 := Aside0.mk hb6; clear ho6 hb6 hC6 hle6)
          | (go_at_call 19; (with_reducible refine (hww _ _ _ HC6.out HLE6.out).mono ?_); rintro e w7 ⟨v7, rfl, ho7, hb7⟩; (obtain ⟨A7, c7, e7, hle7, hC7⟩ := Kd.R_reads ho7); subst e7; have HC7 := Aside0.mk hC7; have HB7 := Aside0.mk (below_step HB6.out hb7); clear ho7 hb7 hC7 hle7))
        have HCD := Aside0.mk (show Kd.C Kd.string w7 (some ⟨g, 0, none⟩) done.length done from Kd.C_below (Kd.R_reads' ROW.out).2.2 HB7.out)
        have HMX := Aside0.mk (Kd.C_max HC7.out)
        have hcl := fun W hC => slices_Clone_string_string.calls (some ⟨g, 0, none⟩) cap done done W hC (by have := (Kd.R_reads' ROW.out).2.1; have := HN.out; omega) (show slices_Clone_string_string.f done = some done from by unfold slices_Clone_string_string.f; rw [if_pos (by have := HFIT.out; omega)])
        rw [← HN.out] at hcl
        clear hcs hx c1a c1b c1c c1d c1e hlo hww
        go_loopg [23] q (fun kq v23 w' => ∃ i : Nat, v23 = .int .i64 (i : Int) ∧ Aside0 (i ≤ ws.length) ∧ Aside0 (impl_PrefixAlike.loop kq set done ws i = some r) ∧ Aside0 (kq ≤ q) ∧ Aside0 (Below w7.heap.size w7 w'))
        case atStart => exact ⟨0, rfl, ⟨by omega⟩, H', ⟨Nat.le_refl _⟩, ⟨Below.refl _ _⟩⟩
        case round =>
          clear H'
          obtain ⟨i, rfl, HI, HA, HK1, HB⟩ := hrel
          cases gk with
          | zero => exact absurd HA.out (by simp [impl_PrefixAlike.loop])
          | succ k1 =>
            have H := HA.out
            clear HA
            simp only [impl_PrefixAlike.loop] at H
            by_cases d1 : i < ws.length
            · rw [if_pos d1] at H
              have d1a : decide ((i : Int) < (ws.length : Int)) = true := decide_eq_true (by omega)
              have d1b : decide (i < ws.length) = true := decide_eq_true d1
              obtain ⟨s, hs⟩ : ∃ s, s = rdOf ByteArray.empty ws (i : Int) := ⟨_, rfl⟩
              rw [← hs] at H
              obtain ⟨ad7, e7, hx7⟩ := Kd.at_string HC7.out (i : Int) (by omega) (by omega)
              subst e7
              rw [Int.toNat_natCast, ← hs] at hx7
              have hx7 := (HB.out.cell (World.block_lt_of_cell? _ _ hx7)).trans hx7
              obtain ⟨b, hb, h1⟩ := Option.bind_eq_some_iff.mp H
              have hfr := fun W hC => impl_isFreeOf.calls (some ⟨g, 0, none⟩) cap done s b W hC (by have := (Kd.R_reads' ROW.out).2.1; have := HN.out; omega) hb
              rw [← HN.out] at hfr
              have D1 := Aside0.mk d1
              have e5 : Aside0 (wrap64 ((i : Int) + 1) = ((i + 1 : Nat) : Int)) := ⟨by unfold wrap64; have := HMX.out; omega⟩
              have hl1 : (done ++ [s]).length = n + 1 := by rw [List.length_append, HN.out]; rfl
              have HL1 := Aside0.mk hl1
              clear hl1 hs H hb
              cases b with
              | false =>
                have H7 := Aside0.mk (show impl_PrefixAlike.loop k1 set done ws (i + 1) = some r from by simpa using h1)
                clear h1
                go_wp2_with (first
                  | (go_at_call 21; (with_reducible refine (hcl _ (by rw [HN.out]; exact Kd.C_below HCD.out HB.out)).mono ?_); rintro e w8 ⟨v8, rfl, ho8, hb8⟩; have HO8 := Aside0.mk ho8; have HB8 := Aside0.mk hb8; clear ho8 hb8)
                  | ((with_reducible refine gate_builtin (b := .append) (xs := #[.tmp 28, .tmp 30]) rfl ?_); at_builtin; refine Kd.R_append Kd.string (w0 := wr) wr.heap.size rfl (.tmp 28) (.tmp 30) 22 9 (.string ⟨#[]⟩) 16 rfl Tryd.underlying22 (by kernel_rfl) rfl (by decide) (by omega) v8 done s [.string s] (fun _ => True) (fun _ => False) rfl rfl ?aP (fun _ hk => hk.elim) ?aF ?aO ?aB ?aS ?aL ?_; (case aP => exact rfl); (case aF => exact fun _ _ => trivial); (case aO => exact HO8.out); (case aB => exact HB8.out); (case aS => exact HB8.out.size); (case aL => have := HFIT.out; omega); intro v9 w9 ho9 hb9 hg9 hat9; (obtain ⟨g9, cap9, e9, -, -, -⟩ := Kd.R_form ho9 (by simp)); subst e9; have HO9 := Aside0.mk ho9; have HB9 := Aside0.mk hb9; clear ho9 hb9 hg9 hat9)
                  | (go_at_call 22; (with_reducible refine (hfr _ (by rw [HN.out]; exact Kd.C_below HCD.out (below_step HB.out HB9.out))).mono ?_); rintro e w10 ⟨rfl, hb10⟩; have HB10 := Aside0.mk (below_step HB9.out hb10); have HO10 := Aside0.mk (Kd.R_below HO9.out hb10); have hcf10 := (BOX.out.below (below_step HB7.out (below_step HB.out (below_step HB9.out hb10)))).hf; clear hb10))
                go_roundg k1
                case measure => omega
                case rel => exact ⟨i + 1, by rw [e5.out], ⟨by have := D1.out; omega⟩, H7, ⟨by have := HK1.out; omega⟩, ⟨below_step HB.out HB10.out⟩⟩
              | true =>
                rw [if_pos rfl] at h1
                obtain ⟨r1, hf1, hr1⟩ := Option.bind_eq_some_iff.mp h1
                have A3 := Aside0.mk hf1
                have q22 : ∀ (W : World) (a : Option Addr) (n c : Nat), (binOp .neq 22 (.slice a n c) (.slice none 0 0)).run Tryd.prog W = .ok (.bool (!a.isNone)) W := fun W a n c => Go.run_neq_slice_nil_any W _ _ a n c 0 0 Tryd.underlying22
                have hfind := fun W base9 g9 cap9 (hbx : PaBox W (some ad) c0 set Bs Bf) hR hbs => ih k1 (by have := HK1.out; omega) (some ad) c0 set Bs Bf (done ++ [s]) r1 W base9 g9 cap9 (done.length + 1) hbx hR hbs (by rw [List.length_append, List.length_singleton]) A3.out
                clear h1 hf1
                cases r1 with
                | none =>
                  have H7 := Aside0.mk (show impl_PrefixAlike.loop k1 set done ws (i + 1) = some r from hr1)
                  clear hr1
                  go_wp2_with (first
                    | (go_at_call 21; (with_reducible refine (hcl _ (by rw [HN.out]; exact Kd.C_below HCD.out HB.out)).mono ?_); rintro e w8 ⟨v8, rfl, ho8, hb8⟩; have HO8 := Aside0.mk ho8; have HB8 := Aside0.mk hb8; clear ho8 hb8)
                    | ((with_reducible refine gate_builtin (b := .append) (xs := #[.tmp 28, .tmp 30]) rfl ?_); at_builtin; refine Kd.R_append Kd.string (w0 := wr) wr.heap.size rfl (.tmp 28) (.tmp 30) 22 9 (.string ⟨#[]⟩) 16 rfl Tryd.underlying22 (by kernel_rfl) rfl (by decide) (by omega) v8 done s [.string s] (fun _ => True) (fun _ => False) rfl rfl ?aP (fun _ hk => hk.elim) ?aF ?aO ?aB ?aS ?aL ?_; (case aP => exact rfl); (case aF => exact fun _ _ => trivial); (case aO => exact HO8.out); (case aB => exact HB8.out); (case aS => exact HB8.out.size); (case aL => have := HFIT.out; omega); intro v9 w9 ho9 hb9 hg9 hat9; (obtain ⟨g9, cap9, e9, -, -, -⟩ := Kd.R_form ho9 (by simp)); subst e9; have HO9 := Aside0.mk ho9; have HB9 := Aside0.mk hb9; clear ho9 hb9 hg9 hat9)
                    | (go_at_call 22; (with_reducible refine (hfr _ (by rw [HN.out]; exact Kd.C_below HCD.out (below_step HB.out HB9.out))).mono ?_); rintro e w10 ⟨rfl, hb10⟩; have HB10 := Aside0.mk (below_step HB9.out hb10); have HO10 := Aside0.mk (Kd.R_below HO9.out hb10); have hcf10 := (BOX.out.below (below_step HB7.out (below_step HB.out (below_step HB9.out hb10)))).hf; clear hb10)
                    | (go_at_call 18; (with_reducible refine (hfind _ wr.heap.size _ _ ?f1 ?f2 ?f3).mono ?_); (case f1 => exact BOX.out.below (below_step HB7.out (below_step HB.out HB10.out))); (case f2 => have h9 := HO10.out; rw [List.length_append, List.length_singleton] at h9; exact h9); (case f3 => exact HB10.out.size); intro e w11 h11; obtain ⟨hb11, rfl⟩ := PaBack.nil h11; have HB11 := Aside0.mk (below_step HB10.out hb11); clear h11 hb11))
                  go_roundg k1
                  case measure => omega
                  case rel => exact ⟨i + 1, by rw [e5.out], ⟨by have := D1.out; omega⟩, H7, ⟨by have := HK1.out; omega⟩, ⟨below_step HB.out HB11.out⟩⟩
                | some y =>
                  obtain rfl : some y = r := by simpa using hr1
                  clear hr1
                  go_wp2_with (first
                    | (go_at_call 21; (with_reducible refine (hcl _ (by rw [HN.out]; exact Kd.C_below HCD.out HB.out)).mono ?_); rintro e w8 ⟨v8, rfl, ho8, hb8⟩; have HO8 := Aside0.mk ho8; have HB8 := Aside0.mk hb8; clear ho8 hb8)
                    | ((with_reducible refine gate_builtin (b := .append) (xs := #[.tmp 28, .tmp 30]) rfl ?_); at_builtin; refine Kd.R_append Kd.string (w0 := wr) wr.heap.size rfl (.tmp 28) (.tmp 30) 22 9 (.string ⟨#[]⟩) 16 rfl Tryd.underlying22 (by kernel_rfl) rfl (by decide) (by omega) v8 done s [.string s] (fun _ => True) (fun _ => False) rfl rfl ?aP (fun _ hk => hk.elim) ?aF ?aO ?aB ?aS ?aL ?_; (case aP => exact rfl); (case aF => exact fun _ _ => trivial); (case aO => exact HO8.out); (case aB => exact HB8.out); (case aS => exact HB8.out.size); (case aL => have := HFIT.out; omega); intro v9 w9 ho9 hb9 hg9 hat9; (obtain ⟨g9, cap9, e9, -, -, -⟩ := Kd.R_form ho9 (by simp)); subst e9; have HO9 := Aside0.mk ho9; have HB9 := Aside0.mk hb9; clear ho9 hb9 hg9 hat9)
                    | (go_at_call 22; (with_reducible refine (hfr _ (by rw [HN.out]; exact Kd.C_below HCD.out (below_step HB.out HB9.out))).mono ?_); rintro e w10 ⟨rfl, hb10⟩; have HB10 := Aside0.mk (below_step HB9.out hb10); have HO10 := Aside0.mk (Kd.R_below HO9.out hb10); have hcf10 := (BOX.out.below (below_step HB7.out (below_step HB.out (below_step HB9.out hb10)))).hf; clear hb10)
                    | (go_at_call 18; (with_reducible refine (hfind _ wr.heap.size _ _ ?f1 ?f2 ?f3).mono ?_); (case f1 => exact BOX.out.below (below_step HB7.out (below_step HB.out HB10.out))); (case f2 => have h9 := HO10.out; rw [List.length_append, List.length_singleton] at h9; exact h9); (case f3 => exact HB10.out.size); intro e w11 h11; obtain ⟨hb11, g11, cap11, rfl, hr11⟩ := PaBack.got h11; have HB11 := Aside0.mk (below_step HB10.out hb11); have HR11 := Aside0.mk hr11; clear h11 hb11 hr11))
                  go_ret
                  exact ⟨below_step HB7.out (below_step HB.out HB11.out), Or.inr ⟨y, g11, cap11, rfl, rfl, Kd.R_lower HR11.out (Nat.le_trans HBASE.out (Nat.le_trans HB7.out.size HB.out.size))⟩⟩
            · rw [if_neg d1] at H
              have d1a : decide ((i : Int) < (ws.length : Int)) = false := decide_eq_false (by omega)
              have d1b : decide (i < ws.length) = false := decide_eq_false d1
              obtain rfl := Option.some.inj H
              clear H d1
              go_wp2
              go_ret
              exact ⟨below_step HB7.out HB.out, Or.inl ⟨rfl, rfl⟩⟩
theorem PaBox.start {w w9 : World} {A0 : Option Addr} {c0 : Nat} {l0 : List ByteArray} (T : TypeId) (hy : w9.cell? ⟨w.heap.size, 0, none⟩ = some (.slice A0 l0.length c0)) (hl : w.heap.size < w9.heap.size) (hrow : Kd.C Kd.string w9 A0 l0.length l0) :
    PaBox (w9.alloc (.cells #[.func (.func 18) #[] #[.pointer (some ⟨w.heap.size, 0, none⟩), .pointer (some ⟨w9.heap.size, 0, none⟩)]] T)) A0 c0 l0 w.heap.size w9.heap.size :=
  ⟨((below_alloc (Below.refl _ _) _).cell (p := ⟨w.heap.size, 0, none⟩) hl).trans hy, cell_of_one (t := T) (by unfold World.alloc; simp), by simp; omega, by simp, Kd.C_alloc hrow _⟩
theorem pa_empty (W : World) : Kd.R Kd.string 9 (W.alloc (.cells #[] 9)) W.heap.size (fun _ => True) (.slice (some ⟨W.heap.size, 0, none⟩) 0 0) [] :=
  Kd.R_of_own (enc := Value.string) (h1 := fun _ => rfl) (World.ownsRow_made W #[] 0 (Nat.le_refl _) (Nat.zero_le _) (by simp)) (fun _ _ => trivial)
set_option maxHeartbeats 8000000 in
set_option maxRecDepth 100000 in
theorem impl_PrefixAlike.calls (k : Nat) (A0 : Option Addr) (c0 : Nat) (l0 : List ByteArray) (r1 : List ByteArray) (r2 : Bool) (w : World) (hr0 : Kd.C Kd.string w A0 l0.length l0) (hc0 : l0.length ≤ c0) (h : impl_PrefixAlike.f k l0 = some (r1, r2)) :
    Calls Tryd.prog 7 #[.slice A0 l0.length c0] w fun e w' => ∃ v0_ : Value, e = .returned (.tuple #[v0_, .bool r2]) ∧ Kd.R Kd.string 9 w' w.heap.size (fun _ => True) v0_ r1 ∧ Below w.heap.size w w' := by
  have HR0 := Aside0.mk hr0
  have HC0 := Aside0.mk hc0
  have q22 : ∀ (W : World) (a : Option Addr) (n c : Nat), (binOp .eql 22 (.slice a n c) (.slice none 0 0)).run Tryd.prog W = .ok (.bool a.isNone) W := fun W a n c => Lib.run_eql_slice_nil W _ _ a n c 0 0 Tryd.underlying22
  unfold impl_PrefixAlike.f at h
  obtain ⟨b, A10, h1⟩ := Option.bind_eq_some_iff.mp h
  have A1 := Aside0.mk A10
  have HB0 := Aside0.mk (below_alloc (Below.refl w.heap.size w) (.cells #[.slice A0 l0.length c0] 22))
  clear hr0 hc0 h A10
  cases b with
  | false =>
    obtain ⟨rfl, rfl⟩ : [] = r1 ∧ false = r2 := by simpa using h1
    clear h1
    go_enter Tryd.func7, Tryd.ntmps7
    go_wp2_with (go_at_call 15; (with_reducible refine (impl_isSet.calls k _ _ l0 false _ (Kd.C_below HR0.out HB0.out) HC0.out A1.out).mono ?_); rintro e w7 ⟨rfl, hb⟩; have HB7 := Aside0.mk (below_step HB0.out hb); clear hb)
    go_ret2
    exact ⟨_, rfl, Kd.R_nil Kd.string _ _ _ _, HB7.out⟩
  | true =>
    rw [if_pos rfl] at h1
    by_cases c6 : (l0.length : Int) > 6
    · rw [if_pos c6] at h1
      obtain ⟨rfl, rfl⟩ : [] = r1 ∧ false = r2 := by simpa using h1
      have c6a : decide ((l0.length : Int) > 6) = true := decide_eq_true c6
      have c6b : decide (6 < (l0.length : Int)) = true := decide_eq_true c6
      have c6c : decide (6 < l0.length) = true := decide_eq_true (by omega)
      clear h1 c6
      go_enter Tryd.func7, Tryd.ntmps7
      go_wp2_with (go_at_call 15; (with_reducible refine (impl_isSet.calls k _ _ l0 true _ (Kd.C_below HR0.out HB0.out) HC0.out A1.out).mono ?_); rintro e w7 ⟨rfl, hb⟩; have HB7 := Aside0.mk (below_step HB0.out hb); have hy7 : w7.cell? ⟨w.heap.size, 0, none⟩ = some (.slice A0 l0.length c0) := (hb.cell (p := ⟨w.heap.size, 0, none⟩) (by simp)).trans (by go_simp); clear hb)
      go_ret2
      exact ⟨_, rfl, Kd.R_nil Kd.string _ _ _ _, HB7.out⟩
    · rw [if_neg c6] at h1
      have c6a : decide ((l0.length : Int) > 6) = false := decide_eq_false c6
      have c6b : decide (6 < (l0.length : Int)) = false := decide_eq_false c6
      have c6c : decide (6 < l0.length) = false := decide_eq_false (by omega)
      obtain ⟨ls, hls, h2⟩ := Option.bind_eq_some_iff.mp h1
      obtain ⟨s, hs, h3⟩ := Option.bind_eq_some_iff.mp h2
      have A2 := Aside0.mk hls
      have A3 := Aside0.mk hs
      clear c6 h1 h2 hls hs
      by_cases c14 : s > 14
      · rw [if_pos c14] at h3
        obtain ⟨rfl, rfl⟩ : [] = r1 ∧ false = r2 := by simpa using h3
        have c14a : decide (s > 14) = true := decide_eq_true c14
        have c14b : decide (14 < s) = true := decide_eq_true c14
        clear h3 c14
        go_enter Tryd.func7, Tryd.ntmps7
        go_wp2_with (first
          | (go_at_call 15; (with_reducible refine (impl_isSet.calls k _ _ l0 true _ (Kd.C_below HR0.out HB0.out) HC0.out A1.out).mono ?_); rintro e w7 ⟨rfl, hb⟩; have HB7 := Aside0.mk (below_step HB0.out hb); have hy7 : w7.cell? ⟨w.heap.size, 0, none⟩ = some (.slice A0 l0.length c0) := (hb.cell (p := ⟨w.heap.size, 0, none⟩) (by simp)).trans (by go_simp); have HL7 := Aside0.mk (show w.heap.size < w7.heap.size from by have := hb.size; simp at this; omega); clear hb)
          | (go_at_call 17; (with_reducible refine (impl_lengthsOf.calls k _ _ l0 ls _ (Kd.C_below HR0.out HB7.out) HC0.out A2.out).mono ?_); rintro e w8 ⟨v8, rfl, ho8, hb8⟩; (obtain ⟨A8, c8, e8, hle8, hC8⟩ := Kd.R_reads ho8); subst e8; have HB8 := Aside0.mk (below_step HB7.out hb8); have HC8 := Aside0.mk hC8; have HE8 := Aside0.mk hle8; have hy8 : w8.cell? ⟨w.heap.size, 0, none⟩ = some (.slice A0 l0.length c0) := (hb8.cell (p := ⟨w.heap.size, 0, none⟩) HL7.out).trans hy7; have HL8 := Aside0.mk (Nat.lt_of_lt_of_le HL7.out hb8.size); clear ho8 hb8 hle8 hC8)
          | (go_at_call 16; (with_reducible refine (impl_sumWeights.calls k _ _ ls s _ HC8.out HE8.out A3.out).mono ?_); rintro e w9 ⟨rfl, hb9⟩; have HB9 := Aside0.mk (below_step HB8.out (Drawn0.below hb9)); have hy9 : w9.cell? ⟨w.heap.size, 0, none⟩ = some (.slice A0 l0.length c0) := ((Drawn0.below hb9).cell (p := ⟨w.heap.size, 0, none⟩) HL8.out).trans hy8; have HL9 := Aside0.mk (Nat.lt_of_lt_of_le HL8.out (Drawn0.below hb9).size); clear hb9))
        go_ret2
        exact ⟨_, rfl, Kd.R_nil Kd.string _ _ _ _, HB9.out⟩
      · rw [if_neg c14] at h3
        have c14a : decide (s > 14) = false := decide_eq_false c14
        have c14b : decide (14 < s) = false := decide_eq_false c14
        unfold impl_PrefixAlike.g at h3
        obtain ⟨rr, hf, h4⟩ := Option.bind_eq_some_iff.mp h3
        have A4 := Aside0.mk hf
        have H4 := Aside0.mk h4
        clear h3 c14 hf h4
        go_enter Tryd.func7, Tryd.ntmps7
        go_upto_region 3 with (first
          | (go_at_call 15; (with_reducible refine (impl_isSet.calls k _ _ l0 true _ (Kd.C_below HR0.out HB0.out) HC0.out A1.out).mono ?_); rintro e w7 ⟨rfl, hb⟩; have HB7 := Aside0.mk (below_step HB0.out hb); have hy7 : w7.cell? ⟨w.heap.size, 0, none⟩ = some (.slice A0 l0.length c0) := (hb.cell (p := ⟨w.heap.size, 0, none⟩) (by simp)).trans (by go_simp); have HL7 := Aside0.mk (show w.heap.size < w7.heap.size from by have := hb.size; simp at this; omega); clear hb)
          | (go_at_call 17; (with_reducible refine (impl_lengthsOf.calls k _ _ l0 ls _ (Kd.C_below HR0.out HB7.out) HC0.out A2.out).mono ?_); rintro e w8 ⟨v8, rfl, ho8, hb8⟩; (obtain ⟨A8, c8, e8, hle8, hC8⟩ := Kd.R_reads ho8); subst e8; have HB8 := Aside0.mk (below_step HB7.out hb8); have HC8 := Aside0.mk hC8; have HE8 := Aside0.mk hle8; have hy8 : w8.cell? ⟨w.heap.size, 0, none⟩ = some (.slice A0 l0.length c0) := (hb8.cell (p := ⟨w.heap.size, 0, none⟩) HL7.out).trans hy7; have HL8 := Aside0.mk (Nat.lt_of_lt_of_le HL7.out hb8.size); clear ho8 hb8 hle8 hC8)
          | (go_at_call 16; (with_reducible refine (impl_sumWeights.calls k _ _ ls s _ HC8.out HE8.out A3.out).mono ?_); rintro e w9 ⟨rfl, hb9⟩; have HB9 := Aside0.mk (below_step HB8.out (Drawn0.below hb9)); have hy9 : w9.cell? ⟨w.heap.size, 0, none⟩ = some (.slice A0 l0.length c0) := ((Drawn0.below hb9).cell (p := ⟨w.heap.size, 0, none⟩) HL8.out).trans hy8; have HL9 := Aside0.mk (Nat.lt_of_lt_of_le HL8.out (Drawn0.below hb9).size); clear hb9))
        have HBX := Aside0.mk (PaBox.start 26 hy9 HL9.out (Kd.C_below HR0.out HB9.out))
        have HB4 := Aside0.mk (show Below w.heap.size w (w9.alloc (.cells #[.func (.func 18) #[] #[.pointer (some ⟨w.heap.size, 0, none⟩), .pointer (some ⟨w9.heap.size, 0, none⟩)]] 26)) from below_alloc HB9.out _)
        have h4 := H4.out
        clear H4 hy9
        go_upto_region 5 with fail
        generalize (w9.alloc (.cells #[.func (.func 18) #[] #[.pointer (some ⟨w.heap.size, 0, none⟩), .pointer (some ⟨w9.heap.size, 0, none⟩)]] 26)) = W4 at HBX HB4 ⊢
        have hcf := HBX.out.hf
        cases rr with
        | none =>
          obtain ⟨rfl, rfl⟩ : [] = r1 ∧ false = r2 := by simpa using h4
          clear h4
          go_wp2_with (go_at_call 18; (with_reducible refine (impl_PrefixAlike.find_calls k A0 c0 l0 _ _ [] none _ _ _ 0 0 (HBX.out.below (below_alloc (Below.refl _ _) _)) (pa_empty _) (by simp) rfl A4.out).mono ?_); intro e w11 h11; obtain ⟨hb11, rfl⟩ := PaBack.nil h11; have HB11 := Aside0.mk (below_step (below_alloc HB4.out _) hb11); clear h11 hb11)
          go_ret2
          exact ⟨_, rfl, Kd.R_nil Kd.string _ _ _ _, HB11.out⟩
        | some y =>
          obtain ⟨o, ho, h5⟩ := Option.bind_eq_some_iff.mp h4
          obtain ⟨rfl, rfl⟩ : o = r1 ∧ true = r2 := by simpa using h5
          have A5 := Aside0.mk ho
          clear h4 h5 ho
          go_wp2_with (first
            | (go_at_call 18; (with_reducible refine (impl_PrefixAlike.find_calls k A0 c0 l0 _ _ [] (some y) _ _ _ 0 0 (HBX.out.below (below_alloc (Below.refl _ _) _)) (pa_empty _) (by simp) rfl A4.out).mono ?_); intro e w11 h11; obtain ⟨hb11, g11, cap11, rfl, hr11⟩ := PaBack.got h11; have HB11 := Aside0.mk (below_step (below_alloc HB4.out _) hb11); have HR11 := Aside0.mk hr11; clear h11 hb11 hr11)
            | (go_at_call 23; (with_reducible refine (impl_ordered.calls _ _ y o _ (Kd.R_reads' HR11.out).2.2 (Kd.R_reads' HR11.out).2.1 A5.out).mono ?_); rintro e w12 ⟨v12, rfl, ho12, hb12⟩; have HB12 := Aside0.mk (below_step HB11.out hb12); have HO12 := Aside0.mk (Kd.R_lower ho12 HB11.out.size); clear ho12 hb12))
          go_ret2
          exact ⟨_, rfl, HO12.out, HB12.out⟩

/-! ### laws_eqStringS: function 8 -/
def laws_eqStringS.l0 : Nat → List ByteArray → List ByteArray → Int → Option (Bool)
  | 0, _, _, _ => none
  | k + 1, x0, x1, x5 => if x5 < (x0.length : Int) then (if 0 ≤ x5 then (if x5 < (x1.length : Int) then (if (rdOf ByteArray.empty x0 x5).toList = (rdOf ByteArray.empty x1 x5).toList then (laws_eqStringS.l0 k x0 x1 (wrap64 (x5 + 1))) else (some false)) else (none)) else (none)) else (some true)
def laws_eqStringS.f (k : Nat) (l0 : List ByteArray) (l1 : List ByteArray) : Option (Bool) := if (l0.length : Int) = (l1.length : Int) then (laws_eqStringS.l0 k l0 l1 0) else (some false)
theorem laws_eqStringS.mono_l : ∀ k, (∀ y0 y1 y2, LeO (laws_eqStringS.l0 k y0 y1 y2) (laws_eqStringS.l0 (k + 1) y0 y1 y2))
  | 0 => fun _ _ _ r h => by simp [laws_eqStringS.l0] at h
  | k + 1 => by
    have ih0 := laws_eqStringS.mono_l k
    · intro y0 y1 y2
      unfold laws_eqStringS.l0
      repeat' first
      | (with_reducible exact ih0 _ _ _)
      | (with_reducible exact LeO.refl _)
      | (with_reducible exact LeO.none _)
      | (with_reducible refine LeO.ite ?_ ?_)
      | (with_reducible refine LeO.bind ?_ (fun _ => ?_))
      | exact ih0 _ _ _
      | exact LeO.none _
      | refine LeO.ite ?_ ?_
      | refine LeO.bind ?_ (fun _ => ?_)
theorem laws_eqStringS.mono : ∀ a0 a1 k, LeO (laws_eqStringS.f k a0 a1) (laws_eqStringS.f (k + 1) a0 a1) := by
  intro a0 a1 k
  have ih0 := laws_eqStringS.mono_l k
  unfold laws_eqStringS.f
  repeat' first
      | (with_reducible exact ih0 _ _ _)
      | (with_reducible exact LeO.refl _)
      | (with_reducible exact LeO.none _)
      | (with_reducible refine LeO.ite ?_ ?_)
      | (with_reducible refine LeO.bind ?_ (fun _ => ?_))
      | exact ih0 _ _ _
      | exact LeO.none _
      | refine LeO.ite ?_ ?_
      | refine LeO.bind ?_ (fun _ => ?_)
set_option maxHeartbeats 8000000 in
set_option maxRecDepth 100000 in
theorem laws_eqStringS.calls (k : Nat) (A0 : Option Addr) (c0 : Nat) (l0 : List ByteArray) (A1 : Option Addr) (c1 : Nat) (l1 : List ByteArray) (r : Bool) (w : World) (hr0 : Kd.C Kd.string w A0 l0.length l0) (hc0 : l0.length ≤ c0) (hr1 : Kd.C Kd.string w A1 l1.length l1) (hc1 : l1.length ≤ c1) (h : laws_eqStringS.f k l0 l1 = some r) :
    Calls Tryd.prog 8 #[.slice A0 l0.length c0, .slice A1 l1.length c1] w fun e w' => e = .returned (.bool r) ∧ Drawn0 w w' := by
  have HR0 := Aside0.mk hr0
  have HC0 := Aside0.mk hc0
  clear hr0 hc0
  have HR1 := Aside0.mk hr1
  have HC1 := Aside0.mk hc1
  clear hr1 hc1
  have H : (if (l0.length : Int) = (l1.length : Int) then (laws_eqStringS.l0 k l0 l1 0) else (some false)) = some r := h
  clear h
  by_cases c3 : (l0.length : Int) = (l1.length : Int)
  · rw [if_pos c3] at H
    have c3b0 : ((l0.length : Int) == (l1.length : Int)) = true := beq_iff_eq.mpr c3
    have c3b1 : ((l0.length : Int) != (l1.length : Int)) = false := bne_eq_false_iff_eq.mpr c3
    have c3b2 : (l0.length == l1.length) = true := by first | simpa using c3 | (simp at c3 ⊢; omega)
    clear c3
    have H' := Aside0.mk H
    clear H
    go_enter Tryd.func8, Tryd.ntmps8
    go_wp2
    repeat (go_quiet (fail); try go_wp2)
    go_loopg [5] k (fun kq v5 w' => ∃ (x5_1 : Int), v5 = .int .i64 x5_1 ∧ Aside0 (laws_eqStringS.l0 kq l0 l1 x5_1 = some r) ∧ Aside0 (kq ≤ k) ∧ Drawn0 w w')
    case atStart => exact ⟨(0), (by first | rfl | (simp; done) | (simp [*]; done) | (simp only [IntWalk.i64_left]; done) | (simp [IntWalk.i64_left]; done) | (simp [*, IntWalk.i64_left]; done)), H', ⟨Nat.le_refl _⟩, by repeat (first | exact Drawn0.refl _ | apply Drawn0.step)⟩
    case round =>
      clear H'
      try clear c1
      try clear p2
      try clear c3
      try clear c3b0
      try clear c3b1
      try clear c3b2
      obtain ⟨x5_1, rfl, HA, HK1, ⟨m1, rfl⟩⟩ := hrel
      cases gk with
      | zero => exact absurd HA.out (by simp [laws_eqStringS.l0])
      | succ k1 =>
        have H := HA.out
        clear HA
        simp only [laws_eqStringS.l0] at H
        by_cases c4 : x5_1 < (l0.length : Int)
        · rw [if_pos c4] at H
          have c4b0 : decide (x5_1 < (l0.length : Int)) = true := decide_eq_true c4
          clear c4
          by_cases c5 : 0 ≤ x5_1
          · rw [if_pos c5] at H
            have c5b0 : decide (0 ≤ x5_1) = true := decide_eq_true c5
            clear c5
            by_cases c6 : x5_1 < (l1.length : Int)
            · rw [if_pos c6] at H
              have c6b0 : decide (x5_1 < (l1.length : Int)) = true := decide_eq_true c6
              clear c6
              by_cases c7 : (rdOf ByteArray.empty l0 x5_1).toList = (rdOf ByteArray.empty l1 x5_1).toList
              · rw [if_pos c7] at H
                have c7b0 : ((rdOf ByteArray.empty l0 x5_1).toList == (rdOf ByteArray.empty l1 x5_1).toList) = true := beq_iff_eq.mpr c7
                have c7b1 : ((rdOf ByteArray.empty l0 x5_1).toList != (rdOf ByteArray.empty l1 x5_1).toList) = false := bne_eq_false_iff_eq.mpr c7
                clear c7
                have H' := Aside0.mk H
                clear H
                have p256 : 0 ≤ (x5_1 : Int) := of_decide_eq_true (by first | (with_reducible assumption) | assumption)
                have q256 : x5_1 < (l0.length : Int) := of_decide_eq_true (by first | (with_reducible assumption) | assumption)
                obtain ⟨ad256, e256, hx256_0⟩ := Kd.at_string HR0.out x5_1 p256 q256
                cases e256
                replace p256 := eq_true p256
                replace q256 := eq_true q256
                have p257 : 0 ≤ (x5_1 : Int) := of_decide_eq_true (by first | (with_reducible assumption) | assumption)
                have q257 : x5_1 < (l1.length : Int) := of_decide_eq_true (by first | (with_reducible assumption) | assumption)
                obtain ⟨ad257, e257, hx257_0⟩ := Kd.at_string HR1.out x5_1 p257 q257
                cases e257
                replace p257 := eq_true p257
                replace q257 := eq_true q257
                go_wp2
                repeat (go_quiet (fail); try go_wp2)
                go_roundg k1
                case measure => have := HK1.out; omega
                case rel => exact ⟨(wrap64 (x5_1 + 1)), (by first | rfl | (simp; done) | (simp [*]; done) | (simp only [IntWalk.i64_left]; done) | (simp [IntWalk.i64_left]; done) | (simp [*, IntWalk.i64_left]; done)), H', ⟨by have := HK1.out; omega⟩, by repeat (first | exact Drawn0.refl _ | apply Drawn0.step)⟩
              · rw [if_neg c7] at H
                have c7b0 : ((rdOf ByteArray.empty l0 x5_1).toList == (rdOf ByteArray.empty l1 x5_1).toList) = false := beq_eq_false_iff_ne.mpr c7
                have c7b1 : ((rdOf ByteArray.empty l0 x5_1).toList != (rdOf ByteArray.empty l1 x5_1).toList) = true := bne_iff_ne.mpr c7
                obtain rfl := Option.some.inj H
                have p256 : 0 ≤ (x5_1 : Int) := of_decide_eq_true (by first | (with_reducible assumption) | assumption)
                have q256 : x5_1 < (l0.length : Int) := of_decide_eq_true (by first | (with_reducible assumption) | assumption)
                obtain ⟨ad256, e256, hx256_0⟩ := Kd.at_string HR0.out x5_1 p256 q256
                cases e256
                replace p256 := eq_true p256
                replace q256 := eq_true q256
                have p257 : 0 ≤ (x5_1 : Int) := of_decide_eq_true (by first | (with_reducible assumption) | assumption)
                have q257 : x5_1 < (l1.length : Int) := of_decide_eq_true (by first | (with_reducible assumption) | assumption)
                obtain ⟨ad257, e257, hx257_0⟩ := Kd.at_string HR1.out x5_1 p257 q257
                cases e257
                replace p257 := eq_true p257
                replace q257 := eq_true q257
                go_wp2
                repeat (go_quiet (fail); try go_wp2)
                go_ret
                exact ⟨by first | rfl | (simp; done) | (simp [*]; done) | (simp only [IntWalk.i64_left]; done) | (simp [IntWalk.i64_left]; done) | (simp [*, IntWalk.i64_left]; done), by repeat (first | exact Drawn0.refl _ | apply Drawn0.step)⟩
            · rw [if_neg c6] at H
              exact absurd H (by simp)
          · rw [if_neg c5] at H
            exact absurd H (by simp)
        · rw [if_neg c4] at H
          have c4b0 : decide (x5_1 < (l0.length : Int)) = false := decide_eq_false c4
          clear c4
          obtain rfl := Option.some.inj H
          go_wp2
          repeat (go_quiet (fail); try go_wp2)
          go_ret
          exact ⟨by first | rfl | (simp; done) | (simp [*]; done) | (simp only [IntWalk.i64_left]; done) | (simp [IntWalk.i64_left]; done) | (simp [*, IntWalk.i64_left]; done), by repeat (first | exact Drawn0.refl _ | apply Drawn0.step)⟩
  · rw [if_neg c3] at H
    have c3b0 : ((l0.length : Int) == (l1.length : Int)) = false := beq_eq_false_iff_ne.mpr c3
    have c3b1 : ((l0.length : Int) != (l1.length : Int)) = true := bne_iff_ne.mpr c3
    have c3b2 : (l0.length == l1.length) = false := by first | simpa using c3 | (simp at c3 ⊢; omega)
    obtain rfl := Option.some.inj H
    go_enter Tryd.func8, Tryd.ntmps8
    go_wp2
    repeat (go_quiet (fail); try go_wp2)
    go_ret
    exact ⟨by first | rfl | (simp; done) | (simp [*]; done) | (simp only [IntWalk.i64_left]; done) | (simp [IntWalk.i64_left]; done) | (simp [*, IntWalk.i64_left]; done), by repeat (first | exact Drawn0.refl _ | apply Drawn0.step)⟩

/-! ### laws_markText: function 24 -/
def laws_markText.l0 : Nat → Int → ByteArray → Option (ByteArray)
  | 0, _, _ => none
  | k + 1, x0, x3 => if x0 > 0 then ((some (([(wrap64 (48 + (Int.tmod x0 10))) % 256] : List Int) : List Int)).bind fun y258 => (if (strOfNums y258).size + x3.size ≤ 9223372036854775807 then (laws_markText.l0 k (wrap64 (Int.tdiv x0 10)) ((strOfNums y258) ++ x3)) else (none))) else (if 1 + x3.size ≤ 9223372036854775807 then (some ((⟨#[109]⟩ : ByteArray) ++ x3)) else (none))
def laws_markText.f (k : Nat) (a0 : Int) : Option (ByteArray) := if a0 ≤ 0 then (some (⟨#[109, 48]⟩ : ByteArray)) else (laws_markText.l0 k a0 (⟨#[]⟩ : ByteArray))
theorem laws_markText.mono_l : ∀ k, (∀ y0 y1, LeO (laws_markText.l0 k y0 y1) (laws_markText.l0 (k + 1) y0 y1))
  | 0 => fun _ _ r h => by simp [laws_markText.l0] at h
  | k + 1 => by
    have ih0 := laws_markText.mono_l k
    · intro y0 y1
      unfold laws_markText.l0
      repeat' first
      | (with_reducible exact ih0 _ _)
      | (with_reducible exact LeO.refl _)
      | (with_reducible exact LeO.none _)
      | (with_reducible refine LeO.ite ?_ ?_)
      | (with_reducible refine LeO.bind ?_ (fun _ => ?_))
      | exact ih0 _ _
      | exact LeO.none _
      | refine LeO.ite ?_ ?_
      | refine LeO.bind ?_ (fun _ => ?_)
theorem laws_markText.mono : ∀ a0 k, LeO (laws_markText.f k a0) (laws_markText.f (k + 1) a0) := by
  intro a0 k
  have ih0 := laws_markText.mono_l k
  unfold laws_markText.f
  repeat' first
      | (with_reducible exact ih0 _ _)
      | (with_reducible exact LeO.refl _)
      | (with_reducible exact LeO.none _)
      | (with_reducible refine LeO.ite ?_ ?_)
      | (with_reducible refine LeO.bind ?_ (fun _ => ?_))
      | exact ih0 _ _
      | exact LeO.none _
      | refine LeO.ite ?_ ?_
      | refine LeO.bind ?_ (fun _ => ?_)
set_option maxHeartbeats 8000000 in
set_option maxRecDepth 100000 in
theorem laws_markText.calls (k : Nat) (a0 : Int) (r : ByteArray) (w : World) (h : laws_markText.f k a0 = some r) :
    Calls Tryd.prog 24 #[.int .i64 a0] w fun e w' => e = .returned (.string r) ∧ Below w.heap.size w w' := by
  have HB := Aside0.mk (Below.refl w.heap.size w)
  have H : (if a0 ≤ 0 then (some (⟨#[109, 48]⟩ : ByteArray)) else (laws_markText.l0 k a0 (⟨#[]⟩ : ByteArray))) = some r := h
  clear h
  by_cases c2 : a0 ≤ 0
  · rw [if_pos c2] at H
    have c2b0 : decide (a0 ≤ 0) = true := decide_eq_true c2
    clear c2
    obtain rfl := Option.some.inj H
    go_enter Tryd.func24, Tryd.ntmps24
    go_wp2
    go_ret
    exact ⟨by first | rfl | (simp [errW_none, errW_some] <;> rfl) | (simp [*, errW_none, errW_some] <;> rfl), by repeat (first | (with_reducible first | exact HB.out | apply below_alloc | apply pw_below_drewN | apply below_drew1) | exact HB.out)⟩
  · rw [if_neg c2] at H
    have c2b0 : decide (a0 ≤ 0) = false := decide_eq_false c2
    clear c2
    have H' := Aside0.mk H
    clear H
    go_enter Tryd.func24, Tryd.ntmps24
    go_wp2
    go_loopg [0, 3] k (fun kq v0 v3 w' => ∃ (x0_1 : Int) (x3_1 : ByteArray), v0 = .int .i64 x0_1 ∧ v3 = .string x3_1 ∧ Aside0 (laws_markText.l0 kq x0_1 x3_1 = some r) ∧ Aside0 (kq ≤ k) ∧ Aside0 (Below w.heap.size w w'))
    case atStart => exact ⟨(a0), ((⟨#[]⟩ : ByteArray)), (by first | rfl | (simp; done) | (simp [*]; done) | (simp only [IntWalk.i64_left]; done) | (simp [IntWalk.i64_left]; done) | (simp [*, IntWalk.i64_left]; done)), (by first | rfl | (simp; done) | (simp [*]; done) | (simp only [IntWalk.i64_left]; done) | (simp [IntWalk.i64_left]; done) | (simp [*, IntWalk.i64_left]; done)), H', ⟨Nat.le_refl _⟩, ⟨by repeat (first | (with_reducible first | exact HB.out | apply below_alloc | apply pw_below_drewN | apply below_drew1) | exact HB.out)⟩⟩
    case round =>
      clear H'
      try clear c2
      try clear c2b0
      try clear p2
      obtain ⟨x0_1, x3_1, rfl, rfl, HA, HK1, HB⟩ := hrel
      cases gk with
      | zero => exact absurd HA.out (by simp [laws_markText.l0])
      | succ k1 =>
        have H := HA.out
        clear HA
        simp only [laws_markText.l0] at H
        by_cases c3 : x0_1 > 0
        · rw [if_pos c3] at H
          have c3b0 : decide (0 < x0_1) = true := decide_eq_true c3
          clear c3
          obtain ⟨y258, hy258⟩ : ∃ y_ : List Int, y_ = (([(wrap64 (48 + (Int.tmod x0_1 10))) % 256] : List Int)) := ⟨_, rfl⟩
          replace H : (if (strOfNums y258).size + x3_1.size ≤ 9223372036854775807 then (laws_markText.l0 k1 (wrap64 (Int.tdiv x0_1 10)) ((strOfNums y258) ++ x3_1)) else (none)) = some r := by first | (rw [hy258]; with_reducible exact H) | (have H2_ := (Option.bind_some _ _).symm.trans H; rw [hy258]; with_reducible exact H2_) | (have H2_ := (Option.bind_some _ _).symm.trans H; with_reducible exact H2_) | with_reducible exact H | (rw [hy258]; exact H) | exact H
          have Ny258 := Aside0.mk hy258
          clear hy258
          by_cases c4 : (strOfNums y258).size + x3_1.size ≤ 9223372036854775807
          · rw [if_pos c4] at H
            have c4b0 := eq_true c4
            have c4b1 : decide ((strOfNums y258).size + x3_1.size ≤ 9223372036854775807) = true := decide_eq_true c4
            try have c4b2 : (9223372036854775807 < (strOfNums y258).size + x3_1.size) = False := eq_false (Nat.not_lt.2 c4)
            have H' := Aside0.mk H
            clear H
            go_wp2_with (first | ((with_reducible refine gate_dst (N := 12) rfl ?_); refine Kd.R_lit (Kd.int .u8) _ 5 ?hg (N := 12) ?hd (xs := ([(wrap64 (48 + (Int.tmod x0_1 10))) % 256] : List Int)) (inner := [.int .u8 ((wrap64 (48 + (Int.tmod x0_1 10))) % 256)]) (ok := fun _ => True) (okp := fun _ => True) ?hr ?hp (fun _ hk => hk) trivial (Below.refl _ _) (Nat.le_refl _) (by simp) ?_; (case hd => rfl); (case hg => rfl); (case hr => first | (go_simp; done) | (go_simp; rfl)); (case hp => exact (Reps.one (show Kd.M (Kd.int .u8) _ _ _ ((wrap64 (48 + (Int.tmod x0_1 10))) % 256) [.int .u8 ((wrap64 (48 + (Int.tmod x0_1 10))) % 256)] from rfl) (Reps.none _ _))); intro v259 w5 ho6 hb hg_ hnew_; clear hg_ hnew_; (first | rw [← Ny258.out] at ho6 | (simp only [Int.reduceToNat] at ho6; rw [← Ny258.out] at ho6)); have n0_ := Aside0.mk (Kd.R_lower ho6 (below_size (by repeat (first | (with_reducible first | exact HB.out | apply below_alloc | apply pw_below_drewN | apply below_drew1) | exact HB.out)))); have n1_ := Aside0.mk (below_step (by repeat (first | (with_reducible first | exact HB.out | apply below_alloc | apply pw_below_drewN | apply below_drew1) | exact HB.out)) hb); clear HB; have HO260 := n0_; have HB := n1_; clear n0_ n1_; clear hb ho6; have hcv7 := own_string (P := Tryd.prog) Tryd.underlying51 Tryd.underlying5 Tryd.underlying9 (Kd.own_of_R HO260.out)))
            go_roundg k1
            case measure => have := HK1.out; omega
            case rel => exact ⟨(wrap64 (Int.tdiv x0_1 10)), ((strOfNums y258) ++ x3_1), (by first | rfl | (simp; done) | (simp [*]; done) | (simp only [IntWalk.i64_left]; done) | (simp [IntWalk.i64_left]; done) | (simp [*, IntWalk.i64_left]; done)), (by first | rfl | (simp; done) | (simp [*]; done) | (simp only [IntWalk.i64_left]; done) | (simp [IntWalk.i64_left]; done) | (simp [*, IntWalk.i64_left]; done)), H', ⟨by have := HK1.out; omega⟩, ⟨by repeat (first | (with_reducible first | exact HB.out | apply below_alloc | apply pw_below_drewN | apply below_drew1) | exact HB.out)⟩⟩
          · rw [if_neg c4] at H
            exact absurd H (by simp)
        · rw [if_neg c3] at H
          have c3b0 : decide (0 < x0_1) = false := decide_eq_false c3
          clear c3
          by_cases c8 : 1 + x3_1.size ≤ 9223372036854775807
          · rw [if_pos c8] at H
            have c8b0 := eq_true c8
            have c8b1 : decide (1 + x3_1.size ≤ 9223372036854775807) = true := decide_eq_true c8
            try have c8b2 : (9223372036854775807 < 1 + x3_1.size) = False := eq_false (Nat.not_lt.2 c8)
            obtain rfl := Option.some.inj H
            go_wp2
            go_ret
            exact ⟨by first | rfl | (simp [errW_none, errW_some] <;> rfl) | (simp [*, errW_none, errW_some] <;> rfl), by repeat (first | (with_reducible first | exact HB.out | apply below_alloc | apply pw_below_drewN | apply below_drew1) | exact HB.out)⟩
          · rw [if_neg c8] at H
            exact absurd H (by simp)

/-! ### laws_markStringS: function 9 -/
def laws_markStringS.l0 : Nat → List ByteArray → Int → Int → Option (Int × List ByteArray)
  | 0, _, _, _ => none
  | k + 1, x0, x1, x5 => if x5 < (x0.length : Int) then ((laws_markText.f k x1).bind fun t261 => (if 0 ≤ x5 then (laws_markStringS.l0 k (x0.set (x5 : Int).toNat t261) (wrap64 (x1 + 1)) (wrap64 (x5 + 1))) else (none))) else (some (x1, x0))
def laws_markStringS.f (k : Nat) (l0 : List ByteArray) (a1 : Int) : Option (Int × List ByteArray) := laws_markStringS.l0 k l0 a1 0
theorem laws_markStringS.mono_l : ∀ k, (∀ y0 y1 y2, LeO (laws_markStringS.l0 k y0 y1 y2) (laws_markStringS.l0 (k + 1) y0 y1 y2))
  | 0 => fun _ _ _ r h => by simp [laws_markStringS.l0] at h
  | k + 1 => by
    have ih0 := laws_markStringS.mono_l k
    · intro y0 y1 y2
      unfold laws_markStringS.l0
      repeat' first
      | (with_reducible exact ih0 _ _ _)
      | (with_reducible exact laws_markText.mono _ _)
      | (with_reducible exact LeO.refl _)
      | (with_reducible exact LeO.none _)
      | (with_reducible refine LeO.ite ?_ ?_)
      | (with_reducible refine LeO.bind ?_ (fun _ => ?_))
      | exact ih0 _ _ _
      | exact laws_markText.mono _ _
      | exact LeO.none _
      | refine LeO.ite ?_ ?_
      | refine LeO.bind ?_ (fun _ => ?_)
theorem laws_markStringS.mono : ∀ a0 a1 k, LeO (laws_markStringS.f k a0 a1) (laws_markStringS.f (k + 1) a0 a1) := by
  intro a0 a1 k
  have ih0 := laws_markStringS.mono_l k
  unfold laws_markStringS.f
  repeat' first
      | (with_reducible exact ih0 _ _ _)
      | (with_reducible exact laws_markText.mono _ _)
      | (with_reducible exact LeO.refl _)
      | (with_reducible exact LeO.none _)
      | (with_reducible refine LeO.ite ?_ ?_)
      | (with_reducible refine LeO.bind ?_ (fun _ => ?_))
      | exact ih0 _ _ _
      | exact laws_markText.mono _ _
      | exact LeO.none _
      | refine LeO.ite ?_ ?_
      | refine LeO.bind ?_ (fun _ => ?_)
set_option maxHeartbeats 8000000 in
set_option maxRecDepth 100000 in
theorem laws_markStringS.calls (k : Nat) (P0_ : Nat → Prop) (u9000_ : Value) (l0 : List ByteArray) (a1 : Int) (r1 : Int) (r2 : List ByteArray) (w0 w : World) (hB : Below w0.heap.size w0 w) (ho0 : Kd.R Kd.string 9 w w0.heap.size P0_ u9000_ l0) (h : laws_markStringS.f k l0 a1 = some (r1, r2)) :
    Calls Tryd.prog 9 #[u9000_, .int .i64 a1] w fun e w' => e = .returned (.int .i64 r1) ∧ Kd.R Kd.string 9 w' w0.heap.size (fun k_ => (P0_ k_ ∨ w.heap.size ≤ k_)) u9000_ r2 ∧ Below w0.heap.size w0 w' ∧ Kept w w' (fun k_ => P0_ k_) := by
  have HO0 := Aside0.mk (show Kd.R Kd.string 9 w w0.heap.size (fun k_ => (P0_ k_ ∨ w.heap.size ≤ k_)) u9000_ l0 from Kd.R_mono ho0 (fun k_ hk => (.inl hk)))
  have HK := Aside0.mk (Kept.refl w (fun k_ => P0_ k_))
  have HW0 := Aside0.mk hB.size
  have HB := Aside0.mk hB
  clear hB
  have H : (laws_markStringS.l0 k l0 a1 0) = some (r1, r2) := h
  clear h
  have H' := Aside0.mk H
  clear H
  go_enter Tryd.func9, Tryd.ntmps9
  go_wp2
  go_loopg [1, 5] k (fun kq v1 v5 w' => ∃ (x0_1 : List ByteArray) (x1_1 : Int) (x5_1 : Int), v1 = .int .i64 x1_1 ∧ v5 = .int .i64 x5_1 ∧ Aside0 (laws_markStringS.l0 kq x0_1 x1_1 x5_1 = some (r1, r2)) ∧ Aside0 (kq ≤ k) ∧ Aside0 (Kd.R Kd.string 9 w' w0.heap.size (fun k_ => (P0_ k_ ∨ w.heap.size ≤ k_)) u9000_ x0_1) ∧ Aside0 (Kept w w' (fun k_ => P0_ k_)) ∧ Aside0 (Below w0.heap.size w0 w'))
  case atStart => exact ⟨(l0), (a1), (0), (by first | rfl | (simp; done) | (simp [*]; done) | (simp only [IntWalk.i64_left]; done) | (simp [IntWalk.i64_left]; done) | (simp [*, IntWalk.i64_left]; done)), (by first | rfl | (simp; done) | (simp [*]; done) | (simp only [IntWalk.i64_left]; done) | (simp [IntWalk.i64_left]; done) | (simp [*, IntWalk.i64_left]; done)), H', ⟨Nat.le_refl _⟩, ⟨by (with_reducible repeat (first | apply Kd.R_alloc | apply Kd.R_drewN | apply Kd.R_drew)); exact HO0.out⟩, ⟨by repeat (first | (with_reducible first | exact HK.out | apply Kept.alloc | apply Kept.drewN | apply Kept.drew) | exact HK.out)⟩, ⟨by repeat (first | (with_reducible first | exact HB.out | apply below_alloc | apply pw_below_drewN | apply below_drew1) | exact HB.out)⟩⟩
  case round =>
    clear H'
    try clear p2
    obtain ⟨x0_1, x1_1, x5_1, rfl, rfl, HA, HK1, HO_0, HK, HB⟩ := hrel
    cases gk with
    | zero => exact absurd HA.out (by simp [laws_markStringS.l0])
    | succ k1 =>
      have H := HA.out
      clear HA
      simp only [laws_markStringS.l0] at H
      by_cases c3 : x5_1 < (x0_1.length : Int)
      · rw [if_pos c3] at H
        have c3b0 : decide (x5_1 < (x0_1.length : Int)) = true := decide_eq_true c3
        clear c3
        replace H := Option.bind_eq_some_iff.mp H
        obtain ⟨t261, A40, H⟩ := H
        replace H : (if 0 ≤ x5_1 then (laws_markStringS.l0 k1 (x0_1.set (x5_1 : Int).toNat t261) (wrap64 (x1_1 + 1)) (wrap64 (x5_1 + 1))) else (none)) = some (r1, r2) := H
        have A4 := Aside0.mk A40
        clear A40
        by_cases c5 : 0 ≤ x5_1
        · rw [if_pos c5] at H
          have c5b0 : decide (0 ≤ x5_1) = true := decide_eq_true c5
          clear c5
          obtain ⟨y262, hy262⟩ : ∃ y_ : List ByteArray, y_ = (x0_1.set (x5_1 : Int).toNat t261) := ⟨_, rfl⟩
          replace H : (laws_markStringS.l0 k1 y262 (wrap64 (x1_1 + 1)) (wrap64 (x5_1 + 1))) = some (r1, r2) := by first | (rw [hy262]; with_reducible exact H) | (have H2_ := (Option.bind_some _ _).symm.trans H; rw [hy262]; with_reducible exact H2_) | (have H2_ := (Option.bind_some _ _).symm.trans H; with_reducible exact H2_) | with_reducible exact H | (rw [hy262]; exact H) | exact H
          have Ny262 := Aside0.mk hy262
          clear hy262
          have H' := Aside0.mk H
          clear H
          obtain ⟨Ao7, co7, eo7⟩ := Kd.R_slice HO_0.out
          subst eo7
          go_wp2_with (first | ((with_reducible refine gate_callee (f := 24) rfl ?_); refine goesL_ (some 15) rfl rfl Tryd.func24 (by kernel_rfl) rfl #[.int .i64 x1_1] rfl (by (try simp only [List.map_toArray, List.map_cons, List.map_nil]); first | done | rfl | (simp only [List.length_drop, List.length_take]; rfl)) ?_; (with_reducible refine (laws_markText.calls k1 x1_1 t261 _ A4.out).mono ?_); rintro e w8 ⟨rfl, hb⟩; refine ⟨_, rfl, ?_⟩; have n0_ := Aside0.mk (Kd.R_below (by (with_reducible repeat (first | apply Kd.R_alloc | apply Kd.R_drewN | apply Kd.R_drew)); exact HO_0.out) hb); have n1_ := Aside0.mk (Kept.below (S := (fun k_ => P0_ k_)) (by repeat (first | (with_reducible first | exact HK.out | apply Kept.alloc | apply Kept.drewN | apply Kept.drew) | exact HK.out)) hb); have n2_ := Aside0.mk (below_step (by repeat (first | (with_reducible first | exact HB.out | apply below_alloc | apply pw_below_drewN | apply below_drew1) | exact HB.out)) hb); clear HO_0; clear HK; clear HB; have HO_0 := n0_; have HK := n1_; have HB := n2_; clear n0_ n1_ n2_; (try clear hb); (try clear hb2); (try clear hk); (try clear hi); have p6 : 0 ≤ (x5_1 : Int) := of_decide_eq_true (by first | (with_reducible assumption) | assumption); have q6 : (x5_1 : Int) < ((x0_1.length : Int) : Int) := of_decide_eq_true (by first | (with_reducible assumption) | assumption); obtain ⟨go6, co6, eo6, gb6, gl6, cl6, HG6⟩ := Kd.R_form HO_0.out (by omega); (first | cases eo6 | (injection eo6 with ea_ en_ ec_; (first | subst ea_ | (injection ea_ with ea_; subst ea_)); subst ec_; clear en_)); have GB6 := Aside0.mk gb6; have GG6 := Aside0.mk HG6; clear gb6 gl6 HG6; have HMgo6 := Aside0.mk (show (P0_ go6 ∨ w.heap.size ≤ go6) from (HO_0.out.1 _ rfl)); obtain ⟨hx6_0, hf6_0⟩ := Kd.R_celln (⟨#[]⟩ : ByteArray) HO_0.out (x5_1 : Int) p6 q6; replace p6 := eq_true p6; replace q6 := eq_true q6; obtain ⟨hy9_, hz9_⟩ := Kd.R_celln (⟨#[]⟩ : ByteArray) HO_0.out (x5_1 : Int) (of_decide_eq_true (by first | (with_reducible assumption) | assumption)) (of_decide_eq_true (by first | (with_reducible assumption) | assumption)); have HP9 := Kd.R_putg HO_0.out (x5_1 : Int) t261) | ((with_reducible refine gate_store (t := 9) (p := 16) rfl ?_); refine store_event (t := 9) (p := 16) (v := ?vo_w10) (w1 := (w8.setCell ⟨go6, (x5_1 : Int).toNat, none⟩ (.string t261))) ?hg ?ho ?hn ?hr ?_; (case ho => rfl); (case hg => rfl); (case hn => rfl); (case hr => first | (go_simp; done) | (go_simp; rfl)); intro w10 hw; have hg : w8.grownBy w10 (some go6) := (by rw [hw]; exact HP9.2); have hp_ : Kd.R Kd.string 9 w10 w0.heap.size (fun k_ => (P0_ k_ ∨ w.heap.size ≤ k_)) (.slice (some ⟨go6, 0, none⟩) x0_1.length co7) y262 := (by rw [hw, Ny262.out]; exact HP9.1); clear HP9; have n0_ := Aside0.mk (hp_); have n1_ := Aside0.mk ((by rw [hw]; exact below_set (HB.out) GB6.out : Below w0.heap.size w0 w10)); have n2_ := Aside0.mk (Kept.of_grown (S := (fun k_ => P0_ k_)) hg (by repeat (first | (with_reducible first | exact HK.out | apply Kept.alloc | apply Kept.drewN | apply Kept.drew) | exact HK.out)) (fun k_ e_ => (HO_0.out.1 k_ e_))); clear HO_0; clear HB; clear HK; have HO_0 := n0_; have HB := n1_; have HK := n2_; clear n0_ n1_ n2_; clear hg hw hp_))
          go_roundg k1
          case measure => have := HK1.out; omega
          case rel => exact ⟨(y262), (wrap64 (x1_1 + 1)), (wrap64 (x5_1 + 1)), (by first | rfl | (simp; done) | (simp [*]; done) | (simp only [IntWalk.i64_left]; done) | (simp [IntWalk.i64_left]; done) | (simp [*, IntWalk.i64_left]; done)), (by first | rfl | (simp; done) | (simp [*]; done) | (simp only [IntWalk.i64_left]; done) | (simp [IntWalk.i64_left]; done) | (simp [*, IntWalk.i64_left]; done)), H', ⟨by have := HK1.out; omega⟩, ⟨by (with_reducible repeat (first | apply Kd.R_alloc | apply Kd.R_drewN | apply Kd.R_drew)); exact HO_0.out⟩, ⟨by repeat (first | (with_reducible first | exact HK.out | apply Kept.alloc | apply Kept.drewN | apply Kept.drew) | exact HK.out)⟩, ⟨by repeat (first | (with_reducible first | exact HB.out | apply below_alloc | apply pw_below_drewN | apply below_drew1) | exact HB.out)⟩⟩
        · rw [if_neg c5] at H
          exact absurd H (by simp)
      · rw [if_neg c3] at H
        have c3b0 : decide (x5_1 < (x0_1.length : Int)) = false := decide_eq_false c3
        clear c3
        simp only [Option.some.injEq, Prod.mk.injEq] at H
        obtain ⟨rfl, rfl⟩ := H
        obtain ⟨Ao11, co11, eo11⟩ := Kd.R_slice HO_0.out
        subst eo11
        go_wp2
        go_ret
        exact ⟨by first | rfl | (simp [errW_none, errW_some] <;> rfl) | (simp [*, errW_none, errW_some] <;> rfl), by (with_reducible repeat (first | apply Kd.R_alloc | apply Kd.R_drewN | apply Kd.R_drew)); exact HO_0.out, by repeat (first | (with_reducible first | exact HB.out | apply below_alloc | apply pw_below_drewN | apply below_drew1) | exact HB.out), by repeat (first | (with_reducible first | exact HK.out | apply Kept.alloc | apply Kept.drewN | apply Kept.drew) | exact HK.out)⟩

end Go.Proofs.YthlldokmjpfilaaDoor.XFnExactPrefixAlike
