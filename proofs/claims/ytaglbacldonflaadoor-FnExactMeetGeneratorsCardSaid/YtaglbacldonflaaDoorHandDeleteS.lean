/- Proved by hand, over the kit's shelf: slices.DeleteFunc at strings, at a slice that a call made, or at none. -/
import Derived.Shelf.SlicesE.DeleteFunc
import Derived.Shelf.SlicesE.Index
import Derived.Test.YtaglbacldonflaaDoorShelfD
import Derived.Test.YtaglbacldonflaaDoorHandOrdered
import Derived.WalkKit
import Derived.KernelRfl
import Derived.WalkSpells
namespace Go.Proofs.YtaglbacldonflaaDoor.Hand
open Go.RowKit Go.Shelf Go.Sort Go.Proofs.YtaglbacldonflaaDoorW.PrintWords Go.Proofs.YtaglbacldonflaaDoorW.PrintLast Go.Proofs.YtaglbacldonflaaDoorW.PrintMore
set_option linter.unusedVariables false
set_option linter.unusedSimpArgs false
set_option maxHeartbeats 8000000 in
theorem delete_none (fv : Value) (w : World) : Calls Tryd.prog 63 #[.slice none 0 0, fv] w fun e w' => e = .returned (.slice none 0 0) ∧ w' = w := by
  have hI := fun W => AnyE.slices_IndexFunc_empty (P := Tryd.prog) (ρ := Tryd.deleteS_ren) { Tryd.deleteS with } none 0 fv W
  change ∀ W, Calls Tryd.prog 100 _ _ _ at hI
  go_enter Tryd.func63, Tryd.ntmps63
  go_wp2_with (go_at_call 100; refine (hI _).mono ?_; rintro e w' ⟨rfl, rfl⟩)
  go_ret
  exact ⟨rfl, rfl⟩
/-- what stays -/
def keptS (p : ByteArray → Bool) (zs : List (List UInt8)) : List (List UInt8) := zs.filter fun x : List UInt8 => !p ⟨x.toArray⟩
/-- a row rewritten, and blocks behind: the other blocks lie -/
theorem grown_sort (w : World) (b n : Nat) (dk : Array (List UInt8)) (os : Array Obj) (cap m : Nat) : w.grownBy (sortWorld encStr w b 0 n dk os) (Value.slice (some ⟨b, 0, none⟩) m cap).ownBlock := by
  refine ⟨rfl, rfl, rfl, ?_, fun k hk hne => ?_⟩
  · show w.heap.size ≤ (grow (putRow encStr (Sort.ahead w n) b 0 dk) os).heap.size
    have := size_putRow w b dk n
    simp only [grow, Array.size_append]
    omega
  · have hkb : k ≠ b := fun e => hne (by simp [Value.ownBlock, e])
    show (grow (putRow encStr (Sort.ahead w n) b 0 dk) os).heap[k]? = _
    rw [heap_grow_old _ os (by rw [size_putRow]; exact hk)]
    show (w.heap.modify b _)[k]? = _
    rw [Array.getElem?_modify, if_neg (fun e => hkb e.symm)]
set_option maxHeartbeats 8000000 in
theorem delete_calls_at (g : Nat) (lb : Array Value) (eg : ∀ args w, (callFunc g args).run Tryd.prog w = .ok (.enter g args) w) (p : ByteArray → Bool) (base : Nat) (v : Value) (xs : List ByteArray) (w : World) {ok : Nat → Prop}
    (HO : Kd.R Kd.string 9 w base ok v xs) (hbase : base ≤ w.heap.size) (hp : ∀ W s, w.grownBy W v.ownBlock → FnGives Tryd.prog g lb #[.string s] (.bool (p s)) W) :
    Calls Tryd.prog 63 #[v, .func (.func g) #[] lb] w fun e w' => ∃ v0, e = .returned v0 ∧ Kd.R Kd.string 9 w' base (fun _ => True) v0 (xs.filter fun s => !p s) ∧ Go.RowKit.Below base w w' := by
  have hown : w.ownsRow base 9 1 v xs.length (encs Value.string xs) := Kd.own_of_R HO
  by_cases hv : v = .slice none 0 0
  · subst hv
    have hx : xs = [] := by
      obtain ⟨A, c, e⟩ := Kd.R_slice HO
      injection e with e1 e2 e3
      exact List.eq_nil_of_length_eq_zero e2.symm
    subst hx
    refine (delete_none _ w).mono ?_
    rintro e w' ⟨rfl, rfl⟩
    exact ⟨_, rfl, Kd.R_nil Kd.string _ _ _ _, Below.refl _ _⟩
  · obtain ⟨zs, hzs⟩ : ∃ zs, zs = xs.map fun s => s.data.toList := ⟨_, rfl⟩
    have hxz : xs = zs.map fun x => (⟨x.toArray⟩ : ByteArray) := by rw [hzs, List.map_map]; simp [Function.comp_def]
    have hzl : zs.length = xs.length := by rw [hzs]; simp
    have henc : encs Value.string xs = zs.map encStr := by rw [hzs]; simp [encs, encStr, Function.comp_def]
    have hown' : w.ownsRow base 9 1 v xs.length (zs.map encStr) := by rw [← henc]; exact hown
    obtain ⟨b, cap, rfl, hb, hlt, hcap⟩ := own_some hown' hv
    have hH := own_holds (cap := cap) (n := xs.length) hown'
    have hmax : xs.length ≤ 9223372036854775807 := (Kd.reads_of_C (d := ByteArray.empty) (Kd.R_reads' HO).2.2).2.1
    have hc := AnyE.slices_DeleteFunc Tryd.deleteS encStr (fun _ => rfl) (fun x : List UInt8 => p ⟨x.toArray⟩) g lb eg [] (fun w => by kernel_rfl) b 0 cap zs.toArray w
      (fun W x hW => hp W ⟨x.toArray⟩ ⟨hW.os, hW.tape, hW.output, hW.size, fun k hk _ => hW.block k hk⟩)
      (fun n os dk x hd => hp _ ⟨x.toArray⟩ (grown_sort w b n dk os cap xs.length))
      hH (by simpa [hzl] using hmax) (by simpa [hzl] using hcap)
    change Calls Tryd.prog 63 _ _ (fun e w' => e = .returned (.slice (some ⟨b, 0, none⟩) (keptS p zs).length cap) ∧ ∃ q, w' = putRow encStr (Sort.ahead w q) b 0 ((keptS p zs) ++ List.replicate (zs.toArray.size - (keptS p zs).length) []).toArray) at hc
    rw [show zs.toArray.size = xs.length by simp [hzl]] at hc
    refine hc.mono ?_
    rintro e w' ⟨rfl, q, rfl⟩
    have hle : (keptS p zs).length ≤ zs.length := List.length_filter_le _ _
    have h1 := own_putRow hown' ((keptS p zs) ++ List.replicate (xs.length - (keptS p zs).length) []).toArray (by simp; omega) (keptS p zs).length (by omega) q
    have ht : ((keptS p zs) ++ List.replicate (xs.length - (keptS p zs).length) []).toArray.toList.take (keptS p zs).length = keptS p zs := by simp
    rw [ht] at h1
    have hfil : xs.filter (fun s => !p s) = (keptS p zs).map fun x => (⟨x.toArray⟩ : ByteArray) := by
      rw [hxz, List.filter_map]; rfl
    refine ⟨_, rfl, Kd.R_of_own ?_ (fun _ _ => trivial), below_putRow (Below.refl _ _) hb _ q⟩
    rw [hfil]
    have h3 : encs Value.string ((keptS p zs).map fun x => (⟨x.toArray⟩ : ByteArray)) = (keptS p zs).map encStr := by simp [encs, encStr, Function.comp_def]
    rw [h3, List.length_map]
    exact h1
theorem delete_calls (g : Nat) (lb : Array Value) (eg : ∀ args w, (callFunc g args).run Tryd.prog w = .ok (.enter g args) w) (p : ByteArray → Bool) (base : Nat) (v : Value) (xs : List ByteArray) (w : World) {ok : Nat → Prop}
    (HO : Kd.R Kd.string 9 w base ok v xs) (hbase : base ≤ w.heap.size) (hp : ∀ W s, Go.RowKit.Below base w W → FnGives Tryd.prog g lb #[.string s] (.bool (p s)) W) :
    Calls Tryd.prog 63 #[v, .func (.func g) #[] lb] w fun e w' => ∃ v0, e = .returned v0 ∧ Kd.R Kd.string 9 w' base (fun _ => True) v0 (xs.filter fun s => !p s) ∧ Go.RowKit.Below base w w' :=
  delete_calls_at g lb eg p base v xs w HO hbase fun W s hg => hp W s ⟨hg.os, hg.tape, hg.output, hg.size, fun k hk => hg.block k (Nat.lt_of_lt_of_le hk hbase) (fun e => absurd (Kd.R_base HO k e.symm) (Nat.not_le.2 hk))⟩
/-- a slice of strings that is not empty, cell by cell -/
theorem strs_here {w : World} {A : Option Addr} {l : List ByteArray} (h : Kd.C Kd.string w A l.length l) (h0 : 0 < l.length) : ∃ b off, A = some ⟨b, off, none⟩ ∧ b < w.heap.size ∧ ∀ j, j < l.length → w.cell? ⟨b, off + j, none⟩ = some (.string (l.getD j ByteArray.empty)) := by
  obtain ⟨-, -, hc⟩ := Kd.reads_of_C (d := ByteArray.empty) h
  obtain ⟨⟨b, off, spot⟩, rfl, hcell⟩ := hc h0
  clear hc
  have hz := hcell 0 h0
  have hb : b < w.heap.size := by
    rcases Nat.lt_or_ge b w.heap.size with h' | h'
    · exact h'
    · simp [Addr.add, World.cell?, Array.getElem?_eq_none h'] at hz
  have hsp : spot = none := by
    cases spot with
    | none => rfl
    | some x =>
      simp only [Addr.add, World.cell?, if_true, Option.isSome_some] at hz
      split at hz <;> cases hz
  subst hsp
  refine ⟨b, off, rfl, hb, fun j hj => ?_⟩
  have hj' := hcell j hj
  by_cases e : j = 0
  · subst e; simpa [Addr.add] using hj'
  · simpa [Addr.add, e] using hj'
/-- whether a word is there -/
def hasS (l : List ByteArray) (s : ByteArray) : Bool := l.any fun y => s.toList == y.toList
set_option maxHeartbeats 8000000 in
theorem contains_calls (A : Option Addr) (c : Nat) (l : List ByteArray) (s : ByteArray) (w : World) (h : Kd.C Kd.string w A l.length l) :
    Calls Tryd.prog 65 #[.slice A l.length c, .string s] w fun e w' => e = .returned (.bool (hasS l s)) ∧ w' = w := by
  by_cases h0 : l.length = 0
  · have hnil : l = [] := List.eq_nil_of_length_eq_zero h0
    subst hnil
    exact AnyE.slices_Contains_empty Tryd.contS A c (.string s) w
  · obtain ⟨b, off, rfl, hb, hcell⟩ := strs_here h (by omega)
    have hl9 : l.length ≤ 9223372036854775807 := (Kd.reads_of_C (d := ByteArray.empty) h).2.1
    have hc := AnyE.slices_Contains Tryd.contS Value.string (fun x y => x.toList == y.toList) (EqlAt.string _ _) b off l.length c l s w (Nat.le_refl _) hl9 (fun j hj => by
      rw [hcell j hj]; congr 2; simp [List.getD_eq_getElem?_getD, hj])
    rw [List.take_of_length_le (Nat.le_refl _)] at hc
    exact hc
end Go.Proofs.YtaglbacldonflaaDoor.Hand
