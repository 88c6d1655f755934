-- by wip/shake.py
import Derived.Lib.Walk
import Derived.Lib.LazyBuf
import Derived.Test.YtcdmmpbcjcajlaaHandSortI
namespace Go.Proofs.Ytcdmmpbcjcajlaa.Hand
open Go.RowKit Go.Shelf Go.Proofs.YtcdmmpbcjcajlaaW.PrintWords Go.Proofs.YtcdmmpbcjcajlaaW.PrintLast Go.Proofs.YtcdmmpbcjcajlaaW.PrintMore
set_option linter.unusedVariables false
set_option linter.unusedSimpArgs false
set_option maxHeartbeats 4000000 in
set_option maxRecDepth 100000 in
theorem clone_calls {w : World} {base g off cap : Nat} {cur : Array Value} {xs : List Int} (h : RowAt w base g off cap cur xs) (n : Nat) (hn : n = xs.length) (hl : xs.length ≤ 1099511627776) :
  Calls Try.prog 29 #[.slice (some ⟨g, off, none⟩) n cap] w fun e w' => ∃ g' cap' cur', e = .returned (.slice (some ⟨g', 0, none⟩) n cap') ∧ RowAt w' w.heap.size g' 0 cap' cur' xs ∧ Go.RowKit.Below w.heap.size w w' ∧ cap' = cur'.size := by
 subst hn
 have HH := Aside0.mk h
 have HL := Aside0.mk hl
 obtain ⟨i0, hi, hz0, hz1, hz2⟩ := info_parts infoInt
 have q22 : ∀ (w : World) (a : Option Addr) (n c n' c' : Nat), (binOp .eql 24 (.slice a n c) (.slice none n' c')).run Try.prog w = .ok (.bool a.isNone) w := fun w a n c n' c' => Lib.run_eql_slice_nil w _ _ a n c n' c' Try.underlying24
 clear h hl
 go_enter Try.func29, Try.ntmps29
 go_wp2_with (at_builtin; refine wpList_append_own _ rfl _ _ 24 rfl w.heap.size 3 i0 (.int .i64 0) 1 8 Try.underlying24 hi hz0 hz1 hz2 rfl (by decide) _ _ _ rfl (World.ownsRow_made w #[] 0 (Nat.le_refl _) (Nat.zero_le _) (by simp)) ⟨g, off, none⟩ xs.length cap (xs.map (Value.int .i64)) rfl ?qc1 ?qc2 ?qc3 ?qc4 ?qc5 ?qc6 ?_)
 case qc1 => simp
 case qc2 =>
  intro j u hj
  rw [Addr.add_lit]
  obtain ⟨hj', e⟩ := List.getElem?_eq_some_iff.1 hj
  rw [List.length_map] at hj'
  have := HH.out.cell j hj'
  refine Lib.cell?_alloc_some _ ?_
  rw [this, ← e]
  simp [List.getD_eq_getElem?_getD, hj']
 case qc3 => intro u hu; obtain ⟨x, -, rfl⟩ := List.mem_map.1 hu; rfl
 case qc4 => have := HL.out; unfold maxLen; omega
 case qc5 => have := HL.out; omega
 case qc6 => simp
 intro v' w1 hown hgrow hnil
 have hown' : w1.ownsRow w.heap.size 3 1 v' xs.length (xs.map (Value.int .i64)) := by simpa using hown
 have hne : v' ≠ .slice none 0 0 := hnil
 obtain ⟨g', cap', cur', rfl, hR, hcs⟩ := RowAt.of_own hown' hne
 have HCS := Aside0.mk hcs
 have HR := Aside0.mk hR
 have HB := Aside0.mk (((Below.refl _ w).alloc (Nat.le_refl _) (.cells #[] 3)).grown hgrow (by simp) (by intro k hk; simp [Value.ownBlock] at hk; omega))
 clear hcs hR hown hown' hgrow hnil hne
 go_wp2
 go_ret
 exact ⟨g', cap', cur', rfl, HR.out, HB.out, HCS.out⟩
end Go.Proofs.Ytcdmmpbcjcajlaa.Hand
