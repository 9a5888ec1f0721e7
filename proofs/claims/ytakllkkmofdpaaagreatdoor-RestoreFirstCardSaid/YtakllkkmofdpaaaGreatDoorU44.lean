import Derived.Test.YtakllkkmofdpaaaGreatDoorU39
set_option linter.unusedVariables false
set_option linter.unusedSimpArgs false
namespace Go.Proofs.YtakllkkmofdpaaaGreatDoor
section
theorem dotn_mul (n : Nat) (a x : Fn) (c : Rat) : dotn n a (fun i => c * x i) = c * dotn n a x := by
 unfold dotn; rw [← sumTo_mul]; exact sumTo_congr fun i _ => by grind
namespace Ech
variable {M : List Fn} {piv : List Nat} {n : Nat}
end Ech
theorem rank_strict {n : Nat} {MA MB : List Fn} {pa pb : List Nat} (EA : Ech MA pa n) (EB : Ech MB pb n) (h : ∀ x, Ker n MB x → Ker n MA x) {x : Fn} (hx : Ker n MA x) (hx2 : ¬ Ker n MB x) : pa.length < pb.length := by
 refine Nat.lt_of_not_le fun hle => ?_
 have h1 := EB.basis_len
 have h2 := EA.free_len
 obtain ⟨c, ⟨i, hi, hci⟩, _, hz⟩ := EA.dim (Ech.basis MB pb n ++ [x]) [] (by simp; omega)
 have hsplit : ∀ j, comb c (Ech.basis MB pb n ++ [x]) j = comb c (Ech.basis MB pb n) j + c (Ech.basis MB pb n).length * x j := fun j => by
  unfold comb
  rw [List.length_append, List.length_singleton, sumTo]
  congr 1
  ·refine sumTo_congr fun s hs => ?_
   rw [List.getD_eq_getElem?_getD, List.getElem?_append_left hs, List.getD_eq_getElem?_getD]
  ·rw [List.getD_eq_getElem?_getD, List.getElem?_append_right (Nat.le_refl _), Nat.sub_self]; rfl
 have hk : Ker n MA (comb c (Ech.basis MB pb n ++ [x])) := comb_ker c fun y hy => by
  rcases List.mem_append.1 hy with hy | hy
  ·exact h y (EB.basis_ker y hy)
  ·rw [List.mem_singleton.1 hy]; exact hx
 have h0 := EA.ker_zero hk hz
 by_cases hcx : c (Ech.basis MB pb n).length = 0
 ·rw [List.length_append, List.length_singleton] at hi
  have hne : i ≠ (Ech.basis MB pb n).length := fun e => hci (e ▸ hcx)
  have hil : i < (Ech.free pb n).length := by
   have : i < (Ech.basis MB pb n).length := by omega
   unfold Ech.basis at this; rwa [List.length_map] at this
  have hj : (Ech.free pb n)[i]? = some _ := List.getElem?_eq_getElem hil
  have h3 := EB.comb_basis c hj
  have h4 := h0 _ (Ech.mem_free.1 (List.mem_of_getElem? hj)).1
  rw [hsplit, hcx, Rat.zero_mul, Rat.add_zero, h3] at h4
  exact hci h4
 ·apply hx2
  intro a ha
  have h5 : dotn n a (comb c (Ech.basis MB pb n)) = 0 := comb_ker c EB.basis_ker a ha
  have h6 : ∀ j, j < n → x j = -(1 / c (Ech.basis MB pb n).length) * comb c (Ech.basis MB pb n) j := fun j hj => by
   have := h0 j hj
   rw [hsplit] at this
   generalize comb c (Ech.basis MB pb n) j = u at *
   generalize c (Ech.basis MB pb n).length = d at *
   grind
  rw [dotn_congr (b := a) (fun _ _ => rfl) h6, dotn_mul, h5, Rat.mul_zero]
end
section
theorem rk_strict {n : Nat} {A B : List (List Rat)} (hA : Wid n A) (hB : Wid n B) (h : ∀ x, Ker n (vfs B) x → Ker n (vfs A) x) {x : Fn} (hx : Ker n (vfs A) x) (hx2 : ¬ Ker n (vfs B) x) : rankR A < rankR B := by
 obtain ⟨E, pe, h1, h2, h3, _⟩ := rk_ech hA
 obtain ⟨F, pf, g1, g2, g3, _⟩ := rk_ech hB
 rw [← h2, ← g2]
 exact rank_strict h1 g1 (fun x hx => (h3 x).2 (h x ((g3 x).1 hx))) ((h3 x).2 hx) fun hk => hx2 ((g3 x).1 hk)
theorem ker_mem {n : Nat} {M : List (List Rat)} {x : Fn} : Ker n (vfs M) x ↔ ∀ a ∈ M, dotn n (vf a) x = 0 := by
 unfold vfs Ker
 exact ⟨fun h a ha => h _ (List.mem_map.2 ⟨a, ha, rfl⟩), fun h f hf => by obtain ⟨a, ha, rfl⟩ := List.mem_map.1 hf; exact h a ha⟩
theorem rk_dep {n : Nat} {M : List (List Rat)} {a : List Rat} (h : Wid n M) (ha : a.length = n) : rankR (M ++ [a]) = rankR M ↔ ∀ x, Ker n (vfs M) x → dotn n (vf a) x = 0 := by
 have hw := wid_app h (wid_one ha)
 constructor
 ·intro he x hx
  refine Classical.byContradiction fun hne => ?_
  have := rk_strict h hw (fun x hx => (ker_app.1 hx).1) hx fun hk => hne (ker_one.1 (ker_app.1 hk).2)
  omega
 ·intro hx
  have h1 := rk_mono h hw fun x hx => (ker_app.1 hx).1
  have h2 := rk_mono hw h fun x hk => ker_app.2 ⟨hk, ker_one.2 (hx x hk)⟩
  omega
end
end Go.Proofs.YtakllkkmofdpaaaGreatDoor
