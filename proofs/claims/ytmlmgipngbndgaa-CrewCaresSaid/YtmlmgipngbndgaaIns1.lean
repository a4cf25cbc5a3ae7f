/- Inspect: what is needed, row by row: small parts. -/
import Derived.Test.YtmlmgipngbndgaaRep
import Derived.Test.YtmlmgipngbndgaaInsQ
import Derived.Test.YtmlmgipngbndgaaRefIns
namespace Go.Proofs.Ytmlmgipngbndgaa
open Go.RowKit
attribute [local irreducible] OQ OS OX Rd T TL GX GL AL AI RV wpG SAny Calls
set_option maxRecDepth 100000
set_option maxHeartbeats 2000000
set_option linter.unusedVariables false
set_option linter.unusedSimpArgs false

/-- What 'before' tells. -/
theorem bef_calls (b3 b2 b8 bN gR i k n : Nat) (A : Option Addr) (c cN cR : Nat) (fs : List Int) (gr x r : Int) (w : World) (hr : RdS w 1 A n (fs.map inCells)) (hx : fs[i]? = some x) (k0 : w.cell? ⟨b3, 0, none⟩ = some (.slice A n c)) (k1 : w.cell? ⟨b2, 0 + 1, none⟩ = some (.int .i64 gr)) (k2 : w.cell? ⟨b8, 0, none⟩ = some (.slice (some ⟨bN, 0, none⟩) (n + 1) cN))
    (k3 : w.cell? ⟨bN, 0 + (i + 1) * 1, none⟩ = some (.slice (some ⟨gR, 0, none⟩) (n + 1) cR)) (k4 : w.cell? ⟨gR, 0 + k * 1, none⟩ = some (.int .i64 r)) (hk : k ≤ n) (hn : n ≤ 1000) (hxx : 1 ≤ x ∧ x ≤ 10000) (hg : 0 ≤ gr ∧ gr ≤ 100000) (hrr : -1099511627776 ≤ r ∧ r ≤ 2199023255552) :
    Calls Try.prog 75 #[.int .i64 (i : Int), .int .i64 (k : Int), .pointer (some ⟨b3, 0, none⟩), .pointer (some ⟨b2, 0, none⟩), .pointer (some ⟨b8, 0, none⟩)] w fun e w' => e = .returned (.int .i64 (befV gr x r)) ∧ Ext w w' := by
  have hl := hr.len
  simp only [List.length_map] at hl
  have hi := (List.getElem?_eq_some_iff.1 hx).1
  obtain ⟨b1, o1, x', rfl, _, hx', c0⟩ := in_read hr (show i < n by omega)
  obtain rfl : x = x' := by rw [hx] at hx'; exact Option.some.inj hx'
  refine enterQ (c := cx w 29) Try.func75 rfl rfl rfl rfl ?_
  repeat' (first
    | ((with_reducible apply oq_id); first | (focus ((with_reducible apply oq_indexAddrN); exact rfl; exact rfl; exact rfl; exact rfl; omega)) | ((with_reducible apply oq_addE (k := ((i + 1 : Nat) : Int))); exact rfl; exact rfl; omega) | (apply oq_fn; exact rfl; first | exact trivial | (refine ⟨?_, ?_⟩ <;> omega) | (refine ⟨?_, ?_, ?_⟩ <;> omega) | omega | skip) | ((with_reducible apply oq_load); exact rfl; exact rfl) | ((with_reducible apply oq_loadAgg); exact rfl; exact rfl) | ((with_reducible apply oq_build); exact rfl; exact rfl; exact rfl) | ((with_reducible apply oq_buildA); exact rfl; exact rfl; exact rfl; exact rfl) | ((with_reducible apply oq_fieldAgg); exact rfl; exact rfl; exact rfl) | ((with_reducible apply oq_indexAgg); exact rfl; exact rfl; exact rfl; exact rfl))
    | ((with_reducible apply tl_id); first | ((with_reducible apply tl_nil)) | ((with_reducible apply u_q); exact rfl; exact rfl; exact rfl; exact rfl) | ((with_reducible apply u_s0); exact rfl; exact rfl) | ((with_reducible apply u_s); exact rfl; exact rfl; exact rfl) | ((with_reducible apply u_skip); exact rfl; exact rfl; exact rfl) | ((with_reducible apply u_splitD); exact rfl; exact rfl; all_goals first | (intro hp; try (exfalso; omega)) | skip) | ((with_reducible apply u_splitN); exact rfl; exact rfl; all_goals first | (intro hp; try (exfalso; omega)) | skip) | ((with_reducible apply u_split); exact rfl; exact rfl; all_goals first | intro hp | skip))
    | ((with_reducible apply gx_id); first | ((with_reducible apply v_nil)) | ((with_reducible apply v_q); exact rfl; exact rfl; exact rfl) | ((with_reducible apply v_skip); exact rfl; exact rfl; exact rfl) | ((with_reducible apply v_splitD); exact rfl; exact rfl; all_goals first | (intro hp; try (exfalso; omega)) | skip) | ((with_reducible apply v_splitN); exact rfl; exact rfl; all_goals first | (intro hp; try (exfalso; omega)) | skip) | ((with_reducible apply v_split); exact rfl; exact rfl; all_goals first | intro hp | skip))
    | ((with_reducible apply os_id); first | ((with_reducible apply os_x); exact rfl) | ((with_reducible apply os_store); exact rfl; exact rfl; exact rfl; exact rfl) | ((with_reducible apply os_storeAgg); exact rfl; exact rfl; exact rfl; exact rfl; exact rfl))
    | ((with_reducible apply ox_id); first | ((with_reducible apply ox_alloc); exact rfl; intro _) | ((with_reducible apply ox_box); exact rfl; exact rfl; intro _) | ((with_reducible apply ox_boxAgg); exact rfl; intro _) | ((with_reducible apply ox_buildSlice1); exact rfl; exact rfl; exact rfl; exact rfl; exact rfl; exact rfl; intro _) | ((with_reducible apply ox_buildSlice2); exact rfl; exact rfl; exact rfl; exact rfl; exact rfl; exact rfl; intro _) | ((with_reducible apply ox_buildSlice); exact rfl; exact rfl; exact rfl; exact rfl))
    | ((with_reducible apply rd_id); first | (apply Rd.old; (first | exact k0 | exact k1 | exact k2 | exact k3 | exact k4); exact List.not_mem_nil) | (apply Rd.own; (repeat (first | exact P0 | apply P1)); exact rfl; done) | (apply Rd.old; (first | (with_reducible assumption) | exact c0 | exact c1 | exact c2 | exact c3 | exact c4 | exact c5 | exact c6 | exact c7 | exact c8 | exact d0 | exact d1 | exact d2 | exact d3 | exact d4 | exact d5); first | exact List.not_mem_nil | exact m0 | exact m1 | exact m2 | exact m3 | exact m4 | exact m5 | exact m6 | exact m7 | exact m8 | exact m9))
    | ((with_reducible apply t_id); first | ((with_reducible apply t_seq)) | (apply t_region; kernel_rfl) | (apply t_drawn; kernel_rfl; decide +kernel; try simp only [List.append_eq, List.cons_append, List.nil_append]) | ((with_reducible apply t_condT); exact rfl) | ((with_reducible apply t_condF); exact rfl) | ((with_reducible apply t_condD); exact rfl; all_goals first | (intro hp; try (exfalso; omega)) | skip) | ((with_reducible apply t_condN); exact rfl; all_goals first | (intro hp; try (exfalso; omega)) | skip) | ((with_reducible apply t_cond); exact rfl; all_goals first | intro hp | skip) | ((with_reducible apply t_ret)) | ((with_reducible apply t_skip)) | ((with_reducible apply t_exit)) | ((with_reducible apply t_block)))
    | with_reducible apply q_thenN
    | with_reducible apply q_thenR
    | with_reducible apply q_blockR
    | with_reducible apply q_blockN
    | with_reducible apply q_thenE
    | ((with_reducible apply q_blockE); exact rfl)
    | ((with_reducible apply q_blockO); exact rfl)
    | exact P0
    | ((with_reducible apply P1))
    | exact Rdn.zero
    | apply Rdn.succ
    | ((with_reducible apply Norm.nil); exact rfl)
    | ((with_reducible apply Norm.cons); exact rfl)
    | ((with_reducible apply end_ret))
    | ((with_reducible apply end_normal))
    | exact rvs_nil
    | ((with_reducible apply rvs_cons))
    | ((with_reducible apply rv_tmp); exact rfl)
    | ((with_reducible apply rv_cell); exact rfl; exact rfl)
    | ((with_reducible apply rv_cellAgg); exact rfl; exact rfl)
    | exact Nat.le_of_ble_eq_true rfl
    | exact (rfl : (_ : Bool) = true)
    | omega
    | (intro _ _; with_reducible apply tl_id)
    | (intro _; with_reducible apply tl_id)
    | (intro _ _; with_reducible apply al_id)
    | (intro _; with_reducible apply al_id))
  all_goals rfl
theorem most_calls (b2 : Nat) (du z : Int) (w : World) (c0 : w.cell? ⟨b2, 0 + 2, none⟩ = some (.int .i64 du)) : Calls Try.prog 77 #[.int .i64 z, .pointer (some ⟨b2, 0, none⟩)] w fun e w' => e = .returned (.bool (decide (z ≤ du))) ∧ Ext w w' := by
  refine enterQ (c := cx w 8) Try.func77 rfl rfl rfl rfl ?_
  repeat' (first
    | ((with_reducible apply oq_id); first | (apply oq_fn; exact rfl; first | exact trivial | (refine ⟨?_, ?_⟩ <;> omega) | (refine ⟨?_, ?_, ?_⟩ <;> omega) | omega | skip) | ((with_reducible apply oq_load); exact rfl; exact rfl) | ((with_reducible apply oq_loadAgg); exact rfl; exact rfl) | ((with_reducible apply oq_build); exact rfl; exact rfl; exact rfl) | ((with_reducible apply oq_buildA); exact rfl; exact rfl; exact rfl; exact rfl) | ((with_reducible apply oq_fieldAgg); exact rfl; exact rfl; exact rfl) | ((with_reducible apply oq_indexAgg); exact rfl; exact rfl; exact rfl; exact rfl))
    | ((with_reducible apply tl_id); first | ((with_reducible apply tl_nil)) | ((with_reducible apply u_q); exact rfl; exact rfl; exact rfl; exact rfl) | ((with_reducible apply u_s0); exact rfl; exact rfl) | ((with_reducible apply u_s); exact rfl; exact rfl; exact rfl) | ((with_reducible apply u_skip); exact rfl; exact rfl; exact rfl) | ((with_reducible apply u_splitD); exact rfl; exact rfl; all_goals first | (intro hp; try (exfalso; omega)) | skip) | ((with_reducible apply u_splitN); exact rfl; exact rfl; all_goals first | (intro hp; try (exfalso; omega)) | skip) | ((with_reducible apply u_split); exact rfl; exact rfl; all_goals first | intro hp | skip))
    | ((with_reducible apply gx_id); first | ((with_reducible apply v_nil)) | ((with_reducible apply v_q); exact rfl; exact rfl; exact rfl) | ((with_reducible apply v_skip); exact rfl; exact rfl; exact rfl) | ((with_reducible apply v_splitD); exact rfl; exact rfl; all_goals first | (intro hp; try (exfalso; omega)) | skip) | ((with_reducible apply v_splitN); exact rfl; exact rfl; all_goals first | (intro hp; try (exfalso; omega)) | skip) | ((with_reducible apply v_split); exact rfl; exact rfl; all_goals first | intro hp | skip))
    | ((with_reducible apply os_id); first | ((with_reducible apply os_x); exact rfl) | ((with_reducible apply os_store); exact rfl; exact rfl; exact rfl; exact rfl) | ((with_reducible apply os_storeAgg); exact rfl; exact rfl; exact rfl; exact rfl; exact rfl))
    | ((with_reducible apply ox_id); first | ((with_reducible apply ox_alloc); exact rfl; intro _) | ((with_reducible apply ox_box); exact rfl; exact rfl; intro _) | ((with_reducible apply ox_boxAgg); exact rfl; intro _) | ((with_reducible apply ox_buildSlice1); exact rfl; exact rfl; exact rfl; exact rfl; exact rfl; exact rfl; intro _) | ((with_reducible apply ox_buildSlice2); exact rfl; exact rfl; exact rfl; exact rfl; exact rfl; exact rfl; intro _) | ((with_reducible apply ox_buildSlice); exact rfl; exact rfl; exact rfl; exact rfl))
    | ((with_reducible apply rd_id); first | (apply Rd.own; (repeat (first | exact P0 | apply P1)); exact rfl; done) | (apply Rd.old; (first | (with_reducible assumption) | exact c0 | exact c1 | exact c2 | exact c3 | exact c4 | exact c5 | exact c6 | exact c7 | exact c8 | exact d0 | exact d1 | exact d2 | exact d3 | exact d4 | exact d5); first | exact List.not_mem_nil | exact m0 | exact m1 | exact m2 | exact m3 | exact m4 | exact m5 | exact m6 | exact m7 | exact m8 | exact m9))
    | ((with_reducible apply t_id); first | ((with_reducible apply t_seq)) | (apply t_region; kernel_rfl) | (apply t_drawn; kernel_rfl; decide +kernel; try simp only [List.append_eq, List.cons_append, List.nil_append]) | ((with_reducible apply t_condT); exact rfl) | ((with_reducible apply t_condF); exact rfl) | ((with_reducible apply t_condD); exact rfl; all_goals first | (intro hp; try (exfalso; omega)) | skip) | ((with_reducible apply t_condN); exact rfl; all_goals first | (intro hp; try (exfalso; omega)) | skip) | ((with_reducible apply t_cond); exact rfl; all_goals first | intro hp | skip) | ((with_reducible apply t_ret)) | ((with_reducible apply t_skip)) | ((with_reducible apply t_exit)) | ((with_reducible apply t_block)))
    | with_reducible apply q_thenN
    | with_reducible apply q_thenR
    | with_reducible apply q_blockR
    | with_reducible apply q_blockN
    | with_reducible apply q_thenE
    | ((with_reducible apply q_blockE); exact rfl)
    | ((with_reducible apply q_blockO); exact rfl)
    | exact P0
    | ((with_reducible apply P1))
    | exact Rdn.zero
    | apply Rdn.succ
    | ((with_reducible apply Norm.nil); exact rfl)
    | ((with_reducible apply Norm.cons); exact rfl)
    | ((with_reducible apply end_ret))
    | ((with_reducible apply end_normal))
    | exact rvs_nil
    | ((with_reducible apply rvs_cons))
    | ((with_reducible apply rv_tmp); exact rfl)
    | ((with_reducible apply rv_cell); exact rfl; exact rfl)
    | ((with_reducible apply rv_cellAgg); exact rfl; exact rfl)
    | exact Nat.le_of_ble_eq_true rfl
    | exact (rfl : (_ : Bool) = true)
    | omega
    | (intro _ _; with_reducible apply tl_id)
    | (intro _; with_reducible apply tl_id)
    | (intro _ _; with_reducible apply al_id)
    | (intro _; with_reducible apply al_id))
  all_goals rfl


theorem HpSub.skip {x : Nat × List Value × Tg} {H G : Hp} (h : HpSub H G) : HpSub (x :: H) G := by
  induction h with
  | nil => exact .nil
  | cons p _ ih => exact .cons (.tail p) ih
/-- The rows that are there, by the number of flights behind them: the table's tail, and the blocks. -/
def tailV (n : Nat) (gs : Nat → Nat) : Nat → List Value
  | 0 => []
  | m + 1 => .slice (some ⟨gs m, 0, none⟩) (n + 1) (n + 1) :: tailV n gs m
def rowV (ev gr : Int) (fs : List Int) (m : Nat) : List Value := ((List.range (fs.length + 1)).map (ndL ev gr (fs.drop (fs.length - m)))).map iv
def rowsH (n : Nat) (ev gr : Int) (fs : List Int) (gs : Nat → Nat) : Nat → Hp
  | 0 => []
  | m + 1 => (gs m, rowV ev gr fs m, some (3, 1, n + 1)) :: rowsH n ev gr fs gs m
theorem tailV_congr {n : Nat} {gs gs' : Nat → Nat} : ∀ {m : Nat}, (∀ j, j < m → gs j = gs' j) → tailV n gs m = tailV n gs' m
  | 0, _ => rfl
  | m + 1, h => by
    unfold tailV
    rw [h m (by omega), tailV_congr fun j hj => h j (by omega)]
theorem rowsH_congr {n : Nat} {ev gr : Int} {fs : List Int} {gs gs' : Nat → Nat} : ∀ {m : Nat}, (∀ j, j < m → gs j = gs' j) → rowsH n ev gr fs gs m = rowsH n ev gr fs gs' m
  | 0, _ => rfl
  | m + 1, h => by
    unfold rowsH
    rw [h m (by omega), rowsH_congr fun j hj => h j (by omega)]
theorem tailV_at {n : Nat} {gs : Nat → Nat} : ∀ {m j : Nat}, j < m → (tailV n gs m)[m - 1 - j]? = some (.slice (some ⟨gs j, 0, none⟩) (n + 1) (n + 1))
  | 0, _, h => by omega
  | m + 1, j, h => by
    unfold tailV
    rcases (by omega : j = m ∨ j < m) with rfl | hlt
    · rw [show j + 1 - 1 - j = 0 by omega]; rfl
    · rw [show m + 1 - 1 - j = (m - 1 - j) + 1 by omega, List.getElem?_cons_succ]
      exact tailV_at hlt
theorem rowsH_mem {n : Nat} {ev gr : Int} {fs : List Int} {gs : Nat → Nat} : ∀ {m j : Nat}, j < m → (gs j, rowV ev gr fs j, some (3, 1, n + 1)) ∈ rowsH n ev gr fs gs m
  | 0, _, h => by omega
  | m + 1, j, h => by
    unfold rowsH
    rcases (by omega : j = m ∨ j < m) with rfl | hlt
    · exact List.mem_cons_self ..
    · exact List.mem_cons_of_mem _ (rowsH_mem hlt)
theorem rowV_at {ev gr : Int} {fs : List Int} {m k : Nat} (hk : k ≤ fs.length) : (rowV ev gr fs m)[0 + k * 1]? = some (.int .i64 (ndL ev gr (fs.drop (fs.length - m)) k)) := by
  unfold rowV
  rw [Nat.zero_add, Nat.mul_one, List.getElem?_map, List.getElem?_map, List.getElem?_range (by omega)]
  rfl
section
variable {c : Cx} {F : Fr} {H H' : Hp} {K : Value → Hp → Prop} {d : Option Tmp} {ty : TypeId} {pos : String} {af : Array Edge} {gd : Option (Nat × Bool)} {t : TypeId} {x y : Operand} {a0 : Bool} {z0 : List Value} {k0 : TyK} {g k : Nat} {tg : Tg} {A B : List Value} {z u : Value}
theorem rdG (h : A.length = k) (p : Pick H g (A ++ z :: B) tg H') : Rd c H ⟨g, 0 + k * 1, none⟩ z := Rd.own p (by rw [Nat.zero_add, Nat.mul_one, ← h]; simp)
theorem os_storeG (h : A.length = k) (ht : tyAt c.tys t = some ⟨a0, 1, z0, k0⟩) (hx : ev F x = some (.pointer (some ⟨g, 0 + k * 1, none⟩))) (hy : ev F y = some u) (hu : u.oneCell' = true) (hp : Pick H g (A ++ z :: B) tg H')
    (kk : K undef ((g, A ++ u :: B, tg) :: H')) : OS c ⟨d, .store t x y, ty, pos, af, gd⟩ F H K :=
  store_gen (vs := [u]) ht hx hy (by cases u <;> first | rfl | (simp [Value.oneCell'] at hu)) rfl (by simpa using hu) hp (by simp; omega) (by
    have e : setL (A ++ z :: B) (0 + k * 1) [u] = A ++ u :: B := by
      simp only [setL]
      rw [Nat.zero_add, Nat.mul_one, ← h, List.set_append_right _ _ (by simp)]
      simp
    rw [e]; exact kk)
end

end Go.Proofs.Ytmlmgipngbndgaa
