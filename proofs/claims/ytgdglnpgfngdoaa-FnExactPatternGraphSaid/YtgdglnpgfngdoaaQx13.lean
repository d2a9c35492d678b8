-- Laid by wip/tools/lay.py (a program of this session) over the kit's print.py and hand-proved contracts.
import Derived.Test.YtgdglnpgfngdoaaQx0
import Derived.Test.YtgdglnpgfngdoaaQx6
namespace Go.Proofs.Ytgdglnpgfngdoaa.Q
open Go.RowKit Go.Proofs.YtgdglnpgfngdoaaW.PrintWords Go.Proofs.YtgdglnpgfngdoaaW.PrintLast Go.Proofs.YtgdglnpgfngdoaaW.PrintMore
attribute [local go_sem] max2_int min2_int max_two min_two max_three min_three max_four min_four   -- for this text's walks alone
set_option linter.unusedVariables false
set_option linter.unusedSimpArgs false

/-! ### impl_powerUpTo: function 94 -/
theorem put2 {e t : Nat} {W : World} {base : Nat} {ok : Nat → Prop} {gg n cap : Nat} {xs : List (List Int)}
    (h : Kd.S (Kd.slice e (Kd.int .i64)) t W base ok (.slice (some ⟨gg, 0, none⟩) n cap) xs) (i j : Nat) (hi : i < xs.length) (hj : j < (xs.getD i []).length) :
    ∃ go cp, W.cell? ⟨gg, i, none⟩ = some (.slice (some ⟨go, 0, none⟩) (xs.getD i []).length cp) ∧ base ≤ go ∧ W.cell? ⟨go, j, none⟩ = some (.int .i64 ((xs.getD i []).getD j 0)) ∧ W.frozen? ⟨go, j, none⟩ = false ∧
      ∀ v, Kd.S (Kd.slice e (Kd.int .i64)) t (W.setCell ⟨go, j, none⟩ (.int .i64 v)) base ok (.slice (some ⟨gg, 0, none⟩) n cap) (xs.set i ((xs.getD i []).set j v)) := by
  have hn := (Kd.S_reads' h).1
  obtain ⟨oki, c, hcl, hM, hcc, hok, hbk⟩ := Kd.S_borrow h [] (i : Int) (by omega) (by omega)
  obtain ⟨ve, rfl, ge⟩ := hM
  have hv := hcc 0 _ rfl
  rw [Nat.add_zero, show (Kd.slice e (Kd.int .i64)).sz = 1 from rfl, Nat.mul_one, Int.toNat_natCast, add_at, Nat.zero_add] at hv
  rw [Int.toNat_natCast] at ge
  obtain ⟨go, cp, rfl, hb, hl, _⟩ := Kd.R_form ge (by omega)
  obtain ⟨hx, hf⟩ := Kd.R_celln 0 ge (j : Int) (by omega) (by omega)
  rw [Int.toNat_natCast] at hx hf
  refine ⟨go, cp, hv, hb, ?_, hf, fun v => ?_⟩
  · rw [hx]; simp [rdOf]
  · have hp := (Kd.R_putg ge (j : Int) v).1
    have hgr := (Kd.R_putg ge (j : Int) v).2
    rw [Int.toNat_natCast] at hp hgr
    have := hbk (w1 := W.setCell ⟨go, j, none⟩ (.int .i64 v)) (row := some go) (x' := (xs.getD i []).set j v) hgr (fun k ek => by cases ek; exact ge.1 go rfl) ⟨_, rfl, hp⟩
    rw [Int.toNat_natCast] at this
    exact this
/-- A square of numbers. -/
def Sq (n : Nat) (xs : List (List Int)) : Prop := xs.length = n ∧ ∀ i, i < n → (xs.getD i []).length = n
theorem getD_setL (xs : List (List Int)) (i j : Nat) (r : List Int) (hi : i < xs.length) : (xs.set i r).getD j [] = if i = j then r else xs.getD j [] := by
  simp only [List.getD_eq_getElem?_getD, List.getElem?_set]
  by_cases e : i = j
  · subst e; simp [hi]
  · simp [e]
theorem Sq.set {n : Nat} {xs : List (List Int)} (h : Sq n xs) (i : Nat) (hi : i < n) (r : List Int) (hr : r.length = n) : Sq n (xs.set i r) := by
  refine ⟨by rw [List.length_set]; exact h.1, fun j hj => ?_⟩
  rw [getD_setL _ _ _ _ (by rw [h.1]; exact hi)]
  split
  · exact hr
  · exact h.2 j hj
theorem set_self (xs : List (List Int)) (i : Nat) (hi : i < xs.length) : xs.set i (xs.getD i []) = xs := by
  rw [List.getD_eq_getElem?_getD, List.getElem?_eq_getElem hi]; simp
def zeroG (n : Nat) : List (List Int) := List.replicate n (List.replicate n 0)
theorem zeroG_sq (n : Nat) : Sq n (zeroG n) := ⟨by simp [zeroG], fun i hi => by simp [zeroG, List.getD_eq_getElem?_getD, hi]⟩
def diagG (n : Nat) : Nat → List (List Int)
  | 0 => zeroG n
  | i + 1 => (diagG n i).set i (((diagG n i).getD i []).set i 1)
theorem diagG_sq (n : Nat) : ∀ i, i ≤ n → Sq n (diagG n i) := by
  intro i
  induction i with
  | zero => intro _; exact zeroG_sq n
  | succ i ih => intro h; exact (ih (by omega)).set i (by omega) _ (by rw [List.length_set]; exact (ih (by omega)).2 i (by omega))
/-- The first j numbers of a row have grown by a times those of another row. -/
def addRow (most a : Int) (gk row : List Int) : Nat → List Int
  | 0 => row
  | j + 1 => (addRow most a gk row j).set j (mn (wrap64 ((addRow most a gk row j).getD j 0 + wrap64 (a * gk.getD j 0))) most)
theorem addRow_length (most a : Int) (gk row : List Int) : ∀ j, (addRow most a gk row j).length = row.length := by
  intro j
  induction j with
  | zero => rfl
  | succ j ih => simp [addRow, ih]
def mulRow (most : Int) (g : List (List Int)) (n : Nat) (x row : List Int) : Nat → List Int
  | 0 => row
  | k + 1 => addRow most (x.getD k 0) (g.getD k []) (mulRow most g n x row k) n
theorem mulRow_length (most : Int) (g : List (List Int)) (n : Nat) (x row : List Int) : ∀ k, (mulRow most g n x row k).length = row.length := by
  intro k
  induction k with
  | zero => rfl
  | succ k ih => simp [mulRow, addRow_length, ih]
def nextG (most : Int) (g : List (List Int)) (n : Nat) (xs : List (List Int)) : Nat → List (List Int)
  | 0 => zeroG n
  | i + 1 => (nextG most g n xs i).set i (mulRow most g n (xs.getD i []) ((nextG most g n xs i).getD i []) n)
theorem nextG_sq (most : Int) (g : List (List Int)) (n : Nat) (xs : List (List Int)) : ∀ i, i ≤ n → Sq n (nextG most g n xs i) := by
  intro i
  induction i with
  | zero => intro _; exact zeroG_sq n
  | succ i ih => intro h; exact (ih (by omega)).set i (by omega) _ (by rw [mulRow_length]; exact (ih (by omega)).2 i (by omega))
def powG (most : Int) (g : List (List Int)) (n : Nat) : Nat → List (List Int)
  | 0 => diagG n n
  | m + 1 => nextG most g n (powG most g n m) n
theorem powG_sq (most : Int) (g : List (List Int)) (n : Nat) : ∀ m, Sq n (powG most g n m) := by
  intro m
  cases m with
  | zero => exact diagG_sq n n (Nat.le_refl _)
  | succ m => exact nextG_sq most g n _ n (Nat.le_refl _)
def sqB (g : List (List Int)) : Bool := decide (1 ≤ g.length) && decide (g.length ≤ 1000) && g.all fun r => decide (r.length = g.length)
theorem sqB_sq (g : List (List Int)) (h : sqB g = true) : 1 ≤ g.length ∧ g.length ≤ 1000 ∧ Sq g.length g := by
  unfold sqB at h
  rw [Bool.and_eq_true, Bool.and_eq_true, decide_eq_true_iff, decide_eq_true_iff, List.all_eq_true] at h
  refine ⟨h.1.1, h.1.2, rfl, fun i hi => ?_⟩
  have := h.2 (g.getD i []) (by rw [List.getD_eq_getElem?_getD, List.getElem?_eq_getElem hi]; simp)
  simpa using this
def impl_powerUpTo.f (k : Nat) (l0 : List (List Int)) (a1 : Int) (a2 : Int) : Option (List (List Int)) :=
  if (sqB l0 && decide (a1 ≤ 1000000)) = true then
    (impl_emptyGraph.f k (l0.length : Int)).bind fun z => if z = zeroG l0.length then some (powG a2 l0 l0.length a1.toNat) else none
  else none
theorem impl_powerUpTo.mono : ∀ a0 a1 a2 k, LeO (impl_powerUpTo.f k a0 a1 a2) (impl_powerUpTo.f (k + 1) a0 a1 a2) := by
  intro a0 a1 a2 k
  unfold impl_powerUpTo.f
  exact LeO.ite (LeO.bind (impl_emptyGraph.mono _ _) fun _ => LeO.refl _) (LeO.refl _)
set_option maxHeartbeats 16000000 in
set_option maxRecDepth 100000 in
theorem impl_powerUpTo.calls (k : Nat) (A0 : Option Addr) (c0 : Nat) (l0 : List (List Int)) (a1 : Int) (a2 : Int) (r : List (List Int)) (w : World) (hr0 : Kd.C (Kd.slice 3 (Kd.int .i64)) w A0 l0.length l0) (hc0 : l0.length ≤ c0) (h : impl_powerUpTo.f k l0 a1 a2 = some r) :
    Calls Try.prog 94 #[.slice A0 l0.length c0, .int .i64 a1, .int .i64 a2] w fun e w' => ∃ v0_ : Value, e = .returned (v0_) ∧ Kd.S (Kd.slice 3 (Kd.int .i64)) 22 w' w.heap.size (fun _ => True) v0_ r ∧ Below w.heap.size w w' := by
  unfold impl_powerUpTo.f at h
  split at h
  case isFalse => cases h
  rename_i hc
  rw [Bool.and_eq_true, decide_eq_true_iff] at hc
  obtain ⟨hsq, hm⟩ := hc
  obtain ⟨z, hz, h⟩ := Option.bind_eq_some_iff.mp h
  split at h
  case isFalse => cases h
  rename_i hzz
  subst hzz
  injection h with h
  subst h
  obtain ⟨h1, h1000, hsqg⟩ := sqB_sq l0 hsq
  obtain ⟨n, hn⟩ : ∃ n, l0.length = n := ⟨_, rfl⟩
  clear h
  rw [hn] at hr0 hc0 hsqg hz h1 h1000 ⊢
  have HG := Aside0.mk hr0
  have HQ := Aside0.mk hsqg
  have HE := Aside0.mk hz
  have HN := Aside0.mk hn
  clear hr0 hsqg hz hsq hn
  go_enter Try.func94, Try.ntmps94
  go_wp2_with fail
  refine (impl_emptyGraph.calls k _ _ _ HE.out).mono ?_
  rintro e w1 ⟨v7, rfl, hS, hb⟩
  have hl0 := (zeroG_sq n).1
  obtain ⟨g7, c7, hv7, _⟩ := Kd.S_form hS (by rw [hl0]; omega)
  rw [hl0] at hv7
  clear hl0
  subst hv7
  have HO := Aside0.mk hS
  have HB := Aside0.mk hb
  clear hS hb
  go_wp2_with fail
  go_loopg [21] n (fun gg s21 wr => ∃ ii : Nat, ii ≤ n ∧ n - ii ≤ gg ∧ s21 = .int .i64 (ii : Int) ∧ Aside0 (Kd.S (Kd.slice 3 (Kd.int .i64)) 22 wr w.heap.size (fun _ => True) (.slice (some ⟨g7, 0, none⟩) n c7) (diagG n ii)) ∧ Aside0 (Below w.heap.size w wr))
  case atStart => exact ⟨0, Nat.zero_le _, by omega, by go_num, HO, HB⟩
  case round =>
    clear HO HB
    obtain ⟨ii, hii, hg, rfl, HO, HB⟩ := hrel
    by_cases hlt : ii < n
    · have hltz : (ii : Int) < (n : Int) := by omega
      have hd := diagG_sq n ii hii
      obtain ⟨go, cp, hx, hbase, hxx, hf, hput⟩ := put2 HO.out ii ii (by rw [hd.1]; exact hlt) (by rw [hd.2 ii hlt]; exact hlt)
      rw [hd.2 ii hlt] at hx
      have HP := Aside0.mk (hput 1)
      clear hd hput HO
      go_wp2_with fail
      go_roundg (n - (ii + 1))
      case measure => omega
      case rel => exact ⟨ii + 1, by omega, by omega, by go_num, HP, ⟨HB.out.setCell hbase _⟩⟩
    · have hltz : ¬ (ii : Int) < (n : Int) := by omega
      have HO2 := Aside0.mk (show Kd.S (Kd.slice 3 (Kd.int .i64)) 22 wr w.heap.size (fun _ => True) (.slice (some ⟨g7, 0, none⟩) n c7) (powG a2 l0 n 0) by have := HO.out; rw [show ii = n by omega] at this; exact this)
      clear HO
      go_wp2_with fail
      go_loopg [7, 32] a1.toNat (fun gg s7 s32 wr => ∃ m gB cB : Nat, m ≤ a1.toNat ∧ a1.toNat - m ≤ gg ∧ s7 = .slice (some ⟨gB, 0, none⟩) n cB ∧ s32 = .int .i64 (m : Int) ∧ Aside0 (Kd.S (Kd.slice 3 (Kd.int .i64)) 22 wr w.heap.size (fun _ => True) (.slice (some ⟨gB, 0, none⟩) n cB) (powG a2 l0 n m)) ∧ Aside0 (Below w.heap.size w wr))
      case atStart => exact ⟨0, g7, c7, Nat.zero_le _, by omega, rfl, by go_num, HO2, HB⟩
      case round =>
        clear HO2 HB hltz hlt hg hii
        obtain ⟨m, gB, cB, hmm, hg, rfl, rfl, HO, HB⟩ := hrel
        by_cases hlt : m < a1.toNat
        · have hltz : (m : Int) < a1 := by omega
          obtain ⟨wB, rfl⟩ : ∃ wB, wB = wr := ⟨_, rfl⟩
          have HCg := Aside0.mk (Kd.C_below HG.out HB.out)
          have hpq := powG_sq a2 l0 n m
          have hco := (Kd.S_reads' HO.out).2.2
          rw [hpq.1] at hco
          obtain ⟨X, hX⟩ : ∃ X, powG a2 l0 n m = X := ⟨_, rfl⟩
          rw [hX] at hpq hco
          have HX := Aside0.mk hX
          have HXq := Aside0.mk hpq
          have HCo := Aside0.mk hco
          clear hX hpq hco HO
          go_wp2_with fail
          refine (impl_emptyGraph.calls k _ _ _ HE.out).mono ?_
          rintro e w1 ⟨v9, rfl, hS, hb⟩
          have hl0 := (zeroG_sq n).1
          obtain ⟨g9, c9, hv9, _⟩ := Kd.S_form hS (by rw [hl0]; omega)
          rw [hl0] at hv9
          clear hl0
          subst hv9
          have HO := Aside0.mk hS
          have HBn := Aside0.mk hb
          clear hS hb
          go_wp2_with fail
          go_loopg [39] n (fun gg s39 wr => ∃ i : Nat, i ≤ n ∧ n - i ≤ gg ∧ s39 = .int .i64 (i : Int) ∧ Aside0 (Kd.S (Kd.slice 3 (Kd.int .i64)) 22 wr wB.heap.size (fun _ => True) (.slice (some ⟨g9, 0, none⟩) n c9) (nextG a2 l0 n X i)) ∧ Aside0 (Below wB.heap.size wB wr))
          case atStart => exact ⟨0, Nat.zero_le _, by omega, by go_num, HO, HBn⟩
          case round =>
            clear HO HBn
            obtain ⟨i, hi, hg3, rfl, HO, HBn⟩ := hrel
            by_cases hlt3 : i < n
            · have hltz3 : (i : Int) < (n : Int) := by omega
              obtain ⟨ad, Ar, cr, e, hx, hl, hir⟩ := at_L1 HCo.out (i : Int) (by omega) hltz3
              cases e
              have hrl : (rd_L1 X (i : Int)).length = n := by unfold rd_L1; rw [Int.toNat_natCast]; exact HXq.out.2 i hlt3
              have hxr : rd_L1 X (i : Int) = X.getD i [] := by unfold rd_L1; rw [Int.toNat_natCast]
              rw [Int.toNat_natCast, add_at, Nat.zero_add, hrl] at hx
              rw [hrl] at hir
              replace hx := pw_cell_below HBn.out hx
              generalize rd_L1 X (i : Int) = xr at hir hxr
              have HXr := Aside0.mk hxr
              have HR := Aside0.mk hir
              clear hxr hir hl hrl
              have hzq := nextG_sq a2 l0 n X i hi
              obtain ⟨Z, hZ⟩ : ∃ Z, nextG a2 l0 n X i = Z := ⟨_, rfl⟩
              rw [hZ] at hzq HO
              have HZ := Aside0.mk hZ
              have HZq := Aside0.mk hzq
              have HO3 := Aside0.mk (show Kd.S (Kd.slice 3 (Kd.int .i64)) 22 wr wB.heap.size (fun _ => True) (.slice (some ⟨g9, 0, none⟩) n c9) (Z.set i (mulRow a2 l0 n xr (Z.getD i []) 0)) by
                rw [show mulRow a2 l0 n xr (Z.getD i []) 0 = Z.getD i [] from rfl, set_self Z i (by rw [hzq.1]; exact hlt3)]; exact HO.out)
              clear hZ hzq HO
              go_wp2_with fail
              go_loopg [46] n (fun gg s46 wr => ∃ kk : Nat, kk ≤ n ∧ n - kk ≤ gg ∧ s46 = .int .i64 (kk : Int) ∧ Aside0 (Kd.S (Kd.slice 3 (Kd.int .i64)) 22 wr wB.heap.size (fun _ => True) (.slice (some ⟨g9, 0, none⟩) n c9) (Z.set i (mulRow a2 l0 n xr (Z.getD i []) kk))) ∧ Aside0 (Below wB.heap.size wB wr))
              case atStart => exact ⟨0, Nat.zero_le _, by omega, by go_num, HO3, HBn⟩
              case round =>
                clear HO3 HBn hx
                obtain ⟨kk, hkk, hg4, rfl, HO, HBn⟩ := hrel
                by_cases hlt4 : kk < n
                · have hltz4 : (kk : Int) < (n : Int) := by omega
                  obtain ⟨adr, e, hxa⟩ := Kd.at_int HR.out (kk : Int) (by omega) hltz4
                  cases e
                  replace hxa := pw_cell_below HBn.out hxa
                  rw [Int.toNat_natCast] at hxa
                  have HA := Aside0.mk (show rd xr (kk : Int) = xr.getD kk 0 by simp [rd])
                  generalize rd xr (kk : Int) = a at hxa HA
                  obtain ⟨adg, Ag, cg, e, hxg, hlg, hig⟩ := at_L1 HCg.out (kk : Int) (by omega) hltz4
                  cases e
                  have hgl : (rd_L1 l0 (kk : Int)).length = n := by unfold rd_L1; rw [Int.toNat_natCast]; exact HQ.out.2 kk hlt4
                  have hgk : rd_L1 l0 (kk : Int) = l0.getD kk [] := by unfold rd_L1; rw [Int.toNat_natCast]
                  rw [Int.toNat_natCast, hgl] at hxg
                  rw [hgl] at hig
                  replace hxg := pw_cell_below HBn.out hxg
                  generalize rd_L1 l0 (kk : Int) = gw at hig hgk
                  have HGk := Aside0.mk hgk
                  have HI := Aside0.mk hig
                  clear hgk hig hlg hgl
                  obtain ⟨M, hM⟩ : ∃ M, mulRow a2 l0 n xr (Z.getD i []) kk = M := ⟨_, rfl⟩
                  have hMl : M.length = n := by rw [← hM, mulRow_length]; exact HZq.out.2 i hlt3
                  rw [hM] at HO
                  have HM := Aside0.mk hM
                  have HMl := Aside0.mk hMl
                  clear hM hMl
                  go_wp2_with fail
                  go_loopg [56] n (fun gg s56 wr => ∃ j : Nat, j ≤ n ∧ n - j ≤ gg ∧ s56 = .int .i64 (j : Int) ∧ Aside0 (Kd.S (Kd.slice 3 (Kd.int .i64)) 22 wr wB.heap.size (fun _ => True) (.slice (some ⟨g9, 0, none⟩) n c9) (Z.set i (addRow a2 a gw M j))) ∧ Aside0 (Below wB.heap.size wB wr))
                  case atStart => exact ⟨0, Nat.zero_le _, by omega, by go_num, HO, HBn⟩
                  case round =>
                    clear HO HBn hxg hxa
                    obtain ⟨j, hj, hg5, rfl, HO, HBn⟩ := hrel
                    by_cases hlt5 : j < n
                    · have hltz5 : (j : Int) < (n : Int) := by omega
                      obtain ⟨adk, e, hxb⟩ := Kd.at_int HI.out (j : Int) (by omega) hltz5
                      cases e
                      replace hxb := pw_cell_below HBn.out hxb
                      rw [Int.toNat_natCast] at hxb
                      have HBv := Aside0.mk (show rd gw (j : Int) = gw.getD j 0 by simp [rd])
                      generalize rd gw (j : Int) = b at hxb HBv
                      have hrow : (Z.set i (addRow a2 a gw M j)).getD i [] = addRow a2 a gw M j := by rw [getD_setL _ _ _ _ (by rw [HZq.out.1]; exact hlt3), if_pos rfl]
                      have hal : (addRow a2 a gw M j).length = n := by rw [addRow_length]; exact HMl.out
                      obtain ⟨go, cp, hx, hbase, hxx, hf, hput⟩ := put2 (Kd.S_drew HO.out) i j (by rw [List.length_set, HZq.out.1]; exact hlt3) (by rw [hrow, hal]; exact hlt5)
                      rw [hrow] at hx hxx hput
                      rw [hal] at hx
                      obtain ⟨c, hcd⟩ : ∃ c, (addRow a2 a gw M j).getD j 0 = c := ⟨_, rfl⟩
                      rw [hcd] at hxx
                      obtain ⟨p, hp⟩ : ∃ p, wrap64 (a * b) = p := ⟨_, rfl⟩
                      have hpw : IntKind.i64.wrap (a * b) = p := (i64_w _).trans hp
                      obtain ⟨q, hq⟩ : ∃ q, wrap64 (c + p) = q := ⟨_, rfl⟩
                      have hqw : IntKind.i64.wrap (c + p) = q := (i64_w _).trans hq
                      have hrs : (Z.set i (addRow a2 a gw M j)).set i ((addRow a2 a gw M j).set j (mn q a2)) = Z.set i (addRow a2 a gw M (j + 1)) := by
                        rw [List.set_set]
                        show _ = Z.set i ((addRow a2 a gw M j).set j (mn (wrap64 ((addRow a2 a gw M j).getD j 0 + wrap64 (a * gw.getD j 0))) a2))
                        rw [hcd, ← HBv.out, hp, hq]
                      have hpt := hput (mn q a2)
                      rw [hrs] at hpt
                      unfold mn at hpt
                      have HP := Aside0.mk hpt
                      have HBd := Aside0.mk (below_drew1 HBn.out)
                      clear hpt hput hrs hq hp hcd hal hrow HO
                      go_wp2_with fail
                      go_still_tail 19, (by kernel_rfl)
                      change wpList _ _ _ _ _ wr.drew
                      generalize wr.drew = w2 at hx hxx hf HP HBd ⊢
                      clear HBn
                      go_wp2_with fail
                      all_goals
                        go_roundg (n - (j + 1))
                        case measure => omega
                        case rel =>
                          refine ⟨j + 1, by omega, by omega, by go_num, ?_, ⟨HBd.out.setCell hbase _⟩⟩
                          first | exact HP | (rw [if_pos (by omega)] at HP; exact HP) | (rw [if_neg (by omega)] at HP; exact HP)
                    · have hltz5 : ¬ (j : Int) < (n : Int) := by omega
                      have HE5 := Aside0.mk (show Z.set i (addRow a2 a gw M j) = Z.set i (mulRow a2 l0 n xr (Z.getD i []) (kk + 1)) by
                        rw [show j = n by omega]
                        show _ = Z.set i (addRow a2 (xr.getD kk 0) (l0.getD kk []) (mulRow a2 l0 n xr (Z.getD i []) kk) n)
                        rw [HM.out, ← HA.out, ← HGk.out])
                      go_wp2_with fail
                      go_roundg (n - (kk + 1))
                      case measure => omega
                      case rel => exact ⟨kk + 1, by omega, by omega, by go_num, ⟨by rw [← HE5.out]; exact HO.out⟩, HBn⟩
                · have hltz4 : ¬ (kk : Int) < (n : Int) := by omega
                  have HE4 := Aside0.mk (show Z.set i (mulRow a2 l0 n xr (Z.getD i []) kk) = nextG a2 l0 n X (i + 1) by
                    rw [show kk = n by omega]
                    show _ = (nextG a2 l0 n X i).set i (mulRow a2 l0 n (X.getD i []) ((nextG a2 l0 n X i).getD i []) n)
                    rw [HZ.out, ← HXr.out])
                  go_wp2_with fail
                  go_roundg (n - (i + 1))
                  case measure => omega
                  case rel => exact ⟨i + 1, by omega, by omega, by go_num, ⟨by rw [← HE4.out]; exact HO.out⟩, HBn⟩
            · have hltz3 : ¬ (i : Int) < (n : Int) := by omega
              have HE3 := Aside0.mk (show nextG a2 l0 n X i = powG a2 l0 n (m + 1) by
                rw [show i = n by omega]
                show _ = nextG a2 l0 n (powG a2 l0 n m) n
                rw [HX.out])
              go_wp2_with fail
              go_roundg (a1.toNat - (m + 1))
              case measure => omega
              case rel => exact ⟨m + 1, g9, c9, by omega, by omega, by first | rfl | go_num, by first | rfl | go_num, ⟨by rw [← HE3.out]; exact Kd.S_lower HO.out HB.out.size⟩, ⟨below_step HB.out HBn.out⟩⟩
        · have hltz : ¬ (m : Int) < a1 := by omega
          have hme : m = a1.toNat := by omega
          have HM := Aside0.mk hme
          clear hme
          go_wp2_with fail
          go_ret
          refine ⟨_, rfl, ?_, HB.out⟩
          rw [← HM.out]
          exact HO.out

end Go.Proofs.Ytgdglnpgfngdoaa.Q
