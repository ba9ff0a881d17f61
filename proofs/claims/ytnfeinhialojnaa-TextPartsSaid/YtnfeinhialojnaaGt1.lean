import Derived.Test.YtnfeinhialojnaaGt1P0
namespace Go.Proofs.Ytnfeinhialojnaa
open Go
set_option linter.unusedVariables false
set_option linter.unusedSimpArgs false
/-! ### ferryman/ferrymanlaw02.bent: function 23 -/
def ferrymanlaw02_bent (k : Nat) (a0 : Int) : Option ((List api_Config)) :=
  (Option.bind (α := Int × Int × Int × Int × Int × Int × Int) (if (decide (a0 > (0 : Int))) = true then some ((6 : Int), (8 : Int), (64 : Int), (8 : Int), (1048576 : Int), (256 : Int), (8 : Int)) else some ((1 : Int), (1 : Int), (1 : Int), (2 : Int), (1 : Int), (0 : Int), (3 : Int))) (fun ⟨x7, x8, x9, x10, x11, x12, x13⟩ => (if 0 ≤ (0 : Int) ∧ (0 : Int) < (([(⟨x7, x8, x9, x10, x11, x9, x12, x13⟩ : api_Config), (⟨x7, x8, x9, x10, x11, x9, x12, x13⟩ : api_Config), (⟨x7, x8, x9, x10, x11, x9, x12, x13⟩ : api_Config), (⟨x7, x8, x9, x10, x11, x9, x12, x13⟩ : api_Config), (⟨x7, x8, x9, x10, x11, x9, x12, x13⟩ : api_Config), (⟨x7, x8, x9, x10, x11, x9, x12, x13⟩ : api_Config), (⟨x7, x8, x9, x10, x11, x9, x12, x13⟩ : api_Config), (⟨x7, x8, x9, x10, x11, x9, x12, x13⟩ : api_Config), (⟨x7, x8, x9, x10, x11, x9, x12, x13⟩ : api_Config)] : List api_Config).length : Int) then (if 0 ≤ (0 : Int) ∧ (0 : Int) < (([(⟨x7, x8, x9, x10, x11, x9, x12, x13⟩ : api_Config), (⟨x7, x8, x9, x10, x11, x9, x12, x13⟩ : api_Config), (⟨x7, x8, x9, x10, x11, x9, x12, x13⟩ : api_Config), (⟨x7, x8, x9, x10, x11, x9, x12, x13⟩ : api_Config), (⟨x7, x8, x9, x10, x11, x9, x12, x13⟩ : api_Config), (⟨x7, x8, x9, x10, x11, x9, x12, x13⟩ : api_Config), (⟨x7, x8, x9, x10, x11, x9, x12, x13⟩ : api_Config), (⟨x7, x8, x9, x10, x11, x9, x12, x13⟩ : api_Config), (⟨x7, x8, x9, x10, x11, x9, x12, x13⟩ : api_Config)] : List api_Config).length : Int) then (Option.bind (α := List api_Config) (some (List.set ([(⟨x7, x8, x9, x10, x11, x9, x12, x13⟩ : api_Config), (⟨x7, x8, x9, x10, x11, x9, x12, x13⟩ : api_Config), (⟨x7, x8, x9, x10, x11, x9, x12, x13⟩ : api_Config), (⟨x7, x8, x9, x10, x11, x9, x12, x13⟩ : api_Config), (⟨x7, x8, x9, x10, x11, x9, x12, x13⟩ : api_Config), (⟨x7, x8, x9, x10, x11, x9, x12, x13⟩ : api_Config), (⟨x7, x8, x9, x10, x11, x9, x12, x13⟩ : api_Config), (⟨x7, x8, x9, x10, x11, x9, x12, x13⟩ : api_Config), (⟨x7, x8, x9, x10, x11, x9, x12, x13⟩ : api_Config)] : List api_Config) (0 : Int).toNat (⟨(IntKind.i64.wrap ((rd ([(⟨x7, x8, x9, x10, x11, x9, x12, x13⟩ : api_Config), (⟨x7, x8, x9, x10, x11, x9, x12, x13⟩ : api_Config), (⟨x7, x8, x9, x10, x11, x9, x12, x13⟩ : api_Config), (⟨x7, x8, x9, x10, x11, x9, x12, x13⟩ : api_Config), (⟨x7, x8, x9, x10, x11, x9, x12, x13⟩ : api_Config), (⟨x7, x8, x9, x10, x11, x9, x12, x13⟩ : api_Config), (⟨x7, x8, x9, x10, x11, x9, x12, x13⟩ : api_Config), (⟨x7, x8, x9, x10, x11, x9, x12, x13⟩ : api_Config), (⟨x7, x8, x9, x10, x11, x9, x12, x13⟩ : api_Config)] : List api_Config) (0 : Int)).Tasks + a0)), (rd ([(⟨x7, x8, x9, x10, x11, x9, x12, x13⟩ : api_Config), (⟨x7, x8, x9, x10, x11, x9, x12, x13⟩ : api_Config), (⟨x7, x8, x9, x10, x11, x9, x12, x13⟩ : api_Config), (⟨x7, x8, x9, x10, x11, x9, x12, x13⟩ : api_Config), (⟨x7, x8, x9, x10, x11, x9, x12, x13⟩ : api_Config), (⟨x7, x8, x9, x10, x11, x9, x12, x13⟩ : api_Config), (⟨x7, x8, x9, x10, x11, x9, x12, x13⟩ : api_Config), (⟨x7, x8, x9, x10, x11, x9, x12, x13⟩ : api_Config), (⟨x7, x8, x9, x10, x11, x9, x12, x13⟩ : api_Config)] : List api_Config) (0 : Int)).Active, (rd ([(⟨x7, x8, x9, x10, x11, x9, x12, x13⟩ : api_Config), (⟨x7, x8, x9, x10, x11, x9, x12, x13⟩ : api_Config), (⟨x7, x8, x9, x10, x11, x9, x12, x13⟩ : api_Config), (⟨x7, x8, x9, x10, x11, x9, x12, x13⟩ : api_Config), (⟨x7, x8, x9, x10, x11, x9, x12, x13⟩ : api_Config), (⟨x7, x8, x9, x10, x11, x9, x12, x13⟩ : api_Config), (⟨x7, x8, x9, x10, x11, x9, x12, x13⟩ : api_Config), (⟨x7, x8, x9, x10, x11, x9, x12, x13⟩ : api_Config), (⟨x7, x8, x9, x10, x11, x9, x12, x13⟩ : api_Config)] : List api_Config) (0 : Int)).Keys, (rd ([(⟨x7, x8, x9, x10, x11, x9, x12, x13⟩ : api_Config), (⟨x7, x8, x9, x10, x11, x9, x12, x13⟩ : api_Config), (⟨x7, x8, x9, x10, x11, x9, x12, x13⟩ : api_Config), (⟨x7, x8, x9, x10, x11, x9, x12, x13⟩ : api_Config), (⟨x7, x8, x9, x10, x11, x9, x12, x13⟩ : api_Config), (⟨x7, x8, x9, x10, x11, x9, x12, x13⟩ : api_Config), (⟨x7, x8, x9, x10, x11, x9, x12, x13⟩ : api_Config), (⟨x7, x8, x9, x10, x11, x9, x12, x13⟩ : api_Config), (⟨x7, x8, x9, x10, x11, x9, x12, x13⟩ : api_Config)] : List api_Config) (0 : Int)).Depth, (rd ([(⟨x7, x8, x9, x10, x11, x9, x12, x13⟩ : api_Config), (⟨x7, x8, x9, x10, x11, x9, x12, x13⟩ : api_Config), (⟨x7, x8, x9, x10, x11, x9, x12, x13⟩ : api_Config), (⟨x7, x8, x9, x10, x11, x9, x12, x13⟩ : api_Config), (⟨x7, x8, x9, x10, x11, x9, x12, x13⟩ : api_Config), (⟨x7, x8, x9, x10, x11, x9, x12, x13⟩ : api_Config), (⟨x7, x8, x9, x10, x11, x9, x12, x13⟩ : api_Config), (⟨x7, x8, x9, x10, x11, x9, x12, x13⟩ : api_Config), (⟨x7, x8, x9, x10, x11, x9, x12, x13⟩ : api_Config)] : List api_Config) (0 : Int)).TS, (rd ([(⟨x7, x8, x9, x10, x11, x9, x12, x13⟩ : api_Config), (⟨x7, x8, x9, x10, x11, x9, x12, x13⟩ : api_Config), (⟨x7, x8, x9, x10, x11, x9, x12, x13⟩ : api_Config), (⟨x7, x8, x9, x10, x11, x9, x12, x13⟩ : api_Config), (⟨x7, x8, x9, x10, x11, x9, x12, x13⟩ : api_Config), (⟨x7, x8, x9, x10, x11, x9, x12, x13⟩ : api_Config), (⟨x7, x8, x9, x10, x11, x9, x12, x13⟩ : api_Config), (⟨x7, x8, x9, x10, x11, x9, x12, x13⟩ : api_Config), (⟨x7, x8, x9, x10, x11, x9, x12, x13⟩ : api_Config)] : List api_Config) (0 : Int)).KeyLen, (rd ([(⟨x7, x8, x9, x10, x11, x9, x12, x13⟩ : api_Config), (⟨x7, x8, x9, x10, x11, x9, x12, x13⟩ : api_Config), (⟨x7, x8, x9, x10, x11, x9, x12, x13⟩ : api_Config), (⟨x7, x8, x9, x10, x11, x9, x12, x13⟩ : api_Config), (⟨x7, x8, x9, x10, x11, x9, x12, x13⟩ : api_Config), (⟨x7, x8, x9, x10, x11, x9, x12, x13⟩ : api_Config), (⟨x7, x8, x9, x10, x11, x9, x12, x13⟩ : api_Config), (⟨x7, x8, x9, x10, x11, x9, x12, x13⟩ : api_Config), (⟨x7, x8, x9, x10, x11, x9, x12, x13⟩ : api_Config)] : List api_Config) (0 : Int)).ValLen, (rd ([(⟨x7, x8, x9, x10, x11, x9, x12, x13⟩ : api_Config), (⟨x7, x8, x9, x10, x11, x9, x12, x13⟩ : api_Config), (⟨x7, x8, x9, x10, x11, x9, x12, x13⟩ : api_Config), (⟨x7, x8, x9, x10, x11, x9, x12, x13⟩ : api_Config), (⟨x7, x8, x9, x10, x11, x9, x12, x13⟩ : api_Config), (⟨x7, x8, x9, x10, x11, x9, x12, x13⟩ : api_Config), (⟨x7, x8, x9, x10, x11, x9, x12, x13⟩ : api_Config), (⟨x7, x8, x9, x10, x11, x9, x12, x13⟩ : api_Config), (⟨x7, x8, x9, x10, x11, x9, x12, x13⟩ : api_Config)] : List api_Config) (0 : Int)).Fan⟩ : api_Config))) (fun x42 => (if 0 ≤ (1 : Int) ∧ (1 : Int) < (x42.length : Int) then (if 0 ≤ (1 : Int) ∧ (1 : Int) < (x42.length : Int) then (Option.bind (α := List api_Config) (some (List.set x42 (1 : Int).toNat (⟨(rd x42 (1 : Int)).Tasks, (IntKind.i64.wrap ((rd x42 (1 : Int)).Active + a0)), (rd x42 (1 : Int)).Keys, (rd x42 (1 : Int)).Depth, (rd x42 (1 : Int)).TS, (rd x42 (1 : Int)).KeyLen, (rd x42 (1 : Int)).ValLen, (rd x42 (1 : Int)).Fan⟩ : api_Config))) (fun x66 => (if 0 ≤ (2 : Int) ∧ (2 : Int) < (x66.length : Int) then (if 0 ≤ (2 : Int) ∧ (2 : Int) < (x66.length : Int) then (Option.bind (α := List api_Config) (some (List.set x66 (2 : Int).toNat (⟨(rd x66 (2 : Int)).Tasks, (rd x66 (2 : Int)).Active, (IntKind.i64.wrap ((rd x66 (2 : Int)).Keys + a0)), (rd x66 (2 : Int)).Depth, (rd x66 (2 : Int)).TS, (rd x66 (2 : Int)).KeyLen, (rd x66 (2 : Int)).ValLen, (rd x66 (2 : Int)).Fan⟩ : api_Config))) (fun x90 => (if 0 ≤ (3 : Int) ∧ (3 : Int) < (x90.length : Int) then (if 0 ≤ (3 : Int) ∧ (3 : Int) < (x90.length : Int) then (Option.bind (α := List api_Config) (some (List.set x90 (3 : Int).toNat (⟨(rd x90 (3 : Int)).Tasks, (rd x90 (3 : Int)).Active, (rd x90 (3 : Int)).Keys, (IntKind.i64.wrap ((rd x90 (3 : Int)).Depth + a0)), (rd x90 (3 : Int)).TS, (rd x90 (3 : Int)).KeyLen, (rd x90 (3 : Int)).ValLen, (rd x90 (3 : Int)).Fan⟩ : api_Config))) (fun x114 => (if 0 ≤ (4 : Int) ∧ (4 : Int) < (x114.length : Int) then (if 0 ≤ (4 : Int) ∧ (4 : Int) < (x114.length : Int) then (Option.bind (α := List api_Config) (some (List.set x114 (4 : Int).toNat (⟨(rd x114 (4 : Int)).Tasks, (rd x114 (4 : Int)).Active, (rd x114 (4 : Int)).Keys, (rd x114 (4 : Int)).Depth, (IntKind.i64.wrap ((rd x114 (4 : Int)).TS + a0)), (rd x114 (4 : Int)).KeyLen, (rd x114 (4 : Int)).ValLen, (rd x114 (4 : Int)).Fan⟩ : api_Config))) (fun x138 => (if 0 ≤ (5 : Int) ∧ (5 : Int) < (x138.length : Int) then (if 0 ≤ (5 : Int) ∧ (5 : Int) < (x138.length : Int) then (Option.bind (α := List api_Config) (some (List.set x138 (5 : Int).toNat (⟨(rd x138 (5 : Int)).Tasks, (rd x138 (5 : Int)).Active, (rd x138 (5 : Int)).Keys, (rd x138 (5 : Int)).Depth, (rd x138 (5 : Int)).TS, (IntKind.i64.wrap ((rd x138 (5 : Int)).KeyLen + a0)), (rd x138 (5 : Int)).ValLen, (rd x138 (5 : Int)).Fan⟩ : api_Config))) (fun x162 => (if 0 ≤ (6 : Int) ∧ (6 : Int) < (x162.length : Int) then (if 0 ≤ (6 : Int) ∧ (6 : Int) < (x162.length : Int) then (Option.bind (α := List api_Config) (some (List.set x162 (6 : Int).toNat (⟨(rd x162 (6 : Int)).Tasks, (rd x162 (6 : Int)).Active, (rd x162 (6 : Int)).Keys, (rd x162 (6 : Int)).Depth, (rd x162 (6 : Int)).TS, (rd x162 (6 : Int)).KeyLen, (IntKind.i64.wrap ((rd x162 (6 : Int)).ValLen + a0)), (rd x162 (6 : Int)).Fan⟩ : api_Config))) (fun x186 => (if 0 ≤ (7 : Int) ∧ (7 : Int) < (x186.length : Int) then (if 0 ≤ (7 : Int) ∧ (7 : Int) < (x186.length : Int) then (Option.bind (α := List api_Config) (some (List.set x186 (7 : Int).toNat (⟨(rd x186 (7 : Int)).Tasks, (rd x186 (7 : Int)).Active, (rd x186 (7 : Int)).Keys, (rd x186 (7 : Int)).Depth, (rd x186 (7 : Int)).TS, (rd x186 (7 : Int)).KeyLen, (rd x186 (7 : Int)).ValLen, (IntKind.i64.wrap ((rd x186 (7 : Int)).Fan + a0))⟩ : api_Config))) (fun x210 => some x210)) else none) else none))) else none) else none))) else none) else none))) else none) else none))) else none) else none))) else none) else none))) else none) else none))) else none) else none)))
set_option maxHeartbeats 2000000 in
theorem ferrymanlaw02_bent.mono {k : Nat} {a0 : Int} : OLe (ferrymanlaw02_bent k a0) (ferrymanlaw02_bent (k + 1) a0) := by
  unfold ferrymanlaw02_bent
  repeat' (first | with_reducible exact OLe.none | with_reducible exact OLe.some | with_reducible refine OLe.ite ?_ ?_ | with_reducible refine OLe.bind ?_ (fun _ => ?_) | refine OLe.bind ?_ (fun _ => ?_) | refine OLe.ite ?_ ?_ | refine OLe.elim (fun _ => ?_) (fun _ => ?_) | split)
set_option maxHeartbeats 1000000 in
set_option maxRecDepth 100000 in
theorem ferrymanlaw02_bent.con (k : Nat) (M : Hp) (a0 : Int) (r : (List api_Config))  (h : ferrymanlaw02_bent k a0 = some r) : Con Try.prog 23 #[.int .i64 a0] M [] (fun v M' Γ' => ∃ (A0 : Option Addr) (c0 : Nat), v = .slice A0 r.length c0 ∧ Γ' = [Row r_api_Config 37 (.slice A0 r.length c0) r]) := by
  refine con_of_wp Try.func23 rfl Try.ntmps23 Try.results23 rfl ?_
  intro w F rn S hrn
  have E := Ext.refl w
  have HM := Hp.le_refl M
  have H := h
  unfold ferrymanlaw02_bent at H
  refine Wp_seq ?_
  refine Wp_region_lit ?_
  refine W_v (.slice none 0 0) (x_assign rfl) rfl ?_
  refine Wl_nil ?_
  refine tn ?_
  refine Wp_seq ?_
  refine Wp_region_lit ?_
  refine W_v (.agg #[.int .i64 1, .int .i64 1, .int .i64 1, .int .i64 2, .int .i64 1, .int .i64 1, .int .i64 0, .int .i64 3]) (x_build2 (pl := [(0, 1), (1, 1), (2, 1), (3, 1), (4, 1), (5, 1), (6, 1), (7, 1)]) #[.int .i64 1, .int .i64 1, .int .i64 1, .int .i64 2, .int .i64 1, .int .i64 1, .int .i64 0, .int .i64 3] Try.underlying37 ty37 (by kernel_rfl) rfl (by kernel_rfl)) rfl ?_
  refine W_alloc S #[.int .i64 0, .int .i64 0, .int .i64 0, .int .i64 0, .int .i64 0, .int .i64 0, .int .i64 0, .int .i64 0] ty37 rfl rfl ?_
  intro b1 w2 E' S
  replace E := E.trans E'
  clear E'
  refine W_store S 0 rfl ty37 rfl rfl [.int .i64 1, .int .i64 1, .int .i64 1, .int .i64 2, .int .i64 1, .int .i64 1, .int .i64 0, .int .i64 3] rfl rfl rfl #[.int .i64 1, .int .i64 1, .int .i64 1, .int .i64 2, .int .i64 1, .int .i64 1, .int .i64 0, .int .i64 3] rfl rfl ?_
  intro w4 E' S
  replace E := E.trans E'
  clear E'
  refine Wl_nil ?_
  refine tn ?_
  refine Wp_seq ?_
  refine Wp_seq ?_
  refine Wp_region_lit ?_
  refine W_v (.int .i64 a0) (x_move rfl) rfl ?_
  refine W_v (.bool (decide (a0 > (0 : Int)))) (x_ibin rfl rfl rfl rfl) rfl ?_
  refine Wl_nil ?_
  refine tn ?_
  obtain ⟨o14, o14h, o14H⟩ := bindS H
  refine Wp_cut (fun ρ w' => ∃ (x7 : Int) (x8 : Int) (x9 : Int) (x10 : Int) (x11 : Int) (x12 : Int) (x13 : Int), (x7, x8, x9, x10, x11, x12, x13) = o14 ∧ Agree ρ [(0, .int .i64 a0), (3, .pointer (some ⟨b1, 0, none⟩))] ∧ Ext w w' ∧ St w' M F [Blk b1 (.cells #[.int .i64 x7, .int .i64 x8, .int .i64 x9, .int .i64 x10, .int .i64 x11, .int .i64 x9, .int .i64 x12, .int .i64 x13] 37 (0, 0))]) ?_ ?_
  · clear o14H
    have H := o14h
    clear o14h
    rcases iteS H with ⟨hb15, H⟩ | ⟨hb15, H⟩
    · refine Wp_cond_true (congrArg Value.bool hb15) ?_
      refine Wp_region_lit ?_
      refine W_v (.agg #[.int .i64 6, .int .i64 8, .int .i64 64, .int .i64 8, .int .i64 1048576, .int .i64 64, .int .i64 256, .int .i64 8]) (x_build2 (pl := [(0, 1), (1, 1), (2, 1), (3, 1), (4, 1), (5, 1), (6, 1), (7, 1)]) #[.int .i64 6, .int .i64 8, .int .i64 64, .int .i64 8, .int .i64 1048576, .int .i64 64, .int .i64 256, .int .i64 8] Try.underlying37 ty37 (by kernel_rfl) rfl (by kernel_rfl)) rfl ?_
      refine W_store S 0 rfl ty37 rfl rfl [.int .i64 6, .int .i64 8, .int .i64 64, .int .i64 8, .int .i64 1048576, .int .i64 64, .int .i64 256, .int .i64 8] rfl rfl rfl #[.int .i64 6, .int .i64 8, .int .i64 64, .int .i64 8, .int .i64 1048576, .int .i64 64, .int .i64 256, .int .i64 8] rfl rfl ?_
      intro w16 E' S
      replace E := E.trans E'
      clear E'
      refine Wl_nil ?_
      refine tn ?_
      exact ⟨(6 : Int), (8 : Int), (64 : Int), (8 : Int), (1048576 : Int), (256 : Int), (8 : Int), Option.some.inj H, ⟨rfl, rfl, trivial⟩, E, S.pick [0] (by decide)⟩
    · refine Wp_cond_false (congrArg Value.bool hb15) ?_
      refine Wp_skip ?_
      refine tn ?_
      exact ⟨(1 : Int), (1 : Int), (1 : Int), (2 : Int), (1 : Int), (0 : Int), (3 : Int), Option.some.inj H, ⟨rfl, rfl, trivial⟩, E, S.pick [0] (by decide)⟩
  · clear o14h
    rintro ρ w17 ⟨x7, x8, x9, x10, x11, x12, x13, rfl, hρ, E, S⟩
    rw [agree_eta hρ]
    clear hρ
    have H := o14H
    clear o14H
    refine tn ?_
    refine Wp_seq ?_
    refine Wp_region_lit ?_
    refine W_v (.agg #[.int .i64 x7, .int .i64 x8, .int .i64 x9, .int .i64 x10, .int .i64 x11, .int .i64 x9, .int .i64 x12, .int .i64 x13]) (x_loadA (S.blk 0 rfl) ty37 rfl (sub_of_extract rfl) rfl rfl) rfl ?_
    refine W_v (.agg #[.int .i64 x7, .int .i64 x8, .int .i64 x9, .int .i64 x10, .int .i64 x11, .int .i64 x9, .int .i64 x12, .int .i64 x13]) (x_loadA (S.blk 0 rfl) ty37 rfl (sub_of_extract rfl) rfl rfl) rfl ?_
    refine W_v (.agg #[.int .i64 x7, .int .i64 x8, .int .i64 x9, .int .i64 x10, .int .i64 x11, .int .i64 x9, .int .i64 x12, .int .i64 x13]) (x_loadA (S.blk 0 rfl) ty37 rfl (sub_of_extract rfl) rfl rfl) rfl ?_
    refine W_v (.agg #[.int .i64 x7, .int .i64 x8, .int .i64 x9, .int .i64 x10, .int .i64 x11, .int .i64 x9, .int .i64 x12, .int .i64 x13]) (x_loadA (S.blk 0 rfl) ty37 rfl (sub_of_extract rfl) rfl rfl) rfl ?_
    refine W_v (.agg #[.int .i64 x7, .int .i64 x8, .int .i64 x9, .int .i64 x10, .int .i64 x11, .int .i64 x9, .int .i64 x12, .int .i64 x13]) (x_loadA (S.blk 0 rfl) ty37 rfl (sub_of_extract rfl) rfl rfl) rfl ?_
    refine W_v (.agg #[.int .i64 x7, .int .i64 x8, .int .i64 x9, .int .i64 x10, .int .i64 x11, .int .i64 x9, .int .i64 x12, .int .i64 x13]) (x_loadA (S.blk 0 rfl) ty37 rfl (sub_of_extract rfl) rfl rfl) rfl ?_
    refine W_v (.agg #[.int .i64 x7, .int .i64 x8, .int .i64 x9, .int .i64 x10, .int .i64 x11, .int .i64 x9, .int .i64 x12, .int .i64 x13]) (x_loadA (S.blk 0 rfl) ty37 rfl (sub_of_extract rfl) rfl rfl) rfl ?_
    refine W_v (.agg #[.int .i64 x7, .int .i64 x8, .int .i64 x9, .int .i64 x10, .int .i64 x11, .int .i64 x9, .int .i64 x12, .int .i64 x13]) (x_loadA (S.blk 0 rfl) ty37 rfl (sub_of_extract rfl) rfl rfl) rfl ?_
    refine W_v (.agg #[.int .i64 x7, .int .i64 x8, .int .i64 x9, .int .i64 x10, .int .i64 x11, .int .i64 x9, .int .i64 x12, .int .i64 x13]) (x_loadA (S.blk 0 rfl) ty37 rfl (sub_of_extract rfl) rfl rfl) rfl ?_
    refine W_bslice S #[.int .i64 x7, .int .i64 x8, .int .i64 x9, .int .i64 x10, .int .i64 x11, .int .i64 x9, .int .i64 x12, .int .i64 x13, .int .i64 x7, .int .i64 x8, .int .i64 x9, .int .i64 x10, .int .i64 x11, .int .i64 x9, .int .i64 x12, .int .i64 x13, .int .i64 x7, .int .i64 x8, .int .i64 x9, .int .i64 x10, .int .i64 x11, .int .i64 x9, .int .i64 x12, .int .i64 x13, .int .i64 x7, .int .i64 x8, .int .i64 x9, .int .i64 x10, .int .i64 x11, .int .i64 x9, .int .i64 x12, .int .i64 x13, .int .i64 x7, .int .i64 x8, .int .i64 x9, .int .i64 x10, .int .i64 x11, .int .i64 x9, .int .i64 x12, .int .i64 x13, .int .i64 x7, .int .i64 x8, .int .i64 x9, .int .i64 x10, .int .i64 x11, .int .i64 x9, .int .i64 x12, .int .i64 x13, .int .i64 x7, .int .i64 x8, .int .i64 x9, .int .i64 x10, .int .i64 x11, .int .i64 x9, .int .i64 x12, .int .i64 x13, .int .i64 x7, .int .i64 x8, .int .i64 x9, .int .i64 x10, .int .i64 x11, .int .i64 x9, .int .i64 x12, .int .i64 x13, .int .i64 x7, .int .i64 x8, .int .i64 x9, .int .i64 x10, .int .i64 x11, .int .i64 x9, .int .i64 x12, .int .i64 x13] Try.underlying33 ty37 rfl rfl #[.int .i64 0, .int .i64 0, .int .i64 0, .int .i64 0, .int .i64 0, .int .i64 0, .int .i64 0, .int .i64 0, .int .i64 0, .int .i64 0, .int .i64 0, .int .i64 0, .int .i64 0, .int .i64 0, .int .i64 0, .int .i64 0, .int .i64 0, .int .i64 0, .int .i64 0, .int .i64 0, .int .i64 0, .int .i64 0, .int .i64 0, .int .i64 0, .int .i64 0, .int .i64 0, .int .i64 0, .int .i64 0, .int .i64 0, .int .i64 0, .int .i64 0, .int .i64 0, .int .i64 0, .int .i64 0, .int .i64 0, .int .i64 0, .int .i64 0, .int .i64 0, .int .i64 0, .int .i64 0, .int .i64 0, .int .i64 0, .int .i64 0, .int .i64 0, .int .i64 0, .int .i64 0, .int .i64 0, .int .i64 0, .int .i64 0, .int .i64 0, .int .i64 0, .int .i64 0, .int .i64 0, .int .i64 0, .int .i64 0, .int .i64 0, .int .i64 0, .int .i64 0, .int .i64 0, .int .i64 0, .int .i64 0, .int .i64 0, .int .i64 0, .int .i64 0, .int .i64 0, .int .i64 0, .int .i64 0, .int .i64 0, .int .i64 0, .int .i64 0, .int .i64 0, .int .i64 0] (by kernel_rfl) (by kernel_rfl) rfl ?_
    intro b18 w19 E' S
    replace E := E.trans E'
    clear E'
    replace S := S.blk_row (r := r_api_Config) (l := ([(⟨x7, x8, x9, x10, x11, x9, x12, x13⟩ : api_Config), (⟨x7, x8, x9, x10, x11, x9, x12, x13⟩ : api_Config), (⟨x7, x8, x9, x10, x11, x9, x12, x13⟩ : api_Config), (⟨x7, x8, x9, x10, x11, x9, x12, x13⟩ : api_Config), (⟨x7, x8, x9, x10, x11, x9, x12, x13⟩ : api_Config), (⟨x7, x8, x9, x10, x11, x9, x12, x13⟩ : api_Config), (⟨x7, x8, x9, x10, x11, x9, x12, x13⟩ : api_Config), (⟨x7, x8, x9, x10, x11, x9, x12, x13⟩ : api_Config), (⟨x7, x8, x9, x10, x11, x9, x12, x13⟩ : api_Config)] : List api_Config)) 0 rfl 9 (Nat.le_refl 9) rfl (Cells.cons (vs := [.int .i64 x7, .int .i64 x8, .int .i64 x9, .int .i64 x10, .int .i64 x11, .int .i64 x9, .int .i64 x12, .int .i64 x13]) (rfl) (Cells.cons (vs := [.int .i64 x7, .int .i64 x8, .int .i64 x9, .int .i64 x10, .int .i64 x11, .int .i64 x9, .int .i64 x12, .int .i64 x13]) (rfl) (Cells.cons (vs := [.int .i64 x7, .int .i64 x8, .int .i64 x9, .int .i64 x10, .int .i64 x11, .int .i64 x9, .int .i64 x12, .int .i64 x13]) (rfl) (Cells.cons (vs := [.int .i64 x7, .int .i64 x8, .int .i64 x9, .int .i64 x10, .int .i64 x11, .int .i64 x9, .int .i64 x12, .int .i64 x13]) (rfl) (Cells.cons (vs := [.int .i64 x7, .int .i64 x8, .int .i64 x9, .int .i64 x10, .int .i64 x11, .int .i64 x9, .int .i64 x12, .int .i64 x13]) (rfl) (Cells.cons (vs := [.int .i64 x7, .int .i64 x8, .int .i64 x9, .int .i64 x10, .int .i64 x11, .int .i64 x9, .int .i64 x12, .int .i64 x13]) (rfl) (Cells.cons (vs := [.int .i64 x7, .int .i64 x8, .int .i64 x9, .int .i64 x10, .int .i64 x11, .int .i64 x9, .int .i64 x12, .int .i64 x13]) (rfl) (Cells.cons (vs := [.int .i64 x7, .int .i64 x8, .int .i64 x9, .int .i64 x10, .int .i64 x11, .int .i64 x9, .int .i64 x12, .int .i64 x13]) (rfl) (Cells.cons (vs := [.int .i64 x7, .int .i64 x8, .int .i64 x9, .int .i64 x10, .int .i64 x11, .int .i64 x9, .int .i64 x12, .int .i64 x13]) (rfl) Cells.nil)))))))))
    refine W_v (.slice (some ⟨b18, 0, none⟩) ([(⟨x7, x8, x9, x10, x11, x9, x12, x13⟩ : api_Config), (⟨x7, x8, x9, x10, x11, x9, x12, x13⟩ : api_Config), (⟨x7, x8, x9, x10, x11, x9, x12, x13⟩ : api_Config), (⟨x7, x8, x9, x10, x11, x9, x12, x13⟩ : api_Config), (⟨x7, x8, x9, x10, x11, x9, x12, x13⟩ : api_Config), (⟨x7, x8, x9, x10, x11, x9, x12, x13⟩ : api_Config), (⟨x7, x8, x9, x10, x11, x9, x12, x13⟩ : api_Config), (⟨x7, x8, x9, x10, x11, x9, x12, x13⟩ : api_Config), (⟨x7, x8, x9, x10, x11, x9, x12, x13⟩ : api_Config)] : List api_Config).length 9) (x_assign rfl) rfl ?_
    refine Wl_nil ?_
    refine tn ?_
    refine Wp_seq ?_
    refine Wp_region_lit ?_
    refine W_v (.slice (some ⟨b18, 0, none⟩) ([(⟨x7, x8, x9, x10, x11, x9, x12, x13⟩ : api_Config), (⟨x7, x8, x9, x10, x11, x9, x12, x13⟩ : api_Config), (⟨x7, x8, x9, x10, x11, x9, x12, x13⟩ : api_Config), (⟨x7, x8, x9, x10, x11, x9, x12, x13⟩ : api_Config), (⟨x7, x8, x9, x10, x11, x9, x12, x13⟩ : api_Config), (⟨x7, x8, x9, x10, x11, x9, x12, x13⟩ : api_Config), (⟨x7, x8, x9, x10, x11, x9, x12, x13⟩ : api_Config), (⟨x7, x8, x9, x10, x11, x9, x12, x13⟩ : api_Config), (⟨x7, x8, x9, x10, x11, x9, x12, x13⟩ : api_Config)] : List api_Config).length 9) (x_move rfl) rfl ?_
    obtain ⟨⟨p21, p22⟩, H⟩ := chkS H
    obtain ⟨b23, o24, cs25, _, _, ee30, hb26, vs27, hR28, hc29⟩ := SlW.at' (S.row_read 0 rfl) p21 p22
    obtain rfl : vs27 = _ := hR28
    refine W_v (.pointer (some ⟨b23, o24 + (0 : Int).toNat * 8, none⟩)) (x_indexAddr Try.underlying33 ty37 (slA ee30) rfl p21 p22) rfl ?_
    refine W_v (.pointer (some ⟨b23, o24 + (0 : Int).toNat * 8, none⟩)) (x_fieldAddr (o := o24 + (0 : Int).toNat * 8) (off := 0) Try.underlying37 rfl ty3 rfl rfl) rfl ?_
    refine W_v (.int .i64 ((rd ([(⟨x7, x8, x9, x10, x11, x9, x12, x13⟩ : api_Config), (⟨x7, x8, x9, x10, x11, x9, x12, x13⟩ : api_Config), (⟨x7, x8, x9, x10, x11, x9, x12, x13⟩ : api_Config), (⟨x7, x8, x9, x10, x11, x9, x12, x13⟩ : api_Config), (⟨x7, x8, x9, x10, x11, x9, x12, x13⟩ : api_Config), (⟨x7, x8, x9, x10, x11, x9, x12, x13⟩ : api_Config), (⟨x7, x8, x9, x10, x11, x9, x12, x13⟩ : api_Config), (⟨x7, x8, x9, x10, x11, x9, x12, x13⟩ : api_Config), (⟨x7, x8, x9, x10, x11, x9, x12, x13⟩ : api_Config)] : List api_Config) (0 : Int)).Tasks)) (x_load (Hp.of_get hb26) ty3 rfl (hc29 0 _ rfl)) rfl ?_
    refine W_v (.int .i64 a0) (x_move rfl) rfl ?_
    refine W_v (.int .i64 (IntKind.i64.wrap ((rd ([(⟨x7, x8, x9, x10, x11, x9, x12, x13⟩ : api_Config), (⟨x7, x8, x9, x10, x11, x9, x12, x13⟩ : api_Config), (⟨x7, x8, x9, x10, x11, x9, x12, x13⟩ : api_Config), (⟨x7, x8, x9, x10, x11, x9, x12, x13⟩ : api_Config), (⟨x7, x8, x9, x10, x11, x9, x12, x13⟩ : api_Config), (⟨x7, x8, x9, x10, x11, x9, x12, x13⟩ : api_Config), (⟨x7, x8, x9, x10, x11, x9, x12, x13⟩ : api_Config), (⟨x7, x8, x9, x10, x11, x9, x12, x13⟩ : api_Config), (⟨x7, x8, x9, x10, x11, x9, x12, x13⟩ : api_Config)] : List api_Config) (0 : Int)).Tasks + a0))) (x_ibin rfl rfl rfl rfl) rfl ?_
    obtain ⟨⟨p31, p32⟩, H⟩ := chkS H
    obtain ⟨b33, o34, cs35, _, _, ee40, hb36, vs37, hR38, hc39⟩ := SlW.at' (S.row_read 0 rfl) p31 p32
    obtain rfl : vs37 = _ := hR38
    refine W_v (.pointer (some ⟨b33, o34 + (0 : Int).toNat * 8, none⟩)) (x_indexAddr Try.underlying33 ty37 (slA ee40) rfl p31 p32) rfl ?_
    refine W_v (.pointer (some ⟨b33, o34 + (0 : Int).toNat * 8, none⟩)) (x_fieldAddr (o := o34 + (0 : Int).toNat * 8) (off := 0) Try.underlying37 rfl ty3 rfl rfl) rfl ?_
    obtain ⟨x42, he43, H⟩ := bindS H
    replace he43 := Option.some.inj he43
    refine W_rowstore S 0 rfl rfl ee40 (by first | exact p31 | simpa using p31) (by first | exact p32 | simpa using p32) 0 ty3 rfl rfl [.int .i64 (IntKind.i64.wrap ((rd ([(⟨x7, x8, x9, x10, x11, x9, x12, x13⟩ : api_Config), (⟨x7, x8, x9, x10, x11, x9, x12, x13⟩ : api_Config), (⟨x7, x8, x9, x10, x11, x9, x12, x13⟩ : api_Config), (⟨x7, x8, x9, x10, x11, x9, x12, x13⟩ : api_Config), (⟨x7, x8, x9, x10, x11, x9, x12, x13⟩ : api_Config), (⟨x7, x8, x9, x10, x11, x9, x12, x13⟩ : api_Config), (⟨x7, x8, x9, x10, x11, x9, x12, x13⟩ : api_Config), (⟨x7, x8, x9, x10, x11, x9, x12, x13⟩ : api_Config), (⟨x7, x8, x9, x10, x11, x9, x12, x13⟩ : api_Config)] : List api_Config) (0 : Int)).Tasks + a0))] rfl rfl rfl rfl (⟨(IntKind.i64.wrap ((rd ([(⟨x7, x8, x9, x10, x11, x9, x12, x13⟩ : api_Config), (⟨x7, x8, x9, x10, x11, x9, x12, x13⟩ : api_Config), (⟨x7, x8, x9, x10, x11, x9, x12, x13⟩ : api_Config), (⟨x7, x8, x9, x10, x11, x9, x12, x13⟩ : api_Config), (⟨x7, x8, x9, x10, x11, x9, x12, x13⟩ : api_Config), (⟨x7, x8, x9, x10, x11, x9, x12, x13⟩ : api_Config), (⟨x7, x8, x9, x10, x11, x9, x12, x13⟩ : api_Config), (⟨x7, x8, x9, x10, x11, x9, x12, x13⟩ : api_Config), (⟨x7, x8, x9, x10, x11, x9, x12, x13⟩ : api_Config)] : List api_Config) (0 : Int)).Tasks + a0)), (rd ([(⟨x7, x8, x9, x10, x11, x9, x12, x13⟩ : api_Config), (⟨x7, x8, x9, x10, x11, x9, x12, x13⟩ : api_Config), (⟨x7, x8, x9, x10, x11, x9, x12, x13⟩ : api_Config), (⟨x7, x8, x9, x10, x11, x9, x12, x13⟩ : api_Config), (⟨x7, x8, x9, x10, x11, x9, x12, x13⟩ : api_Config), (⟨x7, x8, x9, x10, x11, x9, x12, x13⟩ : api_Config), (⟨x7, x8, x9, x10, x11, x9, x12, x13⟩ : api_Config), (⟨x7, x8, x9, x10, x11, x9, x12, x13⟩ : api_Config), (⟨x7, x8, x9, x10, x11, x9, x12, x13⟩ : api_Config)] : List api_Config) (0 : Int)).Active, (rd ([(⟨x7, x8, x9, x10, x11, x9, x12, x13⟩ : api_Config), (⟨x7, x8, x9, x10, x11, x9, x12, x13⟩ : api_Config), (⟨x7, x8, x9, x10, x11, x9, x12, x13⟩ : api_Config), (⟨x7, x8, x9, x10, x11, x9, x12, x13⟩ : api_Config), (⟨x7, x8, x9, x10, x11, x9, x12, x13⟩ : api_Config), (⟨x7, x8, x9, x10, x11, x9, x12, x13⟩ : api_Config), (⟨x7, x8, x9, x10, x11, x9, x12, x13⟩ : api_Config), (⟨x7, x8, x9, x10, x11, x9, x12, x13⟩ : api_Config), (⟨x7, x8, x9, x10, x11, x9, x12, x13⟩ : api_Config)] : List api_Config) (0 : Int)).Keys, (rd ([(⟨x7, x8, x9, x10, x11, x9, x12, x13⟩ : api_Config), (⟨x7, x8, x9, x10, x11, x9, x12, x13⟩ : api_Config), (⟨x7, x8, x9, x10, x11, x9, x12, x13⟩ : api_Config), (⟨x7, x8, x9, x10, x11, x9, x12, x13⟩ : api_Config), (⟨x7, x8, x9, x10, x11, x9, x12, x13⟩ : api_Config), (⟨x7, x8, x9, x10, x11, x9, x12, x13⟩ : api_Config), (⟨x7, x8, x9, x10, x11, x9, x12, x13⟩ : api_Config), (⟨x7, x8, x9, x10, x11, x9, x12, x13⟩ : api_Config), (⟨x7, x8, x9, x10, x11, x9, x12, x13⟩ : api_Config)] : List api_Config) (0 : Int)).Depth, (rd ([(⟨x7, x8, x9, x10, x11, x9, x12, x13⟩ : api_Config), (⟨x7, x8, x9, x10, x11, x9, x12, x13⟩ : api_Config), (⟨x7, x8, x9, x10, x11, x9, x12, x13⟩ : api_Config), (⟨x7, x8, x9, x10, x11, x9, x12, x13⟩ : api_Config), (⟨x7, x8, x9, x10, x11, x9, x12, x13⟩ : api_Config), (⟨x7, x8, x9, x10, x11, x9, x12, x13⟩ : api_Config), (⟨x7, x8, x9, x10, x11, x9, x12, x13⟩ : api_Config), (⟨x7, x8, x9, x10, x11, x9, x12, x13⟩ : api_Config), (⟨x7, x8, x9, x10, x11, x9, x12, x13⟩ : api_Config)] : List api_Config) (0 : Int)).TS, (rd ([(⟨x7, x8, x9, x10, x11, x9, x12, x13⟩ : api_Config), (⟨x7, x8, x9, x10, x11, x9, x12, x13⟩ : api_Config), (⟨x7, x8, x9, x10, x11, x9, x12, x13⟩ : api_Config), (⟨x7, x8, x9, x10, x11, x9, x12, x13⟩ : api_Config), (⟨x7, x8, x9, x10, x11, x9, x12, x13⟩ : api_Config), (⟨x7, x8, x9, x10, x11, x9, x12, x13⟩ : api_Config), (⟨x7, x8, x9, x10, x11, x9, x12, x13⟩ : api_Config), (⟨x7, x8, x9, x10, x11, x9, x12, x13⟩ : api_Config), (⟨x7, x8, x9, x10, x11, x9, x12, x13⟩ : api_Config)] : List api_Config) (0 : Int)).KeyLen, (rd ([(⟨x7, x8, x9, x10, x11, x9, x12, x13⟩ : api_Config), (⟨x7, x8, x9, x10, x11, x9, x12, x13⟩ : api_Config), (⟨x7, x8, x9, x10, x11, x9, x12, x13⟩ : api_Config), (⟨x7, x8, x9, x10, x11, x9, x12, x13⟩ : api_Config), (⟨x7, x8, x9, x10, x11, x9, x12, x13⟩ : api_Config), (⟨x7, x8, x9, x10, x11, x9, x12, x13⟩ : api_Config), (⟨x7, x8, x9, x10, x11, x9, x12, x13⟩ : api_Config), (⟨x7, x8, x9, x10, x11, x9, x12, x13⟩ : api_Config), (⟨x7, x8, x9, x10, x11, x9, x12, x13⟩ : api_Config)] : List api_Config) (0 : Int)).ValLen, (rd ([(⟨x7, x8, x9, x10, x11, x9, x12, x13⟩ : api_Config), (⟨x7, x8, x9, x10, x11, x9, x12, x13⟩ : api_Config), (⟨x7, x8, x9, x10, x11, x9, x12, x13⟩ : api_Config), (⟨x7, x8, x9, x10, x11, x9, x12, x13⟩ : api_Config), (⟨x7, x8, x9, x10, x11, x9, x12, x13⟩ : api_Config), (⟨x7, x8, x9, x10, x11, x9, x12, x13⟩ : api_Config), (⟨x7, x8, x9, x10, x11, x9, x12, x13⟩ : api_Config), (⟨x7, x8, x9, x10, x11, x9, x12, x13⟩ : api_Config), (⟨x7, x8, x9, x10, x11, x9, x12, x13⟩ : api_Config)] : List api_Config) (0 : Int)).Fan⟩ : api_Config) (by rintro _ rfl; rfl) he43 ?_
    intro w41 E' S
    replace E := E.trans E'
    clear E'
    have hs44 : Value.slice (some ⟨b18, 0, none⟩) ([(⟨x7, x8, x9, x10, x11, x9, x12, x13⟩ : api_Config), (⟨x7, x8, x9, x10, x11, x9, x12, x13⟩ : api_Config), (⟨x7, x8, x9, x10, x11, x9, x12, x13⟩ : api_Config), (⟨x7, x8, x9, x10, x11, x9, x12, x13⟩ : api_Config), (⟨x7, x8, x9, x10, x11, x9, x12, x13⟩ : api_Config), (⟨x7, x8, x9, x10, x11, x9, x12, x13⟩ : api_Config), (⟨x7, x8, x9, x10, x11, x9, x12, x13⟩ : api_Config), (⟨x7, x8, x9, x10, x11, x9, x12, x13⟩ : api_Config), (⟨x7, x8, x9, x10, x11, x9, x12, x13⟩ : api_Config)] : List api_Config).length 9 = Value.slice (some ⟨b18, 0, none⟩) x42.length 9 := by rw [← he43, List.length_set]
    try rw [hs44] at S
    try rw [hs44]
    clear hs44
    refine Wl_nil ?_
    refine tn ?_
    refine Wp_seq ?_
    refine Wp_region_lit ?_
    refine W_v (.slice (some ⟨b18, 0, none⟩) x42.length 9) (x_move rfl) rfl ?_
    obtain ⟨⟨p45, p46⟩, H⟩ := chkS H
    obtain ⟨b47, o48, cs49, _, _, ee54, hb50, vs51, hR52, hc53⟩ := SlW.at' (S.row_read 0 rfl) p45 p46
    obtain rfl : vs51 = _ := hR52
    refine W_v (.pointer (some ⟨b47, o48 + (1 : Int).toNat * 8, none⟩)) (x_indexAddr Try.underlying33 ty37 (slA ee54) rfl p45 p46) rfl ?_
    refine W_v (.pointer (some ⟨b47, o48 + (1 : Int).toNat * 8 + 1, none⟩)) (x_fieldAddr (o := o48 + (1 : Int).toNat * 8) (off := 1) Try.underlying37 rfl ty3 rfl rfl) rfl ?_
    refine W_v (.int .i64 ((rd x42 (1 : Int)).Active)) (x_load (Hp.of_get hb50) ty3 rfl (hc53 1 _ rfl)) rfl ?_
    refine W_v (.int .i64 a0) (x_move rfl) rfl ?_
    refine W_v (.int .i64 (IntKind.i64.wrap ((rd x42 (1 : Int)).Active + a0))) (x_ibin rfl rfl rfl rfl) rfl ?_
    obtain ⟨⟨p55, p56⟩, H⟩ := chkS H
    obtain ⟨b57, o58, cs59, _, _, ee64, hb60, vs61, hR62, hc63⟩ := SlW.at' (S.row_read 0 rfl) p55 p56
    obtain rfl : vs61 = _ := hR62
    refine W_v (.pointer (some ⟨b57, o58 + (1 : Int).toNat * 8, none⟩)) (x_indexAddr Try.underlying33 ty37 (slA ee64) rfl p55 p56) rfl ?_
    refine W_v (.pointer (some ⟨b57, o58 + (1 : Int).toNat * 8 + 1, none⟩)) (x_fieldAddr (o := o58 + (1 : Int).toNat * 8) (off := 1) Try.underlying37 rfl ty3 rfl rfl) rfl ?_
    obtain ⟨x66, he67, H⟩ := bindS H
    replace he67 := Option.some.inj he67
    refine W_rowstore S 0 rfl rfl ee64 (by first | exact p55 | simpa using p55) (by first | exact p56 | simpa using p56) 1 ty3 rfl rfl [.int .i64 (IntKind.i64.wrap ((rd x42 (1 : Int)).Active + a0))] rfl rfl rfl rfl (⟨(rd x42 (1 : Int)).Tasks, (IntKind.i64.wrap ((rd x42 (1 : Int)).Active + a0)), (rd x42 (1 : Int)).Keys, (rd x42 (1 : Int)).Depth, (rd x42 (1 : Int)).TS, (rd x42 (1 : Int)).KeyLen, (rd x42 (1 : Int)).ValLen, (rd x42 (1 : Int)).Fan⟩ : api_Config) (by rintro _ rfl; rfl) he67 ?_
    intro w65 E' S
    replace E := E.trans E'
    clear E'
    have hs68 : Value.slice (some ⟨b18, 0, none⟩) x42.length 9 = Value.slice (some ⟨b18, 0, none⟩) x66.length 9 := by rw [← he67, List.length_set]
    try rw [hs68] at S
    try rw [hs68]
    clear hs68
    refine Wl_nil ?_
    refine tn ?_
    refine Wp_seq ?_
    refine Wp_region_lit ?_
    refine W_v (.slice (some ⟨b18, 0, none⟩) x66.length 9) (x_move rfl) rfl ?_
    obtain ⟨⟨p69, p70⟩, H⟩ := chkS H
    obtain ⟨b71, o72, cs73, _, _, ee78, hb74, vs75, hR76, hc77⟩ := SlW.at' (S.row_read 0 rfl) p69 p70
    obtain rfl : vs75 = _ := hR76
    refine W_v (.pointer (some ⟨b71, o72 + (2 : Int).toNat * 8, none⟩)) (x_indexAddr Try.underlying33 ty37 (slA ee78) rfl p69 p70) rfl ?_
    refine W_v (.pointer (some ⟨b71, o72 + (2 : Int).toNat * 8 + 2, none⟩)) (x_fieldAddr (o := o72 + (2 : Int).toNat * 8) (off := 2) Try.underlying37 rfl ty3 rfl rfl) rfl ?_
    refine W_v (.int .i64 ((rd x66 (2 : Int)).Keys)) (x_load (Hp.of_get hb74) ty3 rfl (hc77 2 _ rfl)) rfl ?_
    refine W_v (.int .i64 a0) (x_move rfl) rfl ?_
    refine W_v (.int .i64 (IntKind.i64.wrap ((rd x66 (2 : Int)).Keys + a0))) (x_ibin rfl rfl rfl rfl) rfl ?_
    obtain ⟨⟨p79, p80⟩, H⟩ := chkS H
    obtain ⟨b81, o82, cs83, _, _, ee88, hb84, vs85, hR86, hc87⟩ := SlW.at' (S.row_read 0 rfl) p79 p80
    obtain rfl : vs85 = _ := hR86
    refine W_v (.pointer (some ⟨b81, o82 + (2 : Int).toNat * 8, none⟩)) (x_indexAddr Try.underlying33 ty37 (slA ee88) rfl p79 p80) rfl ?_
    refine W_v (.pointer (some ⟨b81, o82 + (2 : Int).toNat * 8 + 2, none⟩)) (x_fieldAddr (o := o82 + (2 : Int).toNat * 8) (off := 2) Try.underlying37 rfl ty3 rfl rfl) rfl ?_
    obtain ⟨x90, he91, H⟩ := bindS H
    replace he91 := Option.some.inj he91
    refine W_rowstore S 0 rfl rfl ee88 (by first | exact p79 | simpa using p79) (by first | exact p80 | simpa using p80) 2 ty3 rfl rfl [.int .i64 (IntKind.i64.wrap ((rd x66 (2 : Int)).Keys + a0))] rfl rfl rfl rfl (⟨(rd x66 (2 : Int)).Tasks, (rd x66 (2 : Int)).Active, (IntKind.i64.wrap ((rd x66 (2 : Int)).Keys + a0)), (rd x66 (2 : Int)).Depth, (rd x66 (2 : Int)).TS, (rd x66 (2 : Int)).KeyLen, (rd x66 (2 : Int)).ValLen, (rd x66 (2 : Int)).Fan⟩ : api_Config) (by rintro _ rfl; rfl) he91 ?_
    intro w89 E' S
    replace E := E.trans E'
    clear E'
    have hs92 : Value.slice (some ⟨b18, 0, none⟩) x66.length 9 = Value.slice (some ⟨b18, 0, none⟩) x90.length 9 := by rw [← he91, List.length_set]
    try rw [hs92] at S
    try rw [hs92]
    clear hs92
    refine Wl_nil ?_
    refine tn ?_
    refine Wp_seq ?_
    refine Wp_region_lit ?_
    refine W_v (.slice (some ⟨b18, 0, none⟩) x90.length 9) (x_move rfl) rfl ?_
    obtain ⟨⟨p93, p94⟩, H⟩ := chkS H
    obtain ⟨b95, o96, cs97, _, _, ee102, hb98, vs99, hR100, hc101⟩ := SlW.at' (S.row_read 0 rfl) p93 p94
    obtain rfl : vs99 = _ := hR100
    refine W_v (.pointer (some ⟨b95, o96 + (3 : Int).toNat * 8, none⟩)) (x_indexAddr Try.underlying33 ty37 (slA ee102) rfl p93 p94) rfl ?_
    refine W_v (.pointer (some ⟨b95, o96 + (3 : Int).toNat * 8 + 3, none⟩)) (x_fieldAddr (o := o96 + (3 : Int).toNat * 8) (off := 3) Try.underlying37 rfl ty3 rfl rfl) rfl ?_
    refine W_v (.int .i64 ((rd x90 (3 : Int)).Depth)) (x_load (Hp.of_get hb98) ty3 rfl (hc101 3 _ rfl)) rfl ?_
    refine W_v (.int .i64 a0) (x_move rfl) rfl ?_
    refine W_v (.int .i64 (IntKind.i64.wrap ((rd x90 (3 : Int)).Depth + a0))) (x_ibin rfl rfl rfl rfl) rfl ?_
    obtain ⟨⟨p103, p104⟩, H⟩ := chkS H
    obtain ⟨b105, o106, cs107, _, _, ee112, hb108, vs109, hR110, hc111⟩ := SlW.at' (S.row_read 0 rfl) p103 p104
    obtain rfl : vs109 = _ := hR110
    refine W_v (.pointer (some ⟨b105, o106 + (3 : Int).toNat * 8, none⟩)) (x_indexAddr Try.underlying33 ty37 (slA ee112) rfl p103 p104) rfl ?_
    refine W_v (.pointer (some ⟨b105, o106 + (3 : Int).toNat * 8 + 3, none⟩)) (x_fieldAddr (o := o106 + (3 : Int).toNat * 8) (off := 3) Try.underlying37 rfl ty3 rfl rfl) rfl ?_
    obtain ⟨x114, he115, H⟩ := bindS H
    replace he115 := Option.some.inj he115
    refine W_rowstore S 0 rfl rfl ee112 (by first | exact p103 | simpa using p103) (by first | exact p104 | simpa using p104) 3 ty3 rfl rfl [.int .i64 (IntKind.i64.wrap ((rd x90 (3 : Int)).Depth + a0))] rfl rfl rfl rfl (⟨(rd x90 (3 : Int)).Tasks, (rd x90 (3 : Int)).Active, (rd x90 (3 : Int)).Keys, (IntKind.i64.wrap ((rd x90 (3 : Int)).Depth + a0)), (rd x90 (3 : Int)).TS, (rd x90 (3 : Int)).KeyLen, (rd x90 (3 : Int)).ValLen, (rd x90 (3 : Int)).Fan⟩ : api_Config) (by rintro _ rfl; rfl) he115 ?_
    intro w113 E' S
    replace E := E.trans E'
    clear E'
    have hs116 : Value.slice (some ⟨b18, 0, none⟩) x90.length 9 = Value.slice (some ⟨b18, 0, none⟩) x114.length 9 := by rw [← he115, List.length_set]
    try rw [hs116] at S
    try rw [hs116]
    clear hs116
    refine Wl_nil ?_
    refine tn ?_
    refine Wp_seq ?_
    refine Wp_region_lit ?_
    refine W_v (.slice (some ⟨b18, 0, none⟩) x114.length 9) (x_move rfl) rfl ?_
    obtain ⟨⟨p117, p118⟩, H⟩ := chkS H
    obtain ⟨b119, o120, cs121, _, _, ee126, hb122, vs123, hR124, hc125⟩ := SlW.at' (S.row_read 0 rfl) p117 p118
    obtain rfl : vs123 = _ := hR124
    refine W_v (.pointer (some ⟨b119, o120 + (4 : Int).toNat * 8, none⟩)) (x_indexAddr Try.underlying33 ty37 (slA ee126) rfl p117 p118) rfl ?_
    refine W_v (.pointer (some ⟨b119, o120 + (4 : Int).toNat * 8 + 4, none⟩)) (x_fieldAddr (o := o120 + (4 : Int).toNat * 8) (off := 4) Try.underlying37 rfl ty3 rfl rfl) rfl ?_
    refine W_v (.int .i64 ((rd x114 (4 : Int)).TS)) (x_load (Hp.of_get hb122) ty3 rfl (hc125 4 _ rfl)) rfl ?_
    refine W_v (.int .i64 a0) (x_move rfl) rfl ?_
    refine W_v (.int .i64 (IntKind.i64.wrap ((rd x114 (4 : Int)).TS + a0))) (x_ibin rfl rfl rfl rfl) rfl ?_
    obtain ⟨⟨p127, p128⟩, H⟩ := chkS H
    obtain ⟨b129, o130, cs131, _, _, ee136, hb132, vs133, hR134, hc135⟩ := SlW.at' (S.row_read 0 rfl) p127 p128
    obtain rfl : vs133 = _ := hR134
    refine W_v (.pointer (some ⟨b129, o130 + (4 : Int).toNat * 8, none⟩)) (x_indexAddr Try.underlying33 ty37 (slA ee136) rfl p127 p128) rfl ?_
    refine W_v (.pointer (some ⟨b129, o130 + (4 : Int).toNat * 8 + 4, none⟩)) (x_fieldAddr (o := o130 + (4 : Int).toNat * 8) (off := 4) Try.underlying37 rfl ty3 rfl rfl) rfl ?_
    obtain ⟨x138, he139, H⟩ := bindS H
    replace he139 := Option.some.inj he139
    refine W_rowstore S 0 rfl rfl ee136 (by first | exact p127 | simpa using p127) (by first | exact p128 | simpa using p128) 4 ty3 rfl rfl [.int .i64 (IntKind.i64.wrap ((rd x114 (4 : Int)).TS + a0))] rfl rfl rfl rfl (⟨(rd x114 (4 : Int)).Tasks, (rd x114 (4 : Int)).Active, (rd x114 (4 : Int)).Keys, (rd x114 (4 : Int)).Depth, (IntKind.i64.wrap ((rd x114 (4 : Int)).TS + a0)), (rd x114 (4 : Int)).KeyLen, (rd x114 (4 : Int)).ValLen, (rd x114 (4 : Int)).Fan⟩ : api_Config) (by rintro _ rfl; rfl) he139 ?_
    intro w137 E' S
    replace E := E.trans E'
    clear E'
    have hs140 : Value.slice (some ⟨b18, 0, none⟩) x114.length 9 = Value.slice (some ⟨b18, 0, none⟩) x138.length 9 := by rw [← he139, List.length_set]
    try rw [hs140] at S
    try rw [hs140]
    clear hs140
    refine Wl_nil ?_
    refine tn ?_
    refine Wp_seq ?_
    refine Wp_region_lit ?_
    refine W_v (.slice (some ⟨b18, 0, none⟩) x138.length 9) (x_move rfl) rfl ?_
    obtain ⟨⟨p141, p142⟩, H⟩ := chkS H
    obtain ⟨b143, o144, cs145, _, _, ee150, hb146, vs147, hR148, hc149⟩ := SlW.at' (S.row_read 0 rfl) p141 p142
    obtain rfl : vs147 = _ := hR148
    refine W_v (.pointer (some ⟨b143, o144 + (5 : Int).toNat * 8, none⟩)) (x_indexAddr Try.underlying33 ty37 (slA ee150) rfl p141 p142) rfl ?_
    refine W_v (.pointer (some ⟨b143, o144 + (5 : Int).toNat * 8 + 5, none⟩)) (x_fieldAddr (o := o144 + (5 : Int).toNat * 8) (off := 5) Try.underlying37 rfl ty3 rfl rfl) rfl ?_
    refine W_v (.int .i64 ((rd x138 (5 : Int)).KeyLen)) (x_load (Hp.of_get hb146) ty3 rfl (hc149 5 _ rfl)) rfl ?_
    refine W_v (.int .i64 a0) (x_move rfl) rfl ?_
    refine W_v (.int .i64 (IntKind.i64.wrap ((rd x138 (5 : Int)).KeyLen + a0))) (x_ibin rfl rfl rfl rfl) rfl ?_
    obtain ⟨⟨p151, p152⟩, H⟩ := chkS H
    obtain ⟨b153, o154, cs155, _, _, ee160, hb156, vs157, hR158, hc159⟩ := SlW.at' (S.row_read 0 rfl) p151 p152
    obtain rfl : vs157 = _ := hR158
    refine W_v (.pointer (some ⟨b153, o154 + (5 : Int).toNat * 8, none⟩)) (x_indexAddr Try.underlying33 ty37 (slA ee160) rfl p151 p152) rfl ?_
    refine W_v (.pointer (some ⟨b153, o154 + (5 : Int).toNat * 8 + 5, none⟩)) (x_fieldAddr (o := o154 + (5 : Int).toNat * 8) (off := 5) Try.underlying37 rfl ty3 rfl rfl) rfl ?_
    obtain ⟨x162, he163, H⟩ := bindS H
    replace he163 := Option.some.inj he163
    refine W_rowstore S 0 rfl rfl ee160 (by first | exact p151 | simpa using p151) (by first | exact p152 | simpa using p152) 5 ty3 rfl rfl [.int .i64 (IntKind.i64.wrap ((rd x138 (5 : Int)).KeyLen + a0))] rfl rfl rfl rfl (⟨(rd x138 (5 : Int)).Tasks, (rd x138 (5 : Int)).Active, (rd x138 (5 : Int)).Keys, (rd x138 (5 : Int)).Depth, (rd x138 (5 : Int)).TS, (IntKind.i64.wrap ((rd x138 (5 : Int)).KeyLen + a0)), (rd x138 (5 : Int)).ValLen, (rd x138 (5 : Int)).Fan⟩ : api_Config) (by rintro _ rfl; rfl) he163 ?_
    intro w161 E' S
    replace E := E.trans E'
    clear E'
    have hs164 : Value.slice (some ⟨b18, 0, none⟩) x138.length 9 = Value.slice (some ⟨b18, 0, none⟩) x162.length 9 := by rw [← he163, List.length_set]
    try rw [hs164] at S
    try rw [hs164]
    clear hs164
    refine Wl_nil ?_
    refine tn ?_
    refine Wp_seq ?_
    refine Wp_region_lit ?_
    refine W_v (.slice (some ⟨b18, 0, none⟩) x162.length 9) (x_move rfl) rfl ?_
    obtain ⟨⟨p165, p166⟩, H⟩ := chkS H
    obtain ⟨b167, o168, cs169, _, _, ee174, hb170, vs171, hR172, hc173⟩ := SlW.at' (S.row_read 0 rfl) p165 p166
    obtain rfl : vs171 = _ := hR172
    refine W_v (.pointer (some ⟨b167, o168 + (6 : Int).toNat * 8, none⟩)) (x_indexAddr Try.underlying33 ty37 (slA ee174) rfl p165 p166) rfl ?_
    refine W_v (.pointer (some ⟨b167, o168 + (6 : Int).toNat * 8 + 6, none⟩)) (x_fieldAddr (o := o168 + (6 : Int).toNat * 8) (off := 6) Try.underlying37 rfl ty3 rfl rfl) rfl ?_
    refine W_v (.int .i64 ((rd x162 (6 : Int)).ValLen)) (x_load (Hp.of_get hb170) ty3 rfl (hc173 6 _ rfl)) rfl ?_
    refine W_v (.int .i64 a0) (x_move rfl) rfl ?_
    refine W_v (.int .i64 (IntKind.i64.wrap ((rd x162 (6 : Int)).ValLen + a0))) (x_ibin rfl rfl rfl rfl) rfl ?_
    obtain ⟨⟨p175, p176⟩, H⟩ := chkS H
    obtain ⟨b177, o178, cs179, _, _, ee184, hb180, vs181, hR182, hc183⟩ := SlW.at' (S.row_read 0 rfl) p175 p176
    obtain rfl : vs181 = _ := hR182
    refine W_v (.pointer (some ⟨b177, o178 + (6 : Int).toNat * 8, none⟩)) (x_indexAddr Try.underlying33 ty37 (slA ee184) rfl p175 p176) rfl ?_
    refine W_v (.pointer (some ⟨b177, o178 + (6 : Int).toNat * 8 + 6, none⟩)) (x_fieldAddr (o := o178 + (6 : Int).toNat * 8) (off := 6) Try.underlying37 rfl ty3 rfl rfl) rfl ?_
    obtain ⟨x186, he187, H⟩ := bindS H
    replace he187 := Option.some.inj he187
    refine W_rowstore S 0 rfl rfl ee184 (by first | exact p175 | simpa using p175) (by first | exact p176 | simpa using p176) 6 ty3 rfl rfl [.int .i64 (IntKind.i64.wrap ((rd x162 (6 : Int)).ValLen + a0))] rfl rfl rfl rfl (⟨(rd x162 (6 : Int)).Tasks, (rd x162 (6 : Int)).Active, (rd x162 (6 : Int)).Keys, (rd x162 (6 : Int)).Depth, (rd x162 (6 : Int)).TS, (rd x162 (6 : Int)).KeyLen, (IntKind.i64.wrap ((rd x162 (6 : Int)).ValLen + a0)), (rd x162 (6 : Int)).Fan⟩ : api_Config) (by rintro _ rfl; rfl) he187 ?_
    intro w185 E' S
    replace E := E.trans E'
    clear E'
    have hs188 : Value.slice (some ⟨b18, 0, none⟩) x162.length 9 = Value.slice (some ⟨b18, 0, none⟩) x186.length 9 := by rw [← he187, List.length_set]
    try rw [hs188] at S
    try rw [hs188]
    clear hs188
    refine Wl_nil ?_
    refine tn ?_
    refine Wp_seq ?_
    refine Wp_region_lit ?_
    refine W_v (.slice (some ⟨b18, 0, none⟩) x186.length 9) (x_move rfl) rfl ?_
    obtain ⟨⟨p189, p190⟩, H⟩ := chkS H
    obtain ⟨b191, o192, cs193, _, _, ee198, hb194, vs195, hR196, hc197⟩ := SlW.at' (S.row_read 0 rfl) p189 p190
    obtain rfl : vs195 = _ := hR196
    refine W_v (.pointer (some ⟨b191, o192 + (7 : Int).toNat * 8, none⟩)) (x_indexAddr Try.underlying33 ty37 (slA ee198) rfl p189 p190) rfl ?_
    refine W_v (.pointer (some ⟨b191, o192 + (7 : Int).toNat * 8 + 7, none⟩)) (x_fieldAddr (o := o192 + (7 : Int).toNat * 8) (off := 7) Try.underlying37 rfl ty3 rfl rfl) rfl ?_
    refine W_v (.int .i64 ((rd x186 (7 : Int)).Fan)) (x_load (Hp.of_get hb194) ty3 rfl (hc197 7 _ rfl)) rfl ?_
    refine W_v (.int .i64 a0) (x_move rfl) rfl ?_
    refine W_v (.int .i64 (IntKind.i64.wrap ((rd x186 (7 : Int)).Fan + a0))) (x_ibin rfl rfl rfl rfl) rfl ?_
    obtain ⟨⟨p199, p200⟩, H⟩ := chkS H
    obtain ⟨b201, o202, cs203, _, _, ee208, hb204, vs205, hR206, hc207⟩ := SlW.at' (S.row_read 0 rfl) p199 p200
    obtain rfl : vs205 = _ := hR206
    refine W_v (.pointer (some ⟨b201, o202 + (7 : Int).toNat * 8, none⟩)) (x_indexAddr Try.underlying33 ty37 (slA ee208) rfl p199 p200) rfl ?_
    refine W_v (.pointer (some ⟨b201, o202 + (7 : Int).toNat * 8 + 7, none⟩)) (x_fieldAddr (o := o202 + (7 : Int).toNat * 8) (off := 7) Try.underlying37 rfl ty3 rfl rfl) rfl ?_
    obtain ⟨x210, he211, H⟩ := bindS H
    replace he211 := Option.some.inj he211
    refine W_rowstore S 0 rfl rfl ee208 (by first | exact p199 | simpa using p199) (by first | exact p200 | simpa using p200) 7 ty3 rfl rfl [.int .i64 (IntKind.i64.wrap ((rd x186 (7 : Int)).Fan + a0))] rfl rfl rfl rfl (⟨(rd x186 (7 : Int)).Tasks, (rd x186 (7 : Int)).Active, (rd x186 (7 : Int)).Keys, (rd x186 (7 : Int)).Depth, (rd x186 (7 : Int)).TS, (rd x186 (7 : Int)).KeyLen, (rd x186 (7 : Int)).ValLen, (IntKind.i64.wrap ((rd x186 (7 : Int)).Fan + a0))⟩ : api_Config) (by rintro _ rfl; rfl) he211 ?_
    intro w209 E' S
    replace E := E.trans E'
    clear E'
    have hs212 : Value.slice (some ⟨b18, 0, none⟩) x186.length 9 = Value.slice (some ⟨b18, 0, none⟩) x210.length 9 := by rw [← he211, List.length_set]
    try rw [hs212] at S
    try rw [hs212]
    clear hs212
    refine Wl_nil ?_
    refine tn ?_
    refine Wp_seq ?_
    refine Wp_region_lit ?_
    refine W_v (.slice (some ⟨b18, 0, none⟩) x210.length 9) (x_move rfl) rfl ?_
    refine W_v (.slice (some ⟨b18, 0, none⟩) x210.length 9) (x_assign rfl) rfl ?_
    refine Wl_nil ?_
    refine tn ?_
    refine Wp_ret ?_
    obtain rfl := Option.some.inj H
    exact ⟨_, _, _, fun w1 e1 => run_resR (vs := [.slice (some ⟨b18, 0, none⟩) x210.length 9]) (FA.cons (rfl) (FA.nil)), HM, E, S.pick [0] (by decide), ⟨(some ⟨b18, 0, none⟩), 9, rfl, rfl⟩⟩
end Go.Proofs.Ytnfeinhialojnaa
