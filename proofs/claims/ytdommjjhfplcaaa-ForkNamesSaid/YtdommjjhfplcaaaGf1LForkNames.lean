import Derived.Test.YtdommjjhfplcaaaGf1
namespace Go.Proofs.Ytdommjjhfplcaaa
open Go
set_option linter.unusedVariables false
set_option linter.unusedSimpArgs false
/-! ### ferryman/ferrymanlaw13.ForkNames: function 6 -/
def ferrymanlaw13_ForkNames_l0 (x184 : List fork_Node) : Nat → Int → Option ((Bool) ⊕ (Unit))
  | 0, _ => none
  | k + 1, x494 => (if (decide (x494 < (x184.length : Int))) = true then (if 0 ≤ x494 ∧ x494 < (x184.length : Int) then (Option.bind (fork_Place k (rd x184 x494) ([97] : Str)) (fun t679 => (Option.bind (fork_Put k (rd x184 x494) ([120] : Str) (1 : Int)) (fun t682 => (Option.bind (fork_Take k (rd x184 x494) ([97] : Str)) (fun t698 => (Option.bind (fork_Split k (rd x184 x494)) (fun t714 => (Option.bind (fork_Graft k (rd x184 x494) ([120] : Str) (1 : Int)) (fun t745 => (Option.bind (fork_Cut k (rd x184 x494) (0 : Int)) (fun t761 => (Option.bind (fork_Fence k (rd x184 x494) (0 : Int)) (fun t777 => (Option.bind (fork_May k (rd x184 x494)) (fun t780 => (Option.bind (α := Bool) (if ((t780 || (t679.1 != (0 : Int))) || t679.2) = true then some (true) else (Option.bind (fork_Kid k (rd x184 x494) ([122] : Str)) (fun t794 => some ((t794 != (0 : Int)))))) (fun x792 => (if ((((((x792 || t777.2) || (t682.2 != (4 : Int))) || (t698.2 != (4 : Int))) || (t714.2.2.2 != (4 : Int))) || (t745.2 != (4 : Int))) || (t761.2 != (4 : Int))) = true then some (.inl false) else ferrymanlaw13_ForkNames_l0 x184 k (IntKind.i64.wrap (x494 + (1 : Int)))))))))))))))))))))) else none) else some (.inr ()))
set_option maxHeartbeats 2000000 in
theorem ferrymanlaw13_ForkNames_l0.mono {x184 : List fork_Node} : ∀ {k : Nat} {x0}, OLe (ferrymanlaw13_ForkNames_l0 x184 k x0) (ferrymanlaw13_ForkNames_l0 x184 (k + 1) x0) := by
  intro k
  induction k with
  | zero => intros; exact OLe.none
  | succ k ih =>
    intros
    rw [ferrymanlaw13_ForkNames_l0.eq_2, ferrymanlaw13_ForkNames_l0.eq_2]
    repeat' (first | with_reducible exact OLe.none | with_reducible exact OLe.some | with_reducible refine OLe.ite ?_ ?_ | with_reducible refine OLe.bind ?_ (fun _ => ?_) | with_reducible exact fork_Cut.mono | with_reducible exact fork_Fence.mono | with_reducible exact fork_Graft.mono | with_reducible exact fork_Kid.mono | with_reducible exact fork_May.mono | with_reducible exact fork_Place.mono | with_reducible exact fork_Put.mono | with_reducible exact fork_Split.mono | with_reducible exact fork_Take.mono | exact ih | refine OLe.bind ?_ (fun _ => ?_) | refine OLe.ite ?_ ?_ | refine OLe.elim (fun _ => ?_) (fun _ => ?_) | split)
def ferrymanlaw13_ForkNames (k : Nat)  : Option (Bool) :=
  (Option.bind (ferrymanlaw13_awake k ) (fun t28 => (Option.bind (α := Bool) (if (cond (cond (cond (!t28) true false) true false) true false) = true then some (true) else (Option.bind (fork_May k (⟨true, ([([] : Str), ([97] : Str)] : List Str), ([] : (List Int)), ([(1 : Int), (2 : Int)] : List Int)⟩ : fork_Node)) (fun t40 => some ((!t40))))) (fun x38 => (Option.bind (α := Bool) (if x38 = true then some (true) else (Option.bind (fork_May k (⟨false, ([([97] : Str)] : List Str), ([(1 : Int), (2 : Int)] : List Int), ([] : (List Int))⟩ : fork_Node)) (fun t53 => some ((!t53))))) (fun x51 => (Option.bind (α := Bool) (if x51 = true then some (true) else (Option.bind (fork_May k (⟨false, ([] : (List Str)), ([(5 : Int)] : List Int), ([] : (List Int))⟩ : fork_Node)) (fun t66 => some ((!t66))))) (fun x64 => (Option.bind (α := Bool) (if x64 = true then some (true) else (Option.bind (fork_May k (⟨true, ([] : (List Str)), ([] : (List Int)), ([] : (List Int))⟩ : fork_Node)) (fun t79 => some ((!t79))))) (fun x77 => (Option.bind (α := Bool) (if x77 = true then some (true) else (Option.bind (fork_Kid k (⟨false, ([] : (List Str)), ([(5 : Int)] : List Int), ([] : (List Int))⟩ : fork_Node) ([120] : Str)) (fun t92 => some ((t92 != (0 : Int)))))) (fun x90 => (if x90 = true then some false else (Option.bind (α := List fork_Node) (some ([(⟨false, ([] : (List Str)), ([] : (List Int)), ([] : (List Int))⟩ : fork_Node), (⟨true, ([([97] : Str)] : List Str), ([] : (List Int)), ([] : (List Int))⟩ : fork_Node), (⟨true, ([] : (List Str)), ([] : (List Int)), ([(1 : Int)] : List Int)⟩ : fork_Node), (⟨true, ([] : (List Str)), ([(1 : Int)] : List Int), ([] : (List Int))⟩ : fork_Node), (⟨false, ([([97] : Str)] : List Str), ([(1 : Int)] : List Int), ([] : (List Int))⟩ : fork_Node), (⟨false, ([] : (List Str)), ([(1 : Int)] : List Int), ([(1 : Int)] : List Int)⟩ : fork_Node), (⟨false, ([] : (List Str)), ([(1 : Int), (2 : Int)] : List Int), ([] : (List Int))⟩ : fork_Node), (⟨true, ([([97] : Str), ([97] : Str)] : List Str), ([] : (List Int)), ([(1 : Int), (2 : Int)] : List Int)⟩ : fork_Node), (⟨true, ([([98] : Str), ([97] : Str), ([99] : Str)] : List Str), ([] : (List Int)), ([(1 : Int), (2 : Int), (3 : Int)] : List Int)⟩ : fork_Node), (⟨false, ([([98] : Str), ([99] : Str), ([97] : Str)] : List Str), ([(1 : Int), (2 : Int), (3 : Int), (4 : Int)] : List Int), ([] : (List Int))⟩ : fork_Node)] : List fork_Node)) (fun x184 => (Option.bind (ferrymanlaw13_ForkNames_l0 x184 k (0 : Int)) (fun o648o => Sum.elim (fun r' => some r') (fun _ => (Option.bind (fork_Put k (⟨true, ([([] : Str), ([97] : Str)] : List Str), ([] : (List Int)), ([(1 : Int), (2 : Int)] : List Int)⟩ : fork_Node) ([97] : Str) (9 : Int)) (fun t808 => (Option.bind (fork_Take k (⟨true, ([([] : Str), ([97] : Str)] : List Str), ([] : (List Int)), ([(1 : Int), (2 : Int)] : List Int)⟩ : fork_Node) ([98] : Str)) (fun t824 => (Option.bind (fork_Split k (⟨true, ([([] : Str), ([97] : Str)] : List Str), ([] : (List Int)), ([(1 : Int), (2 : Int)] : List Int)⟩ : fork_Node)) (fun t846 => (Option.bind (fork_Graft k (⟨true, ([([] : Str), ([97] : Str)] : List Str), ([] : (List Int)), ([(1 : Int), (2 : Int)] : List Int)⟩ : fork_Node) ([120] : Str) (1 : Int)) (fun t877 => (Option.bind (fork_Cut k (⟨true, ([([] : Str), ([97] : Str)] : List Str), ([] : (List Int)), ([(1 : Int), (2 : Int)] : List Int)⟩ : fork_Node) (0 : Int)) (fun t893 => (Option.bind (fork_Put k (⟨false, ([([97] : Str)] : List Str), ([(1 : Int), (2 : Int)] : List Int), ([] : (List Int))⟩ : fork_Node) ([120] : Str) (1 : Int)) (fun t909 => (Option.bind (fork_Take k (⟨false, ([([97] : Str)] : List Str), ([(1 : Int), (2 : Int)] : List Int), ([] : (List Int))⟩ : fork_Node) ([97] : Str)) (fun t925 => (Option.bind (fork_Graft k (⟨false, ([([97] : Str)] : List Str), ([(1 : Int), (2 : Int)] : List Int), ([] : (List Int))⟩ : fork_Node) ([97] : Str) (1 : Int)) (fun t941 => (Option.bind (fork_Cut k (⟨false, ([([97] : Str)] : List Str), ([(1 : Int), (2 : Int)] : List Int), ([] : (List Int))⟩ : fork_Node) (2 : Int)) (fun t957 => (Option.bind (fork_Cut k (⟨false, ([([97] : Str)] : List Str), ([(1 : Int), (2 : Int)] : List Int), ([] : (List Int))⟩ : fork_Node) (-1 : Int)) (fun t973 => (Option.bind (fork_Cut k (⟨false, ([] : (List Str)), ([(5 : Int)] : List Int), ([] : (List Int))⟩ : fork_Node) (0 : Int)) (fun t989 => (Option.bind (fork_Fence k (⟨true, ([([] : Str), ([97] : Str)] : List Str), ([] : (List Int)), ([(1 : Int), (2 : Int)] : List Int)⟩ : fork_Node) (0 : Int)) (fun t1005 => (Option.bind (fork_Fence k (⟨false, ([([97] : Str)] : List Str), ([(1 : Int), (2 : Int)] : List Int), ([] : (List Int))⟩ : fork_Node) (-1 : Int)) (fun t1008 => (if (((((((((((((t808.2 != (6 : Int)) || (t824.2 != (5 : Int))) || (t846.2.2.2 != (4 : Int))) || (t877.2 != (4 : Int))) || (t893.2 != (4 : Int))) || (t909.2 != (4 : Int))) || (t925.2 != (4 : Int))) || (t941.2 != (6 : Int))) || (t957.2 != (5 : Int))) || (t973.2 != (5 : Int))) || (t989.2 != (4 : Int))) || t1005.2) || t1008.2) = true then some false else (Option.bind (fork_Safe k (⟨true, ([([97] : Str)] : List Str), ([] : (List Int)), ([(1 : Int)] : List Int)⟩ : fork_Node) (0 : Int) (0 : Int) false) (fun t1034 => (Option.bind (α := Bool) (if t1034 = true then (Option.bind (fork_Safe k (⟨true, ([([97] : Str)] : List Str), ([] : (List Int)), ([(1 : Int)] : List Int)⟩ : fork_Node) (1 : Int) (1 : Int) true) (fun t1046 => some ((!t1046)))) else some (false)) (fun x1044 => (Option.bind (α := Bool) (if x1044 = true then (Option.bind (fork_Safe k (⟨true, ([([97] : Str)] : List Str), ([] : (List Int)), ([(1 : Int)] : List Int)⟩ : fork_Node) (2 : Int) (1 : Int) false) (fun t1059 => some (t1059))) else some (false)) (fun x1057 => (Option.bind (α := Bool) (if x1057 = true then (Option.bind (fork_Safe k (⟨true, ([([97] : Str)] : List Str), ([] : (List Int)), ([(1 : Int)] : List Int)⟩ : fork_Node) (9 : Int) (2 : Int) false) (fun t1072 => some ((!t1072)))) else some (false)) (fun x1070 => (Option.bind (α := Bool) (if x1070 = true then (Option.bind (fork_Safe k (⟨true, ([([97] : Str)] : List Str), ([] : (List Int)), ([(1 : Int)] : List Int)⟩ : fork_Node) (9 : Int) (2 : Int) true) (fun t1085 => some (t1085))) else some (false)) (fun x1083 => (Option.bind (α := Bool) (if x1083 = true then (Option.bind (fork_Safe k (⟨true, ([([] : Str), ([97] : Str)] : List Str), ([] : (List Int)), ([(1 : Int), (2 : Int)] : List Int)⟩ : fork_Node) (9 : Int) (2 : Int) false) (fun t1098 => some (t1098))) else some (false)) (fun x1096 => (Option.bind (α := Bool) (if x1096 = true then (Option.bind (fork_Safe k (⟨false, ([] : (List Str)), ([(5 : Int)] : List Int), ([] : (List Int))⟩ : fork_Node) (9 : Int) (2 : Int) false) (fun t1111 => some ((!t1111)))) else some (false)) (fun x1109 => (Option.bind (α := Bool) (if x1109 = true then (Option.bind (fork_Safe k (⟨false, ([([97] : Str)] : List Str), ([(1 : Int), (2 : Int)] : List Int), ([] : (List Int))⟩ : fork_Node) (9 : Int) (2 : Int) false) (fun t1124 => some (t1124))) else some (false)) (fun x1122 => (Option.bind (α := Bool) (if x1122 = true then (Option.bind (fork_Safe k (⟨false, ([([97] : Str)] : List Str), ([(1 : Int), (2 : Int)] : List Int), ([] : (List Int))⟩ : fork_Node) (9 : Int) (2 : Int) true) (fun t1137 => some ((!t1137)))) else some (false)) (fun x1135 => (Option.bind (α := Bool) (if x1135 = true then (Option.bind (fork_Safe k (⟨true, ([([] : Str), ([97] : Str)] : List Str), ([] : (List Int)), ([(1 : Int), (2 : Int)] : List Int)⟩ : fork_Node) (9 : Int) (3 : Int) true) (fun t1150 => some ((!t1150)))) else some (false)) (fun x1148 => some x1148)))))))))))))))))))))))))))))))))))))))))))))))) o648o)))))))))))))))))
set_option maxHeartbeats 2000000 in
theorem ferrymanlaw13_ForkNames.mono {k : Nat}  : OLe (ferrymanlaw13_ForkNames k ) (ferrymanlaw13_ForkNames (k + 1) ) := by
  unfold ferrymanlaw13_ForkNames
  repeat' (first | with_reducible exact OLe.none | with_reducible exact OLe.some | with_reducible refine OLe.ite ?_ ?_ | with_reducible refine OLe.bind ?_ (fun _ => ?_) | with_reducible exact ferrymanlaw13_ForkNames_l0.mono | with_reducible exact ferrymanlaw13_awake.mono | with_reducible exact fork_Cut.mono | with_reducible exact fork_Fence.mono | with_reducible exact fork_Graft.mono | with_reducible exact fork_Kid.mono | with_reducible exact fork_May.mono | with_reducible exact fork_Put.mono | with_reducible exact fork_Safe.mono | with_reducible exact fork_Split.mono | with_reducible exact fork_Take.mono | refine OLe.bind ?_ (fun _ => ?_) | refine OLe.ite ?_ ?_ | refine OLe.elim (fun _ => ?_) (fun _ => ?_) | split)
set_option maxHeartbeats 8000000 in
set_option maxRecDepth 100000 in
theorem ferrymanlaw13_ForkNames.con (k : Nat) (M : Hp)  (r : Bool)  (h : ferrymanlaw13_ForkNames k  = some r) : Con Try.prog 6 #[] M [] (fun v M' Γ' => v = .bool r ∧ Γ' = []) := by
  refine con_of_wp Try.func6 rfl Try.ntmps6 Try.results6 rfl ?_
  intro w F rn S hrn
  have E := Ext.refl w
  have HM := Hp.le_refl M
  have H := h
  unfold ferrymanlaw13_ForkNames at H
  refine Wp_seq ?_
  refine Wp_region_lit ?_
  refine W_v (.bool false) (x_assign rfl) rfl ?_
  refine Wl_nil ?_
  refine tn ?_
  refine Wp_seq ?_
  refine Wp_region_lit ?_
  refine W_bslice S #[.string (bs ([] : Str)), .string (bs ([97] : Str))] Try.underlying22 ty9 rfl rfl #[.string (bs ([] : Str)), .string (bs ([] : Str))] (by kernel_rfl) (by kernel_rfl) rfl ?_
  intro b1 w2 E' S
  replace E := E.trans E'
  clear E'
  replace S := S.blk_row (r := rStr) (l := ([([] : Str), ([97] : Str)] : List Str)) 0 rfl 2 (Nat.le_refl 2) rfl (Cells.cons (vs := [.string (bs ([] : Str))]) (rfl) (Cells.cons (vs := [.string (bs ([97] : Str))]) (rfl) Cells.nil))
  refine W_bslice S #[.int .u64 1, .int .u64 2] Try.underlying24 ty41 rfl rfl #[.int .u64 0, .int .u64 0] (by kernel_rfl) (by kernel_rfl) rfl ?_
  intro b4 w5 E' S
  replace E := E.trans E'
  clear E'
  replace S := S.blk_row (r := (rInt .u64)) (l := ([(1 : Int), (2 : Int)] : List Int)) 0 rfl 2 (Nat.le_refl 2) rfl (Cells.cons (vs := [.int .u64 1]) (rfl) (Cells.cons (vs := [.int .u64 2]) (rfl) Cells.nil))
  refine W_v (.agg #[.bool true, .slice (some ⟨b1, 0, none⟩) ([([] : Str), ([97] : Str)] : List Str).length 2, .slice none 0 0, .slice (some ⟨b4, 0, none⟩) ([(1 : Int), (2 : Int)] : List Int).length 2]) (x_build2 (pl := [(0, 1), (1, 1), (2, 1), (3, 1)]) #[.bool true, .slice (some ⟨b1, 0, none⟩) ([([] : Str), ([97] : Str)] : List Str).length 2, .slice none 0 0, .slice (some ⟨b4, 0, none⟩) ([(1 : Int), (2 : Int)] : List Int).length 2] Try.underlying26 ty26 (by kernel_rfl) rfl (by kernel_rfl)) rfl ?_
  refine W_alloc S #[.bool false, .slice none 0 0, .slice none 0 0, .slice none 0 0] ty26 rfl rfl ?_
  intro b7 w8 E' S
  replace E := E.trans E'
  clear E'
  refine W_store S 0 rfl ty26 rfl rfl [.bool true, .slice (some ⟨b1, 0, none⟩) ([([] : Str), ([97] : Str)] : List Str).length 2, .slice none 0 0, .slice (some ⟨b4, 0, none⟩) ([(1 : Int), (2 : Int)] : List Int).length 2] rfl rfl rfl #[.bool true, .slice (some ⟨b1, 0, none⟩) ([([] : Str), ([97] : Str)] : List Str).length 2, .slice none 0 0, .slice (some ⟨b4, 0, none⟩) ([(1 : Int), (2 : Int)] : List Int).length 2] rfl rfl ?_
  intro w10 E' S
  replace E := E.trans E'
  clear E'
  refine Wl_nil ?_
  refine tn ?_
  refine Wp_seq ?_
  refine Wp_region_lit ?_
  refine W_bslice S #[.string (bs ([97] : Str))] Try.underlying22 ty9 rfl rfl #[.string (bs ([] : Str))] (by kernel_rfl) (by kernel_rfl) rfl ?_
  intro b11 w12 E' S
  replace E := E.trans E'
  clear E'
  replace S := S.blk_row (r := rStr) (l := ([([97] : Str)] : List Str)) 0 rfl 1 (Nat.le_refl 1) rfl (Cells.cons (vs := [.string (bs ([97] : Str))]) (rfl) Cells.nil)
  refine W_bslice S #[.int .i64 1, .int .i64 2] Try.underlying23 ty3 rfl rfl #[.int .i64 0, .int .i64 0] (by kernel_rfl) (by kernel_rfl) rfl ?_
  intro b14 w15 E' S
  replace E := E.trans E'
  clear E'
  replace S := S.blk_row (r := (rInt .i64)) (l := ([(1 : Int), (2 : Int)] : List Int)) 0 rfl 2 (Nat.le_refl 2) rfl (Cells.cons (vs := [.int .i64 1]) (rfl) (Cells.cons (vs := [.int .i64 2]) (rfl) Cells.nil))
  refine W_v (.agg #[.bool false, .slice (some ⟨b11, 0, none⟩) ([([97] : Str)] : List Str).length 1, .slice (some ⟨b14, 0, none⟩) ([(1 : Int), (2 : Int)] : List Int).length 2, .slice none 0 0]) (x_build2 (pl := [(0, 1), (1, 1), (2, 1), (3, 1)]) #[.bool false, .slice (some ⟨b11, 0, none⟩) ([([97] : Str)] : List Str).length 1, .slice (some ⟨b14, 0, none⟩) ([(1 : Int), (2 : Int)] : List Int).length 2, .slice none 0 0] Try.underlying26 ty26 (by kernel_rfl) rfl (by kernel_rfl)) rfl ?_
  refine W_alloc S #[.bool false, .slice none 0 0, .slice none 0 0, .slice none 0 0] ty26 rfl rfl ?_
  intro b17 w18 E' S
  replace E := E.trans E'
  clear E'
  refine W_store S 0 rfl ty26 rfl rfl [.bool false, .slice (some ⟨b11, 0, none⟩) ([([97] : Str)] : List Str).length 1, .slice (some ⟨b14, 0, none⟩) ([(1 : Int), (2 : Int)] : List Int).length 2, .slice none 0 0] rfl rfl rfl #[.bool false, .slice (some ⟨b11, 0, none⟩) ([([97] : Str)] : List Str).length 1, .slice (some ⟨b14, 0, none⟩) ([(1 : Int), (2 : Int)] : List Int).length 2, .slice none 0 0] rfl rfl ?_
  intro w20 E' S
  replace E := E.trans E'
  clear E'
  refine Wl_nil ?_
  refine tn ?_
  refine Wp_seq ?_
  refine Wp_region_lit ?_
  refine W_bslice S #[.int .i64 5] Try.underlying23 ty3 rfl rfl #[.int .i64 0] (by kernel_rfl) (by kernel_rfl) rfl ?_
  intro b21 w22 E' S
  replace E := E.trans E'
  clear E'
  replace S := S.blk_row (r := (rInt .i64)) (l := ([(5 : Int)] : List Int)) 0 rfl 1 (Nat.le_refl 1) rfl (Cells.cons (vs := [.int .i64 5]) (rfl) Cells.nil)
  refine W_v (.agg #[.bool false, .slice none 0 0, .slice (some ⟨b21, 0, none⟩) ([(5 : Int)] : List Int).length 1, .slice none 0 0]) (x_build2 (pl := [(0, 1), (1, 1), (2, 1), (3, 1)]) #[.bool false, .slice none 0 0, .slice (some ⟨b21, 0, none⟩) ([(5 : Int)] : List Int).length 1, .slice none 0 0] Try.underlying26 ty26 (by kernel_rfl) rfl (by kernel_rfl)) rfl ?_
  refine W_alloc S #[.bool false, .slice none 0 0, .slice none 0 0, .slice none 0 0] ty26 rfl rfl ?_
  intro b24 w25 E' S
  replace E := E.trans E'
  clear E'
  refine W_store S 0 rfl ty26 rfl rfl [.bool false, .slice none 0 0, .slice (some ⟨b21, 0, none⟩) ([(5 : Int)] : List Int).length 1, .slice none 0 0] rfl rfl rfl #[.bool false, .slice none 0 0, .slice (some ⟨b21, 0, none⟩) ([(5 : Int)] : List Int).length 1, .slice none 0 0] rfl rfl ?_
  intro w27 E' S
  replace E := E.trans E'
  clear E'
  refine Wl_nil ?_
  refine tn ?_
  refine Wp_seq ?_
  refine Wp_seq ?_
  refine Wp_region_lit ?_
  obtain ⟨t28, ht29, H⟩ := bindS H
  refine W_callF fn10 (ferrymanlaw13_awake.con k M  t28  ht29) S rfl rfl (by rintro _ _ _ ⟨_, rfl⟩; exact flat_nil) ?_
  rintro _ w30 _ Γ' E' S ⟨rfl, rfl⟩
  replace E := E.trans E'
  clear E'
  refine W_v (.bool (!t28)) (x_not rfl) rfl ?_
  refine W_v (.bool (!t28)) (x_move rfl) rfl ?_
  refine W_v (.bool (cond (!t28) true false)) (x_pickB rfl rfl rfl) rfl ?_
  refine W_v (.bool (cond (!t28) true false)) (x_move rfl) rfl ?_
  refine W_v (.bool (cond (cond (!t28) true false) true false)) (x_pickB rfl rfl rfl) rfl ?_
  refine W_v (.bool (cond (cond (!t28) true false) true false)) (x_move rfl) rfl ?_
  refine W_v (.bool (cond (cond (cond (!t28) true false) true false) true false)) (x_pickB rfl rfl rfl) rfl ?_
  refine W_v (.bool (cond (cond (cond (!t28) true false) true false) true false)) (x_move rfl) rfl ?_
  obtain ⟨o39, o39h, o39H⟩ := bindS H
  clear H
  refine Wl_cutN 4 (fun ρ w' => ∃ (x38 : Bool), (x38) = o39 ∧ Agree ρ [(1, .pointer (some ⟨b7, 0, none⟩)), (2, .pointer (some ⟨b17, 0, none⟩)), (3, .pointer (some ⟨b24, 0, none⟩)), (71, .bool x38)] ∧ Ext w w' ∧ St w' M F [Blk b24 (.cells #[.bool false, .slice none 0 0, .slice (some ⟨b21, 0, none⟩) ([(5 : Int)] : List Int).length 1, .slice none 0 0] 26 (0, 0)), Row (rInt .i64) 3 (.slice (some ⟨b21, 0, none⟩) ([(5 : Int)] : List Int).length 1) ([(5 : Int)] : List Int), Blk b17 (.cells #[.bool false, .slice (some ⟨b11, 0, none⟩) ([([97] : Str)] : List Str).length 1, .slice (some ⟨b14, 0, none⟩) ([(1 : Int), (2 : Int)] : List Int).length 2, .slice none 0 0] 26 (0, 0)), Row (rInt .i64) 3 (.slice (some ⟨b14, 0, none⟩) ([(1 : Int), (2 : Int)] : List Int).length 2) ([(1 : Int), (2 : Int)] : List Int), Row rStr 9 (.slice (some ⟨b11, 0, none⟩) ([([97] : Str)] : List Str).length 1) ([([97] : Str)] : List Str), Blk b7 (.cells #[.bool true, .slice (some ⟨b1, 0, none⟩) ([([] : Str), ([97] : Str)] : List Str).length 2, .slice none 0 0, .slice (some ⟨b4, 0, none⟩) ([(1 : Int), (2 : Int)] : List Int).length 2] 26 (0, 0)), Row (rInt .u64) 41 (.slice (some ⟨b4, 0, none⟩) ([(1 : Int), (2 : Int)] : List Int).length 2) ([(1 : Int), (2 : Int)] : List Int), Row rStr 9 (.slice (some ⟨b1, 0, none⟩) ([([] : Str), ([97] : Str)] : List Str).length 2) ([([] : Str), ([97] : Str)] : List Str)]) ?_ ?_
  · have H := o39h
    rcases iteS H with ⟨hb37, H⟩ | ⟨hb37, H⟩
    · skip
      refine W_no (skF hb37) rfl ?_
      refine W_no (skF hb37) rfl ?_
      refine W_no (skF hb37) rfl ?_
      refine W_v (.bool true) (x_pick (k := true) (congrArg Value.bool hb37) rfl) rfl ?_
      refine Wl_nil ?_
      exact ⟨true, Option.some.inj H, ⟨rfl, rfl, rfl, rfl, trivial⟩, E, S.pick [0, 1, 2, 3, 4, 5, 6, 7] (by decide)⟩
    · skip
      refine W_yes (congrArg some hb37) ?_
      refine W_v (.agg #[.bool true, .slice (some ⟨b1, 0, none⟩) ([([] : Str), ([97] : Str)] : List Str).length 2, .slice none 0 0, .slice (some ⟨b4, 0, none⟩) ([(1 : Int), (2 : Int)] : List Int).length 2]) (x_loadA (S.blk 5 rfl) ty26 rfl (sub_of_extract rfl) rfl rfl) rfl ?_
      refine W_yes (congrArg some hb37) ?_
      replace S : St w30 M F [Row rStr 9 (.slice (some ⟨b1, 0, none⟩) ([([] : Str), ([97] : Str)] : List Str).length 2) ([([] : Str), ([97] : Str)] : List Str), Row (rInt .u64) 41 (.slice (some ⟨b4, 0, none⟩) ([(1 : Int), (2 : Int)] : List Int).length 2) ([(1 : Int), (2 : Int)] : List Int), Blk b24 (.cells #[.bool false, .slice none 0 0, .slice (some ⟨b21, 0, none⟩) ([(5 : Int)] : List Int).length 1, .slice none 0 0] 26 (0, 0)), Row (rInt .i64) 3 (.slice (some ⟨b21, 0, none⟩) ([(5 : Int)] : List Int).length 1) ([(5 : Int)] : List Int), Blk b17 (.cells #[.bool false, .slice (some ⟨b11, 0, none⟩) ([([97] : Str)] : List Str).length 1, .slice (some ⟨b14, 0, none⟩) ([(1 : Int), (2 : Int)] : List Int).length 2, .slice none 0 0] 26 (0, 0)), Row (rInt .i64) 3 (.slice (some ⟨b14, 0, none⟩) ([(1 : Int), (2 : Int)] : List Int).length 2) ([(1 : Int), (2 : Int)] : List Int), Row rStr 9 (.slice (some ⟨b11, 0, none⟩) ([([97] : Str)] : List Str).length 1) ([([97] : Str)] : List Str), Blk b7 (.cells #[.bool true, .slice (some ⟨b1, 0, none⟩) ([([] : Str), ([97] : Str)] : List Str).length 2, .slice none 0 0, .slice (some ⟨b4, 0, none⟩) ([(1 : Int), (2 : Int)] : List Int).length 2] 26 (0, 0))] := S.pick [7, 6, 0, 1, 2, 3, 4, 5] (by decide)
      obtain ⟨t40, ht41, H⟩ := bindS H
      refine W_callN 2 fn11 (fun h9 hs9 hd9 => fork_May.con k _ (some ⟨b1, 0, none⟩) 2 none 0 (some ⟨b4, 0, none⟩) 2 (⟨true, ([([] : Str), ([97] : Str)] : List Str), ([] : (List Int)), ([(1 : Int), (2 : Int)] : List Int)⟩ : fork_Node) t40 (Sats.row hs9 hd9 0 rfl) (SlW.nil _ _) (Sats.row hs9 hd9 1 rfl) ht41) S rfl rfl (by rintro _ _ _ ⟨_, rfl⟩; exact flat_nil) ?_
      rintro _ w42 _ Γ' E' S ⟨rfl, rfl⟩
      replace E := E.trans E'
      clear E'
      refine W_yes (congrArg some hb37) ?_
      refine W_v (.bool (!t40)) (x_not rfl) rfl ?_
      refine W_v (.bool (!t40)) (x_pick (k := false) (congrArg Value.bool hb37) rfl) rfl ?_
      refine Wl_nil ?_
      exact ⟨(!t40), Option.some.inj H, ⟨rfl, rfl, rfl, rfl, trivial⟩, E, S.pick [2, 3, 4, 5, 6, 7, 1, 0] (by decide)⟩
  clear o39h
  rintro ρ w43 ⟨x38, rfl, hρ, E, S⟩
  rw [agree_eta hρ]
  clear hρ
  have H := o39H
  clear o39H
  refine W_v (.bool x38) (x_move rfl) rfl ?_
  obtain ⟨o52, o52h, o52H⟩ := bindS H
  clear H
  refine Wl_cutN 4 (fun ρ w' => ∃ (x51 : Bool), (x51) = o52 ∧ Agree ρ [(1, .pointer (some ⟨b7, 0, none⟩)), (2, .pointer (some ⟨b17, 0, none⟩)), (3, .pointer (some ⟨b24, 0, none⟩)), (76, .bool x51)] ∧ Ext w w' ∧ St w' M F [Blk b24 (.cells #[.bool false, .slice none 0 0, .slice (some ⟨b21, 0, none⟩) ([(5 : Int)] : List Int).length 1, .slice none 0 0] 26 (0, 0)), Row (rInt .i64) 3 (.slice (some ⟨b21, 0, none⟩) ([(5 : Int)] : List Int).length 1) ([(5 : Int)] : List Int), Blk b17 (.cells #[.bool false, .slice (some ⟨b11, 0, none⟩) ([([97] : Str)] : List Str).length 1, .slice (some ⟨b14, 0, none⟩) ([(1 : Int), (2 : Int)] : List Int).length 2, .slice none 0 0] 26 (0, 0)), Row (rInt .i64) 3 (.slice (some ⟨b14, 0, none⟩) ([(1 : Int), (2 : Int)] : List Int).length 2) ([(1 : Int), (2 : Int)] : List Int), Row rStr 9 (.slice (some ⟨b11, 0, none⟩) ([([97] : Str)] : List Str).length 1) ([([97] : Str)] : List Str), Blk b7 (.cells #[.bool true, .slice (some ⟨b1, 0, none⟩) ([([] : Str), ([97] : Str)] : List Str).length 2, .slice none 0 0, .slice (some ⟨b4, 0, none⟩) ([(1 : Int), (2 : Int)] : List Int).length 2] 26 (0, 0)), Row (rInt .u64) 41 (.slice (some ⟨b4, 0, none⟩) ([(1 : Int), (2 : Int)] : List Int).length 2) ([(1 : Int), (2 : Int)] : List Int), Row rStr 9 (.slice (some ⟨b1, 0, none⟩) ([([] : Str), ([97] : Str)] : List Str).length 2) ([([] : Str), ([97] : Str)] : List Str)]) ?_ ?_
  · have H := o52h
    rcases iteS H with ⟨hb50, H⟩ | ⟨hb50, H⟩
    · skip
      refine W_no (skF hb50) rfl ?_
      refine W_no (skF hb50) rfl ?_
      refine W_no (skF hb50) rfl ?_
      refine W_v (.bool true) (x_pick (k := true) (congrArg Value.bool hb50) rfl) rfl ?_
      refine Wl_nil ?_
      exact ⟨true, Option.some.inj H, ⟨rfl, rfl, rfl, rfl, trivial⟩, E, S.pick [0, 1, 2, 3, 4, 5, 6, 7] (by decide)⟩
    · skip
      refine W_yes (congrArg some hb50) ?_
      refine W_v (.agg #[.bool false, .slice (some ⟨b11, 0, none⟩) ([([97] : Str)] : List Str).length 1, .slice (some ⟨b14, 0, none⟩) ([(1 : Int), (2 : Int)] : List Int).length 2, .slice none 0 0]) (x_loadA (S.blk 2 rfl) ty26 rfl (sub_of_extract rfl) rfl rfl) rfl ?_
      refine W_yes (congrArg some hb50) ?_
      replace S : St w43 M F [Row rStr 9 (.slice (some ⟨b11, 0, none⟩) ([([97] : Str)] : List Str).length 1) ([([97] : Str)] : List Str), Row (rInt .i64) 3 (.slice (some ⟨b14, 0, none⟩) ([(1 : Int), (2 : Int)] : List Int).length 2) ([(1 : Int), (2 : Int)] : List Int), Blk b24 (.cells #[.bool false, .slice none 0 0, .slice (some ⟨b21, 0, none⟩) ([(5 : Int)] : List Int).length 1, .slice none 0 0] 26 (0, 0)), Row (rInt .i64) 3 (.slice (some ⟨b21, 0, none⟩) ([(5 : Int)] : List Int).length 1) ([(5 : Int)] : List Int), Blk b17 (.cells #[.bool false, .slice (some ⟨b11, 0, none⟩) ([([97] : Str)] : List Str).length 1, .slice (some ⟨b14, 0, none⟩) ([(1 : Int), (2 : Int)] : List Int).length 2, .slice none 0 0] 26 (0, 0)), Blk b7 (.cells #[.bool true, .slice (some ⟨b1, 0, none⟩) ([([] : Str), ([97] : Str)] : List Str).length 2, .slice none 0 0, .slice (some ⟨b4, 0, none⟩) ([(1 : Int), (2 : Int)] : List Int).length 2] 26 (0, 0)), Row (rInt .u64) 41 (.slice (some ⟨b4, 0, none⟩) ([(1 : Int), (2 : Int)] : List Int).length 2) ([(1 : Int), (2 : Int)] : List Int), Row rStr 9 (.slice (some ⟨b1, 0, none⟩) ([([] : Str), ([97] : Str)] : List Str).length 2) ([([] : Str), ([97] : Str)] : List Str)] := S.pick [4, 3, 0, 1, 2, 5, 6, 7] (by decide)
      obtain ⟨t53, ht54, H⟩ := bindS H
      refine W_callN 2 fn11 (fun h9 hs9 hd9 => fork_May.con k _ (some ⟨b11, 0, none⟩) 1 (some ⟨b14, 0, none⟩) 2 none 0 (⟨false, ([([97] : Str)] : List Str), ([(1 : Int), (2 : Int)] : List Int), ([] : (List Int))⟩ : fork_Node) t53 (Sats.row hs9 hd9 0 rfl) (Sats.row hs9 hd9 1 rfl) (SlW.nil _ _) ht54) S rfl rfl (by rintro _ _ _ ⟨_, rfl⟩; exact flat_nil) ?_
      rintro _ w55 _ Γ' E' S ⟨rfl, rfl⟩
      replace E := E.trans E'
      clear E'
      refine W_yes (congrArg some hb50) ?_
      refine W_v (.bool (!t53)) (x_not rfl) rfl ?_
      refine W_v (.bool (!t53)) (x_pick (k := false) (congrArg Value.bool hb50) rfl) rfl ?_
      refine Wl_nil ?_
      exact ⟨(!t53), Option.some.inj H, ⟨rfl, rfl, rfl, rfl, trivial⟩, E, S.pick [2, 3, 4, 1, 0, 5, 6, 7] (by decide)⟩
  clear o52h
  rintro ρ w56 ⟨x51, rfl, hρ, E, S⟩
  rw [agree_eta hρ]
  clear hρ
  have H := o52H
  clear o52H
  refine W_v (.bool x51) (x_move rfl) rfl ?_
  obtain ⟨o65, o65h, o65H⟩ := bindS H
  clear H
  refine Wl_cutN 4 (fun ρ w' => ∃ (x64 : Bool), (x64) = o65 ∧ Agree ρ [(1, .pointer (some ⟨b7, 0, none⟩)), (2, .pointer (some ⟨b17, 0, none⟩)), (3, .pointer (some ⟨b24, 0, none⟩)), (81, .bool x64)] ∧ Ext w w' ∧ St w' M F [Blk b24 (.cells #[.bool false, .slice none 0 0, .slice (some ⟨b21, 0, none⟩) ([(5 : Int)] : List Int).length 1, .slice none 0 0] 26 (0, 0)), Row (rInt .i64) 3 (.slice (some ⟨b21, 0, none⟩) ([(5 : Int)] : List Int).length 1) ([(5 : Int)] : List Int), Blk b17 (.cells #[.bool false, .slice (some ⟨b11, 0, none⟩) ([([97] : Str)] : List Str).length 1, .slice (some ⟨b14, 0, none⟩) ([(1 : Int), (2 : Int)] : List Int).length 2, .slice none 0 0] 26 (0, 0)), Row (rInt .i64) 3 (.slice (some ⟨b14, 0, none⟩) ([(1 : Int), (2 : Int)] : List Int).length 2) ([(1 : Int), (2 : Int)] : List Int), Row rStr 9 (.slice (some ⟨b11, 0, none⟩) ([([97] : Str)] : List Str).length 1) ([([97] : Str)] : List Str), Blk b7 (.cells #[.bool true, .slice (some ⟨b1, 0, none⟩) ([([] : Str), ([97] : Str)] : List Str).length 2, .slice none 0 0, .slice (some ⟨b4, 0, none⟩) ([(1 : Int), (2 : Int)] : List Int).length 2] 26 (0, 0)), Row (rInt .u64) 41 (.slice (some ⟨b4, 0, none⟩) ([(1 : Int), (2 : Int)] : List Int).length 2) ([(1 : Int), (2 : Int)] : List Int), Row rStr 9 (.slice (some ⟨b1, 0, none⟩) ([([] : Str), ([97] : Str)] : List Str).length 2) ([([] : Str), ([97] : Str)] : List Str)]) ?_ ?_
  · have H := o65h
    rcases iteS H with ⟨hb63, H⟩ | ⟨hb63, H⟩
    · skip
      refine W_no (skF hb63) rfl ?_
      refine W_no (skF hb63) rfl ?_
      refine W_no (skF hb63) rfl ?_
      refine W_v (.bool true) (x_pick (k := true) (congrArg Value.bool hb63) rfl) rfl ?_
      refine Wl_nil ?_
      exact ⟨true, Option.some.inj H, ⟨rfl, rfl, rfl, rfl, trivial⟩, E, S.pick [0, 1, 2, 3, 4, 5, 6, 7] (by decide)⟩
    · skip
      refine W_yes (congrArg some hb63) ?_
      refine W_v (.agg #[.bool false, .slice none 0 0, .slice (some ⟨b21, 0, none⟩) ([(5 : Int)] : List Int).length 1, .slice none 0 0]) (x_loadA (S.blk 0 rfl) ty26 rfl (sub_of_extract rfl) rfl rfl) rfl ?_
      refine W_yes (congrArg some hb63) ?_
      replace S : St w56 M F [Row (rInt .i64) 3 (.slice (some ⟨b21, 0, none⟩) ([(5 : Int)] : List Int).length 1) ([(5 : Int)] : List Int), Blk b24 (.cells #[.bool false, .slice none 0 0, .slice (some ⟨b21, 0, none⟩) ([(5 : Int)] : List Int).length 1, .slice none 0 0] 26 (0, 0)), Blk b17 (.cells #[.bool false, .slice (some ⟨b11, 0, none⟩) ([([97] : Str)] : List Str).length 1, .slice (some ⟨b14, 0, none⟩) ([(1 : Int), (2 : Int)] : List Int).length 2, .slice none 0 0] 26 (0, 0)), Row (rInt .i64) 3 (.slice (some ⟨b14, 0, none⟩) ([(1 : Int), (2 : Int)] : List Int).length 2) ([(1 : Int), (2 : Int)] : List Int), Row rStr 9 (.slice (some ⟨b11, 0, none⟩) ([([97] : Str)] : List Str).length 1) ([([97] : Str)] : List Str), Blk b7 (.cells #[.bool true, .slice (some ⟨b1, 0, none⟩) ([([] : Str), ([97] : Str)] : List Str).length 2, .slice none 0 0, .slice (some ⟨b4, 0, none⟩) ([(1 : Int), (2 : Int)] : List Int).length 2] 26 (0, 0)), Row (rInt .u64) 41 (.slice (some ⟨b4, 0, none⟩) ([(1 : Int), (2 : Int)] : List Int).length 2) ([(1 : Int), (2 : Int)] : List Int), Row rStr 9 (.slice (some ⟨b1, 0, none⟩) ([([] : Str), ([97] : Str)] : List Str).length 2) ([([] : Str), ([97] : Str)] : List Str)] := S.pick [1, 0, 2, 3, 4, 5, 6, 7] (by decide)
      obtain ⟨t66, ht67, H⟩ := bindS H
      refine W_callN 1 fn11 (fun h9 hs9 hd9 => fork_May.con k _ none 0 (some ⟨b21, 0, none⟩) 1 none 0 (⟨false, ([] : (List Str)), ([(5 : Int)] : List Int), ([] : (List Int))⟩ : fork_Node) t66 (SlW.nil _ _) (Sats.row hs9 hd9 0 rfl) (SlW.nil _ _) ht67) S rfl rfl (by rintro _ _ _ ⟨_, rfl⟩; exact flat_nil) ?_
      rintro _ w68 _ Γ' E' S ⟨rfl, rfl⟩
      replace E := E.trans E'
      clear E'
      refine W_yes (congrArg some hb63) ?_
      refine W_v (.bool (!t66)) (x_not rfl) rfl ?_
      refine W_v (.bool (!t66)) (x_pick (k := false) (congrArg Value.bool hb63) rfl) rfl ?_
      refine Wl_nil ?_
      exact ⟨(!t66), Option.some.inj H, ⟨rfl, rfl, rfl, rfl, trivial⟩, E, S.pick [1, 0, 2, 3, 4, 5, 6, 7] (by decide)⟩
  clear o65h
  rintro ρ w69 ⟨x64, rfl, hρ, E, S⟩
  rw [agree_eta hρ]
  clear hρ
  have H := o65H
  clear o65H
  refine W_v (.bool x64) (x_move rfl) rfl ?_
  obtain ⟨o78, o78h, o78H⟩ := bindS H
  clear H
  refine Wl_cutN 4 (fun ρ w' => ∃ (x77 : Bool), (x77) = o78 ∧ Agree ρ [(1, .pointer (some ⟨b7, 0, none⟩)), (2, .pointer (some ⟨b17, 0, none⟩)), (3, .pointer (some ⟨b24, 0, none⟩)), (86, .bool x77)] ∧ Ext w w' ∧ St w' M F [Blk b24 (.cells #[.bool false, .slice none 0 0, .slice (some ⟨b21, 0, none⟩) ([(5 : Int)] : List Int).length 1, .slice none 0 0] 26 (0, 0)), Row (rInt .i64) 3 (.slice (some ⟨b21, 0, none⟩) ([(5 : Int)] : List Int).length 1) ([(5 : Int)] : List Int), Blk b17 (.cells #[.bool false, .slice (some ⟨b11, 0, none⟩) ([([97] : Str)] : List Str).length 1, .slice (some ⟨b14, 0, none⟩) ([(1 : Int), (2 : Int)] : List Int).length 2, .slice none 0 0] 26 (0, 0)), Row (rInt .i64) 3 (.slice (some ⟨b14, 0, none⟩) ([(1 : Int), (2 : Int)] : List Int).length 2) ([(1 : Int), (2 : Int)] : List Int), Row rStr 9 (.slice (some ⟨b11, 0, none⟩) ([([97] : Str)] : List Str).length 1) ([([97] : Str)] : List Str), Blk b7 (.cells #[.bool true, .slice (some ⟨b1, 0, none⟩) ([([] : Str), ([97] : Str)] : List Str).length 2, .slice none 0 0, .slice (some ⟨b4, 0, none⟩) ([(1 : Int), (2 : Int)] : List Int).length 2] 26 (0, 0)), Row (rInt .u64) 41 (.slice (some ⟨b4, 0, none⟩) ([(1 : Int), (2 : Int)] : List Int).length 2) ([(1 : Int), (2 : Int)] : List Int), Row rStr 9 (.slice (some ⟨b1, 0, none⟩) ([([] : Str), ([97] : Str)] : List Str).length 2) ([([] : Str), ([97] : Str)] : List Str)]) ?_ ?_
  · have H := o78h
    rcases iteS H with ⟨hb76, H⟩ | ⟨hb76, H⟩
    · skip
      refine W_no (skF hb76) rfl ?_
      refine W_no (skF hb76) rfl ?_
      refine W_no (skF hb76) rfl ?_
      refine W_v (.bool true) (x_pick (k := true) (congrArg Value.bool hb76) rfl) rfl ?_
      refine Wl_nil ?_
      exact ⟨true, Option.some.inj H, ⟨rfl, rfl, rfl, rfl, trivial⟩, E, S.pick [0, 1, 2, 3, 4, 5, 6, 7] (by decide)⟩
    · skip
      refine W_yes (congrArg some hb76) ?_
      refine W_v (.agg #[.bool true, .slice none 0 0, .slice none 0 0, .slice none 0 0]) (x_build2 (pl := [(0, 1), (1, 1), (2, 1), (3, 1)]) #[.bool true, .slice none 0 0, .slice none 0 0, .slice none 0 0] Try.underlying26 ty26 (by kernel_rfl) rfl (by kernel_rfl)) rfl ?_
      refine W_yes (congrArg some hb76) ?_
      obtain ⟨t79, ht80, H⟩ := bindS H
      refine W_callF fn11 (fork_May.con k M none 0 none 0 none 0 (⟨true, ([] : (List Str)), ([] : (List Int)), ([] : (List Int))⟩ : fork_Node) t79 (SlW.nil _ _) (SlW.nil _ _) (SlW.nil _ _) ht80) S rfl rfl (by rintro _ _ _ ⟨_, rfl⟩; exact flat_nil) ?_
      rintro _ w81 _ Γ' E' S ⟨rfl, rfl⟩
      replace E := E.trans E'
      clear E'
      refine W_yes (congrArg some hb76) ?_
      refine W_v (.bool (!t79)) (x_not rfl) rfl ?_
      refine W_v (.bool (!t79)) (x_pick (k := false) (congrArg Value.bool hb76) rfl) rfl ?_
      refine Wl_nil ?_
      exact ⟨(!t79), Option.some.inj H, ⟨rfl, rfl, rfl, rfl, trivial⟩, E, S.pick [0, 1, 2, 3, 4, 5, 6, 7] (by decide)⟩
  clear o78h
  rintro ρ w82 ⟨x77, rfl, hρ, E, S⟩
  rw [agree_eta hρ]
  clear hρ
  have H := o78H
  clear o78H
  refine W_v (.bool x77) (x_move rfl) rfl ?_
  obtain ⟨o91, o91h, o91H⟩ := bindS H
  clear H
  refine Wl_cutN 4 (fun ρ w' => ∃ (x90 : Bool), (x90) = o91 ∧ Agree ρ [(1, .pointer (some ⟨b7, 0, none⟩)), (2, .pointer (some ⟨b17, 0, none⟩)), (3, .pointer (some ⟨b24, 0, none⟩)), (91, .bool x90)] ∧ Ext w w' ∧ St w' M F [Blk b24 (.cells #[.bool false, .slice none 0 0, .slice (some ⟨b21, 0, none⟩) ([(5 : Int)] : List Int).length 1, .slice none 0 0] 26 (0, 0)), Row (rInt .i64) 3 (.slice (some ⟨b21, 0, none⟩) ([(5 : Int)] : List Int).length 1) ([(5 : Int)] : List Int), Blk b17 (.cells #[.bool false, .slice (some ⟨b11, 0, none⟩) ([([97] : Str)] : List Str).length 1, .slice (some ⟨b14, 0, none⟩) ([(1 : Int), (2 : Int)] : List Int).length 2, .slice none 0 0] 26 (0, 0)), Row (rInt .i64) 3 (.slice (some ⟨b14, 0, none⟩) ([(1 : Int), (2 : Int)] : List Int).length 2) ([(1 : Int), (2 : Int)] : List Int), Row rStr 9 (.slice (some ⟨b11, 0, none⟩) ([([97] : Str)] : List Str).length 1) ([([97] : Str)] : List Str), Blk b7 (.cells #[.bool true, .slice (some ⟨b1, 0, none⟩) ([([] : Str), ([97] : Str)] : List Str).length 2, .slice none 0 0, .slice (some ⟨b4, 0, none⟩) ([(1 : Int), (2 : Int)] : List Int).length 2] 26 (0, 0)), Row (rInt .u64) 41 (.slice (some ⟨b4, 0, none⟩) ([(1 : Int), (2 : Int)] : List Int).length 2) ([(1 : Int), (2 : Int)] : List Int), Row rStr 9 (.slice (some ⟨b1, 0, none⟩) ([([] : Str), ([97] : Str)] : List Str).length 2) ([([] : Str), ([97] : Str)] : List Str)]) ?_ ?_
  · have H := o91h
    rcases iteS H with ⟨hb89, H⟩ | ⟨hb89, H⟩
    · skip
      refine W_no (skF hb89) rfl ?_
      refine W_no (skF hb89) rfl ?_
      refine W_no (skF hb89) rfl ?_
      refine W_v (.bool true) (x_pick (k := true) (congrArg Value.bool hb89) rfl) rfl ?_
      refine Wl_nil ?_
      exact ⟨true, Option.some.inj H, ⟨rfl, rfl, rfl, rfl, trivial⟩, E, S.pick [0, 1, 2, 3, 4, 5, 6, 7] (by decide)⟩
    · skip
      refine W_yes (congrArg some hb89) ?_
      refine W_v (.agg #[.bool false, .slice none 0 0, .slice (some ⟨b21, 0, none⟩) ([(5 : Int)] : List Int).length 1, .slice none 0 0]) (x_loadA (S.blk 0 rfl) ty26 rfl (sub_of_extract rfl) rfl rfl) rfl ?_
      refine W_yes (congrArg some hb89) ?_
      replace S : St w82 M F [Row (rInt .i64) 3 (.slice (some ⟨b21, 0, none⟩) ([(5 : Int)] : List Int).length 1) ([(5 : Int)] : List Int), Blk b24 (.cells #[.bool false, .slice none 0 0, .slice (some ⟨b21, 0, none⟩) ([(5 : Int)] : List Int).length 1, .slice none 0 0] 26 (0, 0)), Blk b17 (.cells #[.bool false, .slice (some ⟨b11, 0, none⟩) ([([97] : Str)] : List Str).length 1, .slice (some ⟨b14, 0, none⟩) ([(1 : Int), (2 : Int)] : List Int).length 2, .slice none 0 0] 26 (0, 0)), Row (rInt .i64) 3 (.slice (some ⟨b14, 0, none⟩) ([(1 : Int), (2 : Int)] : List Int).length 2) ([(1 : Int), (2 : Int)] : List Int), Row rStr 9 (.slice (some ⟨b11, 0, none⟩) ([([97] : Str)] : List Str).length 1) ([([97] : Str)] : List Str), Blk b7 (.cells #[.bool true, .slice (some ⟨b1, 0, none⟩) ([([] : Str), ([97] : Str)] : List Str).length 2, .slice none 0 0, .slice (some ⟨b4, 0, none⟩) ([(1 : Int), (2 : Int)] : List Int).length 2] 26 (0, 0)), Row (rInt .u64) 41 (.slice (some ⟨b4, 0, none⟩) ([(1 : Int), (2 : Int)] : List Int).length 2) ([(1 : Int), (2 : Int)] : List Int), Row rStr 9 (.slice (some ⟨b1, 0, none⟩) ([([] : Str), ([97] : Str)] : List Str).length 2) ([([] : Str), ([97] : Str)] : List Str)] := S.pick [1, 0, 2, 3, 4, 5, 6, 7] (by decide)
      obtain ⟨t92, ht93, H⟩ := bindS H
      refine W_callN 1 fn13 (fun h9 hs9 hd9 => fork_Kid.con k _ none 0 (some ⟨b21, 0, none⟩) 1 none 0 (⟨false, ([] : (List Str)), ([(5 : Int)] : List Int), ([] : (List Int))⟩ : fork_Node) ([120] : Str) t92 (SlW.nil _ _) (Sats.row hs9 hd9 0 rfl) (SlW.nil _ _) ht93) S rfl rfl (by rintro _ _ _ ⟨_, rfl⟩; exact flat_nil) ?_
      rintro _ w94 _ Γ' E' S ⟨rfl, rfl⟩
      replace E := E.trans E'
      clear E'
      refine W_yes (congrArg some hb89) ?_
      refine W_v (.bool (t92 != (0 : Int))) (x_ibin rfl rfl rfl rfl) rfl ?_
      refine W_v (.bool (t92 != (0 : Int))) (x_pick (k := false) (congrArg Value.bool hb89) rfl) rfl ?_
      refine Wl_nil ?_
      exact ⟨(t92 != (0 : Int)), Option.some.inj H, ⟨rfl, rfl, rfl, rfl, trivial⟩, E, S.pick [1, 0, 2, 3, 4, 5, 6, 7] (by decide)⟩
  clear o91h
  rintro ρ w95 ⟨x90, rfl, hρ, E, S⟩
  rw [agree_eta hρ]
  clear hρ
  have H := o91H
  clear o91H
  refine Wl_nil ?_
  refine tn ?_
  rcases iteS H with ⟨hb96, H⟩ | ⟨hb96, H⟩
  · refine Wp_cond_true (congrArg Value.bool hb96) ?_
    refine Wp_seq ?_
    refine Wp_region_lit ?_
    refine W_v (.bool false) (x_assign rfl) rfl ?_
    refine Wl_nil ?_
    refine tn ?_
    refine Wp_ret ?_
    refine tr (?_)
    obtain rfl := Option.some.inj H
    exact ⟨_, _, _, fun w1 e1 => run_resR (vs := [.bool false]) (FA.cons (rfl) (FA.nil)), HM, E, S.pick [] (by decide), ⟨rfl, rfl⟩⟩
  refine Wp_cond_false (congrArg Value.bool hb96) ?_
  refine Wp_skip ?_
  refine tn ?_
  refine Wp_seq ?_
  refine Wp_seq ?_
  refine Wp_region_lit ?_
  refine W_v (.agg #[.bool false, .slice none 0 0, .slice none 0 0, .slice none 0 0]) (x_build2 (pl := [(0, 1), (1, 1), (2, 1), (3, 1)]) #[.bool false, .slice none 0 0, .slice none 0 0, .slice none 0 0] Try.underlying26 ty26 (by kernel_rfl) rfl (by kernel_rfl)) rfl ?_
  refine W_bslice S #[.string (bs ([97] : Str))] Try.underlying22 ty9 rfl rfl #[.string (bs ([] : Str))] (by kernel_rfl) (by kernel_rfl) rfl ?_
  intro b97 w98 E' S
  replace E := E.trans E'
  clear E'
  replace S := S.blk_row (r := rStr) (l := ([([97] : Str)] : List Str)) 0 rfl 1 (Nat.le_refl 1) rfl (Cells.cons (vs := [.string (bs ([97] : Str))]) (rfl) Cells.nil)
  refine W_v (.agg #[.bool true, .slice (some ⟨b97, 0, none⟩) ([([97] : Str)] : List Str).length 1, .slice none 0 0, .slice none 0 0]) (x_build2 (pl := [(0, 1), (1, 1), (2, 1), (3, 1)]) #[.bool true, .slice (some ⟨b97, 0, none⟩) ([([97] : Str)] : List Str).length 1, .slice none 0 0, .slice none 0 0] Try.underlying26 ty26 (by kernel_rfl) rfl (by kernel_rfl)) rfl ?_
  refine W_bslice S #[.int .u64 1] Try.underlying24 ty41 rfl rfl #[.int .u64 0] (by kernel_rfl) (by kernel_rfl) rfl ?_
  intro b100 w101 E' S
  replace E := E.trans E'
  clear E'
  replace S := S.blk_row (r := (rInt .u64)) (l := ([(1 : Int)] : List Int)) 0 rfl 1 (Nat.le_refl 1) rfl (Cells.cons (vs := [.int .u64 1]) (rfl) Cells.nil)
  refine W_v (.agg #[.bool true, .slice none 0 0, .slice none 0 0, .slice (some ⟨b100, 0, none⟩) ([(1 : Int)] : List Int).length 1]) (x_build2 (pl := [(0, 1), (1, 1), (2, 1), (3, 1)]) #[.bool true, .slice none 0 0, .slice none 0 0, .slice (some ⟨b100, 0, none⟩) ([(1 : Int)] : List Int).length 1] Try.underlying26 ty26 (by kernel_rfl) rfl (by kernel_rfl)) rfl ?_
  refine W_bslice S #[.int .i64 1] Try.underlying23 ty3 rfl rfl #[.int .i64 0] (by kernel_rfl) (by kernel_rfl) rfl ?_
  intro b103 w104 E' S
  replace E := E.trans E'
  clear E'
  replace S := S.blk_row (r := (rInt .i64)) (l := ([(1 : Int)] : List Int)) 0 rfl 1 (Nat.le_refl 1) rfl (Cells.cons (vs := [.int .i64 1]) (rfl) Cells.nil)
  refine W_v (.agg #[.bool true, .slice none 0 0, .slice (some ⟨b103, 0, none⟩) ([(1 : Int)] : List Int).length 1, .slice none 0 0]) (x_build2 (pl := [(0, 1), (1, 1), (2, 1), (3, 1)]) #[.bool true, .slice none 0 0, .slice (some ⟨b103, 0, none⟩) ([(1 : Int)] : List Int).length 1, .slice none 0 0] Try.underlying26 ty26 (by kernel_rfl) rfl (by kernel_rfl)) rfl ?_
  refine W_bslice S #[.string (bs ([97] : Str))] Try.underlying22 ty9 rfl rfl #[.string (bs ([] : Str))] (by kernel_rfl) (by kernel_rfl) rfl ?_
  intro b106 w107 E' S
  replace E := E.trans E'
  clear E'
  replace S := S.blk_row (r := rStr) (l := ([([97] : Str)] : List Str)) 0 rfl 1 (Nat.le_refl 1) rfl (Cells.cons (vs := [.string (bs ([97] : Str))]) (rfl) Cells.nil)
  refine W_bslice S #[.int .i64 1] Try.underlying23 ty3 rfl rfl #[.int .i64 0] (by kernel_rfl) (by kernel_rfl) rfl ?_
  intro b109 w110 E' S
  replace E := E.trans E'
  clear E'
  replace S := S.blk_row (r := (rInt .i64)) (l := ([(1 : Int)] : List Int)) 0 rfl 1 (Nat.le_refl 1) rfl (Cells.cons (vs := [.int .i64 1]) (rfl) Cells.nil)
  refine W_v (.agg #[.bool false, .slice (some ⟨b106, 0, none⟩) ([([97] : Str)] : List Str).length 1, .slice (some ⟨b109, 0, none⟩) ([(1 : Int)] : List Int).length 1, .slice none 0 0]) (x_build2 (pl := [(0, 1), (1, 1), (2, 1), (3, 1)]) #[.bool false, .slice (some ⟨b106, 0, none⟩) ([([97] : Str)] : List Str).length 1, .slice (some ⟨b109, 0, none⟩) ([(1 : Int)] : List Int).length 1, .slice none 0 0] Try.underlying26 ty26 (by kernel_rfl) rfl (by kernel_rfl)) rfl ?_
  refine W_bslice S #[.int .i64 1] Try.underlying23 ty3 rfl rfl #[.int .i64 0] (by kernel_rfl) (by kernel_rfl) rfl ?_
  intro b112 w113 E' S
  replace E := E.trans E'
  clear E'
  replace S := S.blk_row (r := (rInt .i64)) (l := ([(1 : Int)] : List Int)) 0 rfl 1 (Nat.le_refl 1) rfl (Cells.cons (vs := [.int .i64 1]) (rfl) Cells.nil)
  refine W_bslice S #[.int .u64 1] Try.underlying24 ty41 rfl rfl #[.int .u64 0] (by kernel_rfl) (by kernel_rfl) rfl ?_
  intro b115 w116 E' S
  replace E := E.trans E'
  clear E'
  replace S := S.blk_row (r := (rInt .u64)) (l := ([(1 : Int)] : List Int)) 0 rfl 1 (Nat.le_refl 1) rfl (Cells.cons (vs := [.int .u64 1]) (rfl) Cells.nil)
  refine W_v (.agg #[.bool false, .slice none 0 0, .slice (some ⟨b112, 0, none⟩) ([(1 : Int)] : List Int).length 1, .slice (some ⟨b115, 0, none⟩) ([(1 : Int)] : List Int).length 1]) (x_build2 (pl := [(0, 1), (1, 1), (2, 1), (3, 1)]) #[.bool false, .slice none 0 0, .slice (some ⟨b112, 0, none⟩) ([(1 : Int)] : List Int).length 1, .slice (some ⟨b115, 0, none⟩) ([(1 : Int)] : List Int).length 1] Try.underlying26 ty26 (by kernel_rfl) rfl (by kernel_rfl)) rfl ?_
  refine W_bslice S #[.int .i64 1, .int .i64 2] Try.underlying23 ty3 rfl rfl #[.int .i64 0, .int .i64 0] (by kernel_rfl) (by kernel_rfl) rfl ?_
  intro b118 w119 E' S
  replace E := E.trans E'
  clear E'
  replace S := S.blk_row (r := (rInt .i64)) (l := ([(1 : Int), (2 : Int)] : List Int)) 0 rfl 2 (Nat.le_refl 2) rfl (Cells.cons (vs := [.int .i64 1]) (rfl) (Cells.cons (vs := [.int .i64 2]) (rfl) Cells.nil))
  refine W_v (.agg #[.bool false, .slice none 0 0, .slice (some ⟨b118, 0, none⟩) ([(1 : Int), (2 : Int)] : List Int).length 2, .slice none 0 0]) (x_build2 (pl := [(0, 1), (1, 1), (2, 1), (3, 1)]) #[.bool false, .slice none 0 0, .slice (some ⟨b118, 0, none⟩) ([(1 : Int), (2 : Int)] : List Int).length 2, .slice none 0 0] Try.underlying26 ty26 (by kernel_rfl) rfl (by kernel_rfl)) rfl ?_
  refine W_bslice S #[.string (bs ([97] : Str)), .string (bs ([97] : Str))] Try.underlying22 ty9 rfl rfl #[.string (bs ([] : Str)), .string (bs ([] : Str))] (by kernel_rfl) (by kernel_rfl) rfl ?_
  intro b121 w122 E' S
  replace E := E.trans E'
  clear E'
  replace S := S.blk_row (r := rStr) (l := ([([97] : Str), ([97] : Str)] : List Str)) 0 rfl 2 (Nat.le_refl 2) rfl (Cells.cons (vs := [.string (bs ([97] : Str))]) (rfl) (Cells.cons (vs := [.string (bs ([97] : Str))]) (rfl) Cells.nil))
  refine W_bslice S #[.int .u64 1, .int .u64 2] Try.underlying24 ty41 rfl rfl #[.int .u64 0, .int .u64 0] (by kernel_rfl) (by kernel_rfl) rfl ?_
  intro b124 w125 E' S
  replace E := E.trans E'
  clear E'
  replace S := S.blk_row (r := (rInt .u64)) (l := ([(1 : Int), (2 : Int)] : List Int)) 0 rfl 2 (Nat.le_refl 2) rfl (Cells.cons (vs := [.int .u64 1]) (rfl) (Cells.cons (vs := [.int .u64 2]) (rfl) Cells.nil))
  refine W_v (.agg #[.bool true, .slice (some ⟨b121, 0, none⟩) ([([97] : Str), ([97] : Str)] : List Str).length 2, .slice none 0 0, .slice (some ⟨b124, 0, none⟩) ([(1 : Int), (2 : Int)] : List Int).length 2]) (x_build2 (pl := [(0, 1), (1, 1), (2, 1), (3, 1)]) #[.bool true, .slice (some ⟨b121, 0, none⟩) ([([97] : Str), ([97] : Str)] : List Str).length 2, .slice none 0 0, .slice (some ⟨b124, 0, none⟩) ([(1 : Int), (2 : Int)] : List Int).length 2] Try.underlying26 ty26 (by kernel_rfl) rfl (by kernel_rfl)) rfl ?_
  refine W_bslice S #[.string (bs ([98] : Str)), .string (bs ([97] : Str)), .string (bs ([99] : Str))] Try.underlying22 ty9 rfl rfl #[.string (bs ([] : Str)), .string (bs ([] : Str)), .string (bs ([] : Str))] (by kernel_rfl) (by kernel_rfl) rfl ?_
  intro b127 w128 E' S
  replace E := E.trans E'
  clear E'
  replace S := S.blk_row (r := rStr) (l := ([([98] : Str), ([97] : Str), ([99] : Str)] : List Str)) 0 rfl 3 (Nat.le_refl 3) rfl (Cells.cons (vs := [.string (bs ([98] : Str))]) (rfl) (Cells.cons (vs := [.string (bs ([97] : Str))]) (rfl) (Cells.cons (vs := [.string (bs ([99] : Str))]) (rfl) Cells.nil)))
  refine W_bslice S #[.int .u64 1, .int .u64 2, .int .u64 3] Try.underlying24 ty41 rfl rfl #[.int .u64 0, .int .u64 0, .int .u64 0] (by kernel_rfl) (by kernel_rfl) rfl ?_
  intro b130 w131 E' S
  replace E := E.trans E'
  clear E'
  replace S := S.blk_row (r := (rInt .u64)) (l := ([(1 : Int), (2 : Int), (3 : Int)] : List Int)) 0 rfl 3 (Nat.le_refl 3) rfl (Cells.cons (vs := [.int .u64 1]) (rfl) (Cells.cons (vs := [.int .u64 2]) (rfl) (Cells.cons (vs := [.int .u64 3]) (rfl) Cells.nil)))
  refine W_v (.agg #[.bool true, .slice (some ⟨b127, 0, none⟩) ([([98] : Str), ([97] : Str), ([99] : Str)] : List Str).length 3, .slice none 0 0, .slice (some ⟨b130, 0, none⟩) ([(1 : Int), (2 : Int), (3 : Int)] : List Int).length 3]) (x_build2 (pl := [(0, 1), (1, 1), (2, 1), (3, 1)]) #[.bool true, .slice (some ⟨b127, 0, none⟩) ([([98] : Str), ([97] : Str), ([99] : Str)] : List Str).length 3, .slice none 0 0, .slice (some ⟨b130, 0, none⟩) ([(1 : Int), (2 : Int), (3 : Int)] : List Int).length 3] Try.underlying26 ty26 (by kernel_rfl) rfl (by kernel_rfl)) rfl ?_
  refine W_bslice S #[.string (bs ([98] : Str)), .string (bs ([99] : Str)), .string (bs ([97] : Str))] Try.underlying22 ty9 rfl rfl #[.string (bs ([] : Str)), .string (bs ([] : Str)), .string (bs ([] : Str))] (by kernel_rfl) (by kernel_rfl) rfl ?_
  intro b133 w134 E' S
  replace E := E.trans E'
  clear E'
  replace S := S.blk_row (r := rStr) (l := ([([98] : Str), ([99] : Str), ([97] : Str)] : List Str)) 0 rfl 3 (Nat.le_refl 3) rfl (Cells.cons (vs := [.string (bs ([98] : Str))]) (rfl) (Cells.cons (vs := [.string (bs ([99] : Str))]) (rfl) (Cells.cons (vs := [.string (bs ([97] : Str))]) (rfl) Cells.nil)))
  refine W_bslice S #[.int .i64 1, .int .i64 2, .int .i64 3, .int .i64 4] Try.underlying23 ty3 rfl rfl #[.int .i64 0, .int .i64 0, .int .i64 0, .int .i64 0] (by kernel_rfl) (by kernel_rfl) rfl ?_
  intro b136 w137 E' S
  replace E := E.trans E'
  clear E'
  replace S := S.blk_row (r := (rInt .i64)) (l := ([(1 : Int), (2 : Int), (3 : Int), (4 : Int)] : List Int)) 0 rfl 4 (Nat.le_refl 4) rfl (Cells.cons (vs := [.int .i64 1]) (rfl) (Cells.cons (vs := [.int .i64 2]) (rfl) (Cells.cons (vs := [.int .i64 3]) (rfl) (Cells.cons (vs := [.int .i64 4]) (rfl) Cells.nil))))
  refine W_v (.agg #[.bool false, .slice (some ⟨b133, 0, none⟩) ([([98] : Str), ([99] : Str), ([97] : Str)] : List Str).length 3, .slice (some ⟨b136, 0, none⟩) ([(1 : Int), (2 : Int), (3 : Int), (4 : Int)] : List Int).length 4, .slice none 0 0]) (x_build2 (pl := [(0, 1), (1, 1), (2, 1), (3, 1)]) #[.bool false, .slice (some ⟨b133, 0, none⟩) ([([98] : Str), ([99] : Str), ([97] : Str)] : List Str).length 3, .slice (some ⟨b136, 0, none⟩) ([(1 : Int), (2 : Int), (3 : Int), (4 : Int)] : List Int).length 4, .slice none 0 0] Try.underlying26 ty26 (by kernel_rfl) rfl (by kernel_rfl)) rfl ?_
  obtain ⟨M139, hM140, hf141, S⟩ := S.row_freeze 13 rfl
  replace HM := Hp.le_trans HM hM140
  obtain ⟨M142, hM143, hf144, S⟩ := S.row_freeze 12 rfl
  replace HM := Hp.le_trans HM hM143
  replace hf141 := SlR.mono hf141 hM143
  obtain ⟨M145, hM146, hf147, S⟩ := S.row_freeze 11 rfl
  replace HM := Hp.le_trans HM hM146
  replace hf141 := SlR.mono hf141 hM146
  replace hf144 := SlR.mono hf144 hM146
  obtain ⟨M148, hM149, hf150, S⟩ := S.row_freeze 10 rfl
  replace HM := Hp.le_trans HM hM149
  replace hf141 := SlR.mono hf141 hM149
  replace hf144 := SlR.mono hf144 hM149
  replace hf147 := SlR.mono hf147 hM149
  obtain ⟨M151, hM152, hf153, S⟩ := S.row_freeze 9 rfl
  replace HM := Hp.le_trans HM hM152
  replace hf141 := SlR.mono hf141 hM152
  replace hf144 := SlR.mono hf144 hM152
  replace hf147 := SlR.mono hf147 hM152
  replace hf150 := SlR.mono hf150 hM152
  obtain ⟨M154, hM155, hf156, S⟩ := S.row_freeze 8 rfl
  replace HM := Hp.le_trans HM hM155
  replace hf141 := SlR.mono hf141 hM155
  replace hf144 := SlR.mono hf144 hM155
  replace hf147 := SlR.mono hf147 hM155
  replace hf150 := SlR.mono hf150 hM155
  replace hf153 := SlR.mono hf153 hM155
  obtain ⟨M157, hM158, hf159, S⟩ := S.row_freeze 7 rfl
  replace HM := Hp.le_trans HM hM158
  replace hf141 := SlR.mono hf141 hM158
  replace hf144 := SlR.mono hf144 hM158
  replace hf147 := SlR.mono hf147 hM158
  replace hf150 := SlR.mono hf150 hM158
  replace hf153 := SlR.mono hf153 hM158
  replace hf156 := SlR.mono hf156 hM158
  obtain ⟨M160, hM161, hf162, S⟩ := S.row_freeze 6 rfl
  replace HM := Hp.le_trans HM hM161
  replace hf141 := SlR.mono hf141 hM161
  replace hf144 := SlR.mono hf144 hM161
  replace hf147 := SlR.mono hf147 hM161
  replace hf150 := SlR.mono hf150 hM161
  replace hf153 := SlR.mono hf153 hM161
  replace hf156 := SlR.mono hf156 hM161
  replace hf159 := SlR.mono hf159 hM161
  obtain ⟨M163, hM164, hf165, S⟩ := S.row_freeze 5 rfl
  replace HM := Hp.le_trans HM hM164
  replace hf141 := SlR.mono hf141 hM164
  replace hf144 := SlR.mono hf144 hM164
  replace hf147 := SlR.mono hf147 hM164
  replace hf150 := SlR.mono hf150 hM164
  replace hf153 := SlR.mono hf153 hM164
  replace hf156 := SlR.mono hf156 hM164
  replace hf159 := SlR.mono hf159 hM164
  replace hf162 := SlR.mono hf162 hM164
  obtain ⟨M166, hM167, hf168, S⟩ := S.row_freeze 4 rfl
  replace HM := Hp.le_trans HM hM167
  replace hf141 := SlR.mono hf141 hM167
  replace hf144 := SlR.mono hf144 hM167
  replace hf147 := SlR.mono hf147 hM167
  replace hf150 := SlR.mono hf150 hM167
  replace hf153 := SlR.mono hf153 hM167
  replace hf156 := SlR.mono hf156 hM167
  replace hf159 := SlR.mono hf159 hM167
  replace hf162 := SlR.mono hf162 hM167
  replace hf165 := SlR.mono hf165 hM167
  obtain ⟨M169, hM170, hf171, S⟩ := S.row_freeze 3 rfl
  replace HM := Hp.le_trans HM hM170
  replace hf141 := SlR.mono hf141 hM170
  replace hf144 := SlR.mono hf144 hM170
  replace hf147 := SlR.mono hf147 hM170
  replace hf150 := SlR.mono hf150 hM170
  replace hf153 := SlR.mono hf153 hM170
  replace hf156 := SlR.mono hf156 hM170
  replace hf159 := SlR.mono hf159 hM170
  replace hf162 := SlR.mono hf162 hM170
  replace hf165 := SlR.mono hf165 hM170
  replace hf168 := SlR.mono hf168 hM170
  obtain ⟨M172, hM173, hf174, S⟩ := S.row_freeze 2 rfl
  replace HM := Hp.le_trans HM hM173
  replace hf141 := SlR.mono hf141 hM173
  replace hf144 := SlR.mono hf144 hM173
  replace hf147 := SlR.mono hf147 hM173
  replace hf150 := SlR.mono hf150 hM173
  replace hf153 := SlR.mono hf153 hM173
  replace hf156 := SlR.mono hf156 hM173
  replace hf159 := SlR.mono hf159 hM173
  replace hf162 := SlR.mono hf162 hM173
  replace hf165 := SlR.mono hf165 hM173
  replace hf168 := SlR.mono hf168 hM173
  replace hf171 := SlR.mono hf171 hM173
  obtain ⟨M175, hM176, hf177, S⟩ := S.row_freeze 1 rfl
  replace HM := Hp.le_trans HM hM176
  replace hf141 := SlR.mono hf141 hM176
  replace hf144 := SlR.mono hf144 hM176
  replace hf147 := SlR.mono hf147 hM176
  replace hf150 := SlR.mono hf150 hM176
  replace hf153 := SlR.mono hf153 hM176
  replace hf156 := SlR.mono hf156 hM176
  replace hf159 := SlR.mono hf159 hM176
  replace hf162 := SlR.mono hf162 hM176
  replace hf165 := SlR.mono hf165 hM176
  replace hf168 := SlR.mono hf168 hM176
  replace hf171 := SlR.mono hf171 hM176
  replace hf174 := SlR.mono hf174 hM176
  obtain ⟨M178, hM179, hf180, S⟩ := S.row_freeze 0 rfl
  replace HM := Hp.le_trans HM hM179
  replace hf141 := SlR.mono hf141 hM179
  replace hf144 := SlR.mono hf144 hM179
  replace hf147 := SlR.mono hf147 hM179
  replace hf150 := SlR.mono hf150 hM179
  replace hf153 := SlR.mono hf153 hM179
  replace hf156 := SlR.mono hf156 hM179
  replace hf159 := SlR.mono hf159 hM179
  replace hf162 := SlR.mono hf162 hM179
  replace hf165 := SlR.mono hf165 hM179
  replace hf168 := SlR.mono hf168 hM179
  replace hf171 := SlR.mono hf171 hM179
  replace hf174 := SlR.mono hf174 hM179
  replace hf177 := SlR.mono hf177 hM179
  refine W_bslice S #[.bool false, .slice none 0 0, .slice none 0 0, .slice none 0 0, .bool true, .slice (some ⟨b97, 0, none⟩) ([([97] : Str)] : List Str).length 1, .slice none 0 0, .slice none 0 0, .bool true, .slice none 0 0, .slice none 0 0, .slice (some ⟨b100, 0, none⟩) ([(1 : Int)] : List Int).length 1, .bool true, .slice none 0 0, .slice (some ⟨b103, 0, none⟩) ([(1 : Int)] : List Int).length 1, .slice none 0 0, .bool false, .slice (some ⟨b106, 0, none⟩) ([([97] : Str)] : List Str).length 1, .slice (some ⟨b109, 0, none⟩) ([(1 : Int)] : List Int).length 1, .slice none 0 0, .bool false, .slice none 0 0, .slice (some ⟨b112, 0, none⟩) ([(1 : Int)] : List Int).length 1, .slice (some ⟨b115, 0, none⟩) ([(1 : Int)] : List Int).length 1, .bool false, .slice none 0 0, .slice (some ⟨b118, 0, none⟩) ([(1 : Int), (2 : Int)] : List Int).length 2, .slice none 0 0, .bool true, .slice (some ⟨b121, 0, none⟩) ([([97] : Str), ([97] : Str)] : List Str).length 2, .slice none 0 0, .slice (some ⟨b124, 0, none⟩) ([(1 : Int), (2 : Int)] : List Int).length 2, .bool true, .slice (some ⟨b127, 0, none⟩) ([([98] : Str), ([97] : Str), ([99] : Str)] : List Str).length 3, .slice none 0 0, .slice (some ⟨b130, 0, none⟩) ([(1 : Int), (2 : Int), (3 : Int)] : List Int).length 3, .bool false, .slice (some ⟨b133, 0, none⟩) ([([98] : Str), ([99] : Str), ([97] : Str)] : List Str).length 3, .slice (some ⟨b136, 0, none⟩) ([(1 : Int), (2 : Int), (3 : Int), (4 : Int)] : List Int).length 4, .slice none 0 0] Try.underlying49 ty26 rfl rfl #[.bool false, .slice none 0 0, .slice none 0 0, .slice none 0 0, .bool false, .slice none 0 0, .slice none 0 0, .slice none 0 0, .bool false, .slice none 0 0, .slice none 0 0, .slice none 0 0, .bool false, .slice none 0 0, .slice none 0 0, .slice none 0 0, .bool false, .slice none 0 0, .slice none 0 0, .slice none 0 0, .bool false, .slice none 0 0, .slice none 0 0, .slice none 0 0, .bool false, .slice none 0 0, .slice none 0 0, .slice none 0 0, .bool false, .slice none 0 0, .slice none 0 0, .slice none 0 0, .bool false, .slice none 0 0, .slice none 0 0, .slice none 0 0, .bool false, .slice none 0 0, .slice none 0 0, .slice none 0 0] (by kernel_rfl) (by kernel_rfl) rfl ?_
  intro b181 w182 E' S
  replace E := E.trans E'
  clear E'
  replace S := S.blk_row (r := r_fork_Node) (l := ([(⟨false, ([] : (List Str)), ([] : (List Int)), ([] : (List Int))⟩ : fork_Node), (⟨true, ([([97] : Str)] : List Str), ([] : (List Int)), ([] : (List Int))⟩ : fork_Node), (⟨true, ([] : (List Str)), ([] : (List Int)), ([(1 : Int)] : List Int)⟩ : fork_Node), (⟨true, ([] : (List Str)), ([(1 : Int)] : List Int), ([] : (List Int))⟩ : fork_Node), (⟨false, ([([97] : Str)] : List Str), ([(1 : Int)] : List Int), ([] : (List Int))⟩ : fork_Node), (⟨false, ([] : (List Str)), ([(1 : Int)] : List Int), ([(1 : Int)] : List Int)⟩ : fork_Node), (⟨false, ([] : (List Str)), ([(1 : Int), (2 : Int)] : List Int), ([] : (List Int))⟩ : fork_Node), (⟨true, ([([97] : Str), ([97] : Str)] : List Str), ([] : (List Int)), ([(1 : Int), (2 : Int)] : List Int)⟩ : fork_Node), (⟨true, ([([98] : Str), ([97] : Str), ([99] : Str)] : List Str), ([] : (List Int)), ([(1 : Int), (2 : Int), (3 : Int)] : List Int)⟩ : fork_Node), (⟨false, ([([98] : Str), ([99] : Str), ([97] : Str)] : List Str), ([(1 : Int), (2 : Int), (3 : Int), (4 : Int)] : List Int), ([] : (List Int))⟩ : fork_Node)] : List fork_Node)) 0 rfl 10 (Nat.le_refl 10) rfl (Cells.cons (vs := [.bool false, .slice none 0 0, .slice none 0 0, .slice none 0 0]) (⟨_, _, _, (SlW.nil _ _), (SlW.nil _ _), (SlW.nil _ _), rfl⟩) (Cells.cons (vs := [.bool true, .slice (some ⟨b97, 0, none⟩) ([([97] : Str)] : List Str).length 1, .slice none 0 0, .slice none 0 0]) (⟨_, _, _, hf141, (SlW.nil _ _), (SlW.nil _ _), rfl⟩) (Cells.cons (vs := [.bool true, .slice none 0 0, .slice none 0 0, .slice (some ⟨b100, 0, none⟩) ([(1 : Int)] : List Int).length 1]) (⟨_, _, _, (SlW.nil _ _), (SlW.nil _ _), hf144, rfl⟩) (Cells.cons (vs := [.bool true, .slice none 0 0, .slice (some ⟨b103, 0, none⟩) ([(1 : Int)] : List Int).length 1, .slice none 0 0]) (⟨_, _, _, (SlW.nil _ _), hf147, (SlW.nil _ _), rfl⟩) (Cells.cons (vs := [.bool false, .slice (some ⟨b106, 0, none⟩) ([([97] : Str)] : List Str).length 1, .slice (some ⟨b109, 0, none⟩) ([(1 : Int)] : List Int).length 1, .slice none 0 0]) (⟨_, _, _, hf150, hf153, (SlW.nil _ _), rfl⟩) (Cells.cons (vs := [.bool false, .slice none 0 0, .slice (some ⟨b112, 0, none⟩) ([(1 : Int)] : List Int).length 1, .slice (some ⟨b115, 0, none⟩) ([(1 : Int)] : List Int).length 1]) (⟨_, _, _, (SlW.nil _ _), hf156, hf159, rfl⟩) (Cells.cons (vs := [.bool false, .slice none 0 0, .slice (some ⟨b118, 0, none⟩) ([(1 : Int), (2 : Int)] : List Int).length 2, .slice none 0 0]) (⟨_, _, _, (SlW.nil _ _), hf162, (SlW.nil _ _), rfl⟩) (Cells.cons (vs := [.bool true, .slice (some ⟨b121, 0, none⟩) ([([97] : Str), ([97] : Str)] : List Str).length 2, .slice none 0 0, .slice (some ⟨b124, 0, none⟩) ([(1 : Int), (2 : Int)] : List Int).length 2]) (⟨_, _, _, hf165, (SlW.nil _ _), hf168, rfl⟩) (Cells.cons (vs := [.bool true, .slice (some ⟨b127, 0, none⟩) ([([98] : Str), ([97] : Str), ([99] : Str)] : List Str).length 3, .slice none 0 0, .slice (some ⟨b130, 0, none⟩) ([(1 : Int), (2 : Int), (3 : Int)] : List Int).length 3]) (⟨_, _, _, hf171, (SlW.nil _ _), hf174, rfl⟩) (Cells.cons (vs := [.bool false, .slice (some ⟨b133, 0, none⟩) ([([98] : Str), ([99] : Str), ([97] : Str)] : List Str).length 3, .slice (some ⟨b136, 0, none⟩) ([(1 : Int), (2 : Int), (3 : Int), (4 : Int)] : List Int).length 4, .slice none 0 0]) (⟨_, _, _, hf177, hf180, (SlW.nil _ _), rfl⟩) Cells.nil))))))))))
  obtain ⟨x184, he185, H⟩ := bindS H
  replace he185 := Option.some.inj he185
  rw [he185] at S
  rw [show Value.slice (some ⟨b181, 0, none⟩) 10 10 = Value.slice (some ⟨b181, 0, none⟩) x184.length 10 from (by rw [← he185]; rfl)]
  clear he185
  refine W_v (.int .i64 (x184.length : Int)) (x_len_slice (n := x184.length) Try.underlying49 rfl) rfl ?_
  refine W_v (.int .i64 0) (x_move rfl) rfl ?_
  refine Wl_nil ?_
  refine tn ?_
  obtain ⟨o648, o648h, o648H⟩ := bindS H
  clear H
  refine Wp_blockJ (fun ρ w' => ∃ (Mj : Hp), .inr () = o648 ∧ Agree ρ [(1, .pointer (some ⟨b7, 0, none⟩)), (2, .pointer (some ⟨b17, 0, none⟩)), (3, .pointer (some ⟨b24, 0, none⟩))] ∧ M178.le Mj ∧ Ext w w' ∧ St w' Mj F [Blk b24 (.cells #[.bool false, .slice none 0 0, .slice (some ⟨b21, 0, none⟩) ([(5 : Int)] : List Int).length 1, .slice none 0 0] 26 (0, 0)), Row (rInt .i64) 3 (.slice (some ⟨b21, 0, none⟩) ([(5 : Int)] : List Int).length 1) ([(5 : Int)] : List Int), Blk b17 (.cells #[.bool false, .slice (some ⟨b11, 0, none⟩) ([([97] : Str)] : List Str).length 1, .slice (some ⟨b14, 0, none⟩) ([(1 : Int), (2 : Int)] : List Int).length 2, .slice none 0 0] 26 (0, 0)), Row (rInt .i64) 3 (.slice (some ⟨b14, 0, none⟩) ([(1 : Int), (2 : Int)] : List Int).length 2) ([(1 : Int), (2 : Int)] : List Int), Row rStr 9 (.slice (some ⟨b11, 0, none⟩) ([([97] : Str)] : List Str).length 1) ([([97] : Str)] : List Str), Blk b7 (.cells #[.bool true, .slice (some ⟨b1, 0, none⟩) ([([] : Str), ([97] : Str)] : List Str).length 2, .slice none 0 0, .slice (some ⟨b4, 0, none⟩) ([(1 : Int), (2 : Int)] : List Int).length 2] 26 (0, 0)), Row (rInt .u64) 41 (.slice (some ⟨b4, 0, none⟩) ([(1 : Int), (2 : Int)] : List Int).length 2) ([(1 : Int), (2 : Int)] : List Int), Row rStr 9 (.slice (some ⟨b1, 0, none⟩) ([([] : Str), ([97] : Str)] : List Str).length 2) ([([] : Str), ([97] : Str)] : List Str)]) ?_ ?_
  · skip
    refine Wp_loop (fun n ρ w' => ∃ (x494 : Int) (Mj : Hp), ferrymanlaw13_ForkNames_l0 x184 n x494 = some o648 ∧ Agree ρ [(1, .pointer (some ⟨b7, 0, none⟩)), (2, .pointer (some ⟨b17, 0, none⟩)), (3, .pointer (some ⟨b24, 0, none⟩)), (116, .slice (some ⟨b181, 0, none⟩) x184.length 10), (117, .int .i64 (x184.length : Int)), (118, .int .i64 x494)] ∧ M178.le Mj ∧ Ext w w' ∧ St w' Mj F [Row r_fork_Node 26 (.slice (some ⟨b181, 0, none⟩) x184.length 10) x184, Blk b24 (.cells #[.bool false, .slice none 0 0, .slice (some ⟨b21, 0, none⟩) ([(5 : Int)] : List Int).length 1, .slice none 0 0] 26 (0, 0)), Row (rInt .i64) 3 (.slice (some ⟨b21, 0, none⟩) ([(5 : Int)] : List Int).length 1) ([(5 : Int)] : List Int), Blk b17 (.cells #[.bool false, .slice (some ⟨b11, 0, none⟩) ([([97] : Str)] : List Str).length 1, .slice (some ⟨b14, 0, none⟩) ([(1 : Int), (2 : Int)] : List Int).length 2, .slice none 0 0] 26 (0, 0)), Row (rInt .i64) 3 (.slice (some ⟨b14, 0, none⟩) ([(1 : Int), (2 : Int)] : List Int).length 2) ([(1 : Int), (2 : Int)] : List Int), Row rStr 9 (.slice (some ⟨b11, 0, none⟩) ([([97] : Str)] : List Str).length 1) ([([97] : Str)] : List Str), Blk b7 (.cells #[.bool true, .slice (some ⟨b1, 0, none⟩) ([([] : Str), ([97] : Str)] : List Str).length 2, .slice none 0 0, .slice (some ⟨b4, 0, none⟩) ([(1 : Int), (2 : Int)] : List Int).length 2] 26 (0, 0)), Row (rInt .u64) 41 (.slice (some ⟨b4, 0, none⟩) ([(1 : Int), (2 : Int)] : List Int).length 2) ([(1 : Int), (2 : Int)] : List Int), Row rStr 9 (.slice (some ⟨b1, 0, none⟩) ([([] : Str), ([97] : Str)] : List Str).length 2) ([([] : Str), ([97] : Str)] : List Str)]) k ?_ ?_
    · skip
      exact ⟨(0 : Int), M178, o648h, ⟨rfl, rfl, rfl, rfl, rfl, rfl, trivial⟩, (Hp.le_refl M178), E, S.pick [0, 1, 2, 3, 4, 5, 6, 7, 8] (by decide)⟩
    · intro n
      rintro ρ w649 ⟨x494, M650, H, hρ, hM651, E, S⟩
      rw [agree_eta hρ]
      clear hρ
      replace HM := Hp.le_trans HM hM651
      replace hf141 := SlR.mono hf141 hM651
      replace hf144 := SlR.mono hf144 hM651
      replace hf147 := SlR.mono hf147 hM651
      replace hf150 := SlR.mono hf150 hM651
      replace hf153 := SlR.mono hf153 hM651
      replace hf156 := SlR.mono hf156 hM651
      replace hf159 := SlR.mono hf159 hM651
      replace hf162 := SlR.mono hf162 hM651
      replace hf165 := SlR.mono hf165 hM651
      replace hf168 := SlR.mono hf168 hM651
      replace hf171 := SlR.mono hf171 hM651
      replace hf174 := SlR.mono hf174 hM651
      replace hf177 := SlR.mono hf177 hM651
      replace hf180 := SlR.mono hf180 hM651
      cases n with
      | zero => cases H
      | succ k =>
        rw [ferrymanlaw13_ForkNames_l0.eq_2] at H
        refine Wp_seq ?_
        refine Wp_region_lit ?_
        refine W_v (.bool (decide (x494 < (x184.length : Int)))) (x_ibin rfl rfl rfl rfl) rfl ?_
        refine Wl_nil ?_
        refine tn ?_
        refine Wp_seq ?_
        rcases iteS H with ⟨hb652, H⟩ | ⟨hb652, H⟩
        · refine Wp_cond_true (congrArg Value.bool hb652) ?_
          refine Wp_skip ?_
          refine tn ?_
          refine Wp_seq ?_
          refine Wp_block ?_
          refine Wp_seq ?_
          refine Wp_region_lit ?_
          obtain ⟨⟨p653, p654⟩, H⟩ := chkS H
          obtain ⟨b655, o656, cs657, _, _, ee662, hb658, vs659, hR660, hc661⟩ := SlW.at' (S.row_read 0 rfl) p653 p654
          obtain ⟨v666, v670, v674, hs665, hs669, hs673, rfl⟩ := hR660
          obtain ⟨A663, c664, rfl, _⟩ := hs665.form
          obtain ⟨A667, c668, rfl, _⟩ := hs669.form
          obtain ⟨A671, c672, rfl, _⟩ := hs673.form
          refine W_v (.pointer (some ⟨b655, o656 + x494.toNat * 4, none⟩)) (x_indexAddr Try.underlying49 ty26 (slA ee662) rfl p653 p654) rfl ?_
          refine W_v (.agg #[.bool ((rd x184 x494).Leaf), .slice A663 ((rd x184 x494).Keys).length c664, .slice A667 ((rd x184 x494).Kids).length c668, .slice A671 ((rd x184 x494).Rows).length c672]) (x_loadA (Hp.of_get hb658) ty26 rfl (sub_el hc661 0 rfl) rfl rfl) rfl ?_
          refine W_alloc S #[.bool false, .slice none 0 0, .slice none 0 0, .slice none 0 0] ty26 rfl rfl ?_
          intro b675 w676 E' S
          replace E := E.trans E'
          clear E'
          refine W_store S 0 rfl ty26 rfl rfl [.bool ((rd x184 x494).Leaf), .slice A663 ((rd x184 x494).Keys).length c664, .slice A667 ((rd x184 x494).Kids).length c668, .slice A671 ((rd x184 x494).Rows).length c672] rfl rfl rfl #[.bool ((rd x184 x494).Leaf), .slice A663 ((rd x184 x494).Keys).length c664, .slice A667 ((rd x184 x494).Kids).length c668, .slice A671 ((rd x184 x494).Rows).length c672] rfl rfl ?_
          intro w678 E' S
          replace E := E.trans E'
          clear E'
          refine Wl_nil ?_
          refine tn ?_
          refine Wp_seq ?_
          refine Wp_region_lit ?_
          refine W_v (.agg #[.bool ((rd x184 x494).Leaf), .slice A663 ((rd x184 x494).Keys).length c664, .slice A667 ((rd x184 x494).Kids).length c668, .slice A671 ((rd x184 x494).Rows).length c672]) (x_loadA (S.blk 0 rfl) ty26 rfl (sub_of_extract rfl) rfl rfl) rfl ?_
          obtain ⟨t679, ht680, H⟩ := bindS H
          refine W_callF fn12 (fork_Place.con k M650 A663 c664 A667 c668 A671 c672 (rd x184 x494) ([97] : Str) t679 hs665 hs669 hs673 ht680) S rfl rfl (by rintro _ _ _ ⟨_, rfl⟩; exact flat_nil) ?_
          rintro _ w681 _ Γ' E' S ⟨rfl, rfl⟩
          replace E := E.trans E'
          clear E'
          refine W_v (.tuple #[.int .i64 t679.1, .bool t679.2]) (x_move rfl) rfl ?_
          refine W_v (.int .i64 t679.1) (x_extract rfl rfl) rfl ?_
          refine W_v (.bool t679.2) (x_extract rfl rfl) rfl ?_
          refine W_v (.int .i64 t679.1) (x_assign rfl) rfl ?_
          refine W_v (.bool t679.2) (x_assign rfl) rfl ?_
          refine Wl_nil ?_
          refine tn ?_
          refine Wp_seq ?_
          refine Wp_region_lit ?_
          refine W_v (.agg #[.bool ((rd x184 x494).Leaf), .slice A663 ((rd x184 x494).Keys).length c664, .slice A667 ((rd x184 x494).Kids).length c668, .slice A671 ((rd x184 x494).Rows).length c672]) (x_loadA (S.blk 0 rfl) ty26 rfl (sub_of_extract rfl) rfl rfl) rfl ?_
          obtain ⟨t682, ht683, H⟩ := bindS H
          refine W_callF fn19 (fork_Put.con k M650 A663 c664 A667 c668 A671 c672 (rd x184 x494) ([120] : Str) (1 : Int) t682 hs665 hs669 hs673 ht683) S rfl rfl (by rintro _ _ _ ⟨_, _, _, _, _, _, _, rfl⟩; exact (flat_cons (flat_row (fun _ _ _ _ h => h)) (flat_cons (flat_row (fun _ _ _ _ h => h)) (flat_cons (flat_row (fun _ _ _ _ h => h)) flat_nil)))) ?_
          rintro _ w693 _ Γ' E' S ⟨A684, c685, A687, c688, A690, c691, rfl, rfl⟩
          replace E := E.trans E'
          clear E'
          refine W_v (.tuple #[.agg #[.bool t682.1.Leaf, .slice A684 t682.1.Keys.length c685, .slice A687 t682.1.Kids.length c688, .slice A690 t682.1.Rows.length c691], .int .i64 t682.2]) (x_move rfl) rfl ?_
          refine W_v (.agg #[.bool t682.1.Leaf, .slice A684 t682.1.Keys.length c685, .slice A687 t682.1.Kids.length c688, .slice A690 t682.1.Rows.length c691]) (x_extract rfl rfl) rfl ?_
          refine W_v (.int .i64 t682.2) (x_extract rfl rfl) rfl ?_
          refine W_alloc S #[.bool false, .slice none 0 0, .slice none 0 0, .slice none 0 0] ty26 rfl rfl ?_
          intro b694 w695 E' S
          replace E := E.trans E'
          clear E'
          refine W_store S 0 rfl ty26 rfl rfl [.bool t682.1.Leaf, .slice A684 t682.1.Keys.length c685, .slice A687 t682.1.Kids.length c688, .slice A690 t682.1.Rows.length c691] rfl rfl rfl #[.bool t682.1.Leaf, .slice A684 t682.1.Keys.length c685, .slice A687 t682.1.Kids.length c688, .slice A690 t682.1.Rows.length c691] rfl rfl ?_
          intro w697 E' S
          replace E := E.trans E'
          clear E'
          refine W_v (.int .i64 t682.2) (x_assign rfl) rfl ?_
          refine Wl_nil ?_
          refine tn ?_
          refine Wp_seq ?_
          refine Wp_region_lit ?_
          refine W_v (.agg #[.bool ((rd x184 x494).Leaf), .slice A663 ((rd x184 x494).Keys).length c664, .slice A667 ((rd x184 x494).Kids).length c668, .slice A671 ((rd x184 x494).Rows).length c672]) (x_loadA (S.blk 4 rfl) ty26 rfl (sub_of_extract rfl) rfl rfl) rfl ?_
          obtain ⟨t698, ht699, H⟩ := bindS H
          refine W_callF fn18 (fork_Take.con k M650 A663 c664 A667 c668 A671 c672 (rd x184 x494) ([97] : Str) t698 hs665 hs669 hs673 ht699) S rfl rfl (by rintro _ _ _ ⟨_, _, _, _, _, _, _, rfl⟩; exact (flat_cons (flat_row (fun _ _ _ _ h => h)) (flat_cons (flat_row (fun _ _ _ _ h => h)) (flat_cons (flat_row (fun _ _ _ _ h => h)) flat_nil)))) ?_
          rintro _ w709 _ Γ' E' S ⟨A700, c701, A703, c704, A706, c707, rfl, rfl⟩
          replace E := E.trans E'
          clear E'
          refine W_v (.tuple #[.agg #[.bool t698.1.Leaf, .slice A700 t698.1.Keys.length c701, .slice A703 t698.1.Kids.length c704, .slice A706 t698.1.Rows.length c707], .int .i64 t698.2]) (x_move rfl) rfl ?_
          refine W_v (.agg #[.bool t698.1.Leaf, .slice A700 t698.1.Keys.length c701, .slice A703 t698.1.Kids.length c704, .slice A706 t698.1.Rows.length c707]) (x_extract rfl rfl) rfl ?_
          refine W_v (.int .i64 t698.2) (x_extract rfl rfl) rfl ?_
          refine W_alloc S #[.bool false, .slice none 0 0, .slice none 0 0, .slice none 0 0] ty26 rfl rfl ?_
          intro b710 w711 E' S
          replace E := E.trans E'
          clear E'
          refine W_store S 0 rfl ty26 rfl rfl [.bool t698.1.Leaf, .slice A700 t698.1.Keys.length c701, .slice A703 t698.1.Kids.length c704, .slice A706 t698.1.Rows.length c707] rfl rfl rfl #[.bool t698.1.Leaf, .slice A700 t698.1.Keys.length c701, .slice A703 t698.1.Kids.length c704, .slice A706 t698.1.Rows.length c707] rfl rfl ?_
          intro w713 E' S
          replace E := E.trans E'
          clear E'
          refine W_v (.int .i64 t698.2) (x_assign rfl) rfl ?_
          refine Wl_nil ?_
          refine tn ?_
          refine Wp_seq ?_
          refine Wp_region_lit ?_
          refine W_v (.agg #[.bool ((rd x184 x494).Leaf), .slice A663 ((rd x184 x494).Keys).length c664, .slice A667 ((rd x184 x494).Kids).length c668, .slice A671 ((rd x184 x494).Rows).length c672]) (x_loadA (S.blk 8 rfl) ty26 rfl (sub_of_extract rfl) rfl rfl) rfl ?_
          obtain ⟨t714, ht715, H⟩ := bindS H
          refine W_call fn15 (fork_Split.con k M650 A663 c664 A667 c668 A671 c672 (rd x184 x494) t714 hs665 hs669 hs673 ht715) (Γ1 := []) (Γ2 := [Blk b710 (.cells #[.bool t698.1.Leaf, .slice A700 t698.1.Keys.length c701, .slice A703 t698.1.Kids.length c704, .slice A706 t698.1.Rows.length c707] 26 (0, 0)), Row rStr 9 (.slice A700 t698.1.Keys.length c701) t698.1.Keys, Row (rInt .i64) 3 (.slice A703 t698.1.Kids.length c704) t698.1.Kids, Row (rInt .u64) 41 (.slice A706 t698.1.Rows.length c707) t698.1.Rows, Blk b694 (.cells #[.bool t682.1.Leaf, .slice A684 t682.1.Keys.length c685, .slice A687 t682.1.Kids.length c688, .slice A690 t682.1.Rows.length c691] 26 (0, 0)), Row rStr 9 (.slice A684 t682.1.Keys.length c685) t682.1.Keys, Row (rInt .i64) 3 (.slice A687 t682.1.Kids.length c688) t682.1.Kids, Row (rInt .u64) 41 (.slice A690 t682.1.Rows.length c691) t682.1.Rows, Blk b675 (.cells #[.bool ((rd x184 x494).Leaf), .slice A663 ((rd x184 x494).Keys).length c664, .slice A667 ((rd x184 x494).Kids).length c668, .slice A671 ((rd x184 x494).Rows).length c672] 26 (0, 0)), Row r_fork_Node 26 (.slice (some ⟨b181, 0, none⟩) x184.length 10) x184, Blk b24 (.cells #[.bool false, .slice none 0 0, .slice (some ⟨b21, 0, none⟩) ([(5 : Int)] : List Int).length 1, .slice none 0 0] 26 (0, 0)), Row (rInt .i64) 3 (.slice (some ⟨b21, 0, none⟩) ([(5 : Int)] : List Int).length 1) ([(5 : Int)] : List Int), Blk b17 (.cells #[.bool false, .slice (some ⟨b11, 0, none⟩) ([([97] : Str)] : List Str).length 1, .slice (some ⟨b14, 0, none⟩) ([(1 : Int), (2 : Int)] : List Int).length 2, .slice none 0 0] 26 (0, 0)), Row (rInt .i64) 3 (.slice (some ⟨b14, 0, none⟩) ([(1 : Int), (2 : Int)] : List Int).length 2) ([(1 : Int), (2 : Int)] : List Int), Row rStr 9 (.slice (some ⟨b11, 0, none⟩) ([([97] : Str)] : List Str).length 1) ([([97] : Str)] : List Str), Blk b7 (.cells #[.bool true, .slice (some ⟨b1, 0, none⟩) ([([] : Str), ([97] : Str)] : List Str).length 2, .slice none 0 0, .slice (some ⟨b4, 0, none⟩) ([(1 : Int), (2 : Int)] : List Int).length 2] 26 (0, 0)), Row (rInt .u64) 41 (.slice (some ⟨b4, 0, none⟩) ([(1 : Int), (2 : Int)] : List Int).length 2) ([(1 : Int), (2 : Int)] : List Int), Row rStr 9 (.slice (some ⟨b1, 0, none⟩) ([([] : Str), ([97] : Str)] : List Str).length 2) ([([] : Str), ([97] : Str)] : List Str)]) S rfl rfl ?_
          rintro _ w734 M735 Γ' hM736 E' S ⟨A716, c717, A719, c720, A722, c723, A725, c726, A728, c729, A731, c732, rfl, hs718, hs721, hs724, hs727, hs730, hs733, rfl⟩
          replace HM := Hp.le_trans HM hM736
          replace hM651 := Hp.le_trans hM651 hM736
          replace hf141 := SlR.mono hf141 hM736
          replace hf144 := SlR.mono hf144 hM736
          replace hf147 := SlR.mono hf147 hM736
          replace hf150 := SlR.mono hf150 hM736
          replace hf153 := SlR.mono hf153 hM736
          replace hf156 := SlR.mono hf156 hM736
          replace hf159 := SlR.mono hf159 hM736
          replace hf162 := SlR.mono hf162 hM736
          replace hf165 := SlR.mono hf165 hM736
          replace hf168 := SlR.mono hf168 hM736
          replace hf171 := SlR.mono hf171 hM736
          replace hf174 := SlR.mono hf174 hM736
          replace hf177 := SlR.mono hf177 hM736
          replace hf180 := SlR.mono hf180 hM736
          replace hs665 := SlR.mono hs665 hM736
          replace hs669 := SlR.mono hs669 hM736
          replace hs673 := SlR.mono hs673 hM736
          replace E := E.trans E'
          clear E'
          refine W_v (.tuple #[.agg #[.bool t714.1.Leaf, .slice A716 t714.1.Keys.length c717, .slice A719 t714.1.Kids.length c720, .slice A722 t714.1.Rows.length c723], .agg #[.bool t714.2.1.Leaf, .slice A725 t714.2.1.Keys.length c726, .slice A728 t714.2.1.Kids.length c729, .slice A731 t714.2.1.Rows.length c732], .string (bs t714.2.2.1), .int .i64 t714.2.2.2]) (x_move rfl) rfl ?_
          refine W_v (.agg #[.bool t714.1.Leaf, .slice A716 t714.1.Keys.length c717, .slice A719 t714.1.Kids.length c720, .slice A722 t714.1.Rows.length c723]) (x_extract rfl rfl) rfl ?_
          refine W_v (.agg #[.bool t714.2.1.Leaf, .slice A725 t714.2.1.Keys.length c726, .slice A728 t714.2.1.Kids.length c729, .slice A731 t714.2.1.Rows.length c732]) (x_extract rfl rfl) rfl ?_
          refine W_v (.string (bs t714.2.2.1)) (x_extract rfl rfl) rfl ?_
          refine W_v (.int .i64 t714.2.2.2) (x_extract rfl rfl) rfl ?_
          refine W_alloc S #[.bool false, .slice none 0 0, .slice none 0 0, .slice none 0 0] ty26 rfl rfl ?_
          intro b737 w738 E' S
          replace E := E.trans E'
          clear E'
          refine W_alloc S #[.bool false, .slice none 0 0, .slice none 0 0, .slice none 0 0] ty26 rfl rfl ?_
          intro b740 w741 E' S
          replace E := E.trans E'
          clear E'
          refine W_store S 1 rfl ty26 rfl rfl [.bool t714.1.Leaf, .slice A716 t714.1.Keys.length c717, .slice A719 t714.1.Kids.length c720, .slice A722 t714.1.Rows.length c723] rfl rfl rfl #[.bool t714.1.Leaf, .slice A716 t714.1.Keys.length c717, .slice A719 t714.1.Kids.length c720, .slice A722 t714.1.Rows.length c723] rfl rfl ?_
          intro w743 E' S
          replace E := E.trans E'
          clear E'
          refine W_store S 0 rfl ty26 rfl rfl [.bool t714.2.1.Leaf, .slice A725 t714.2.1.Keys.length c726, .slice A728 t714.2.1.Kids.length c729, .slice A731 t714.2.1.Rows.length c732] rfl rfl rfl #[.bool t714.2.1.Leaf, .slice A725 t714.2.1.Keys.length c726, .slice A728 t714.2.1.Kids.length c729, .slice A731 t714.2.1.Rows.length c732] rfl rfl ?_
          intro w744 E' S
          replace E := E.trans E'
          clear E'
          refine W_v (.string (bs t714.2.2.1)) (x_assign rfl) rfl ?_
          refine W_v (.int .i64 t714.2.2.2) (x_assign rfl) rfl ?_
          refine Wl_nil ?_
          refine tn ?_
          refine Wp_seq ?_
          refine Wp_region_lit ?_
          refine W_v (.agg #[.bool ((rd x184 x494).Leaf), .slice A663 ((rd x184 x494).Keys).length c664, .slice A667 ((rd x184 x494).Kids).length c668, .slice A671 ((rd x184 x494).Rows).length c672]) (x_loadA (S.blk 10 rfl) ty26 rfl (sub_of_extract rfl) rfl rfl) rfl ?_
          obtain ⟨t745, ht746, H⟩ := bindS H
          refine W_callF fn21 (fork_Graft.con k M735 A663 c664 A667 c668 A671 c672 (rd x184 x494) ([120] : Str) (1 : Int) t745 hs665 hs669 hs673 ht746) S rfl rfl (by rintro _ _ _ ⟨_, _, _, _, _, _, _, rfl⟩; exact (flat_cons (flat_row (fun _ _ _ _ h => h)) (flat_cons (flat_row (fun _ _ _ _ h => h)) (flat_cons (flat_row (fun _ _ _ _ h => h)) flat_nil)))) ?_
          rintro _ w756 _ Γ' E' S ⟨A747, c748, A750, c751, A753, c754, rfl, rfl⟩
          replace E := E.trans E'
          clear E'
          refine W_v (.tuple #[.agg #[.bool t745.1.Leaf, .slice A747 t745.1.Keys.length c748, .slice A750 t745.1.Kids.length c751, .slice A753 t745.1.Rows.length c754], .int .i64 t745.2]) (x_move rfl) rfl ?_
          refine W_v (.agg #[.bool t745.1.Leaf, .slice A747 t745.1.Keys.length c748, .slice A750 t745.1.Kids.length c751, .slice A753 t745.1.Rows.length c754]) (x_extract rfl rfl) rfl ?_
          refine W_v (.int .i64 t745.2) (x_extract rfl rfl) rfl ?_
          refine W_alloc S #[.bool false, .slice none 0 0, .slice none 0 0, .slice none 0 0] ty26 rfl rfl ?_
          intro b757 w758 E' S
          replace E := E.trans E'
          clear E'
          refine W_store S 0 rfl ty26 rfl rfl [.bool t745.1.Leaf, .slice A747 t745.1.Keys.length c748, .slice A750 t745.1.Kids.length c751, .slice A753 t745.1.Rows.length c754] rfl rfl rfl #[.bool t745.1.Leaf, .slice A747 t745.1.Keys.length c748, .slice A750 t745.1.Kids.length c751, .slice A753 t745.1.Rows.length c754] rfl rfl ?_
          intro w760 E' S
          replace E := E.trans E'
          clear E'
          refine W_v (.int .i64 t745.2) (x_assign rfl) rfl ?_
          refine Wl_nil ?_
          refine tn ?_
          refine Wp_seq ?_
          refine Wp_region_lit ?_
          refine W_v (.agg #[.bool ((rd x184 x494).Leaf), .slice A663 ((rd x184 x494).Keys).length c664, .slice A667 ((rd x184 x494).Kids).length c668, .slice A671 ((rd x184 x494).Rows).length c672]) (x_loadA (S.blk 14 rfl) ty26 rfl (sub_of_extract rfl) rfl rfl) rfl ?_
          obtain ⟨t761, ht762, H⟩ := bindS H
          refine W_callF fn20 (fork_Cut.con k M735 A663 c664 A667 c668 A671 c672 (rd x184 x494) (0 : Int) t761 hs665 hs669 hs673 ht762) S rfl rfl (by rintro _ _ _ ⟨_, _, _, _, _, _, _, rfl⟩; exact (flat_cons (flat_row (fun _ _ _ _ h => h)) (flat_cons (flat_row (fun _ _ _ _ h => h)) (flat_cons (flat_row (fun _ _ _ _ h => h)) flat_nil)))) ?_
          rintro _ w772 _ Γ' E' S ⟨A763, c764, A766, c767, A769, c770, rfl, rfl⟩
          replace E := E.trans E'
          clear E'
          refine W_v (.tuple #[.agg #[.bool t761.1.Leaf, .slice A763 t761.1.Keys.length c764, .slice A766 t761.1.Kids.length c767, .slice A769 t761.1.Rows.length c770], .int .i64 t761.2]) (x_move rfl) rfl ?_
          refine W_v (.agg #[.bool t761.1.Leaf, .slice A763 t761.1.Keys.length c764, .slice A766 t761.1.Kids.length c767, .slice A769 t761.1.Rows.length c770]) (x_extract rfl rfl) rfl ?_
          refine W_v (.int .i64 t761.2) (x_extract rfl rfl) rfl ?_
          refine W_alloc S #[.bool false, .slice none 0 0, .slice none 0 0, .slice none 0 0] ty26 rfl rfl ?_
          intro b773 w774 E' S
          replace E := E.trans E'
          clear E'
          refine W_store S 0 rfl ty26 rfl rfl [.bool t761.1.Leaf, .slice A763 t761.1.Keys.length c764, .slice A766 t761.1.Kids.length c767, .slice A769 t761.1.Rows.length c770] rfl rfl rfl #[.bool t761.1.Leaf, .slice A763 t761.1.Keys.length c764, .slice A766 t761.1.Kids.length c767, .slice A769 t761.1.Rows.length c770] rfl rfl ?_
          intro w776 E' S
          replace E := E.trans E'
          clear E'
          refine W_v (.int .i64 t761.2) (x_assign rfl) rfl ?_
          refine Wl_nil ?_
          refine tn ?_
          refine Wp_seq ?_
          refine Wp_region_lit ?_
          refine W_v (.agg #[.bool ((rd x184 x494).Leaf), .slice A663 ((rd x184 x494).Keys).length c664, .slice A667 ((rd x184 x494).Kids).length c668, .slice A671 ((rd x184 x494).Rows).length c672]) (x_loadA (S.blk 18 rfl) ty26 rfl (sub_of_extract rfl) rfl rfl) rfl ?_
          obtain ⟨t777, ht778, H⟩ := bindS H
          refine W_callF fn14 (fork_Fence.con k M735 A663 c664 A667 c668 A671 c672 (rd x184 x494) (0 : Int) t777 hs665 hs669 hs673 ht778) S rfl rfl (by rintro _ _ _ ⟨_, rfl⟩; exact flat_nil) ?_
          rintro _ w779 _ Γ' E' S ⟨rfl, rfl⟩
          replace E := E.trans E'
          clear E'
          refine W_v (.tuple #[.string (bs t777.1), .bool t777.2]) (x_move rfl) rfl ?_
          refine W_v (.string (bs t777.1)) (x_extract rfl rfl) rfl ?_
          refine W_v (.bool t777.2) (x_extract rfl rfl) rfl ?_
          refine W_v (.string (bs t777.1)) (x_assign rfl) rfl ?_
          refine W_v (.bool t777.2) (x_assign rfl) rfl ?_
          refine Wl_nil ?_
          refine tn ?_
          refine Wp_seq ?_
          refine Wp_region_lit ?_
          refine W_v (.agg #[.bool ((rd x184 x494).Leaf), .slice A663 ((rd x184 x494).Keys).length c664, .slice A667 ((rd x184 x494).Kids).length c668, .slice A671 ((rd x184 x494).Rows).length c672]) (x_loadA (S.blk 18 rfl) ty26 rfl (sub_of_extract rfl) rfl rfl) rfl ?_
          obtain ⟨t780, ht781, H⟩ := bindS H
          refine W_callF fn11 (fork_May.con k M735 A663 c664 A667 c668 A671 c672 (rd x184 x494) t780 hs665 hs669 hs673 ht781) S rfl rfl (by rintro _ _ _ ⟨_, rfl⟩; exact flat_nil) ?_
          rintro _ w782 _ Γ' E' S ⟨rfl, rfl⟩
          replace E := E.trans E'
          clear E'
          refine W_v (.bool t780) (x_move rfl) rfl ?_
          refine Wl_cutN 3 (fun ρ w' => Agree ρ [(1, .pointer (some ⟨b7, 0, none⟩)), (2, .pointer (some ⟨b17, 0, none⟩)), (3, .pointer (some ⟨b24, 0, none⟩)), (5, .pointer (some ⟨b675, 0, none⟩)), (7, .bool t679.2), (9, .int .i64 t682.2), (11, .int .i64 t698.2), (15, .int .i64 t714.2.2.2), (17, .int .i64 t745.2), (19, .int .i64 t761.2), (21, .bool t777.2), (116, .slice (some ⟨b181, 0, none⟩) x184.length 10), (117, .int .i64 (x184.length : Int)), (118, .int .i64 x494), (164, .bool (t780 || (t679.1 != (0 : Int))))] ∧ w782 = w') ?_ ?_
          · rcases boolCases t780 with hb783 | hb783
            · skip
              refine W_yes (congrArg some hb783) ?_
              refine W_v (.int .i64 t679.1) (x_move rfl) rfl ?_
              refine W_yes (congrArg some hb783) ?_
              refine W_v (.bool (t679.1 != (0 : Int))) (x_ibin rfl rfl rfl rfl) rfl ?_
              refine W_v (.bool (t679.1 != (0 : Int))) (x_pick (k := false) (congrArg Value.bool hb783) rfl) rfl ?_
              refine Wl_nil ?_
              exact ⟨⟨rfl, rfl, rfl, rfl, rfl, rfl, rfl, rfl, rfl, rfl, rfl, rfl, rfl, rfl, (by first | rfl | (rw [hb783]; rfl) | (simp only [hb783]; rfl)), trivial⟩, rfl⟩
            · skip
              refine W_no (skF hb783) rfl ?_
              refine W_no (skF hb783) rfl ?_
              refine W_v (.bool true) (x_pick (k := true) (congrArg Value.bool hb783) rfl) rfl ?_
              refine Wl_nil ?_
              exact ⟨⟨rfl, rfl, rfl, rfl, rfl, rfl, rfl, rfl, rfl, rfl, rfl, rfl, rfl, rfl, (by first | rfl | (rw [hb783]; rfl) | (simp only [hb783]; rfl)), trivial⟩, rfl⟩
          rintro ρ _ ⟨hρ, rfl⟩
          rw [agree_eta hρ]
          clear hρ
          refine W_v (.bool (t780 || (t679.1 != (0 : Int)))) (x_move rfl) rfl ?_
          refine Wl_cutN 2 (fun ρ w' => Agree ρ [(1, .pointer (some ⟨b7, 0, none⟩)), (2, .pointer (some ⟨b17, 0, none⟩)), (3, .pointer (some ⟨b24, 0, none⟩)), (5, .pointer (some ⟨b675, 0, none⟩)), (9, .int .i64 t682.2), (11, .int .i64 t698.2), (15, .int .i64 t714.2.2.2), (17, .int .i64 t745.2), (19, .int .i64 t761.2), (21, .bool t777.2), (116, .slice (some ⟨b181, 0, none⟩) x184.length 10), (117, .int .i64 (x184.length : Int)), (118, .int .i64 x494), (167, .bool ((t780 || (t679.1 != (0 : Int))) || t679.2))] ∧ w782 = w') ?_ ?_
          · rcases boolCases (t780 || (t679.1 != (0 : Int))) with hb784 | hb784
            · skip
              refine W_yes (congrArg some hb784) ?_
              refine W_v (.bool t679.2) (x_move rfl) rfl ?_
              refine W_v (.bool t679.2) (x_pick (k := false) (congrArg Value.bool hb784) rfl) rfl ?_
              refine Wl_nil ?_
              exact ⟨⟨rfl, rfl, rfl, rfl, rfl, rfl, rfl, rfl, rfl, rfl, rfl, rfl, rfl, (by first | rfl | (rw [hb784]; rfl) | (simp only [hb784]; rfl)), trivial⟩, rfl⟩
            · skip
              refine W_no (skF hb784) rfl ?_
              refine W_v (.bool true) (x_pick (k := true) (congrArg Value.bool hb784) rfl) rfl ?_
              refine Wl_nil ?_
              exact ⟨⟨rfl, rfl, rfl, rfl, rfl, rfl, rfl, rfl, rfl, rfl, rfl, rfl, rfl, (by first | rfl | (rw [hb784]; rfl) | (simp only [hb784]; rfl)), trivial⟩, rfl⟩
          rintro ρ _ ⟨hρ, rfl⟩
          rw [agree_eta hρ]
          clear hρ
          refine W_v (.bool ((t780 || (t679.1 != (0 : Int))) || t679.2)) (x_move rfl) rfl ?_
          obtain ⟨o793, o793h, o793H⟩ := bindS H
          clear H
          refine Wl_cutN 4 (fun ρ w' => ∃ (x792 : Bool), (x792) = o793 ∧ Agree ρ [(1, .pointer (some ⟨b7, 0, none⟩)), (2, .pointer (some ⟨b17, 0, none⟩)), (3, .pointer (some ⟨b24, 0, none⟩)), (9, .int .i64 t682.2), (11, .int .i64 t698.2), (15, .int .i64 t714.2.2.2), (17, .int .i64 t745.2), (19, .int .i64 t761.2), (21, .bool t777.2), (116, .slice (some ⟨b181, 0, none⟩) x184.length 10), (117, .int .i64 (x184.length : Int)), (118, .int .i64 x494), (172, .bool x792)] ∧ Ext w w' ∧ St w' M735 F [Row r_fork_Node 26 (.slice (some ⟨b181, 0, none⟩) x184.length 10) x184, Blk b24 (.cells #[.bool false, .slice none 0 0, .slice (some ⟨b21, 0, none⟩) ([(5 : Int)] : List Int).length 1, .slice none 0 0] 26 (0, 0)), Row (rInt .i64) 3 (.slice (some ⟨b21, 0, none⟩) ([(5 : Int)] : List Int).length 1) ([(5 : Int)] : List Int), Blk b17 (.cells #[.bool false, .slice (some ⟨b11, 0, none⟩) ([([97] : Str)] : List Str).length 1, .slice (some ⟨b14, 0, none⟩) ([(1 : Int), (2 : Int)] : List Int).length 2, .slice none 0 0] 26 (0, 0)), Row (rInt .i64) 3 (.slice (some ⟨b14, 0, none⟩) ([(1 : Int), (2 : Int)] : List Int).length 2) ([(1 : Int), (2 : Int)] : List Int), Row rStr 9 (.slice (some ⟨b11, 0, none⟩) ([([97] : Str)] : List Str).length 1) ([([97] : Str)] : List Str), Blk b7 (.cells #[.bool true, .slice (some ⟨b1, 0, none⟩) ([([] : Str), ([97] : Str)] : List Str).length 2, .slice none 0 0, .slice (some ⟨b4, 0, none⟩) ([(1 : Int), (2 : Int)] : List Int).length 2] 26 (0, 0)), Row (rInt .u64) 41 (.slice (some ⟨b4, 0, none⟩) ([(1 : Int), (2 : Int)] : List Int).length 2) ([(1 : Int), (2 : Int)] : List Int), Row rStr 9 (.slice (some ⟨b1, 0, none⟩) ([([] : Str), ([97] : Str)] : List Str).length 2) ([([] : Str), ([97] : Str)] : List Str)]) ?_ ?_
          · have H := o793h
            rcases iteS H with ⟨hb791, H⟩ | ⟨hb791, H⟩
            · skip
              refine W_no (skF hb791) rfl ?_
              refine W_no (skF hb791) rfl ?_
              refine W_no (skF hb791) rfl ?_
              refine W_v (.bool true) (x_pick (k := true) (congrArg Value.bool hb791) rfl) rfl ?_
              refine Wl_nil ?_
              exact ⟨true, Option.some.inj H, ⟨rfl, rfl, rfl, rfl, rfl, rfl, rfl, rfl, rfl, rfl, rfl, rfl, rfl, trivial⟩, E, S.pick [19, 20, 21, 22, 23, 24, 25, 26, 27] (by decide)⟩
            · skip
              refine W_yes (congrArg some hb791) ?_
              refine W_v (.agg #[.bool ((rd x184 x494).Leaf), .slice A663 ((rd x184 x494).Keys).length c664, .slice A667 ((rd x184 x494).Kids).length c668, .slice A671 ((rd x184 x494).Rows).length c672]) (x_loadA (S.blk 18 rfl) ty26 rfl (sub_of_extract rfl) rfl rfl) rfl ?_
              refine W_yes (congrArg some hb791) ?_
              obtain ⟨t794, ht795, H⟩ := bindS H
              refine W_callF fn13 (fork_Kid.con k M735 A663 c664 A667 c668 A671 c672 (rd x184 x494) ([122] : Str) t794 hs665 hs669 hs673 ht795) S rfl rfl (by rintro _ _ _ ⟨_, rfl⟩; exact flat_nil) ?_
              rintro _ w796 _ Γ' E' S ⟨rfl, rfl⟩
              replace E := E.trans E'
              clear E'
              refine W_yes (congrArg some hb791) ?_
              refine W_v (.bool (t794 != (0 : Int))) (x_ibin rfl rfl rfl rfl) rfl ?_
              refine W_v (.bool (t794 != (0 : Int))) (x_pick (k := false) (congrArg Value.bool hb791) rfl) rfl ?_
              refine Wl_nil ?_
              exact ⟨(t794 != (0 : Int)), Option.some.inj H, ⟨rfl, rfl, rfl, rfl, rfl, rfl, rfl, rfl, rfl, rfl, rfl, rfl, rfl, trivial⟩, E, S.pick [19, 20, 21, 22, 23, 24, 25, 26, 27] (by decide)⟩
          clear o793h
          rintro ρ w797 ⟨x792, rfl, hρ, E, S⟩
          rw [agree_eta hρ]
          clear hρ
          have H := o793H
          clear o793H
          refine W_v (.bool x792) (x_move rfl) rfl ?_
          refine Wl_cutN 2 (fun ρ w' => Agree ρ [(1, .pointer (some ⟨b7, 0, none⟩)), (2, .pointer (some ⟨b17, 0, none⟩)), (3, .pointer (some ⟨b24, 0, none⟩)), (9, .int .i64 t682.2), (11, .int .i64 t698.2), (15, .int .i64 t714.2.2.2), (17, .int .i64 t745.2), (19, .int .i64 t761.2), (116, .slice (some ⟨b181, 0, none⟩) x184.length 10), (117, .int .i64 (x184.length : Int)), (118, .int .i64 x494), (175, .bool (x792 || t777.2))] ∧ w797 = w') ?_ ?_
          · rcases boolCases x792 with hb798 | hb798
            · skip
              refine W_yes (congrArg some hb798) ?_
              refine W_v (.bool t777.2) (x_move rfl) rfl ?_
              refine W_v (.bool t777.2) (x_pick (k := false) (congrArg Value.bool hb798) rfl) rfl ?_
              refine Wl_nil ?_
              exact ⟨⟨rfl, rfl, rfl, rfl, rfl, rfl, rfl, rfl, rfl, rfl, rfl, (by first | rfl | (rw [hb798]; rfl) | (simp only [hb798]; rfl)), trivial⟩, rfl⟩
            · skip
              refine W_no (skF hb798) rfl ?_
              refine W_v (.bool true) (x_pick (k := true) (congrArg Value.bool hb798) rfl) rfl ?_
              refine Wl_nil ?_
              exact ⟨⟨rfl, rfl, rfl, rfl, rfl, rfl, rfl, rfl, rfl, rfl, rfl, (by first | rfl | (rw [hb798]; rfl) | (simp only [hb798]; rfl)), trivial⟩, rfl⟩
          rintro ρ _ ⟨hρ, rfl⟩
          rw [agree_eta hρ]
          clear hρ
          refine W_v (.bool (x792 || t777.2)) (x_move rfl) rfl ?_
          refine Wl_cutN 3 (fun ρ w' => Agree ρ [(1, .pointer (some ⟨b7, 0, none⟩)), (2, .pointer (some ⟨b17, 0, none⟩)), (3, .pointer (some ⟨b24, 0, none⟩)), (11, .int .i64 t698.2), (15, .int .i64 t714.2.2.2), (17, .int .i64 t745.2), (19, .int .i64 t761.2), (116, .slice (some ⟨b181, 0, none⟩) x184.length 10), (117, .int .i64 (x184.length : Int)), (118, .int .i64 x494), (179, .bool ((x792 || t777.2) || (t682.2 != (4 : Int))))] ∧ w797 = w') ?_ ?_
          · rcases boolCases (x792 || t777.2) with hb799 | hb799
            · skip
              refine W_yes (congrArg some hb799) ?_
              refine W_v (.int .i64 t682.2) (x_move rfl) rfl ?_
              refine W_yes (congrArg some hb799) ?_
              refine W_v (.bool (t682.2 != (4 : Int))) (x_ibin rfl rfl rfl rfl) rfl ?_
              refine W_v (.bool (t682.2 != (4 : Int))) (x_pick (k := false) (congrArg Value.bool hb799) rfl) rfl ?_
              refine Wl_nil ?_
              exact ⟨⟨rfl, rfl, rfl, rfl, rfl, rfl, rfl, rfl, rfl, rfl, (by first | rfl | (rw [hb799]; rfl) | (simp only [hb799]; rfl)), trivial⟩, rfl⟩
            · skip
              refine W_no (skF hb799) rfl ?_
              refine W_no (skF hb799) rfl ?_
              refine W_v (.bool true) (x_pick (k := true) (congrArg Value.bool hb799) rfl) rfl ?_
              refine Wl_nil ?_
              exact ⟨⟨rfl, rfl, rfl, rfl, rfl, rfl, rfl, rfl, rfl, rfl, (by first | rfl | (rw [hb799]; rfl) | (simp only [hb799]; rfl)), trivial⟩, rfl⟩
          rintro ρ _ ⟨hρ, rfl⟩
          rw [agree_eta hρ]
          clear hρ
          refine W_v (.bool ((x792 || t777.2) || (t682.2 != (4 : Int)))) (x_move rfl) rfl ?_
          refine Wl_cutN 3 (fun ρ w' => Agree ρ [(1, .pointer (some ⟨b7, 0, none⟩)), (2, .pointer (some ⟨b17, 0, none⟩)), (3, .pointer (some ⟨b24, 0, none⟩)), (15, .int .i64 t714.2.2.2), (17, .int .i64 t745.2), (19, .int .i64 t761.2), (116, .slice (some ⟨b181, 0, none⟩) x184.length 10), (117, .int .i64 (x184.length : Int)), (118, .int .i64 x494), (183, .bool (((x792 || t777.2) || (t682.2 != (4 : Int))) || (t698.2 != (4 : Int))))] ∧ w797 = w') ?_ ?_
          · rcases boolCases ((x792 || t777.2) || (t682.2 != (4 : Int))) with hb800 | hb800
            · skip
              refine W_yes (congrArg some hb800) ?_
              refine W_v (.int .i64 t698.2) (x_move rfl) rfl ?_
              refine W_yes (congrArg some hb800) ?_
              refine W_v (.bool (t698.2 != (4 : Int))) (x_ibin rfl rfl rfl rfl) rfl ?_
              refine W_v (.bool (t698.2 != (4 : Int))) (x_pick (k := false) (congrArg Value.bool hb800) rfl) rfl ?_
              refine Wl_nil ?_
              exact ⟨⟨rfl, rfl, rfl, rfl, rfl, rfl, rfl, rfl, rfl, (by first | rfl | (rw [hb800]; rfl) | (simp only [hb800]; rfl)), trivial⟩, rfl⟩
            · skip
              refine W_no (skF hb800) rfl ?_
              refine W_no (skF hb800) rfl ?_
              refine W_v (.bool true) (x_pick (k := true) (congrArg Value.bool hb800) rfl) rfl ?_
              refine Wl_nil ?_
              exact ⟨⟨rfl, rfl, rfl, rfl, rfl, rfl, rfl, rfl, rfl, (by first | rfl | (rw [hb800]; rfl) | (simp only [hb800]; rfl)), trivial⟩, rfl⟩
          rintro ρ _ ⟨hρ, rfl⟩
          rw [agree_eta hρ]
          clear hρ
          refine W_v (.bool (((x792 || t777.2) || (t682.2 != (4 : Int))) || (t698.2 != (4 : Int)))) (x_move rfl) rfl ?_
          refine Wl_cutN 3 (fun ρ w' => Agree ρ [(1, .pointer (some ⟨b7, 0, none⟩)), (2, .pointer (some ⟨b17, 0, none⟩)), (3, .pointer (some ⟨b24, 0, none⟩)), (17, .int .i64 t745.2), (19, .int .i64 t761.2), (116, .slice (some ⟨b181, 0, none⟩) x184.length 10), (117, .int .i64 (x184.length : Int)), (118, .int .i64 x494), (187, .bool ((((x792 || t777.2) || (t682.2 != (4 : Int))) || (t698.2 != (4 : Int))) || (t714.2.2.2 != (4 : Int))))] ∧ w797 = w') ?_ ?_
          · rcases boolCases (((x792 || t777.2) || (t682.2 != (4 : Int))) || (t698.2 != (4 : Int))) with hb801 | hb801
            · skip
              refine W_yes (congrArg some hb801) ?_
              refine W_v (.int .i64 t714.2.2.2) (x_move rfl) rfl ?_
              refine W_yes (congrArg some hb801) ?_
              refine W_v (.bool (t714.2.2.2 != (4 : Int))) (x_ibin rfl rfl rfl rfl) rfl ?_
              refine W_v (.bool (t714.2.2.2 != (4 : Int))) (x_pick (k := false) (congrArg Value.bool hb801) rfl) rfl ?_
              refine Wl_nil ?_
              exact ⟨⟨rfl, rfl, rfl, rfl, rfl, rfl, rfl, rfl, (by first | rfl | (rw [hb801]; rfl) | (simp only [hb801]; rfl)), trivial⟩, rfl⟩
            · skip
              refine W_no (skF hb801) rfl ?_
              refine W_no (skF hb801) rfl ?_
              refine W_v (.bool true) (x_pick (k := true) (congrArg Value.bool hb801) rfl) rfl ?_
              refine Wl_nil ?_
              exact ⟨⟨rfl, rfl, rfl, rfl, rfl, rfl, rfl, rfl, (by first | rfl | (rw [hb801]; rfl) | (simp only [hb801]; rfl)), trivial⟩, rfl⟩
          rintro ρ _ ⟨hρ, rfl⟩
          rw [agree_eta hρ]
          clear hρ
          refine W_v (.bool ((((x792 || t777.2) || (t682.2 != (4 : Int))) || (t698.2 != (4 : Int))) || (t714.2.2.2 != (4 : Int)))) (x_move rfl) rfl ?_
          refine Wl_cutN 3 (fun ρ w' => Agree ρ [(1, .pointer (some ⟨b7, 0, none⟩)), (2, .pointer (some ⟨b17, 0, none⟩)), (3, .pointer (some ⟨b24, 0, none⟩)), (19, .int .i64 t761.2), (116, .slice (some ⟨b181, 0, none⟩) x184.length 10), (117, .int .i64 (x184.length : Int)), (118, .int .i64 x494), (191, .bool (((((x792 || t777.2) || (t682.2 != (4 : Int))) || (t698.2 != (4 : Int))) || (t714.2.2.2 != (4 : Int))) || (t745.2 != (4 : Int))))] ∧ w797 = w') ?_ ?_
          · rcases boolCases ((((x792 || t777.2) || (t682.2 != (4 : Int))) || (t698.2 != (4 : Int))) || (t714.2.2.2 != (4 : Int))) with hb802 | hb802
            · skip
              refine W_yes (congrArg some hb802) ?_
              refine W_v (.int .i64 t745.2) (x_move rfl) rfl ?_
              refine W_yes (congrArg some hb802) ?_
              refine W_v (.bool (t745.2 != (4 : Int))) (x_ibin rfl rfl rfl rfl) rfl ?_
              refine W_v (.bool (t745.2 != (4 : Int))) (x_pick (k := false) (congrArg Value.bool hb802) rfl) rfl ?_
              refine Wl_nil ?_
              exact ⟨⟨rfl, rfl, rfl, rfl, rfl, rfl, rfl, (by first | rfl | (rw [hb802]; rfl) | (simp only [hb802]; rfl)), trivial⟩, rfl⟩
            · skip
              refine W_no (skF hb802) rfl ?_
              refine W_no (skF hb802) rfl ?_
              refine W_v (.bool true) (x_pick (k := true) (congrArg Value.bool hb802) rfl) rfl ?_
              refine Wl_nil ?_
              exact ⟨⟨rfl, rfl, rfl, rfl, rfl, rfl, rfl, (by first | rfl | (rw [hb802]; rfl) | (simp only [hb802]; rfl)), trivial⟩, rfl⟩
          rintro ρ _ ⟨hρ, rfl⟩
          rw [agree_eta hρ]
          clear hρ
          refine W_v (.bool (((((x792 || t777.2) || (t682.2 != (4 : Int))) || (t698.2 != (4 : Int))) || (t714.2.2.2 != (4 : Int))) || (t745.2 != (4 : Int)))) (x_move rfl) rfl ?_
          refine Wl_cutN 3 (fun ρ w' => Agree ρ [(1, .pointer (some ⟨b7, 0, none⟩)), (2, .pointer (some ⟨b17, 0, none⟩)), (3, .pointer (some ⟨b24, 0, none⟩)), (116, .slice (some ⟨b181, 0, none⟩) x184.length 10), (117, .int .i64 (x184.length : Int)), (118, .int .i64 x494), (195, .bool ((((((x792 || t777.2) || (t682.2 != (4 : Int))) || (t698.2 != (4 : Int))) || (t714.2.2.2 != (4 : Int))) || (t745.2 != (4 : Int))) || (t761.2 != (4 : Int))))] ∧ w797 = w') ?_ ?_
          · rcases boolCases (((((x792 || t777.2) || (t682.2 != (4 : Int))) || (t698.2 != (4 : Int))) || (t714.2.2.2 != (4 : Int))) || (t745.2 != (4 : Int))) with hb803 | hb803
            · skip
              refine W_yes (congrArg some hb803) ?_
              refine W_v (.int .i64 t761.2) (x_move rfl) rfl ?_
              refine W_yes (congrArg some hb803) ?_
              refine W_v (.bool (t761.2 != (4 : Int))) (x_ibin rfl rfl rfl rfl) rfl ?_
              refine W_v (.bool (t761.2 != (4 : Int))) (x_pick (k := false) (congrArg Value.bool hb803) rfl) rfl ?_
              refine Wl_nil ?_
              exact ⟨⟨rfl, rfl, rfl, rfl, rfl, rfl, (by first | rfl | (rw [hb803]; rfl) | (simp only [hb803]; rfl)), trivial⟩, rfl⟩
            · skip
              refine W_no (skF hb803) rfl ?_
              refine W_no (skF hb803) rfl ?_
              refine W_v (.bool true) (x_pick (k := true) (congrArg Value.bool hb803) rfl) rfl ?_
              refine Wl_nil ?_
              exact ⟨⟨rfl, rfl, rfl, rfl, rfl, rfl, (by first | rfl | (rw [hb803]; rfl) | (simp only [hb803]; rfl)), trivial⟩, rfl⟩
          rintro ρ _ ⟨hρ, rfl⟩
          rw [agree_eta hρ]
          clear hρ
          refine Wl_nil ?_
          refine tn ?_
          rcases iteS H with ⟨hb804, H⟩ | ⟨hb804, H⟩
          · refine Wp_cond_true (congrArg Value.bool hb804) ?_
            refine Wp_seq ?_
            refine Wp_region_lit ?_
            refine W_v (.bool false) (x_assign rfl) rfl ?_
            refine Wl_nil ?_
            refine tn ?_
            refine Wp_ret ?_
            refine br (tr (tr (br (tr (tr (?_))))))
            obtain rfl := Option.some.inj H
            have H := o648H
            replace H := elimL H
            obtain rfl := Option.some.inj H
            exact ⟨_, _, _, fun w1 e1 => run_resR (vs := [.bool false]) (FA.cons (rfl) (FA.nil)), HM, E, S.pick [] (by decide), ⟨rfl, rfl⟩⟩
          refine Wp_cond_false (congrArg Value.bool hb804) ?_
          refine Wp_skip ?_
          refine bn ?_
          refine tn ?_
          refine Wp_region_lit ?_
          refine W_v (.int .i64 (IntKind.i64.wrap (x494 + (1 : Int)))) (x_ibin rfl rfl rfl rfl) rfl ?_
          refine W_v (.int .i64 (IntKind.i64.wrap (x494 + (1 : Int)))) (x_move rfl) rfl ?_
          refine Wl_nil ?_
          refine tn ?_
          exact ⟨k, Nat.lt_succ_self k, ⟨(IntKind.i64.wrap (x494 + (1 : Int))), M735, H, ⟨rfl, rfl, rfl, rfl, rfl, rfl, trivial⟩, hM651, E, S.pick [0, 1, 2, 3, 4, 5, 6, 7, 8] (by decide)⟩⟩
        refine Wp_cond_false (congrArg Value.bool hb652) ?_
        refine Wp_exit ?_
        refine tx (tx (bsm (?_)))
        refine tn ?_
        exact ⟨M650, Option.some.inj H, ⟨rfl, rfl, rfl, trivial⟩, hM651, E, S.pick [1, 2, 3, 4, 5, 6, 7, 8] (by decide)⟩
  clear o648h
  rintro ρ w805 ⟨M806, rfl, hρ, hM807, E, S⟩
  rw [agree_eta hρ]
  clear hρ
  replace HM := Hp.le_trans HM hM807
  replace hf141 := SlR.mono hf141 hM807
  replace hf144 := SlR.mono hf144 hM807
  replace hf147 := SlR.mono hf147 hM807
  replace hf150 := SlR.mono hf150 hM807
  replace hf153 := SlR.mono hf153 hM807
  replace hf156 := SlR.mono hf156 hM807
  replace hf159 := SlR.mono hf159 hM807
  replace hf162 := SlR.mono hf162 hM807
  replace hf165 := SlR.mono hf165 hM807
  replace hf168 := SlR.mono hf168 hM807
  replace hf171 := SlR.mono hf171 hM807
  replace hf174 := SlR.mono hf174 hM807
  replace hf177 := SlR.mono hf177 hM807
  replace hf180 := SlR.mono hf180 hM807
  have H := o648H
  clear o648H
  replace H := elimR H
  refine tn ?_
  refine Wp_seq ?_
  refine Wp_region_lit ?_
  refine W_v (.agg #[.bool true, .slice (some ⟨b1, 0, none⟩) ([([] : Str), ([97] : Str)] : List Str).length 2, .slice none 0 0, .slice (some ⟨b4, 0, none⟩) ([(1 : Int), (2 : Int)] : List Int).length 2]) (x_loadA (S.blk 5 rfl) ty26 rfl (sub_of_extract rfl) rfl rfl) rfl ?_
  replace S : St w805 M806 F [Row rStr 9 (.slice (some ⟨b1, 0, none⟩) ([([] : Str), ([97] : Str)] : List Str).length 2) ([([] : Str), ([97] : Str)] : List Str), Row (rInt .u64) 41 (.slice (some ⟨b4, 0, none⟩) ([(1 : Int), (2 : Int)] : List Int).length 2) ([(1 : Int), (2 : Int)] : List Int), Blk b24 (.cells #[.bool false, .slice none 0 0, .slice (some ⟨b21, 0, none⟩) ([(5 : Int)] : List Int).length 1, .slice none 0 0] 26 (0, 0)), Row (rInt .i64) 3 (.slice (some ⟨b21, 0, none⟩) ([(5 : Int)] : List Int).length 1) ([(5 : Int)] : List Int), Blk b17 (.cells #[.bool false, .slice (some ⟨b11, 0, none⟩) ([([97] : Str)] : List Str).length 1, .slice (some ⟨b14, 0, none⟩) ([(1 : Int), (2 : Int)] : List Int).length 2, .slice none 0 0] 26 (0, 0)), Row (rInt .i64) 3 (.slice (some ⟨b14, 0, none⟩) ([(1 : Int), (2 : Int)] : List Int).length 2) ([(1 : Int), (2 : Int)] : List Int), Row rStr 9 (.slice (some ⟨b11, 0, none⟩) ([([97] : Str)] : List Str).length 1) ([([97] : Str)] : List Str), Blk b7 (.cells #[.bool true, .slice (some ⟨b1, 0, none⟩) ([([] : Str), ([97] : Str)] : List Str).length 2, .slice none 0 0, .slice (some ⟨b4, 0, none⟩) ([(1 : Int), (2 : Int)] : List Int).length 2] 26 (0, 0))] := S.pick [7, 6, 0, 1, 2, 3, 4, 5] (by decide)
  obtain ⟨t808, ht809, H⟩ := bindS H
  refine W_callN 2 fn19 (fun h9 hs9 hd9 => fork_Put.con k _ (some ⟨b1, 0, none⟩) 2 none 0 (some ⟨b4, 0, none⟩) 2 (⟨true, ([([] : Str), ([97] : Str)] : List Str), ([] : (List Int)), ([(1 : Int), (2 : Int)] : List Int)⟩ : fork_Node) ([97] : Str) (9 : Int) t808 (Sats.row hs9 hd9 0 rfl) (SlW.nil _ _) (Sats.row hs9 hd9 1 rfl) ht809) S rfl rfl (by rintro _ _ _ ⟨_, _, _, _, _, _, _, rfl⟩; exact (flat_cons (flat_row (fun _ _ _ _ h => h)) (flat_cons (flat_row (fun _ _ _ _ h => h)) (flat_cons (flat_row (fun _ _ _ _ h => h)) flat_nil)))) ?_
  rintro _ w819 _ Γ' E' S ⟨A810, c811, A813, c814, A816, c817, rfl, rfl⟩
  replace E := E.trans E'
  clear E'
  refine W_v (.tuple #[.agg #[.bool t808.1.Leaf, .slice A810 t808.1.Keys.length c811, .slice A813 t808.1.Kids.length c814, .slice A816 t808.1.Rows.length c817], .int .i64 t808.2]) (x_move rfl) rfl ?_
  refine W_v (.agg #[.bool t808.1.Leaf, .slice A810 t808.1.Keys.length c811, .slice A813 t808.1.Kids.length c814, .slice A816 t808.1.Rows.length c817]) (x_extract rfl rfl) rfl ?_
  refine W_v (.int .i64 t808.2) (x_extract rfl rfl) rfl ?_
  refine W_alloc S #[.bool false, .slice none 0 0, .slice none 0 0, .slice none 0 0] ty26 rfl rfl ?_
  intro b820 w821 E' S
  replace E := E.trans E'
  clear E'
  refine W_store S 0 rfl ty26 rfl rfl [.bool t808.1.Leaf, .slice A810 t808.1.Keys.length c811, .slice A813 t808.1.Kids.length c814, .slice A816 t808.1.Rows.length c817] rfl rfl rfl #[.bool t808.1.Leaf, .slice A810 t808.1.Keys.length c811, .slice A813 t808.1.Kids.length c814, .slice A816 t808.1.Rows.length c817] rfl rfl ?_
  intro w823 E' S
  replace E := E.trans E'
  clear E'
  refine W_v (.int .i64 t808.2) (x_assign rfl) rfl ?_
  refine Wl_nil ?_
  refine tn ?_
  refine Wp_seq ?_
  refine Wp_region_lit ?_
  refine W_v (.agg #[.bool true, .slice (some ⟨b1, 0, none⟩) ([([] : Str), ([97] : Str)] : List Str).length 2, .slice none 0 0, .slice (some ⟨b4, 0, none⟩) ([(1 : Int), (2 : Int)] : List Int).length 2]) (x_loadA (S.blk 11 rfl) ty26 rfl (sub_of_extract rfl) rfl rfl) rfl ?_
  replace S : St w823 M806 F [Row rStr 9 (.slice (some ⟨b1, 0, none⟩) ([([] : Str), ([97] : Str)] : List Str).length 2) ([([] : Str), ([97] : Str)] : List Str), Row (rInt .u64) 41 (.slice (some ⟨b4, 0, none⟩) ([(1 : Int), (2 : Int)] : List Int).length 2) ([(1 : Int), (2 : Int)] : List Int), Blk b820 (.cells #[.bool t808.1.Leaf, .slice A810 t808.1.Keys.length c811, .slice A813 t808.1.Kids.length c814, .slice A816 t808.1.Rows.length c817] 26 (0, 0)), Row rStr 9 (.slice A810 t808.1.Keys.length c811) t808.1.Keys, Row (rInt .i64) 3 (.slice A813 t808.1.Kids.length c814) t808.1.Kids, Row (rInt .u64) 41 (.slice A816 t808.1.Rows.length c817) t808.1.Rows, Blk b24 (.cells #[.bool false, .slice none 0 0, .slice (some ⟨b21, 0, none⟩) ([(5 : Int)] : List Int).length 1, .slice none 0 0] 26 (0, 0)), Row (rInt .i64) 3 (.slice (some ⟨b21, 0, none⟩) ([(5 : Int)] : List Int).length 1) ([(5 : Int)] : List Int), Blk b17 (.cells #[.bool false, .slice (some ⟨b11, 0, none⟩) ([([97] : Str)] : List Str).length 1, .slice (some ⟨b14, 0, none⟩) ([(1 : Int), (2 : Int)] : List Int).length 2, .slice none 0 0] 26 (0, 0)), Row (rInt .i64) 3 (.slice (some ⟨b14, 0, none⟩) ([(1 : Int), (2 : Int)] : List Int).length 2) ([(1 : Int), (2 : Int)] : List Int), Row rStr 9 (.slice (some ⟨b11, 0, none⟩) ([([97] : Str)] : List Str).length 1) ([([97] : Str)] : List Str), Blk b7 (.cells #[.bool true, .slice (some ⟨b1, 0, none⟩) ([([] : Str), ([97] : Str)] : List Str).length 2, .slice none 0 0, .slice (some ⟨b4, 0, none⟩) ([(1 : Int), (2 : Int)] : List Int).length 2] 26 (0, 0))] := S.pick [4, 5, 0, 1, 2, 3, 6, 7, 8, 9, 10, 11] (by decide)
  obtain ⟨t824, ht825, H⟩ := bindS H
  refine W_callN 2 fn18 (fun h9 hs9 hd9 => fork_Take.con k _ (some ⟨b1, 0, none⟩) 2 none 0 (some ⟨b4, 0, none⟩) 2 (⟨true, ([([] : Str), ([97] : Str)] : List Str), ([] : (List Int)), ([(1 : Int), (2 : Int)] : List Int)⟩ : fork_Node) ([98] : Str) t824 (Sats.row hs9 hd9 0 rfl) (SlW.nil _ _) (Sats.row hs9 hd9 1 rfl) ht825) S rfl rfl (by rintro _ _ _ ⟨_, _, _, _, _, _, _, rfl⟩; exact (flat_cons (flat_row (fun _ _ _ _ h => h)) (flat_cons (flat_row (fun _ _ _ _ h => h)) (flat_cons (flat_row (fun _ _ _ _ h => h)) flat_nil)))) ?_
  rintro _ w835 _ Γ' E' S ⟨A826, c827, A829, c830, A832, c833, rfl, rfl⟩
  replace E := E.trans E'
  clear E'
  refine W_v (.tuple #[.agg #[.bool t824.1.Leaf, .slice A826 t824.1.Keys.length c827, .slice A829 t824.1.Kids.length c830, .slice A832 t824.1.Rows.length c833], .int .i64 t824.2]) (x_move rfl) rfl ?_
  refine W_v (.agg #[.bool t824.1.Leaf, .slice A826 t824.1.Keys.length c827, .slice A829 t824.1.Kids.length c830, .slice A832 t824.1.Rows.length c833]) (x_extract rfl rfl) rfl ?_
  refine W_v (.int .i64 t824.2) (x_extract rfl rfl) rfl ?_
  refine W_alloc S #[.bool false, .slice none 0 0, .slice none 0 0, .slice none 0 0] ty26 rfl rfl ?_
  intro b836 w837 E' S
  replace E := E.trans E'
  clear E'
  refine W_store S 0 rfl ty26 rfl rfl [.bool t824.1.Leaf, .slice A826 t824.1.Keys.length c827, .slice A829 t824.1.Kids.length c830, .slice A832 t824.1.Rows.length c833] rfl rfl rfl #[.bool t824.1.Leaf, .slice A826 t824.1.Keys.length c827, .slice A829 t824.1.Kids.length c830, .slice A832 t824.1.Rows.length c833] rfl rfl ?_
  intro w839 E' S
  replace E := E.trans E'
  clear E'
  refine W_v (.int .i64 t824.2) (x_assign rfl) rfl ?_
  refine Wl_nil ?_
  refine tn ?_
  refine Wp_seq ?_
  refine Wp_region_lit ?_
  refine W_v (.agg #[.bool true, .slice (some ⟨b1, 0, none⟩) ([([] : Str), ([97] : Str)] : List Str).length 2, .slice none 0 0, .slice (some ⟨b4, 0, none⟩) ([(1 : Int), (2 : Int)] : List Int).length 2]) (x_loadA (S.blk 15 rfl) ty26 rfl (sub_of_extract rfl) rfl rfl) rfl ?_
  obtain ⟨M840, hM841, hf842, S⟩ := S.row_freeze 4 rfl
  replace HM := Hp.le_trans HM hM841
  replace hM807 := Hp.le_trans hM807 hM841
  replace hf141 := SlR.mono hf141 hM841
  replace hf144 := SlR.mono hf144 hM841
  replace hf147 := SlR.mono hf147 hM841
  replace hf150 := SlR.mono hf150 hM841
  replace hf153 := SlR.mono hf153 hM841
  replace hf156 := SlR.mono hf156 hM841
  replace hf159 := SlR.mono hf159 hM841
  replace hf162 := SlR.mono hf162 hM841
  replace hf165 := SlR.mono hf165 hM841
  replace hf168 := SlR.mono hf168 hM841
  replace hf171 := SlR.mono hf171 hM841
  replace hf174 := SlR.mono hf174 hM841
  replace hf177 := SlR.mono hf177 hM841
  replace hf180 := SlR.mono hf180 hM841
  obtain ⟨M843, hM844, hf845, S⟩ := S.row_freeze 4 rfl
  replace HM := Hp.le_trans HM hM844
  replace hM807 := Hp.le_trans hM807 hM844
  replace hf141 := SlR.mono hf141 hM844
  replace hf144 := SlR.mono hf144 hM844
  replace hf147 := SlR.mono hf147 hM844
  replace hf150 := SlR.mono hf150 hM844
  replace hf153 := SlR.mono hf153 hM844
  replace hf156 := SlR.mono hf156 hM844
  replace hf159 := SlR.mono hf159 hM844
  replace hf162 := SlR.mono hf162 hM844
  replace hf165 := SlR.mono hf165 hM844
  replace hf168 := SlR.mono hf168 hM844
  replace hf171 := SlR.mono hf171 hM844
  replace hf174 := SlR.mono hf174 hM844
  replace hf177 := SlR.mono hf177 hM844
  replace hf180 := SlR.mono hf180 hM844
  replace hf842 := SlR.mono hf842 hM844
  obtain ⟨t846, ht847, H⟩ := bindS H
  refine W_call fn15 (fork_Split.con k M843 (some ⟨b1, 0, none⟩) 2 none 0 (some ⟨b4, 0, none⟩) 2 (⟨true, ([([] : Str), ([97] : Str)] : List Str), ([] : (List Int)), ([(1 : Int), (2 : Int)] : List Int)⟩ : fork_Node) t846 hf842 (SlW.nil _ _) hf845 ht847) (Γ1 := []) (Γ2 := [Blk b836 (.cells #[.bool t824.1.Leaf, .slice A826 t824.1.Keys.length c827, .slice A829 t824.1.Kids.length c830, .slice A832 t824.1.Rows.length c833] 26 (0, 0)), Row rStr 9 (.slice A826 t824.1.Keys.length c827) t824.1.Keys, Row (rInt .i64) 3 (.slice A829 t824.1.Kids.length c830) t824.1.Kids, Row (rInt .u64) 41 (.slice A832 t824.1.Rows.length c833) t824.1.Rows, Blk b820 (.cells #[.bool t808.1.Leaf, .slice A810 t808.1.Keys.length c811, .slice A813 t808.1.Kids.length c814, .slice A816 t808.1.Rows.length c817] 26 (0, 0)), Row rStr 9 (.slice A810 t808.1.Keys.length c811) t808.1.Keys, Row (rInt .i64) 3 (.slice A813 t808.1.Kids.length c814) t808.1.Kids, Row (rInt .u64) 41 (.slice A816 t808.1.Rows.length c817) t808.1.Rows, Blk b24 (.cells #[.bool false, .slice none 0 0, .slice (some ⟨b21, 0, none⟩) ([(5 : Int)] : List Int).length 1, .slice none 0 0] 26 (0, 0)), Row (rInt .i64) 3 (.slice (some ⟨b21, 0, none⟩) ([(5 : Int)] : List Int).length 1) ([(5 : Int)] : List Int), Blk b17 (.cells #[.bool false, .slice (some ⟨b11, 0, none⟩) ([([97] : Str)] : List Str).length 1, .slice (some ⟨b14, 0, none⟩) ([(1 : Int), (2 : Int)] : List Int).length 2, .slice none 0 0] 26 (0, 0)), Row (rInt .i64) 3 (.slice (some ⟨b14, 0, none⟩) ([(1 : Int), (2 : Int)] : List Int).length 2) ([(1 : Int), (2 : Int)] : List Int), Row rStr 9 (.slice (some ⟨b11, 0, none⟩) ([([97] : Str)] : List Str).length 1) ([([97] : Str)] : List Str), Blk b7 (.cells #[.bool true, .slice (some ⟨b1, 0, none⟩) ([([] : Str), ([97] : Str)] : List Str).length 2, .slice none 0 0, .slice (some ⟨b4, 0, none⟩) ([(1 : Int), (2 : Int)] : List Int).length 2] 26 (0, 0))]) S rfl rfl ?_
  rintro _ w866 M867 Γ' hM868 E' S ⟨A848, c849, A851, c852, A854, c855, A857, c858, A860, c861, A863, c864, rfl, hs850, hs853, hs856, hs859, hs862, hs865, rfl⟩
  replace HM := Hp.le_trans HM hM868
  replace hM807 := Hp.le_trans hM807 hM868
  replace hf141 := SlR.mono hf141 hM868
  replace hf144 := SlR.mono hf144 hM868
  replace hf147 := SlR.mono hf147 hM868
  replace hf150 := SlR.mono hf150 hM868
  replace hf153 := SlR.mono hf153 hM868
  replace hf156 := SlR.mono hf156 hM868
  replace hf159 := SlR.mono hf159 hM868
  replace hf162 := SlR.mono hf162 hM868
  replace hf165 := SlR.mono hf165 hM868
  replace hf168 := SlR.mono hf168 hM868
  replace hf171 := SlR.mono hf171 hM868
  replace hf174 := SlR.mono hf174 hM868
  replace hf177 := SlR.mono hf177 hM868
  replace hf180 := SlR.mono hf180 hM868
  replace hf842 := SlR.mono hf842 hM868
  replace hf845 := SlR.mono hf845 hM868
  replace E := E.trans E'
  clear E'
  refine W_v (.tuple #[.agg #[.bool t846.1.Leaf, .slice A848 t846.1.Keys.length c849, .slice A851 t846.1.Kids.length c852, .slice A854 t846.1.Rows.length c855], .agg #[.bool t846.2.1.Leaf, .slice A857 t846.2.1.Keys.length c858, .slice A860 t846.2.1.Kids.length c861, .slice A863 t846.2.1.Rows.length c864], .string (bs t846.2.2.1), .int .i64 t846.2.2.2]) (x_move rfl) rfl ?_
  refine W_v (.agg #[.bool t846.1.Leaf, .slice A848 t846.1.Keys.length c849, .slice A851 t846.1.Kids.length c852, .slice A854 t846.1.Rows.length c855]) (x_extract rfl rfl) rfl ?_
  refine W_v (.agg #[.bool t846.2.1.Leaf, .slice A857 t846.2.1.Keys.length c858, .slice A860 t846.2.1.Kids.length c861, .slice A863 t846.2.1.Rows.length c864]) (x_extract rfl rfl) rfl ?_
  refine W_v (.string (bs t846.2.2.1)) (x_extract rfl rfl) rfl ?_
  refine W_v (.int .i64 t846.2.2.2) (x_extract rfl rfl) rfl ?_
  refine W_alloc S #[.bool false, .slice none 0 0, .slice none 0 0, .slice none 0 0] ty26 rfl rfl ?_
  intro b869 w870 E' S
  replace E := E.trans E'
  clear E'
  refine W_alloc S #[.bool false, .slice none 0 0, .slice none 0 0, .slice none 0 0] ty26 rfl rfl ?_
  intro b872 w873 E' S
  replace E := E.trans E'
  clear E'
  refine W_store S 1 rfl ty26 rfl rfl [.bool t846.1.Leaf, .slice A848 t846.1.Keys.length c849, .slice A851 t846.1.Kids.length c852, .slice A854 t846.1.Rows.length c855] rfl rfl rfl #[.bool t846.1.Leaf, .slice A848 t846.1.Keys.length c849, .slice A851 t846.1.Kids.length c852, .slice A854 t846.1.Rows.length c855] rfl rfl ?_
  intro w875 E' S
  replace E := E.trans E'
  clear E'
  refine W_store S 0 rfl ty26 rfl rfl [.bool t846.2.1.Leaf, .slice A857 t846.2.1.Keys.length c858, .slice A860 t846.2.1.Kids.length c861, .slice A863 t846.2.1.Rows.length c864] rfl rfl rfl #[.bool t846.2.1.Leaf, .slice A857 t846.2.1.Keys.length c858, .slice A860 t846.2.1.Kids.length c861, .slice A863 t846.2.1.Rows.length c864] rfl rfl ?_
  intro w876 E' S
  replace E := E.trans E'
  clear E'
  refine W_v (.string (bs t846.2.2.1)) (x_assign rfl) rfl ?_
  refine W_v (.int .i64 t846.2.2.2) (x_assign rfl) rfl ?_
  refine Wl_nil ?_
  refine tn ?_
  refine Wp_seq ?_
  refine Wp_region_lit ?_
  refine W_v (.agg #[.bool true, .slice (some ⟨b1, 0, none⟩) ([([] : Str), ([97] : Str)] : List Str).length 2, .slice none 0 0, .slice (some ⟨b4, 0, none⟩) ([(1 : Int), (2 : Int)] : List Int).length 2]) (x_loadA (S.blk 15 rfl) ty26 rfl (sub_of_extract rfl) rfl rfl) rfl ?_
  obtain ⟨t877, ht878, H⟩ := bindS H
  refine W_callF fn21 (fork_Graft.con k M867 (some ⟨b1, 0, none⟩) 2 none 0 (some ⟨b4, 0, none⟩) 2 (⟨true, ([([] : Str), ([97] : Str)] : List Str), ([] : (List Int)), ([(1 : Int), (2 : Int)] : List Int)⟩ : fork_Node) ([120] : Str) (1 : Int) t877 hf842 (SlW.nil _ _) hf845 ht878) S rfl rfl (by rintro _ _ _ ⟨_, _, _, _, _, _, _, rfl⟩; exact (flat_cons (flat_row (fun _ _ _ _ h => h)) (flat_cons (flat_row (fun _ _ _ _ h => h)) (flat_cons (flat_row (fun _ _ _ _ h => h)) flat_nil)))) ?_
  rintro _ w888 _ Γ' E' S ⟨A879, c880, A882, c883, A885, c886, rfl, rfl⟩
  replace E := E.trans E'
  clear E'
  refine W_v (.tuple #[.agg #[.bool t877.1.Leaf, .slice A879 t877.1.Keys.length c880, .slice A882 t877.1.Kids.length c883, .slice A885 t877.1.Rows.length c886], .int .i64 t877.2]) (x_move rfl) rfl ?_
  refine W_v (.agg #[.bool t877.1.Leaf, .slice A879 t877.1.Keys.length c880, .slice A882 t877.1.Kids.length c883, .slice A885 t877.1.Rows.length c886]) (x_extract rfl rfl) rfl ?_
  refine W_v (.int .i64 t877.2) (x_extract rfl rfl) rfl ?_
  refine W_alloc S #[.bool false, .slice none 0 0, .slice none 0 0, .slice none 0 0] ty26 rfl rfl ?_
  intro b889 w890 E' S
  replace E := E.trans E'
  clear E'
  refine W_store S 0 rfl ty26 rfl rfl [.bool t877.1.Leaf, .slice A879 t877.1.Keys.length c880, .slice A882 t877.1.Kids.length c883, .slice A885 t877.1.Rows.length c886] rfl rfl rfl #[.bool t877.1.Leaf, .slice A879 t877.1.Keys.length c880, .slice A882 t877.1.Kids.length c883, .slice A885 t877.1.Rows.length c886] rfl rfl ?_
  intro w892 E' S
  replace E := E.trans E'
  clear E'
  refine W_v (.int .i64 t877.2) (x_assign rfl) rfl ?_
  refine Wl_nil ?_
  refine tn ?_
  refine Wp_seq ?_
  refine Wp_region_lit ?_
  refine W_v (.agg #[.bool true, .slice (some ⟨b1, 0, none⟩) ([([] : Str), ([97] : Str)] : List Str).length 2, .slice none 0 0, .slice (some ⟨b4, 0, none⟩) ([(1 : Int), (2 : Int)] : List Int).length 2]) (x_loadA (S.blk 19 rfl) ty26 rfl (sub_of_extract rfl) rfl rfl) rfl ?_
  obtain ⟨t893, ht894, H⟩ := bindS H
  refine W_callF fn20 (fork_Cut.con k M867 (some ⟨b1, 0, none⟩) 2 none 0 (some ⟨b4, 0, none⟩) 2 (⟨true, ([([] : Str), ([97] : Str)] : List Str), ([] : (List Int)), ([(1 : Int), (2 : Int)] : List Int)⟩ : fork_Node) (0 : Int) t893 hf842 (SlW.nil _ _) hf845 ht894) S rfl rfl (by rintro _ _ _ ⟨_, _, _, _, _, _, _, rfl⟩; exact (flat_cons (flat_row (fun _ _ _ _ h => h)) (flat_cons (flat_row (fun _ _ _ _ h => h)) (flat_cons (flat_row (fun _ _ _ _ h => h)) flat_nil)))) ?_
  rintro _ w904 _ Γ' E' S ⟨A895, c896, A898, c899, A901, c902, rfl, rfl⟩
  replace E := E.trans E'
  clear E'
  refine W_v (.tuple #[.agg #[.bool t893.1.Leaf, .slice A895 t893.1.Keys.length c896, .slice A898 t893.1.Kids.length c899, .slice A901 t893.1.Rows.length c902], .int .i64 t893.2]) (x_move rfl) rfl ?_
  refine W_v (.agg #[.bool t893.1.Leaf, .slice A895 t893.1.Keys.length c896, .slice A898 t893.1.Kids.length c899, .slice A901 t893.1.Rows.length c902]) (x_extract rfl rfl) rfl ?_
  refine W_v (.int .i64 t893.2) (x_extract rfl rfl) rfl ?_
  refine W_alloc S #[.bool false, .slice none 0 0, .slice none 0 0, .slice none 0 0] ty26 rfl rfl ?_
  intro b905 w906 E' S
  replace E := E.trans E'
  clear E'
  refine W_store S 0 rfl ty26 rfl rfl [.bool t893.1.Leaf, .slice A895 t893.1.Keys.length c896, .slice A898 t893.1.Kids.length c899, .slice A901 t893.1.Rows.length c902] rfl rfl rfl #[.bool t893.1.Leaf, .slice A895 t893.1.Keys.length c896, .slice A898 t893.1.Kids.length c899, .slice A901 t893.1.Rows.length c902] rfl rfl ?_
  intro w908 E' S
  replace E := E.trans E'
  clear E'
  refine W_v (.int .i64 t893.2) (x_assign rfl) rfl ?_
  refine Wl_nil ?_
  refine tn ?_
  refine Wp_seq ?_
  refine Wp_region_lit ?_
  refine W_v (.agg #[.bool false, .slice (some ⟨b11, 0, none⟩) ([([97] : Str)] : List Str).length 1, .slice (some ⟨b14, 0, none⟩) ([(1 : Int), (2 : Int)] : List Int).length 2, .slice none 0 0]) (x_loadA (S.blk 20 rfl) ty26 rfl (sub_of_extract rfl) rfl rfl) rfl ?_
  replace S : St w908 M867 F [Row rStr 9 (.slice (some ⟨b11, 0, none⟩) ([([97] : Str)] : List Str).length 1) ([([97] : Str)] : List Str), Row (rInt .i64) 3 (.slice (some ⟨b14, 0, none⟩) ([(1 : Int), (2 : Int)] : List Int).length 2) ([(1 : Int), (2 : Int)] : List Int), Blk b905 (.cells #[.bool t893.1.Leaf, .slice A895 t893.1.Keys.length c896, .slice A898 t893.1.Kids.length c899, .slice A901 t893.1.Rows.length c902] 26 (0, 0)), Row rStr 9 (.slice A895 t893.1.Keys.length c896) t893.1.Keys, Row (rInt .i64) 3 (.slice A898 t893.1.Kids.length c899) t893.1.Kids, Row (rInt .u64) 41 (.slice A901 t893.1.Rows.length c902) t893.1.Rows, Blk b889 (.cells #[.bool t877.1.Leaf, .slice A879 t877.1.Keys.length c880, .slice A882 t877.1.Kids.length c883, .slice A885 t877.1.Rows.length c886] 26 (0, 0)), Row rStr 9 (.slice A879 t877.1.Keys.length c880) t877.1.Keys, Row (rInt .i64) 3 (.slice A882 t877.1.Kids.length c883) t877.1.Kids, Row (rInt .u64) 41 (.slice A885 t877.1.Rows.length c886) t877.1.Rows, Blk b872 (.cells #[.bool t846.2.1.Leaf, .slice A857 t846.2.1.Keys.length c858, .slice A860 t846.2.1.Kids.length c861, .slice A863 t846.2.1.Rows.length c864] 26 (0, 0)), Blk b869 (.cells #[.bool t846.1.Leaf, .slice A848 t846.1.Keys.length c849, .slice A851 t846.1.Kids.length c852, .slice A854 t846.1.Rows.length c855] 26 (0, 0)), Blk b836 (.cells #[.bool t824.1.Leaf, .slice A826 t824.1.Keys.length c827, .slice A829 t824.1.Kids.length c830, .slice A832 t824.1.Rows.length c833] 26 (0, 0)), Row rStr 9 (.slice A826 t824.1.Keys.length c827) t824.1.Keys, Row (rInt .i64) 3 (.slice A829 t824.1.Kids.length c830) t824.1.Kids, Row (rInt .u64) 41 (.slice A832 t824.1.Rows.length c833) t824.1.Rows, Blk b820 (.cells #[.bool t808.1.Leaf, .slice A810 t808.1.Keys.length c811, .slice A813 t808.1.Kids.length c814, .slice A816 t808.1.Rows.length c817] 26 (0, 0)), Row rStr 9 (.slice A810 t808.1.Keys.length c811) t808.1.Keys, Row (rInt .i64) 3 (.slice A813 t808.1.Kids.length c814) t808.1.Kids, Row (rInt .u64) 41 (.slice A816 t808.1.Rows.length c817) t808.1.Rows, Blk b24 (.cells #[.bool false, .slice none 0 0, .slice (some ⟨b21, 0, none⟩) ([(5 : Int)] : List Int).length 1, .slice none 0 0] 26 (0, 0)), Row (rInt .i64) 3 (.slice (some ⟨b21, 0, none⟩) ([(5 : Int)] : List Int).length 1) ([(5 : Int)] : List Int), Blk b17 (.cells #[.bool false, .slice (some ⟨b11, 0, none⟩) ([([97] : Str)] : List Str).length 1, .slice (some ⟨b14, 0, none⟩) ([(1 : Int), (2 : Int)] : List Int).length 2, .slice none 0 0] 26 (0, 0)), Blk b7 (.cells #[.bool true, .slice (some ⟨b1, 0, none⟩) ([([] : Str), ([97] : Str)] : List Str).length 2, .slice none 0 0, .slice (some ⟨b4, 0, none⟩) ([(1 : Int), (2 : Int)] : List Int).length 2] 26 (0, 0))] := S.pick [22, 21, 0, 1, 2, 3, 4, 5, 6, 7, 8, 9, 10, 11, 12, 13, 14, 15, 16, 17, 18, 19, 20, 23] (by decide)
  obtain ⟨t909, ht910, H⟩ := bindS H
  refine W_callN 2 fn19 (fun h9 hs9 hd9 => fork_Put.con k _ (some ⟨b11, 0, none⟩) 1 (some ⟨b14, 0, none⟩) 2 none 0 (⟨false, ([([97] : Str)] : List Str), ([(1 : Int), (2 : Int)] : List Int), ([] : (List Int))⟩ : fork_Node) ([120] : Str) (1 : Int) t909 (Sats.row hs9 hd9 0 rfl) (Sats.row hs9 hd9 1 rfl) (SlW.nil _ _) ht910) S rfl rfl (by rintro _ _ _ ⟨_, _, _, _, _, _, _, rfl⟩; exact (flat_cons (flat_row (fun _ _ _ _ h => h)) (flat_cons (flat_row (fun _ _ _ _ h => h)) (flat_cons (flat_row (fun _ _ _ _ h => h)) flat_nil)))) ?_
  rintro _ w920 _ Γ' E' S ⟨A911, c912, A914, c915, A917, c918, rfl, rfl⟩
  replace E := E.trans E'
  clear E'
  refine W_v (.tuple #[.agg #[.bool t909.1.Leaf, .slice A911 t909.1.Keys.length c912, .slice A914 t909.1.Kids.length c915, .slice A917 t909.1.Rows.length c918], .int .i64 t909.2]) (x_move rfl) rfl ?_
  refine W_v (.agg #[.bool t909.1.Leaf, .slice A911 t909.1.Keys.length c912, .slice A914 t909.1.Kids.length c915, .slice A917 t909.1.Rows.length c918]) (x_extract rfl rfl) rfl ?_
  refine W_v (.int .i64 t909.2) (x_extract rfl rfl) rfl ?_
  refine W_alloc S #[.bool false, .slice none 0 0, .slice none 0 0, .slice none 0 0] ty26 rfl rfl ?_
  intro b921 w922 E' S
  replace E := E.trans E'
  clear E'
  refine W_store S 0 rfl ty26 rfl rfl [.bool t909.1.Leaf, .slice A911 t909.1.Keys.length c912, .slice A914 t909.1.Kids.length c915, .slice A917 t909.1.Rows.length c918] rfl rfl rfl #[.bool t909.1.Leaf, .slice A911 t909.1.Keys.length c912, .slice A914 t909.1.Kids.length c915, .slice A917 t909.1.Rows.length c918] rfl rfl ?_
  intro w924 E' S
  replace E := E.trans E'
  clear E'
  refine W_v (.int .i64 t909.2) (x_assign rfl) rfl ?_
  refine Wl_nil ?_
  refine tn ?_
  refine Wp_seq ?_
  refine Wp_region_lit ?_
  refine W_v (.agg #[.bool false, .slice (some ⟨b11, 0, none⟩) ([([97] : Str)] : List Str).length 1, .slice (some ⟨b14, 0, none⟩) ([(1 : Int), (2 : Int)] : List Int).length 2, .slice none 0 0]) (x_loadA (S.blk 26 rfl) ty26 rfl (sub_of_extract rfl) rfl rfl) rfl ?_
  replace S : St w924 M867 F [Row rStr 9 (.slice (some ⟨b11, 0, none⟩) ([([97] : Str)] : List Str).length 1) ([([97] : Str)] : List Str), Row (rInt .i64) 3 (.slice (some ⟨b14, 0, none⟩) ([(1 : Int), (2 : Int)] : List Int).length 2) ([(1 : Int), (2 : Int)] : List Int), Blk b921 (.cells #[.bool t909.1.Leaf, .slice A911 t909.1.Keys.length c912, .slice A914 t909.1.Kids.length c915, .slice A917 t909.1.Rows.length c918] 26 (0, 0)), Row rStr 9 (.slice A911 t909.1.Keys.length c912) t909.1.Keys, Row (rInt .i64) 3 (.slice A914 t909.1.Kids.length c915) t909.1.Kids, Row (rInt .u64) 41 (.slice A917 t909.1.Rows.length c918) t909.1.Rows, Blk b905 (.cells #[.bool t893.1.Leaf, .slice A895 t893.1.Keys.length c896, .slice A898 t893.1.Kids.length c899, .slice A901 t893.1.Rows.length c902] 26 (0, 0)), Row rStr 9 (.slice A895 t893.1.Keys.length c896) t893.1.Keys, Row (rInt .i64) 3 (.slice A898 t893.1.Kids.length c899) t893.1.Kids, Row (rInt .u64) 41 (.slice A901 t893.1.Rows.length c902) t893.1.Rows, Blk b889 (.cells #[.bool t877.1.Leaf, .slice A879 t877.1.Keys.length c880, .slice A882 t877.1.Kids.length c883, .slice A885 t877.1.Rows.length c886] 26 (0, 0)), Row rStr 9 (.slice A879 t877.1.Keys.length c880) t877.1.Keys, Row (rInt .i64) 3 (.slice A882 t877.1.Kids.length c883) t877.1.Kids, Row (rInt .u64) 41 (.slice A885 t877.1.Rows.length c886) t877.1.Rows, Blk b872 (.cells #[.bool t846.2.1.Leaf, .slice A857 t846.2.1.Keys.length c858, .slice A860 t846.2.1.Kids.length c861, .slice A863 t846.2.1.Rows.length c864] 26 (0, 0)), Blk b869 (.cells #[.bool t846.1.Leaf, .slice A848 t846.1.Keys.length c849, .slice A851 t846.1.Kids.length c852, .slice A854 t846.1.Rows.length c855] 26 (0, 0)), Blk b836 (.cells #[.bool t824.1.Leaf, .slice A826 t824.1.Keys.length c827, .slice A829 t824.1.Kids.length c830, .slice A832 t824.1.Rows.length c833] 26 (0, 0)), Row rStr 9 (.slice A826 t824.1.Keys.length c827) t824.1.Keys, Row (rInt .i64) 3 (.slice A829 t824.1.Kids.length c830) t824.1.Kids, Row (rInt .u64) 41 (.slice A832 t824.1.Rows.length c833) t824.1.Rows, Blk b820 (.cells #[.bool t808.1.Leaf, .slice A810 t808.1.Keys.length c811, .slice A813 t808.1.Kids.length c814, .slice A816 t808.1.Rows.length c817] 26 (0, 0)), Row rStr 9 (.slice A810 t808.1.Keys.length c811) t808.1.Keys, Row (rInt .i64) 3 (.slice A813 t808.1.Kids.length c814) t808.1.Kids, Row (rInt .u64) 41 (.slice A816 t808.1.Rows.length c817) t808.1.Rows, Blk b24 (.cells #[.bool false, .slice none 0 0, .slice (some ⟨b21, 0, none⟩) ([(5 : Int)] : List Int).length 1, .slice none 0 0] 26 (0, 0)), Row (rInt .i64) 3 (.slice (some ⟨b21, 0, none⟩) ([(5 : Int)] : List Int).length 1) ([(5 : Int)] : List Int), Blk b17 (.cells #[.bool false, .slice (some ⟨b11, 0, none⟩) ([([97] : Str)] : List Str).length 1, .slice (some ⟨b14, 0, none⟩) ([(1 : Int), (2 : Int)] : List Int).length 2, .slice none 0 0] 26 (0, 0)), Blk b7 (.cells #[.bool true, .slice (some ⟨b1, 0, none⟩) ([([] : Str), ([97] : Str)] : List Str).length 2, .slice none 0 0, .slice (some ⟨b4, 0, none⟩) ([(1 : Int), (2 : Int)] : List Int).length 2] 26 (0, 0))] := S.pick [4, 5, 0, 1, 2, 3, 6, 7, 8, 9, 10, 11, 12, 13, 14, 15, 16, 17, 18, 19, 20, 21, 22, 23, 24, 25, 26, 27] (by decide)
  obtain ⟨t925, ht926, H⟩ := bindS H
  refine W_callN 2 fn18 (fun h9 hs9 hd9 => fork_Take.con k _ (some ⟨b11, 0, none⟩) 1 (some ⟨b14, 0, none⟩) 2 none 0 (⟨false, ([([97] : Str)] : List Str), ([(1 : Int), (2 : Int)] : List Int), ([] : (List Int))⟩ : fork_Node) ([97] : Str) t925 (Sats.row hs9 hd9 0 rfl) (Sats.row hs9 hd9 1 rfl) (SlW.nil _ _) ht926) S rfl rfl (by rintro _ _ _ ⟨_, _, _, _, _, _, _, rfl⟩; exact (flat_cons (flat_row (fun _ _ _ _ h => h)) (flat_cons (flat_row (fun _ _ _ _ h => h)) (flat_cons (flat_row (fun _ _ _ _ h => h)) flat_nil)))) ?_
  rintro _ w936 _ Γ' E' S ⟨A927, c928, A930, c931, A933, c934, rfl, rfl⟩
  replace E := E.trans E'
  clear E'
  refine W_v (.tuple #[.agg #[.bool t925.1.Leaf, .slice A927 t925.1.Keys.length c928, .slice A930 t925.1.Kids.length c931, .slice A933 t925.1.Rows.length c934], .int .i64 t925.2]) (x_move rfl) rfl ?_
  refine W_v (.agg #[.bool t925.1.Leaf, .slice A927 t925.1.Keys.length c928, .slice A930 t925.1.Kids.length c931, .slice A933 t925.1.Rows.length c934]) (x_extract rfl rfl) rfl ?_
  refine W_v (.int .i64 t925.2) (x_extract rfl rfl) rfl ?_
  refine W_alloc S #[.bool false, .slice none 0 0, .slice none 0 0, .slice none 0 0] ty26 rfl rfl ?_
  intro b937 w938 E' S
  replace E := E.trans E'
  clear E'
  refine W_store S 0 rfl ty26 rfl rfl [.bool t925.1.Leaf, .slice A927 t925.1.Keys.length c928, .slice A930 t925.1.Kids.length c931, .slice A933 t925.1.Rows.length c934] rfl rfl rfl #[.bool t925.1.Leaf, .slice A927 t925.1.Keys.length c928, .slice A930 t925.1.Kids.length c931, .slice A933 t925.1.Rows.length c934] rfl rfl ?_
  intro w940 E' S
  replace E := E.trans E'
  clear E'
  refine W_v (.int .i64 t925.2) (x_assign rfl) rfl ?_
  refine Wl_nil ?_
  refine tn ?_
  refine Wp_seq ?_
  refine Wp_region_lit ?_
  refine W_v (.agg #[.bool false, .slice (some ⟨b11, 0, none⟩) ([([97] : Str)] : List Str).length 1, .slice (some ⟨b14, 0, none⟩) ([(1 : Int), (2 : Int)] : List Int).length 2, .slice none 0 0]) (x_loadA (S.blk 30 rfl) ty26 rfl (sub_of_extract rfl) rfl rfl) rfl ?_
  replace S : St w940 M867 F [Row rStr 9 (.slice (some ⟨b11, 0, none⟩) ([([97] : Str)] : List Str).length 1) ([([97] : Str)] : List Str), Row (rInt .i64) 3 (.slice (some ⟨b14, 0, none⟩) ([(1 : Int), (2 : Int)] : List Int).length 2) ([(1 : Int), (2 : Int)] : List Int), Blk b937 (.cells #[.bool t925.1.Leaf, .slice A927 t925.1.Keys.length c928, .slice A930 t925.1.Kids.length c931, .slice A933 t925.1.Rows.length c934] 26 (0, 0)), Row rStr 9 (.slice A927 t925.1.Keys.length c928) t925.1.Keys, Row (rInt .i64) 3 (.slice A930 t925.1.Kids.length c931) t925.1.Kids, Row (rInt .u64) 41 (.slice A933 t925.1.Rows.length c934) t925.1.Rows, Blk b921 (.cells #[.bool t909.1.Leaf, .slice A911 t909.1.Keys.length c912, .slice A914 t909.1.Kids.length c915, .slice A917 t909.1.Rows.length c918] 26 (0, 0)), Row rStr 9 (.slice A911 t909.1.Keys.length c912) t909.1.Keys, Row (rInt .i64) 3 (.slice A914 t909.1.Kids.length c915) t909.1.Kids, Row (rInt .u64) 41 (.slice A917 t909.1.Rows.length c918) t909.1.Rows, Blk b905 (.cells #[.bool t893.1.Leaf, .slice A895 t893.1.Keys.length c896, .slice A898 t893.1.Kids.length c899, .slice A901 t893.1.Rows.length c902] 26 (0, 0)), Row rStr 9 (.slice A895 t893.1.Keys.length c896) t893.1.Keys, Row (rInt .i64) 3 (.slice A898 t893.1.Kids.length c899) t893.1.Kids, Row (rInt .u64) 41 (.slice A901 t893.1.Rows.length c902) t893.1.Rows, Blk b889 (.cells #[.bool t877.1.Leaf, .slice A879 t877.1.Keys.length c880, .slice A882 t877.1.Kids.length c883, .slice A885 t877.1.Rows.length c886] 26 (0, 0)), Row rStr 9 (.slice A879 t877.1.Keys.length c880) t877.1.Keys, Row (rInt .i64) 3 (.slice A882 t877.1.Kids.length c883) t877.1.Kids, Row (rInt .u64) 41 (.slice A885 t877.1.Rows.length c886) t877.1.Rows, Blk b872 (.cells #[.bool t846.2.1.Leaf, .slice A857 t846.2.1.Keys.length c858, .slice A860 t846.2.1.Kids.length c861, .slice A863 t846.2.1.Rows.length c864] 26 (0, 0)), Blk b869 (.cells #[.bool t846.1.Leaf, .slice A848 t846.1.Keys.length c849, .slice A851 t846.1.Kids.length c852, .slice A854 t846.1.Rows.length c855] 26 (0, 0)), Blk b836 (.cells #[.bool t824.1.Leaf, .slice A826 t824.1.Keys.length c827, .slice A829 t824.1.Kids.length c830, .slice A832 t824.1.Rows.length c833] 26 (0, 0)), Row rStr 9 (.slice A826 t824.1.Keys.length c827) t824.1.Keys, Row (rInt .i64) 3 (.slice A829 t824.1.Kids.length c830) t824.1.Kids, Row (rInt .u64) 41 (.slice A832 t824.1.Rows.length c833) t824.1.Rows, Blk b820 (.cells #[.bool t808.1.Leaf, .slice A810 t808.1.Keys.length c811, .slice A813 t808.1.Kids.length c814, .slice A816 t808.1.Rows.length c817] 26 (0, 0)), Row rStr 9 (.slice A810 t808.1.Keys.length c811) t808.1.Keys, Row (rInt .i64) 3 (.slice A813 t808.1.Kids.length c814) t808.1.Kids, Row (rInt .u64) 41 (.slice A816 t808.1.Rows.length c817) t808.1.Rows, Blk b24 (.cells #[.bool false, .slice none 0 0, .slice (some ⟨b21, 0, none⟩) ([(5 : Int)] : List Int).length 1, .slice none 0 0] 26 (0, 0)), Row (rInt .i64) 3 (.slice (some ⟨b21, 0, none⟩) ([(5 : Int)] : List Int).length 1) ([(5 : Int)] : List Int), Blk b17 (.cells #[.bool false, .slice (some ⟨b11, 0, none⟩) ([([97] : Str)] : List Str).length 1, .slice (some ⟨b14, 0, none⟩) ([(1 : Int), (2 : Int)] : List Int).length 2, .slice none 0 0] 26 (0, 0)), Blk b7 (.cells #[.bool true, .slice (some ⟨b1, 0, none⟩) ([([] : Str), ([97] : Str)] : List Str).length 2, .slice none 0 0, .slice (some ⟨b4, 0, none⟩) ([(1 : Int), (2 : Int)] : List Int).length 2] 26 (0, 0))] := S.pick [4, 5, 0, 1, 2, 3, 6, 7, 8, 9, 10, 11, 12, 13, 14, 15, 16, 17, 18, 19, 20, 21, 22, 23, 24, 25, 26, 27, 28, 29, 30, 31] (by decide)
  obtain ⟨t941, ht942, H⟩ := bindS H
  refine W_callN 2 fn21 (fun h9 hs9 hd9 => fork_Graft.con k _ (some ⟨b11, 0, none⟩) 1 (some ⟨b14, 0, none⟩) 2 none 0 (⟨false, ([([97] : Str)] : List Str), ([(1 : Int), (2 : Int)] : List Int), ([] : (List Int))⟩ : fork_Node) ([97] : Str) (1 : Int) t941 (Sats.row hs9 hd9 0 rfl) (Sats.row hs9 hd9 1 rfl) (SlW.nil _ _) ht942) S rfl rfl (by rintro _ _ _ ⟨_, _, _, _, _, _, _, rfl⟩; exact (flat_cons (flat_row (fun _ _ _ _ h => h)) (flat_cons (flat_row (fun _ _ _ _ h => h)) (flat_cons (flat_row (fun _ _ _ _ h => h)) flat_nil)))) ?_
  rintro _ w952 _ Γ' E' S ⟨A943, c944, A946, c947, A949, c950, rfl, rfl⟩
  replace E := E.trans E'
  clear E'
  refine W_v (.tuple #[.agg #[.bool t941.1.Leaf, .slice A943 t941.1.Keys.length c944, .slice A946 t941.1.Kids.length c947, .slice A949 t941.1.Rows.length c950], .int .i64 t941.2]) (x_move rfl) rfl ?_
  refine W_v (.agg #[.bool t941.1.Leaf, .slice A943 t941.1.Keys.length c944, .slice A946 t941.1.Kids.length c947, .slice A949 t941.1.Rows.length c950]) (x_extract rfl rfl) rfl ?_
  refine W_v (.int .i64 t941.2) (x_extract rfl rfl) rfl ?_
  refine W_alloc S #[.bool false, .slice none 0 0, .slice none 0 0, .slice none 0 0] ty26 rfl rfl ?_
  intro b953 w954 E' S
  replace E := E.trans E'
  clear E'
  refine W_store S 0 rfl ty26 rfl rfl [.bool t941.1.Leaf, .slice A943 t941.1.Keys.length c944, .slice A946 t941.1.Kids.length c947, .slice A949 t941.1.Rows.length c950] rfl rfl rfl #[.bool t941.1.Leaf, .slice A943 t941.1.Keys.length c944, .slice A946 t941.1.Kids.length c947, .slice A949 t941.1.Rows.length c950] rfl rfl ?_
  intro w956 E' S
  replace E := E.trans E'
  clear E'
  refine W_v (.int .i64 t941.2) (x_assign rfl) rfl ?_
  refine Wl_nil ?_
  refine tn ?_
  refine Wp_seq ?_
  refine Wp_region_lit ?_
  refine W_v (.agg #[.bool false, .slice (some ⟨b11, 0, none⟩) ([([97] : Str)] : List Str).length 1, .slice (some ⟨b14, 0, none⟩) ([(1 : Int), (2 : Int)] : List Int).length 2, .slice none 0 0]) (x_loadA (S.blk 34 rfl) ty26 rfl (sub_of_extract rfl) rfl rfl) rfl ?_
  replace S : St w956 M867 F [Row rStr 9 (.slice (some ⟨b11, 0, none⟩) ([([97] : Str)] : List Str).length 1) ([([97] : Str)] : List Str), Row (rInt .i64) 3 (.slice (some ⟨b14, 0, none⟩) ([(1 : Int), (2 : Int)] : List Int).length 2) ([(1 : Int), (2 : Int)] : List Int), Blk b953 (.cells #[.bool t941.1.Leaf, .slice A943 t941.1.Keys.length c944, .slice A946 t941.1.Kids.length c947, .slice A949 t941.1.Rows.length c950] 26 (0, 0)), Row rStr 9 (.slice A943 t941.1.Keys.length c944) t941.1.Keys, Row (rInt .i64) 3 (.slice A946 t941.1.Kids.length c947) t941.1.Kids, Row (rInt .u64) 41 (.slice A949 t941.1.Rows.length c950) t941.1.Rows, Blk b937 (.cells #[.bool t925.1.Leaf, .slice A927 t925.1.Keys.length c928, .slice A930 t925.1.Kids.length c931, .slice A933 t925.1.Rows.length c934] 26 (0, 0)), Row rStr 9 (.slice A927 t925.1.Keys.length c928) t925.1.Keys, Row (rInt .i64) 3 (.slice A930 t925.1.Kids.length c931) t925.1.Kids, Row (rInt .u64) 41 (.slice A933 t925.1.Rows.length c934) t925.1.Rows, Blk b921 (.cells #[.bool t909.1.Leaf, .slice A911 t909.1.Keys.length c912, .slice A914 t909.1.Kids.length c915, .slice A917 t909.1.Rows.length c918] 26 (0, 0)), Row rStr 9 (.slice A911 t909.1.Keys.length c912) t909.1.Keys, Row (rInt .i64) 3 (.slice A914 t909.1.Kids.length c915) t909.1.Kids, Row (rInt .u64) 41 (.slice A917 t909.1.Rows.length c918) t909.1.Rows, Blk b905 (.cells #[.bool t893.1.Leaf, .slice A895 t893.1.Keys.length c896, .slice A898 t893.1.Kids.length c899, .slice A901 t893.1.Rows.length c902] 26 (0, 0)), Row rStr 9 (.slice A895 t893.1.Keys.length c896) t893.1.Keys, Row (rInt .i64) 3 (.slice A898 t893.1.Kids.length c899) t893.1.Kids, Row (rInt .u64) 41 (.slice A901 t893.1.Rows.length c902) t893.1.Rows, Blk b889 (.cells #[.bool t877.1.Leaf, .slice A879 t877.1.Keys.length c880, .slice A882 t877.1.Kids.length c883, .slice A885 t877.1.Rows.length c886] 26 (0, 0)), Row rStr 9 (.slice A879 t877.1.Keys.length c880) t877.1.Keys, Row (rInt .i64) 3 (.slice A882 t877.1.Kids.length c883) t877.1.Kids, Row (rInt .u64) 41 (.slice A885 t877.1.Rows.length c886) t877.1.Rows, Blk b872 (.cells #[.bool t846.2.1.Leaf, .slice A857 t846.2.1.Keys.length c858, .slice A860 t846.2.1.Kids.length c861, .slice A863 t846.2.1.Rows.length c864] 26 (0, 0)), Blk b869 (.cells #[.bool t846.1.Leaf, .slice A848 t846.1.Keys.length c849, .slice A851 t846.1.Kids.length c852, .slice A854 t846.1.Rows.length c855] 26 (0, 0)), Blk b836 (.cells #[.bool t824.1.Leaf, .slice A826 t824.1.Keys.length c827, .slice A829 t824.1.Kids.length c830, .slice A832 t824.1.Rows.length c833] 26 (0, 0)), Row rStr 9 (.slice A826 t824.1.Keys.length c827) t824.1.Keys, Row (rInt .i64) 3 (.slice A829 t824.1.Kids.length c830) t824.1.Kids, Row (rInt .u64) 41 (.slice A832 t824.1.Rows.length c833) t824.1.Rows, Blk b820 (.cells #[.bool t808.1.Leaf, .slice A810 t808.1.Keys.length c811, .slice A813 t808.1.Kids.length c814, .slice A816 t808.1.Rows.length c817] 26 (0, 0)), Row rStr 9 (.slice A810 t808.1.Keys.length c811) t808.1.Keys, Row (rInt .i64) 3 (.slice A813 t808.1.Kids.length c814) t808.1.Kids, Row (rInt .u64) 41 (.slice A816 t808.1.Rows.length c817) t808.1.Rows, Blk b24 (.cells #[.bool false, .slice none 0 0, .slice (some ⟨b21, 0, none⟩) ([(5 : Int)] : List Int).length 1, .slice none 0 0] 26 (0, 0)), Row (rInt .i64) 3 (.slice (some ⟨b21, 0, none⟩) ([(5 : Int)] : List Int).length 1) ([(5 : Int)] : List Int), Blk b17 (.cells #[.bool false, .slice (some ⟨b11, 0, none⟩) ([([97] : Str)] : List Str).length 1, .slice (some ⟨b14, 0, none⟩) ([(1 : Int), (2 : Int)] : List Int).length 2, .slice none 0 0] 26 (0, 0)), Blk b7 (.cells #[.bool true, .slice (some ⟨b1, 0, none⟩) ([([] : Str), ([97] : Str)] : List Str).length 2, .slice none 0 0, .slice (some ⟨b4, 0, none⟩) ([(1 : Int), (2 : Int)] : List Int).length 2] 26 (0, 0))] := S.pick [4, 5, 0, 1, 2, 3, 6, 7, 8, 9, 10, 11, 12, 13, 14, 15, 16, 17, 18, 19, 20, 21, 22, 23, 24, 25, 26, 27, 28, 29, 30, 31, 32, 33, 34, 35] (by decide)
  obtain ⟨t957, ht958, H⟩ := bindS H
  refine W_callN 2 fn20 (fun h9 hs9 hd9 => fork_Cut.con k _ (some ⟨b11, 0, none⟩) 1 (some ⟨b14, 0, none⟩) 2 none 0 (⟨false, ([([97] : Str)] : List Str), ([(1 : Int), (2 : Int)] : List Int), ([] : (List Int))⟩ : fork_Node) (2 : Int) t957 (Sats.row hs9 hd9 0 rfl) (Sats.row hs9 hd9 1 rfl) (SlW.nil _ _) ht958) S rfl rfl (by rintro _ _ _ ⟨_, _, _, _, _, _, _, rfl⟩; exact (flat_cons (flat_row (fun _ _ _ _ h => h)) (flat_cons (flat_row (fun _ _ _ _ h => h)) (flat_cons (flat_row (fun _ _ _ _ h => h)) flat_nil)))) ?_
  rintro _ w968 _ Γ' E' S ⟨A959, c960, A962, c963, A965, c966, rfl, rfl⟩
  replace E := E.trans E'
  clear E'
  refine W_v (.tuple #[.agg #[.bool t957.1.Leaf, .slice A959 t957.1.Keys.length c960, .slice A962 t957.1.Kids.length c963, .slice A965 t957.1.Rows.length c966], .int .i64 t957.2]) (x_move rfl) rfl ?_
  refine W_v (.agg #[.bool t957.1.Leaf, .slice A959 t957.1.Keys.length c960, .slice A962 t957.1.Kids.length c963, .slice A965 t957.1.Rows.length c966]) (x_extract rfl rfl) rfl ?_
  refine W_v (.int .i64 t957.2) (x_extract rfl rfl) rfl ?_
  refine W_alloc S #[.bool false, .slice none 0 0, .slice none 0 0, .slice none 0 0] ty26 rfl rfl ?_
  intro b969 w970 E' S
  replace E := E.trans E'
  clear E'
  refine W_store S 0 rfl ty26 rfl rfl [.bool t957.1.Leaf, .slice A959 t957.1.Keys.length c960, .slice A962 t957.1.Kids.length c963, .slice A965 t957.1.Rows.length c966] rfl rfl rfl #[.bool t957.1.Leaf, .slice A959 t957.1.Keys.length c960, .slice A962 t957.1.Kids.length c963, .slice A965 t957.1.Rows.length c966] rfl rfl ?_
  intro w972 E' S
  replace E := E.trans E'
  clear E'
  refine W_v (.int .i64 t957.2) (x_assign rfl) rfl ?_
  refine Wl_nil ?_
  refine tn ?_
  refine Wp_seq ?_
  refine Wp_region_lit ?_
  refine W_v (.agg #[.bool false, .slice (some ⟨b11, 0, none⟩) ([([97] : Str)] : List Str).length 1, .slice (some ⟨b14, 0, none⟩) ([(1 : Int), (2 : Int)] : List Int).length 2, .slice none 0 0]) (x_loadA (S.blk 38 rfl) ty26 rfl (sub_of_extract rfl) rfl rfl) rfl ?_
  replace S : St w972 M867 F [Row rStr 9 (.slice (some ⟨b11, 0, none⟩) ([([97] : Str)] : List Str).length 1) ([([97] : Str)] : List Str), Row (rInt .i64) 3 (.slice (some ⟨b14, 0, none⟩) ([(1 : Int), (2 : Int)] : List Int).length 2) ([(1 : Int), (2 : Int)] : List Int), Blk b969 (.cells #[.bool t957.1.Leaf, .slice A959 t957.1.Keys.length c960, .slice A962 t957.1.Kids.length c963, .slice A965 t957.1.Rows.length c966] 26 (0, 0)), Row rStr 9 (.slice A959 t957.1.Keys.length c960) t957.1.Keys, Row (rInt .i64) 3 (.slice A962 t957.1.Kids.length c963) t957.1.Kids, Row (rInt .u64) 41 (.slice A965 t957.1.Rows.length c966) t957.1.Rows, Blk b953 (.cells #[.bool t941.1.Leaf, .slice A943 t941.1.Keys.length c944, .slice A946 t941.1.Kids.length c947, .slice A949 t941.1.Rows.length c950] 26 (0, 0)), Row rStr 9 (.slice A943 t941.1.Keys.length c944) t941.1.Keys, Row (rInt .i64) 3 (.slice A946 t941.1.Kids.length c947) t941.1.Kids, Row (rInt .u64) 41 (.slice A949 t941.1.Rows.length c950) t941.1.Rows, Blk b937 (.cells #[.bool t925.1.Leaf, .slice A927 t925.1.Keys.length c928, .slice A930 t925.1.Kids.length c931, .slice A933 t925.1.Rows.length c934] 26 (0, 0)), Row rStr 9 (.slice A927 t925.1.Keys.length c928) t925.1.Keys, Row (rInt .i64) 3 (.slice A930 t925.1.Kids.length c931) t925.1.Kids, Row (rInt .u64) 41 (.slice A933 t925.1.Rows.length c934) t925.1.Rows, Blk b921 (.cells #[.bool t909.1.Leaf, .slice A911 t909.1.Keys.length c912, .slice A914 t909.1.Kids.length c915, .slice A917 t909.1.Rows.length c918] 26 (0, 0)), Row rStr 9 (.slice A911 t909.1.Keys.length c912) t909.1.Keys, Row (rInt .i64) 3 (.slice A914 t909.1.Kids.length c915) t909.1.Kids, Row (rInt .u64) 41 (.slice A917 t909.1.Rows.length c918) t909.1.Rows, Blk b905 (.cells #[.bool t893.1.Leaf, .slice A895 t893.1.Keys.length c896, .slice A898 t893.1.Kids.length c899, .slice A901 t893.1.Rows.length c902] 26 (0, 0)), Row rStr 9 (.slice A895 t893.1.Keys.length c896) t893.1.Keys, Row (rInt .i64) 3 (.slice A898 t893.1.Kids.length c899) t893.1.Kids, Row (rInt .u64) 41 (.slice A901 t893.1.Rows.length c902) t893.1.Rows, Blk b889 (.cells #[.bool t877.1.Leaf, .slice A879 t877.1.Keys.length c880, .slice A882 t877.1.Kids.length c883, .slice A885 t877.1.Rows.length c886] 26 (0, 0)), Row rStr 9 (.slice A879 t877.1.Keys.length c880) t877.1.Keys, Row (rInt .i64) 3 (.slice A882 t877.1.Kids.length c883) t877.1.Kids, Row (rInt .u64) 41 (.slice A885 t877.1.Rows.length c886) t877.1.Rows, Blk b872 (.cells #[.bool t846.2.1.Leaf, .slice A857 t846.2.1.Keys.length c858, .slice A860 t846.2.1.Kids.length c861, .slice A863 t846.2.1.Rows.length c864] 26 (0, 0)), Blk b869 (.cells #[.bool t846.1.Leaf, .slice A848 t846.1.Keys.length c849, .slice A851 t846.1.Kids.length c852, .slice A854 t846.1.Rows.length c855] 26 (0, 0)), Blk b836 (.cells #[.bool t824.1.Leaf, .slice A826 t824.1.Keys.length c827, .slice A829 t824.1.Kids.length c830, .slice A832 t824.1.Rows.length c833] 26 (0, 0)), Row rStr 9 (.slice A826 t824.1.Keys.length c827) t824.1.Keys, Row (rInt .i64) 3 (.slice A829 t824.1.Kids.length c830) t824.1.Kids, Row (rInt .u64) 41 (.slice A832 t824.1.Rows.length c833) t824.1.Rows, Blk b820 (.cells #[.bool t808.1.Leaf, .slice A810 t808.1.Keys.length c811, .slice A813 t808.1.Kids.length c814, .slice A816 t808.1.Rows.length c817] 26 (0, 0)), Row rStr 9 (.slice A810 t808.1.Keys.length c811) t808.1.Keys, Row (rInt .i64) 3 (.slice A813 t808.1.Kids.length c814) t808.1.Kids, Row (rInt .u64) 41 (.slice A816 t808.1.Rows.length c817) t808.1.Rows, Blk b24 (.cells #[.bool false, .slice none 0 0, .slice (some ⟨b21, 0, none⟩) ([(5 : Int)] : List Int).length 1, .slice none 0 0] 26 (0, 0)), Row (rInt .i64) 3 (.slice (some ⟨b21, 0, none⟩) ([(5 : Int)] : List Int).length 1) ([(5 : Int)] : List Int), Blk b17 (.cells #[.bool false, .slice (some ⟨b11, 0, none⟩) ([([97] : Str)] : List Str).length 1, .slice (some ⟨b14, 0, none⟩) ([(1 : Int), (2 : Int)] : List Int).length 2, .slice none 0 0] 26 (0, 0)), Blk b7 (.cells #[.bool true, .slice (some ⟨b1, 0, none⟩) ([([] : Str), ([97] : Str)] : List Str).length 2, .slice none 0 0, .slice (some ⟨b4, 0, none⟩) ([(1 : Int), (2 : Int)] : List Int).length 2] 26 (0, 0))] := S.pick [4, 5, 0, 1, 2, 3, 6, 7, 8, 9, 10, 11, 12, 13, 14, 15, 16, 17, 18, 19, 20, 21, 22, 23, 24, 25, 26, 27, 28, 29, 30, 31, 32, 33, 34, 35, 36, 37, 38, 39] (by decide)
  obtain ⟨t973, ht974, H⟩ := bindS H
  refine W_callN 2 fn20 (fun h9 hs9 hd9 => fork_Cut.con k _ (some ⟨b11, 0, none⟩) 1 (some ⟨b14, 0, none⟩) 2 none 0 (⟨false, ([([97] : Str)] : List Str), ([(1 : Int), (2 : Int)] : List Int), ([] : (List Int))⟩ : fork_Node) (-1 : Int) t973 (Sats.row hs9 hd9 0 rfl) (Sats.row hs9 hd9 1 rfl) (SlW.nil _ _) ht974) S rfl rfl (by rintro _ _ _ ⟨_, _, _, _, _, _, _, rfl⟩; exact (flat_cons (flat_row (fun _ _ _ _ h => h)) (flat_cons (flat_row (fun _ _ _ _ h => h)) (flat_cons (flat_row (fun _ _ _ _ h => h)) flat_nil)))) ?_
  rintro _ w984 _ Γ' E' S ⟨A975, c976, A978, c979, A981, c982, rfl, rfl⟩
  replace E := E.trans E'
  clear E'
  refine W_v (.tuple #[.agg #[.bool t973.1.Leaf, .slice A975 t973.1.Keys.length c976, .slice A978 t973.1.Kids.length c979, .slice A981 t973.1.Rows.length c982], .int .i64 t973.2]) (x_move rfl) rfl ?_
  refine W_v (.agg #[.bool t973.1.Leaf, .slice A975 t973.1.Keys.length c976, .slice A978 t973.1.Kids.length c979, .slice A981 t973.1.Rows.length c982]) (x_extract rfl rfl) rfl ?_
  refine W_v (.int .i64 t973.2) (x_extract rfl rfl) rfl ?_
  refine W_alloc S #[.bool false, .slice none 0 0, .slice none 0 0, .slice none 0 0] ty26 rfl rfl ?_
  intro b985 w986 E' S
  replace E := E.trans E'
  clear E'
  refine W_store S 0 rfl ty26 rfl rfl [.bool t973.1.Leaf, .slice A975 t973.1.Keys.length c976, .slice A978 t973.1.Kids.length c979, .slice A981 t973.1.Rows.length c982] rfl rfl rfl #[.bool t973.1.Leaf, .slice A975 t973.1.Keys.length c976, .slice A978 t973.1.Kids.length c979, .slice A981 t973.1.Rows.length c982] rfl rfl ?_
  intro w988 E' S
  replace E := E.trans E'
  clear E'
  refine W_v (.int .i64 t973.2) (x_assign rfl) rfl ?_
  refine Wl_nil ?_
  refine tn ?_
  refine Wp_seq ?_
  refine Wp_region_lit ?_
  refine W_v (.agg #[.bool false, .slice none 0 0, .slice (some ⟨b21, 0, none⟩) ([(5 : Int)] : List Int).length 1, .slice none 0 0]) (x_loadA (S.blk 40 rfl) ty26 rfl (sub_of_extract rfl) rfl rfl) rfl ?_
  replace S : St w988 M867 F [Row (rInt .i64) 3 (.slice (some ⟨b21, 0, none⟩) ([(5 : Int)] : List Int).length 1) ([(5 : Int)] : List Int), Blk b985 (.cells #[.bool t973.1.Leaf, .slice A975 t973.1.Keys.length c976, .slice A978 t973.1.Kids.length c979, .slice A981 t973.1.Rows.length c982] 26 (0, 0)), Row rStr 9 (.slice A975 t973.1.Keys.length c976) t973.1.Keys, Row (rInt .i64) 3 (.slice A978 t973.1.Kids.length c979) t973.1.Kids, Row (rInt .u64) 41 (.slice A981 t973.1.Rows.length c982) t973.1.Rows, Row rStr 9 (.slice (some ⟨b11, 0, none⟩) ([([97] : Str)] : List Str).length 1) ([([97] : Str)] : List Str), Row (rInt .i64) 3 (.slice (some ⟨b14, 0, none⟩) ([(1 : Int), (2 : Int)] : List Int).length 2) ([(1 : Int), (2 : Int)] : List Int), Blk b969 (.cells #[.bool t957.1.Leaf, .slice A959 t957.1.Keys.length c960, .slice A962 t957.1.Kids.length c963, .slice A965 t957.1.Rows.length c966] 26 (0, 0)), Row rStr 9 (.slice A959 t957.1.Keys.length c960) t957.1.Keys, Row (rInt .i64) 3 (.slice A962 t957.1.Kids.length c963) t957.1.Kids, Row (rInt .u64) 41 (.slice A965 t957.1.Rows.length c966) t957.1.Rows, Blk b953 (.cells #[.bool t941.1.Leaf, .slice A943 t941.1.Keys.length c944, .slice A946 t941.1.Kids.length c947, .slice A949 t941.1.Rows.length c950] 26 (0, 0)), Row rStr 9 (.slice A943 t941.1.Keys.length c944) t941.1.Keys, Row (rInt .i64) 3 (.slice A946 t941.1.Kids.length c947) t941.1.Kids, Row (rInt .u64) 41 (.slice A949 t941.1.Rows.length c950) t941.1.Rows, Blk b937 (.cells #[.bool t925.1.Leaf, .slice A927 t925.1.Keys.length c928, .slice A930 t925.1.Kids.length c931, .slice A933 t925.1.Rows.length c934] 26 (0, 0)), Row rStr 9 (.slice A927 t925.1.Keys.length c928) t925.1.Keys, Row (rInt .i64) 3 (.slice A930 t925.1.Kids.length c931) t925.1.Kids, Row (rInt .u64) 41 (.slice A933 t925.1.Rows.length c934) t925.1.Rows, Blk b921 (.cells #[.bool t909.1.Leaf, .slice A911 t909.1.Keys.length c912, .slice A914 t909.1.Kids.length c915, .slice A917 t909.1.Rows.length c918] 26 (0, 0)), Row rStr 9 (.slice A911 t909.1.Keys.length c912) t909.1.Keys, Row (rInt .i64) 3 (.slice A914 t909.1.Kids.length c915) t909.1.Kids, Row (rInt .u64) 41 (.slice A917 t909.1.Rows.length c918) t909.1.Rows, Blk b905 (.cells #[.bool t893.1.Leaf, .slice A895 t893.1.Keys.length c896, .slice A898 t893.1.Kids.length c899, .slice A901 t893.1.Rows.length c902] 26 (0, 0)), Row rStr 9 (.slice A895 t893.1.Keys.length c896) t893.1.Keys, Row (rInt .i64) 3 (.slice A898 t893.1.Kids.length c899) t893.1.Kids, Row (rInt .u64) 41 (.slice A901 t893.1.Rows.length c902) t893.1.Rows, Blk b889 (.cells #[.bool t877.1.Leaf, .slice A879 t877.1.Keys.length c880, .slice A882 t877.1.Kids.length c883, .slice A885 t877.1.Rows.length c886] 26 (0, 0)), Row rStr 9 (.slice A879 t877.1.Keys.length c880) t877.1.Keys, Row (rInt .i64) 3 (.slice A882 t877.1.Kids.length c883) t877.1.Kids, Row (rInt .u64) 41 (.slice A885 t877.1.Rows.length c886) t877.1.Rows, Blk b872 (.cells #[.bool t846.2.1.Leaf, .slice A857 t846.2.1.Keys.length c858, .slice A860 t846.2.1.Kids.length c861, .slice A863 t846.2.1.Rows.length c864] 26 (0, 0)), Blk b869 (.cells #[.bool t846.1.Leaf, .slice A848 t846.1.Keys.length c849, .slice A851 t846.1.Kids.length c852, .slice A854 t846.1.Rows.length c855] 26 (0, 0)), Blk b836 (.cells #[.bool t824.1.Leaf, .slice A826 t824.1.Keys.length c827, .slice A829 t824.1.Kids.length c830, .slice A832 t824.1.Rows.length c833] 26 (0, 0)), Row rStr 9 (.slice A826 t824.1.Keys.length c827) t824.1.Keys, Row (rInt .i64) 3 (.slice A829 t824.1.Kids.length c830) t824.1.Kids, Row (rInt .u64) 41 (.slice A832 t824.1.Rows.length c833) t824.1.Rows, Blk b820 (.cells #[.bool t808.1.Leaf, .slice A810 t808.1.Keys.length c811, .slice A813 t808.1.Kids.length c814, .slice A816 t808.1.Rows.length c817] 26 (0, 0)), Row rStr 9 (.slice A810 t808.1.Keys.length c811) t808.1.Keys, Row (rInt .i64) 3 (.slice A813 t808.1.Kids.length c814) t808.1.Kids, Row (rInt .u64) 41 (.slice A816 t808.1.Rows.length c817) t808.1.Rows, Blk b24 (.cells #[.bool false, .slice none 0 0, .slice (some ⟨b21, 0, none⟩) ([(5 : Int)] : List Int).length 1, .slice none 0 0] 26 (0, 0)), Blk b17 (.cells #[.bool false, .slice (some ⟨b11, 0, none⟩) ([([97] : Str)] : List Str).length 1, .slice (some ⟨b14, 0, none⟩) ([(1 : Int), (2 : Int)] : List Int).length 2, .slice none 0 0] 26 (0, 0)), Blk b7 (.cells #[.bool true, .slice (some ⟨b1, 0, none⟩) ([([] : Str), ([97] : Str)] : List Str).length 2, .slice none 0 0, .slice (some ⟨b4, 0, none⟩) ([(1 : Int), (2 : Int)] : List Int).length 2] 26 (0, 0))] := S.pick [41, 0, 1, 2, 3, 4, 5, 6, 7, 8, 9, 10, 11, 12, 13, 14, 15, 16, 17, 18, 19, 20, 21, 22, 23, 24, 25, 26, 27, 28, 29, 30, 31, 32, 33, 34, 35, 36, 37, 38, 39, 40, 42, 43] (by decide)
  obtain ⟨t989, ht990, H⟩ := bindS H
  refine W_callN 1 fn20 (fun h9 hs9 hd9 => fork_Cut.con k _ none 0 (some ⟨b21, 0, none⟩) 1 none 0 (⟨false, ([] : (List Str)), ([(5 : Int)] : List Int), ([] : (List Int))⟩ : fork_Node) (0 : Int) t989 (SlW.nil _ _) (Sats.row hs9 hd9 0 rfl) (SlW.nil _ _) ht990) S rfl rfl (by rintro _ _ _ ⟨_, _, _, _, _, _, _, rfl⟩; exact (flat_cons (flat_row (fun _ _ _ _ h => h)) (flat_cons (flat_row (fun _ _ _ _ h => h)) (flat_cons (flat_row (fun _ _ _ _ h => h)) flat_nil)))) ?_
  rintro _ w1000 _ Γ' E' S ⟨A991, c992, A994, c995, A997, c998, rfl, rfl⟩
  replace E := E.trans E'
  clear E'
  refine W_v (.tuple #[.agg #[.bool t989.1.Leaf, .slice A991 t989.1.Keys.length c992, .slice A994 t989.1.Kids.length c995, .slice A997 t989.1.Rows.length c998], .int .i64 t989.2]) (x_move rfl) rfl ?_
  refine W_v (.agg #[.bool t989.1.Leaf, .slice A991 t989.1.Keys.length c992, .slice A994 t989.1.Kids.length c995, .slice A997 t989.1.Rows.length c998]) (x_extract rfl rfl) rfl ?_
  refine W_v (.int .i64 t989.2) (x_extract rfl rfl) rfl ?_
  refine W_alloc S #[.bool false, .slice none 0 0, .slice none 0 0, .slice none 0 0] ty26 rfl rfl ?_
  intro b1001 w1002 E' S
  replace E := E.trans E'
  clear E'
  refine W_store S 0 rfl ty26 rfl rfl [.bool t989.1.Leaf, .slice A991 t989.1.Keys.length c992, .slice A994 t989.1.Kids.length c995, .slice A997 t989.1.Rows.length c998] rfl rfl rfl #[.bool t989.1.Leaf, .slice A991 t989.1.Keys.length c992, .slice A994 t989.1.Kids.length c995, .slice A997 t989.1.Rows.length c998] rfl rfl ?_
  intro w1004 E' S
  replace E := E.trans E'
  clear E'
  refine W_v (.int .i64 t989.2) (x_assign rfl) rfl ?_
  refine Wl_nil ?_
  refine tn ?_
  refine Wp_seq ?_
  refine Wp_region_lit ?_
  refine W_v (.agg #[.bool true, .slice (some ⟨b1, 0, none⟩) ([([] : Str), ([97] : Str)] : List Str).length 2, .slice none 0 0, .slice (some ⟨b4, 0, none⟩) ([(1 : Int), (2 : Int)] : List Int).length 2]) (x_loadA (S.blk 47 rfl) ty26 rfl (sub_of_extract rfl) rfl rfl) rfl ?_
  obtain ⟨t1005, ht1006, H⟩ := bindS H
  refine W_callF fn14 (fork_Fence.con k M867 (some ⟨b1, 0, none⟩) 2 none 0 (some ⟨b4, 0, none⟩) 2 (⟨true, ([([] : Str), ([97] : Str)] : List Str), ([] : (List Int)), ([(1 : Int), (2 : Int)] : List Int)⟩ : fork_Node) (0 : Int) t1005 hf842 (SlW.nil _ _) hf845 ht1006) S rfl rfl (by rintro _ _ _ ⟨_, rfl⟩; exact flat_nil) ?_
  rintro _ w1007 _ Γ' E' S ⟨rfl, rfl⟩
  replace E := E.trans E'
  clear E'
  refine W_v (.tuple #[.string (bs t1005.1), .bool t1005.2]) (x_move rfl) rfl ?_
  refine W_v (.string (bs t1005.1)) (x_extract rfl rfl) rfl ?_
  refine W_v (.bool t1005.2) (x_extract rfl rfl) rfl ?_
  refine W_v (.string (bs t1005.1)) (x_assign rfl) rfl ?_
  refine W_v (.bool t1005.2) (x_assign rfl) rfl ?_
  refine Wl_nil ?_
  refine tn ?_
  refine Wp_seq ?_
  refine Wp_region_lit ?_
  refine W_v (.agg #[.bool false, .slice (some ⟨b11, 0, none⟩) ([([97] : Str)] : List Str).length 1, .slice (some ⟨b14, 0, none⟩) ([(1 : Int), (2 : Int)] : List Int).length 2, .slice none 0 0]) (x_loadA (S.blk 46 rfl) ty26 rfl (sub_of_extract rfl) rfl rfl) rfl ?_
  replace S : St w1007 M867 F [Row rStr 9 (.slice (some ⟨b11, 0, none⟩) ([([97] : Str)] : List Str).length 1) ([([97] : Str)] : List Str), Row (rInt .i64) 3 (.slice (some ⟨b14, 0, none⟩) ([(1 : Int), (2 : Int)] : List Int).length 2) ([(1 : Int), (2 : Int)] : List Int), Blk b1001 (.cells #[.bool t989.1.Leaf, .slice A991 t989.1.Keys.length c992, .slice A994 t989.1.Kids.length c995, .slice A997 t989.1.Rows.length c998] 26 (0, 0)), Row rStr 9 (.slice A991 t989.1.Keys.length c992) t989.1.Keys, Row (rInt .i64) 3 (.slice A994 t989.1.Kids.length c995) t989.1.Kids, Row (rInt .u64) 41 (.slice A997 t989.1.Rows.length c998) t989.1.Rows, Row (rInt .i64) 3 (.slice (some ⟨b21, 0, none⟩) ([(5 : Int)] : List Int).length 1) ([(5 : Int)] : List Int), Blk b985 (.cells #[.bool t973.1.Leaf, .slice A975 t973.1.Keys.length c976, .slice A978 t973.1.Kids.length c979, .slice A981 t973.1.Rows.length c982] 26 (0, 0)), Row rStr 9 (.slice A975 t973.1.Keys.length c976) t973.1.Keys, Row (rInt .i64) 3 (.slice A978 t973.1.Kids.length c979) t973.1.Kids, Row (rInt .u64) 41 (.slice A981 t973.1.Rows.length c982) t973.1.Rows, Blk b969 (.cells #[.bool t957.1.Leaf, .slice A959 t957.1.Keys.length c960, .slice A962 t957.1.Kids.length c963, .slice A965 t957.1.Rows.length c966] 26 (0, 0)), Row rStr 9 (.slice A959 t957.1.Keys.length c960) t957.1.Keys, Row (rInt .i64) 3 (.slice A962 t957.1.Kids.length c963) t957.1.Kids, Row (rInt .u64) 41 (.slice A965 t957.1.Rows.length c966) t957.1.Rows, Blk b953 (.cells #[.bool t941.1.Leaf, .slice A943 t941.1.Keys.length c944, .slice A946 t941.1.Kids.length c947, .slice A949 t941.1.Rows.length c950] 26 (0, 0)), Row rStr 9 (.slice A943 t941.1.Keys.length c944) t941.1.Keys, Row (rInt .i64) 3 (.slice A946 t941.1.Kids.length c947) t941.1.Kids, Row (rInt .u64) 41 (.slice A949 t941.1.Rows.length c950) t941.1.Rows, Blk b937 (.cells #[.bool t925.1.Leaf, .slice A927 t925.1.Keys.length c928, .slice A930 t925.1.Kids.length c931, .slice A933 t925.1.Rows.length c934] 26 (0, 0)), Row rStr 9 (.slice A927 t925.1.Keys.length c928) t925.1.Keys, Row (rInt .i64) 3 (.slice A930 t925.1.Kids.length c931) t925.1.Kids, Row (rInt .u64) 41 (.slice A933 t925.1.Rows.length c934) t925.1.Rows, Blk b921 (.cells #[.bool t909.1.Leaf, .slice A911 t909.1.Keys.length c912, .slice A914 t909.1.Kids.length c915, .slice A917 t909.1.Rows.length c918] 26 (0, 0)), Row rStr 9 (.slice A911 t909.1.Keys.length c912) t909.1.Keys, Row (rInt .i64) 3 (.slice A914 t909.1.Kids.length c915) t909.1.Kids, Row (rInt .u64) 41 (.slice A917 t909.1.Rows.length c918) t909.1.Rows, Blk b905 (.cells #[.bool t893.1.Leaf, .slice A895 t893.1.Keys.length c896, .slice A898 t893.1.Kids.length c899, .slice A901 t893.1.Rows.length c902] 26 (0, 0)), Row rStr 9 (.slice A895 t893.1.Keys.length c896) t893.1.Keys, Row (rInt .i64) 3 (.slice A898 t893.1.Kids.length c899) t893.1.Kids, Row (rInt .u64) 41 (.slice A901 t893.1.Rows.length c902) t893.1.Rows, Blk b889 (.cells #[.bool t877.1.Leaf, .slice A879 t877.1.Keys.length c880, .slice A882 t877.1.Kids.length c883, .slice A885 t877.1.Rows.length c886] 26 (0, 0)), Row rStr 9 (.slice A879 t877.1.Keys.length c880) t877.1.Keys, Row (rInt .i64) 3 (.slice A882 t877.1.Kids.length c883) t877.1.Kids, Row (rInt .u64) 41 (.slice A885 t877.1.Rows.length c886) t877.1.Rows, Blk b872 (.cells #[.bool t846.2.1.Leaf, .slice A857 t846.2.1.Keys.length c858, .slice A860 t846.2.1.Kids.length c861, .slice A863 t846.2.1.Rows.length c864] 26 (0, 0)), Blk b869 (.cells #[.bool t846.1.Leaf, .slice A848 t846.1.Keys.length c849, .slice A851 t846.1.Kids.length c852, .slice A854 t846.1.Rows.length c855] 26 (0, 0)), Blk b836 (.cells #[.bool t824.1.Leaf, .slice A826 t824.1.Keys.length c827, .slice A829 t824.1.Kids.length c830, .slice A832 t824.1.Rows.length c833] 26 (0, 0)), Row rStr 9 (.slice A826 t824.1.Keys.length c827) t824.1.Keys, Row (rInt .i64) 3 (.slice A829 t824.1.Kids.length c830) t824.1.Kids, Row (rInt .u64) 41 (.slice A832 t824.1.Rows.length c833) t824.1.Rows, Blk b820 (.cells #[.bool t808.1.Leaf, .slice A810 t808.1.Keys.length c811, .slice A813 t808.1.Kids.length c814, .slice A816 t808.1.Rows.length c817] 26 (0, 0)), Row rStr 9 (.slice A810 t808.1.Keys.length c811) t808.1.Keys, Row (rInt .i64) 3 (.slice A813 t808.1.Kids.length c814) t808.1.Kids, Row (rInt .u64) 41 (.slice A816 t808.1.Rows.length c817) t808.1.Rows, Blk b24 (.cells #[.bool false, .slice none 0 0, .slice (some ⟨b21, 0, none⟩) ([(5 : Int)] : List Int).length 1, .slice none 0 0] 26 (0, 0)), Blk b17 (.cells #[.bool false, .slice (some ⟨b11, 0, none⟩) ([([97] : Str)] : List Str).length 1, .slice (some ⟨b14, 0, none⟩) ([(1 : Int), (2 : Int)] : List Int).length 2, .slice none 0 0] 26 (0, 0)), Blk b7 (.cells #[.bool true, .slice (some ⟨b1, 0, none⟩) ([([] : Str), ([97] : Str)] : List Str).length 2, .slice none 0 0, .slice (some ⟨b4, 0, none⟩) ([(1 : Int), (2 : Int)] : List Int).length 2] 26 (0, 0))] := S.pick [9, 10, 0, 1, 2, 3, 4, 5, 6, 7, 8, 11, 12, 13, 14, 15, 16, 17, 18, 19, 20, 21, 22, 23, 24, 25, 26, 27, 28, 29, 30, 31, 32, 33, 34, 35, 36, 37, 38, 39, 40, 41, 42, 43, 44, 45, 46, 47] (by decide)
  obtain ⟨t1008, ht1009, H⟩ := bindS H
  refine W_callN 2 fn14 (fun h9 hs9 hd9 => fork_Fence.con k _ (some ⟨b11, 0, none⟩) 1 (some ⟨b14, 0, none⟩) 2 none 0 (⟨false, ([([97] : Str)] : List Str), ([(1 : Int), (2 : Int)] : List Int), ([] : (List Int))⟩ : fork_Node) (-1 : Int) t1008 (Sats.row hs9 hd9 0 rfl) (Sats.row hs9 hd9 1 rfl) (SlW.nil _ _) ht1009) S rfl rfl (by rintro _ _ _ ⟨_, rfl⟩; exact flat_nil) ?_
  rintro _ w1010 _ Γ' E' S ⟨rfl, rfl⟩
  replace E := E.trans E'
  clear E'
  refine W_v (.tuple #[.string (bs t1008.1), .bool t1008.2]) (x_move rfl) rfl ?_
  refine W_v (.string (bs t1008.1)) (x_extract rfl rfl) rfl ?_
  refine W_v (.bool t1008.2) (x_extract rfl rfl) rfl ?_
  refine W_v (.string (bs t1008.1)) (x_assign rfl) rfl ?_
  refine W_v (.bool t1008.2) (x_assign rfl) rfl ?_
  refine Wl_nil ?_
  refine tn ?_
  refine Wp_seq ?_
  refine Wp_seq ?_
  refine Wp_region_lit ?_
  refine W_v (.int .i64 t808.2) (x_move rfl) rfl ?_
  refine W_v (.bool (t808.2 != (6 : Int))) (x_ibin rfl rfl rfl rfl) rfl ?_
  refine W_v (.bool (t808.2 != (6 : Int))) (x_move rfl) rfl ?_
  refine Wl_cutN 3 (fun ρ w' => Agree ρ [(1, .pointer (some ⟨b7, 0, none⟩)), (2, .pointer (some ⟨b17, 0, none⟩)), (3, .pointer (some ⟨b24, 0, none⟩)), (29, .int .i64 t846.2.2.2), (31, .int .i64 t877.2), (33, .int .i64 t893.2), (35, .int .i64 t909.2), (37, .int .i64 t925.2), (39, .int .i64 t941.2), (41, .int .i64 t957.2), (43, .int .i64 t973.2), (45, .int .i64 t989.2), (47, .bool t1005.2), (49, .bool t1008.2), (269, .bool ((t808.2 != (6 : Int)) || (t824.2 != (5 : Int))))] ∧ w1010 = w') ?_ ?_
  · rcases boolCases (t808.2 != (6 : Int)) with hb1011 | hb1011
    · skip
      refine W_yes (congrArg some hb1011) ?_
      refine W_v (.int .i64 t824.2) (x_move rfl) rfl ?_
      refine W_yes (congrArg some hb1011) ?_
      refine W_v (.bool (t824.2 != (5 : Int))) (x_ibin rfl rfl rfl rfl) rfl ?_
      refine W_v (.bool (t824.2 != (5 : Int))) (x_pick (k := false) (congrArg Value.bool hb1011) rfl) rfl ?_
      refine Wl_nil ?_
      exact ⟨⟨rfl, rfl, rfl, rfl, rfl, rfl, rfl, rfl, rfl, rfl, rfl, rfl, rfl, rfl, (by first | rfl | (rw [hb1011]; rfl) | (simp only [hb1011]; rfl)), trivial⟩, rfl⟩
    · skip
      refine W_no (skF hb1011) rfl ?_
      refine W_no (skF hb1011) rfl ?_
      refine W_v (.bool true) (x_pick (k := true) (congrArg Value.bool hb1011) rfl) rfl ?_
      refine Wl_nil ?_
      exact ⟨⟨rfl, rfl, rfl, rfl, rfl, rfl, rfl, rfl, rfl, rfl, rfl, rfl, rfl, rfl, (by first | rfl | (rw [hb1011]; rfl) | (simp only [hb1011]; rfl)), trivial⟩, rfl⟩
  rintro ρ _ ⟨hρ, rfl⟩
  rw [agree_eta hρ]
  clear hρ
  refine W_v (.bool ((t808.2 != (6 : Int)) || (t824.2 != (5 : Int)))) (x_move rfl) rfl ?_
  refine Wl_cutN 3 (fun ρ w' => Agree ρ [(1, .pointer (some ⟨b7, 0, none⟩)), (2, .pointer (some ⟨b17, 0, none⟩)), (3, .pointer (some ⟨b24, 0, none⟩)), (31, .int .i64 t877.2), (33, .int .i64 t893.2), (35, .int .i64 t909.2), (37, .int .i64 t925.2), (39, .int .i64 t941.2), (41, .int .i64 t957.2), (43, .int .i64 t973.2), (45, .int .i64 t989.2), (47, .bool t1005.2), (49, .bool t1008.2), (273, .bool (((t808.2 != (6 : Int)) || (t824.2 != (5 : Int))) || (t846.2.2.2 != (4 : Int))))] ∧ w1010 = w') ?_ ?_
  · rcases boolCases ((t808.2 != (6 : Int)) || (t824.2 != (5 : Int))) with hb1012 | hb1012
    · skip
      refine W_yes (congrArg some hb1012) ?_
      refine W_v (.int .i64 t846.2.2.2) (x_move rfl) rfl ?_
      refine W_yes (congrArg some hb1012) ?_
      refine W_v (.bool (t846.2.2.2 != (4 : Int))) (x_ibin rfl rfl rfl rfl) rfl ?_
      refine W_v (.bool (t846.2.2.2 != (4 : Int))) (x_pick (k := false) (congrArg Value.bool hb1012) rfl) rfl ?_
      refine Wl_nil ?_
      exact ⟨⟨rfl, rfl, rfl, rfl, rfl, rfl, rfl, rfl, rfl, rfl, rfl, rfl, rfl, (by first | rfl | (rw [hb1012]; rfl) | (simp only [hb1012]; rfl)), trivial⟩, rfl⟩
    · skip
      refine W_no (skF hb1012) rfl ?_
      refine W_no (skF hb1012) rfl ?_
      refine W_v (.bool true) (x_pick (k := true) (congrArg Value.bool hb1012) rfl) rfl ?_
      refine Wl_nil ?_
      exact ⟨⟨rfl, rfl, rfl, rfl, rfl, rfl, rfl, rfl, rfl, rfl, rfl, rfl, rfl, (by first | rfl | (rw [hb1012]; rfl) | (simp only [hb1012]; rfl)), trivial⟩, rfl⟩
  rintro ρ _ ⟨hρ, rfl⟩
  rw [agree_eta hρ]
  clear hρ
  refine W_v (.bool (((t808.2 != (6 : Int)) || (t824.2 != (5 : Int))) || (t846.2.2.2 != (4 : Int)))) (x_move rfl) rfl ?_
  refine Wl_cutN 3 (fun ρ w' => Agree ρ [(1, .pointer (some ⟨b7, 0, none⟩)), (2, .pointer (some ⟨b17, 0, none⟩)), (3, .pointer (some ⟨b24, 0, none⟩)), (33, .int .i64 t893.2), (35, .int .i64 t909.2), (37, .int .i64 t925.2), (39, .int .i64 t941.2), (41, .int .i64 t957.2), (43, .int .i64 t973.2), (45, .int .i64 t989.2), (47, .bool t1005.2), (49, .bool t1008.2), (277, .bool ((((t808.2 != (6 : Int)) || (t824.2 != (5 : Int))) || (t846.2.2.2 != (4 : Int))) || (t877.2 != (4 : Int))))] ∧ w1010 = w') ?_ ?_
  · rcases boolCases (((t808.2 != (6 : Int)) || (t824.2 != (5 : Int))) || (t846.2.2.2 != (4 : Int))) with hb1013 | hb1013
    · skip
      refine W_yes (congrArg some hb1013) ?_
      refine W_v (.int .i64 t877.2) (x_move rfl) rfl ?_
      refine W_yes (congrArg some hb1013) ?_
      refine W_v (.bool (t877.2 != (4 : Int))) (x_ibin rfl rfl rfl rfl) rfl ?_
      refine W_v (.bool (t877.2 != (4 : Int))) (x_pick (k := false) (congrArg Value.bool hb1013) rfl) rfl ?_
      refine Wl_nil ?_
      exact ⟨⟨rfl, rfl, rfl, rfl, rfl, rfl, rfl, rfl, rfl, rfl, rfl, rfl, (by first | rfl | (rw [hb1013]; rfl) | (simp only [hb1013]; rfl)), trivial⟩, rfl⟩
    · skip
      refine W_no (skF hb1013) rfl ?_
      refine W_no (skF hb1013) rfl ?_
      refine W_v (.bool true) (x_pick (k := true) (congrArg Value.bool hb1013) rfl) rfl ?_
      refine Wl_nil ?_
      exact ⟨⟨rfl, rfl, rfl, rfl, rfl, rfl, rfl, rfl, rfl, rfl, rfl, rfl, (by first | rfl | (rw [hb1013]; rfl) | (simp only [hb1013]; rfl)), trivial⟩, rfl⟩
  rintro ρ _ ⟨hρ, rfl⟩
  rw [agree_eta hρ]
  clear hρ
  refine W_v (.bool ((((t808.2 != (6 : Int)) || (t824.2 != (5 : Int))) || (t846.2.2.2 != (4 : Int))) || (t877.2 != (4 : Int)))) (x_move rfl) rfl ?_
  refine Wl_cutN 3 (fun ρ w' => Agree ρ [(1, .pointer (some ⟨b7, 0, none⟩)), (2, .pointer (some ⟨b17, 0, none⟩)), (3, .pointer (some ⟨b24, 0, none⟩)), (35, .int .i64 t909.2), (37, .int .i64 t925.2), (39, .int .i64 t941.2), (41, .int .i64 t957.2), (43, .int .i64 t973.2), (45, .int .i64 t989.2), (47, .bool t1005.2), (49, .bool t1008.2), (281, .bool (((((t808.2 != (6 : Int)) || (t824.2 != (5 : Int))) || (t846.2.2.2 != (4 : Int))) || (t877.2 != (4 : Int))) || (t893.2 != (4 : Int))))] ∧ w1010 = w') ?_ ?_
  · rcases boolCases ((((t808.2 != (6 : Int)) || (t824.2 != (5 : Int))) || (t846.2.2.2 != (4 : Int))) || (t877.2 != (4 : Int))) with hb1014 | hb1014
    · skip
      refine W_yes (congrArg some hb1014) ?_
      refine W_v (.int .i64 t893.2) (x_move rfl) rfl ?_
      refine W_yes (congrArg some hb1014) ?_
      refine W_v (.bool (t893.2 != (4 : Int))) (x_ibin rfl rfl rfl rfl) rfl ?_
      refine W_v (.bool (t893.2 != (4 : Int))) (x_pick (k := false) (congrArg Value.bool hb1014) rfl) rfl ?_
      refine Wl_nil ?_
      exact ⟨⟨rfl, rfl, rfl, rfl, rfl, rfl, rfl, rfl, rfl, rfl, rfl, (by first | rfl | (rw [hb1014]; rfl) | (simp only [hb1014]; rfl)), trivial⟩, rfl⟩
    · skip
      refine W_no (skF hb1014) rfl ?_
      refine W_no (skF hb1014) rfl ?_
      refine W_v (.bool true) (x_pick (k := true) (congrArg Value.bool hb1014) rfl) rfl ?_
      refine Wl_nil ?_
      exact ⟨⟨rfl, rfl, rfl, rfl, rfl, rfl, rfl, rfl, rfl, rfl, rfl, (by first | rfl | (rw [hb1014]; rfl) | (simp only [hb1014]; rfl)), trivial⟩, rfl⟩
  rintro ρ _ ⟨hρ, rfl⟩
  rw [agree_eta hρ]
  clear hρ
  refine W_v (.bool (((((t808.2 != (6 : Int)) || (t824.2 != (5 : Int))) || (t846.2.2.2 != (4 : Int))) || (t877.2 != (4 : Int))) || (t893.2 != (4 : Int)))) (x_move rfl) rfl ?_
  refine Wl_cutN 3 (fun ρ w' => Agree ρ [(1, .pointer (some ⟨b7, 0, none⟩)), (2, .pointer (some ⟨b17, 0, none⟩)), (3, .pointer (some ⟨b24, 0, none⟩)), (37, .int .i64 t925.2), (39, .int .i64 t941.2), (41, .int .i64 t957.2), (43, .int .i64 t973.2), (45, .int .i64 t989.2), (47, .bool t1005.2), (49, .bool t1008.2), (285, .bool ((((((t808.2 != (6 : Int)) || (t824.2 != (5 : Int))) || (t846.2.2.2 != (4 : Int))) || (t877.2 != (4 : Int))) || (t893.2 != (4 : Int))) || (t909.2 != (4 : Int))))] ∧ w1010 = w') ?_ ?_
  · rcases boolCases (((((t808.2 != (6 : Int)) || (t824.2 != (5 : Int))) || (t846.2.2.2 != (4 : Int))) || (t877.2 != (4 : Int))) || (t893.2 != (4 : Int))) with hb1015 | hb1015
    · skip
      refine W_yes (congrArg some hb1015) ?_
      refine W_v (.int .i64 t909.2) (x_move rfl) rfl ?_
      refine W_yes (congrArg some hb1015) ?_
      refine W_v (.bool (t909.2 != (4 : Int))) (x_ibin rfl rfl rfl rfl) rfl ?_
      refine W_v (.bool (t909.2 != (4 : Int))) (x_pick (k := false) (congrArg Value.bool hb1015) rfl) rfl ?_
      refine Wl_nil ?_
      exact ⟨⟨rfl, rfl, rfl, rfl, rfl, rfl, rfl, rfl, rfl, rfl, (by first | rfl | (rw [hb1015]; rfl) | (simp only [hb1015]; rfl)), trivial⟩, rfl⟩
    · skip
      refine W_no (skF hb1015) rfl ?_
      refine W_no (skF hb1015) rfl ?_
      refine W_v (.bool true) (x_pick (k := true) (congrArg Value.bool hb1015) rfl) rfl ?_
      refine Wl_nil ?_
      exact ⟨⟨rfl, rfl, rfl, rfl, rfl, rfl, rfl, rfl, rfl, rfl, (by first | rfl | (rw [hb1015]; rfl) | (simp only [hb1015]; rfl)), trivial⟩, rfl⟩
  rintro ρ _ ⟨hρ, rfl⟩
  rw [agree_eta hρ]
  clear hρ
  refine W_v (.bool ((((((t808.2 != (6 : Int)) || (t824.2 != (5 : Int))) || (t846.2.2.2 != (4 : Int))) || (t877.2 != (4 : Int))) || (t893.2 != (4 : Int))) || (t909.2 != (4 : Int)))) (x_move rfl) rfl ?_
  refine Wl_cutN 3 (fun ρ w' => Agree ρ [(1, .pointer (some ⟨b7, 0, none⟩)), (2, .pointer (some ⟨b17, 0, none⟩)), (3, .pointer (some ⟨b24, 0, none⟩)), (39, .int .i64 t941.2), (41, .int .i64 t957.2), (43, .int .i64 t973.2), (45, .int .i64 t989.2), (47, .bool t1005.2), (49, .bool t1008.2), (289, .bool (((((((t808.2 != (6 : Int)) || (t824.2 != (5 : Int))) || (t846.2.2.2 != (4 : Int))) || (t877.2 != (4 : Int))) || (t893.2 != (4 : Int))) || (t909.2 != (4 : Int))) || (t925.2 != (4 : Int))))] ∧ w1010 = w') ?_ ?_
  · rcases boolCases ((((((t808.2 != (6 : Int)) || (t824.2 != (5 : Int))) || (t846.2.2.2 != (4 : Int))) || (t877.2 != (4 : Int))) || (t893.2 != (4 : Int))) || (t909.2 != (4 : Int))) with hb1016 | hb1016
    · skip
      refine W_yes (congrArg some hb1016) ?_
      refine W_v (.int .i64 t925.2) (x_move rfl) rfl ?_
      refine W_yes (congrArg some hb1016) ?_
      refine W_v (.bool (t925.2 != (4 : Int))) (x_ibin rfl rfl rfl rfl) rfl ?_
      refine W_v (.bool (t925.2 != (4 : Int))) (x_pick (k := false) (congrArg Value.bool hb1016) rfl) rfl ?_
      refine Wl_nil ?_
      exact ⟨⟨rfl, rfl, rfl, rfl, rfl, rfl, rfl, rfl, rfl, (by first | rfl | (rw [hb1016]; rfl) | (simp only [hb1016]; rfl)), trivial⟩, rfl⟩
    · skip
      refine W_no (skF hb1016) rfl ?_
      refine W_no (skF hb1016) rfl ?_
      refine W_v (.bool true) (x_pick (k := true) (congrArg Value.bool hb1016) rfl) rfl ?_
      refine Wl_nil ?_
      exact ⟨⟨rfl, rfl, rfl, rfl, rfl, rfl, rfl, rfl, rfl, (by first | rfl | (rw [hb1016]; rfl) | (simp only [hb1016]; rfl)), trivial⟩, rfl⟩
  rintro ρ _ ⟨hρ, rfl⟩
  rw [agree_eta hρ]
  clear hρ
  refine W_v (.bool (((((((t808.2 != (6 : Int)) || (t824.2 != (5 : Int))) || (t846.2.2.2 != (4 : Int))) || (t877.2 != (4 : Int))) || (t893.2 != (4 : Int))) || (t909.2 != (4 : Int))) || (t925.2 != (4 : Int)))) (x_move rfl) rfl ?_
  refine Wl_cutN 3 (fun ρ w' => Agree ρ [(1, .pointer (some ⟨b7, 0, none⟩)), (2, .pointer (some ⟨b17, 0, none⟩)), (3, .pointer (some ⟨b24, 0, none⟩)), (41, .int .i64 t957.2), (43, .int .i64 t973.2), (45, .int .i64 t989.2), (47, .bool t1005.2), (49, .bool t1008.2), (293, .bool ((((((((t808.2 != (6 : Int)) || (t824.2 != (5 : Int))) || (t846.2.2.2 != (4 : Int))) || (t877.2 != (4 : Int))) || (t893.2 != (4 : Int))) || (t909.2 != (4 : Int))) || (t925.2 != (4 : Int))) || (t941.2 != (6 : Int))))] ∧ w1010 = w') ?_ ?_
  · rcases boolCases (((((((t808.2 != (6 : Int)) || (t824.2 != (5 : Int))) || (t846.2.2.2 != (4 : Int))) || (t877.2 != (4 : Int))) || (t893.2 != (4 : Int))) || (t909.2 != (4 : Int))) || (t925.2 != (4 : Int))) with hb1017 | hb1017
    · skip
      refine W_yes (congrArg some hb1017) ?_
      refine W_v (.int .i64 t941.2) (x_move rfl) rfl ?_
      refine W_yes (congrArg some hb1017) ?_
      refine W_v (.bool (t941.2 != (6 : Int))) (x_ibin rfl rfl rfl rfl) rfl ?_
      refine W_v (.bool (t941.2 != (6 : Int))) (x_pick (k := false) (congrArg Value.bool hb1017) rfl) rfl ?_
      refine Wl_nil ?_
      exact ⟨⟨rfl, rfl, rfl, rfl, rfl, rfl, rfl, rfl, (by first | rfl | (rw [hb1017]; rfl) | (simp only [hb1017]; rfl)), trivial⟩, rfl⟩
    · skip
      refine W_no (skF hb1017) rfl ?_
      refine W_no (skF hb1017) rfl ?_
      refine W_v (.bool true) (x_pick (k := true) (congrArg Value.bool hb1017) rfl) rfl ?_
      refine Wl_nil ?_
      exact ⟨⟨rfl, rfl, rfl, rfl, rfl, rfl, rfl, rfl, (by first | rfl | (rw [hb1017]; rfl) | (simp only [hb1017]; rfl)), trivial⟩, rfl⟩
  rintro ρ _ ⟨hρ, rfl⟩
  rw [agree_eta hρ]
  clear hρ
  refine W_v (.bool ((((((((t808.2 != (6 : Int)) || (t824.2 != (5 : Int))) || (t846.2.2.2 != (4 : Int))) || (t877.2 != (4 : Int))) || (t893.2 != (4 : Int))) || (t909.2 != (4 : Int))) || (t925.2 != (4 : Int))) || (t941.2 != (6 : Int)))) (x_move rfl) rfl ?_
  refine Wl_cutN 3 (fun ρ w' => Agree ρ [(1, .pointer (some ⟨b7, 0, none⟩)), (2, .pointer (some ⟨b17, 0, none⟩)), (3, .pointer (some ⟨b24, 0, none⟩)), (43, .int .i64 t973.2), (45, .int .i64 t989.2), (47, .bool t1005.2), (49, .bool t1008.2), (297, .bool (((((((((t808.2 != (6 : Int)) || (t824.2 != (5 : Int))) || (t846.2.2.2 != (4 : Int))) || (t877.2 != (4 : Int))) || (t893.2 != (4 : Int))) || (t909.2 != (4 : Int))) || (t925.2 != (4 : Int))) || (t941.2 != (6 : Int))) || (t957.2 != (5 : Int))))] ∧ w1010 = w') ?_ ?_
  · rcases boolCases ((((((((t808.2 != (6 : Int)) || (t824.2 != (5 : Int))) || (t846.2.2.2 != (4 : Int))) || (t877.2 != (4 : Int))) || (t893.2 != (4 : Int))) || (t909.2 != (4 : Int))) || (t925.2 != (4 : Int))) || (t941.2 != (6 : Int))) with hb1018 | hb1018
    · skip
      refine W_yes (congrArg some hb1018) ?_
      refine W_v (.int .i64 t957.2) (x_move rfl) rfl ?_
      refine W_yes (congrArg some hb1018) ?_
      refine W_v (.bool (t957.2 != (5 : Int))) (x_ibin rfl rfl rfl rfl) rfl ?_
      refine W_v (.bool (t957.2 != (5 : Int))) (x_pick (k := false) (congrArg Value.bool hb1018) rfl) rfl ?_
      refine Wl_nil ?_
      exact ⟨⟨rfl, rfl, rfl, rfl, rfl, rfl, rfl, (by first | rfl | (rw [hb1018]; rfl) | (simp only [hb1018]; rfl)), trivial⟩, rfl⟩
    · skip
      refine W_no (skF hb1018) rfl ?_
      refine W_no (skF hb1018) rfl ?_
      refine W_v (.bool true) (x_pick (k := true) (congrArg Value.bool hb1018) rfl) rfl ?_
      refine Wl_nil ?_
      exact ⟨⟨rfl, rfl, rfl, rfl, rfl, rfl, rfl, (by first | rfl | (rw [hb1018]; rfl) | (simp only [hb1018]; rfl)), trivial⟩, rfl⟩
  rintro ρ _ ⟨hρ, rfl⟩
  rw [agree_eta hρ]
  clear hρ
  refine W_v (.bool (((((((((t808.2 != (6 : Int)) || (t824.2 != (5 : Int))) || (t846.2.2.2 != (4 : Int))) || (t877.2 != (4 : Int))) || (t893.2 != (4 : Int))) || (t909.2 != (4 : Int))) || (t925.2 != (4 : Int))) || (t941.2 != (6 : Int))) || (t957.2 != (5 : Int)))) (x_move rfl) rfl ?_
  refine Wl_cutN 3 (fun ρ w' => Agree ρ [(1, .pointer (some ⟨b7, 0, none⟩)), (2, .pointer (some ⟨b17, 0, none⟩)), (3, .pointer (some ⟨b24, 0, none⟩)), (45, .int .i64 t989.2), (47, .bool t1005.2), (49, .bool t1008.2), (301, .bool ((((((((((t808.2 != (6 : Int)) || (t824.2 != (5 : Int))) || (t846.2.2.2 != (4 : Int))) || (t877.2 != (4 : Int))) || (t893.2 != (4 : Int))) || (t909.2 != (4 : Int))) || (t925.2 != (4 : Int))) || (t941.2 != (6 : Int))) || (t957.2 != (5 : Int))) || (t973.2 != (5 : Int))))] ∧ w1010 = w') ?_ ?_
  · rcases boolCases (((((((((t808.2 != (6 : Int)) || (t824.2 != (5 : Int))) || (t846.2.2.2 != (4 : Int))) || (t877.2 != (4 : Int))) || (t893.2 != (4 : Int))) || (t909.2 != (4 : Int))) || (t925.2 != (4 : Int))) || (t941.2 != (6 : Int))) || (t957.2 != (5 : Int))) with hb1019 | hb1019
    · skip
      refine W_yes (congrArg some hb1019) ?_
      refine W_v (.int .i64 t973.2) (x_move rfl) rfl ?_
      refine W_yes (congrArg some hb1019) ?_
      refine W_v (.bool (t973.2 != (5 : Int))) (x_ibin rfl rfl rfl rfl) rfl ?_
      refine W_v (.bool (t973.2 != (5 : Int))) (x_pick (k := false) (congrArg Value.bool hb1019) rfl) rfl ?_
      refine Wl_nil ?_
      exact ⟨⟨rfl, rfl, rfl, rfl, rfl, rfl, (by first | rfl | (rw [hb1019]; rfl) | (simp only [hb1019]; rfl)), trivial⟩, rfl⟩
    · skip
      refine W_no (skF hb1019) rfl ?_
      refine W_no (skF hb1019) rfl ?_
      refine W_v (.bool true) (x_pick (k := true) (congrArg Value.bool hb1019) rfl) rfl ?_
      refine Wl_nil ?_
      exact ⟨⟨rfl, rfl, rfl, rfl, rfl, rfl, (by first | rfl | (rw [hb1019]; rfl) | (simp only [hb1019]; rfl)), trivial⟩, rfl⟩
  rintro ρ _ ⟨hρ, rfl⟩
  rw [agree_eta hρ]
  clear hρ
  refine W_v (.bool ((((((((((t808.2 != (6 : Int)) || (t824.2 != (5 : Int))) || (t846.2.2.2 != (4 : Int))) || (t877.2 != (4 : Int))) || (t893.2 != (4 : Int))) || (t909.2 != (4 : Int))) || (t925.2 != (4 : Int))) || (t941.2 != (6 : Int))) || (t957.2 != (5 : Int))) || (t973.2 != (5 : Int)))) (x_move rfl) rfl ?_
  refine Wl_cutN 3 (fun ρ w' => Agree ρ [(1, .pointer (some ⟨b7, 0, none⟩)), (2, .pointer (some ⟨b17, 0, none⟩)), (3, .pointer (some ⟨b24, 0, none⟩)), (47, .bool t1005.2), (49, .bool t1008.2), (305, .bool (((((((((((t808.2 != (6 : Int)) || (t824.2 != (5 : Int))) || (t846.2.2.2 != (4 : Int))) || (t877.2 != (4 : Int))) || (t893.2 != (4 : Int))) || (t909.2 != (4 : Int))) || (t925.2 != (4 : Int))) || (t941.2 != (6 : Int))) || (t957.2 != (5 : Int))) || (t973.2 != (5 : Int))) || (t989.2 != (4 : Int))))] ∧ w1010 = w') ?_ ?_
  · rcases boolCases ((((((((((t808.2 != (6 : Int)) || (t824.2 != (5 : Int))) || (t846.2.2.2 != (4 : Int))) || (t877.2 != (4 : Int))) || (t893.2 != (4 : Int))) || (t909.2 != (4 : Int))) || (t925.2 != (4 : Int))) || (t941.2 != (6 : Int))) || (t957.2 != (5 : Int))) || (t973.2 != (5 : Int))) with hb1020 | hb1020
    · skip
      refine W_yes (congrArg some hb1020) ?_
      refine W_v (.int .i64 t989.2) (x_move rfl) rfl ?_
      refine W_yes (congrArg some hb1020) ?_
      refine W_v (.bool (t989.2 != (4 : Int))) (x_ibin rfl rfl rfl rfl) rfl ?_
      refine W_v (.bool (t989.2 != (4 : Int))) (x_pick (k := false) (congrArg Value.bool hb1020) rfl) rfl ?_
      refine Wl_nil ?_
      exact ⟨⟨rfl, rfl, rfl, rfl, rfl, (by first | rfl | (rw [hb1020]; rfl) | (simp only [hb1020]; rfl)), trivial⟩, rfl⟩
    · skip
      refine W_no (skF hb1020) rfl ?_
      refine W_no (skF hb1020) rfl ?_
      refine W_v (.bool true) (x_pick (k := true) (congrArg Value.bool hb1020) rfl) rfl ?_
      refine Wl_nil ?_
      exact ⟨⟨rfl, rfl, rfl, rfl, rfl, (by first | rfl | (rw [hb1020]; rfl) | (simp only [hb1020]; rfl)), trivial⟩, rfl⟩
  rintro ρ _ ⟨hρ, rfl⟩
  rw [agree_eta hρ]
  clear hρ
  refine W_v (.bool (((((((((((t808.2 != (6 : Int)) || (t824.2 != (5 : Int))) || (t846.2.2.2 != (4 : Int))) || (t877.2 != (4 : Int))) || (t893.2 != (4 : Int))) || (t909.2 != (4 : Int))) || (t925.2 != (4 : Int))) || (t941.2 != (6 : Int))) || (t957.2 != (5 : Int))) || (t973.2 != (5 : Int))) || (t989.2 != (4 : Int)))) (x_move rfl) rfl ?_
  refine Wl_cutN 2 (fun ρ w' => Agree ρ [(1, .pointer (some ⟨b7, 0, none⟩)), (2, .pointer (some ⟨b17, 0, none⟩)), (3, .pointer (some ⟨b24, 0, none⟩)), (49, .bool t1008.2), (308, .bool ((((((((((((t808.2 != (6 : Int)) || (t824.2 != (5 : Int))) || (t846.2.2.2 != (4 : Int))) || (t877.2 != (4 : Int))) || (t893.2 != (4 : Int))) || (t909.2 != (4 : Int))) || (t925.2 != (4 : Int))) || (t941.2 != (6 : Int))) || (t957.2 != (5 : Int))) || (t973.2 != (5 : Int))) || (t989.2 != (4 : Int))) || t1005.2))] ∧ w1010 = w') ?_ ?_
  · rcases boolCases (((((((((((t808.2 != (6 : Int)) || (t824.2 != (5 : Int))) || (t846.2.2.2 != (4 : Int))) || (t877.2 != (4 : Int))) || (t893.2 != (4 : Int))) || (t909.2 != (4 : Int))) || (t925.2 != (4 : Int))) || (t941.2 != (6 : Int))) || (t957.2 != (5 : Int))) || (t973.2 != (5 : Int))) || (t989.2 != (4 : Int))) with hb1021 | hb1021
    · skip
      refine W_yes (congrArg some hb1021) ?_
      refine W_v (.bool t1005.2) (x_move rfl) rfl ?_
      refine W_v (.bool t1005.2) (x_pick (k := false) (congrArg Value.bool hb1021) rfl) rfl ?_
      refine Wl_nil ?_
      exact ⟨⟨rfl, rfl, rfl, rfl, (by first | rfl | (rw [hb1021]; rfl) | (simp only [hb1021]; rfl)), trivial⟩, rfl⟩
    · skip
      refine W_no (skF hb1021) rfl ?_
      refine W_v (.bool true) (x_pick (k := true) (congrArg Value.bool hb1021) rfl) rfl ?_
      refine Wl_nil ?_
      exact ⟨⟨rfl, rfl, rfl, rfl, (by first | rfl | (rw [hb1021]; rfl) | (simp only [hb1021]; rfl)), trivial⟩, rfl⟩
  rintro ρ _ ⟨hρ, rfl⟩
  rw [agree_eta hρ]
  clear hρ
  refine W_v (.bool ((((((((((((t808.2 != (6 : Int)) || (t824.2 != (5 : Int))) || (t846.2.2.2 != (4 : Int))) || (t877.2 != (4 : Int))) || (t893.2 != (4 : Int))) || (t909.2 != (4 : Int))) || (t925.2 != (4 : Int))) || (t941.2 != (6 : Int))) || (t957.2 != (5 : Int))) || (t973.2 != (5 : Int))) || (t989.2 != (4 : Int))) || t1005.2)) (x_move rfl) rfl ?_
  refine Wl_cutN 2 (fun ρ w' => Agree ρ [(1, .pointer (some ⟨b7, 0, none⟩)), (2, .pointer (some ⟨b17, 0, none⟩)), (3, .pointer (some ⟨b24, 0, none⟩)), (311, .bool (((((((((((((t808.2 != (6 : Int)) || (t824.2 != (5 : Int))) || (t846.2.2.2 != (4 : Int))) || (t877.2 != (4 : Int))) || (t893.2 != (4 : Int))) || (t909.2 != (4 : Int))) || (t925.2 != (4 : Int))) || (t941.2 != (6 : Int))) || (t957.2 != (5 : Int))) || (t973.2 != (5 : Int))) || (t989.2 != (4 : Int))) || t1005.2) || t1008.2))] ∧ w1010 = w') ?_ ?_
  · rcases boolCases ((((((((((((t808.2 != (6 : Int)) || (t824.2 != (5 : Int))) || (t846.2.2.2 != (4 : Int))) || (t877.2 != (4 : Int))) || (t893.2 != (4 : Int))) || (t909.2 != (4 : Int))) || (t925.2 != (4 : Int))) || (t941.2 != (6 : Int))) || (t957.2 != (5 : Int))) || (t973.2 != (5 : Int))) || (t989.2 != (4 : Int))) || t1005.2) with hb1022 | hb1022
    · skip
      refine W_yes (congrArg some hb1022) ?_
      refine W_v (.bool t1008.2) (x_move rfl) rfl ?_
      refine W_v (.bool t1008.2) (x_pick (k := false) (congrArg Value.bool hb1022) rfl) rfl ?_
      refine Wl_nil ?_
      exact ⟨⟨rfl, rfl, rfl, (by first | rfl | (rw [hb1022]; rfl) | (simp only [hb1022]; rfl)), trivial⟩, rfl⟩
    · skip
      refine W_no (skF hb1022) rfl ?_
      refine W_v (.bool true) (x_pick (k := true) (congrArg Value.bool hb1022) rfl) rfl ?_
      refine Wl_nil ?_
      exact ⟨⟨rfl, rfl, rfl, (by first | rfl | (rw [hb1022]; rfl) | (simp only [hb1022]; rfl)), trivial⟩, rfl⟩
  rintro ρ _ ⟨hρ, rfl⟩
  rw [agree_eta hρ]
  clear hρ
  refine Wl_nil ?_
  refine tn ?_
  rcases iteS H with ⟨hb1023, H⟩ | ⟨hb1023, H⟩
  · refine Wp_cond_true (congrArg Value.bool hb1023) ?_
    refine Wp_seq ?_
    refine Wp_region_lit ?_
    refine W_v (.bool false) (x_assign rfl) rfl ?_
    refine Wl_nil ?_
    refine tn ?_
    refine Wp_ret ?_
    refine tr (?_)
    obtain rfl := Option.some.inj H
    exact ⟨_, _, _, fun w1 e1 => run_resR (vs := [.bool false]) (FA.cons (rfl) (FA.nil)), HM, E, S.pick [] (by decide), ⟨rfl, rfl⟩⟩
  refine Wp_cond_false (congrArg Value.bool hb1023) ?_
  refine Wp_skip ?_
  refine tn ?_
  refine Wp_seq ?_
  refine Wp_region_lit ?_
  refine W_bslice S #[.string (bs ([97] : Str))] Try.underlying22 ty9 rfl rfl #[.string (bs ([] : Str))] (by kernel_rfl) (by kernel_rfl) rfl ?_
  intro b1024 w1025 E' S
  replace E := E.trans E'
  clear E'
  replace S := S.blk_row (r := rStr) (l := ([([97] : Str)] : List Str)) 0 rfl 1 (Nat.le_refl 1) rfl (Cells.cons (vs := [.string (bs ([97] : Str))]) (rfl) Cells.nil)
  refine W_bslice S #[.int .u64 1] Try.underlying24 ty41 rfl rfl #[.int .u64 0] (by kernel_rfl) (by kernel_rfl) rfl ?_
  intro b1027 w1028 E' S
  replace E := E.trans E'
  clear E'
  replace S := S.blk_row (r := (rInt .u64)) (l := ([(1 : Int)] : List Int)) 0 rfl 1 (Nat.le_refl 1) rfl (Cells.cons (vs := [.int .u64 1]) (rfl) Cells.nil)
  refine W_v (.agg #[.bool true, .slice (some ⟨b1024, 0, none⟩) ([([97] : Str)] : List Str).length 1, .slice none 0 0, .slice (some ⟨b1027, 0, none⟩) ([(1 : Int)] : List Int).length 1]) (x_build2 (pl := [(0, 1), (1, 1), (2, 1), (3, 1)]) #[.bool true, .slice (some ⟨b1024, 0, none⟩) ([([97] : Str)] : List Str).length 1, .slice none 0 0, .slice (some ⟨b1027, 0, none⟩) ([(1 : Int)] : List Int).length 1] Try.underlying26 ty26 (by kernel_rfl) rfl (by kernel_rfl)) rfl ?_
  refine W_alloc S #[.bool false, .slice none 0 0, .slice none 0 0, .slice none 0 0] ty26 rfl rfl ?_
  intro b1030 w1031 E' S
  replace E := E.trans E'
  clear E'
  refine W_store S 0 rfl ty26 rfl rfl [.bool true, .slice (some ⟨b1024, 0, none⟩) ([([97] : Str)] : List Str).length 1, .slice none 0 0, .slice (some ⟨b1027, 0, none⟩) ([(1 : Int)] : List Int).length 1] rfl rfl rfl #[.bool true, .slice (some ⟨b1024, 0, none⟩) ([([97] : Str)] : List Str).length 1, .slice none 0 0, .slice (some ⟨b1027, 0, none⟩) ([(1 : Int)] : List Int).length 1] rfl rfl ?_
  intro w1033 E' S
  replace E := E.trans E'
  clear E'
  refine Wl_nil ?_
  refine tn ?_
  refine Wp_seq ?_
  refine Wp_region_lit ?_
  refine W_v (.agg #[.bool true, .slice (some ⟨b1024, 0, none⟩) ([([97] : Str)] : List Str).length 1, .slice none 0 0, .slice (some ⟨b1027, 0, none⟩) ([(1 : Int)] : List Int).length 1]) (x_loadA (S.blk 0 rfl) ty26 rfl (sub_of_extract rfl) rfl rfl) rfl ?_
  replace S : St w1033 M867 F [Row rStr 9 (.slice (some ⟨b1024, 0, none⟩) ([([97] : Str)] : List Str).length 1) ([([97] : Str)] : List Str), Row (rInt .u64) 41 (.slice (some ⟨b1027, 0, none⟩) ([(1 : Int)] : List Int).length 1) ([(1 : Int)] : List Int), Blk b1030 (.cells #[.bool true, .slice (some ⟨b1024, 0, none⟩) ([([97] : Str)] : List Str).length 1, .slice none 0 0, .slice (some ⟨b1027, 0, none⟩) ([(1 : Int)] : List Int).length 1] 26 (0, 0)), Row rStr 9 (.slice (some ⟨b11, 0, none⟩) ([([97] : Str)] : List Str).length 1) ([([97] : Str)] : List Str), Row (rInt .i64) 3 (.slice (some ⟨b14, 0, none⟩) ([(1 : Int), (2 : Int)] : List Int).length 2) ([(1 : Int), (2 : Int)] : List Int), Blk b1001 (.cells #[.bool t989.1.Leaf, .slice A991 t989.1.Keys.length c992, .slice A994 t989.1.Kids.length c995, .slice A997 t989.1.Rows.length c998] 26 (0, 0)), Row rStr 9 (.slice A991 t989.1.Keys.length c992) t989.1.Keys, Row (rInt .i64) 3 (.slice A994 t989.1.Kids.length c995) t989.1.Kids, Row (rInt .u64) 41 (.slice A997 t989.1.Rows.length c998) t989.1.Rows, Row (rInt .i64) 3 (.slice (some ⟨b21, 0, none⟩) ([(5 : Int)] : List Int).length 1) ([(5 : Int)] : List Int), Blk b985 (.cells #[.bool t973.1.Leaf, .slice A975 t973.1.Keys.length c976, .slice A978 t973.1.Kids.length c979, .slice A981 t973.1.Rows.length c982] 26 (0, 0)), Row rStr 9 (.slice A975 t973.1.Keys.length c976) t973.1.Keys, Row (rInt .i64) 3 (.slice A978 t973.1.Kids.length c979) t973.1.Kids, Row (rInt .u64) 41 (.slice A981 t973.1.Rows.length c982) t973.1.Rows, Blk b969 (.cells #[.bool t957.1.Leaf, .slice A959 t957.1.Keys.length c960, .slice A962 t957.1.Kids.length c963, .slice A965 t957.1.Rows.length c966] 26 (0, 0)), Row rStr 9 (.slice A959 t957.1.Keys.length c960) t957.1.Keys, Row (rInt .i64) 3 (.slice A962 t957.1.Kids.length c963) t957.1.Kids, Row (rInt .u64) 41 (.slice A965 t957.1.Rows.length c966) t957.1.Rows, Blk b953 (.cells #[.bool t941.1.Leaf, .slice A943 t941.1.Keys.length c944, .slice A946 t941.1.Kids.length c947, .slice A949 t941.1.Rows.length c950] 26 (0, 0)), Row rStr 9 (.slice A943 t941.1.Keys.length c944) t941.1.Keys, Row (rInt .i64) 3 (.slice A946 t941.1.Kids.length c947) t941.1.Kids, Row (rInt .u64) 41 (.slice A949 t941.1.Rows.length c950) t941.1.Rows, Blk b937 (.cells #[.bool t925.1.Leaf, .slice A927 t925.1.Keys.length c928, .slice A930 t925.1.Kids.length c931, .slice A933 t925.1.Rows.length c934] 26 (0, 0)), Row rStr 9 (.slice A927 t925.1.Keys.length c928) t925.1.Keys, Row (rInt .i64) 3 (.slice A930 t925.1.Kids.length c931) t925.1.Kids, Row (rInt .u64) 41 (.slice A933 t925.1.Rows.length c934) t925.1.Rows, Blk b921 (.cells #[.bool t909.1.Leaf, .slice A911 t909.1.Keys.length c912, .slice A914 t909.1.Kids.length c915, .slice A917 t909.1.Rows.length c918] 26 (0, 0)), Row rStr 9 (.slice A911 t909.1.Keys.length c912) t909.1.Keys, Row (rInt .i64) 3 (.slice A914 t909.1.Kids.length c915) t909.1.Kids, Row (rInt .u64) 41 (.slice A917 t909.1.Rows.length c918) t909.1.Rows, Blk b905 (.cells #[.bool t893.1.Leaf, .slice A895 t893.1.Keys.length c896, .slice A898 t893.1.Kids.length c899, .slice A901 t893.1.Rows.length c902] 26 (0, 0)), Row rStr 9 (.slice A895 t893.1.Keys.length c896) t893.1.Keys, Row (rInt .i64) 3 (.slice A898 t893.1.Kids.length c899) t893.1.Kids, Row (rInt .u64) 41 (.slice A901 t893.1.Rows.length c902) t893.1.Rows, Blk b889 (.cells #[.bool t877.1.Leaf, .slice A879 t877.1.Keys.length c880, .slice A882 t877.1.Kids.length c883, .slice A885 t877.1.Rows.length c886] 26 (0, 0)), Row rStr 9 (.slice A879 t877.1.Keys.length c880) t877.1.Keys, Row (rInt .i64) 3 (.slice A882 t877.1.Kids.length c883) t877.1.Kids, Row (rInt .u64) 41 (.slice A885 t877.1.Rows.length c886) t877.1.Rows, Blk b872 (.cells #[.bool t846.2.1.Leaf, .slice A857 t846.2.1.Keys.length c858, .slice A860 t846.2.1.Kids.length c861, .slice A863 t846.2.1.Rows.length c864] 26 (0, 0)), Blk b869 (.cells #[.bool t846.1.Leaf, .slice A848 t846.1.Keys.length c849, .slice A851 t846.1.Kids.length c852, .slice A854 t846.1.Rows.length c855] 26 (0, 0)), Blk b836 (.cells #[.bool t824.1.Leaf, .slice A826 t824.1.Keys.length c827, .slice A829 t824.1.Kids.length c830, .slice A832 t824.1.Rows.length c833] 26 (0, 0)), Row rStr 9 (.slice A826 t824.1.Keys.length c827) t824.1.Keys, Row (rInt .i64) 3 (.slice A829 t824.1.Kids.length c830) t824.1.Kids, Row (rInt .u64) 41 (.slice A832 t824.1.Rows.length c833) t824.1.Rows, Blk b820 (.cells #[.bool t808.1.Leaf, .slice A810 t808.1.Keys.length c811, .slice A813 t808.1.Kids.length c814, .slice A816 t808.1.Rows.length c817] 26 (0, 0)), Row rStr 9 (.slice A810 t808.1.Keys.length c811) t808.1.Keys, Row (rInt .i64) 3 (.slice A813 t808.1.Kids.length c814) t808.1.Kids, Row (rInt .u64) 41 (.slice A816 t808.1.Rows.length c817) t808.1.Rows, Blk b24 (.cells #[.bool false, .slice none 0 0, .slice (some ⟨b21, 0, none⟩) ([(5 : Int)] : List Int).length 1, .slice none 0 0] 26 (0, 0)), Blk b17 (.cells #[.bool false, .slice (some ⟨b11, 0, none⟩) ([([97] : Str)] : List Str).length 1, .slice (some ⟨b14, 0, none⟩) ([(1 : Int), (2 : Int)] : List Int).length 2, .slice none 0 0] 26 (0, 0)), Blk b7 (.cells #[.bool true, .slice (some ⟨b1, 0, none⟩) ([([] : Str), ([97] : Str)] : List Str).length 2, .slice none 0 0, .slice (some ⟨b4, 0, none⟩) ([(1 : Int), (2 : Int)] : List Int).length 2] 26 (0, 0))] := S.pick [2, 1, 0, 3, 4, 5, 6, 7, 8, 9, 10, 11, 12, 13, 14, 15, 16, 17, 18, 19, 20, 21, 22, 23, 24, 25, 26, 27, 28, 29, 30, 31, 32, 33, 34, 35, 36, 37, 38, 39, 40, 41, 42, 43, 44, 45, 46, 47, 48, 49, 50] (by decide)
  obtain ⟨t1034, ht1035, H⟩ := bindS H
  refine W_callN 2 fn22 (fun h9 hs9 hd9 => fork_Safe.con k _ (some ⟨b1024, 0, none⟩) 1 none 0 (some ⟨b1027, 0, none⟩) 1 (⟨true, ([([97] : Str)] : List Str), ([] : (List Int)), ([(1 : Int)] : List Int)⟩ : fork_Node) (0 : Int) (0 : Int) false t1034 (Sats.row hs9 hd9 0 rfl) (SlW.nil _ _) (Sats.row hs9 hd9 1 rfl) ht1035) S rfl rfl (by rintro _ _ _ ⟨_, rfl⟩; exact flat_nil) ?_
  rintro _ w1036 _ Γ' E' S ⟨rfl, rfl⟩
  replace E := E.trans E'
  clear E'
  refine W_v (.bool t1034) (x_move rfl) rfl ?_
  obtain ⟨o1045, o1045h, o1045H⟩ := bindS H
  clear H
  refine Wl_cutN 4 (fun ρ w' => ∃ (x1044 : Bool), (x1044) = o1045 ∧ Agree ρ [(1, .pointer (some ⟨b7, 0, none⟩)), (2, .pointer (some ⟨b17, 0, none⟩)), (3, .pointer (some ⟨b24, 0, none⟩)), (50, .pointer (some ⟨b1030, 0, none⟩)), (321, .bool x1044)] ∧ Ext w w' ∧ St w' M867 F [Row rStr 9 (.slice (some ⟨b1024, 0, none⟩) ([([97] : Str)] : List Str).length 1) ([([97] : Str)] : List Str), Row (rInt .u64) 41 (.slice (some ⟨b1027, 0, none⟩) ([(1 : Int)] : List Int).length 1) ([(1 : Int)] : List Int), Blk b1030 (.cells #[.bool true, .slice (some ⟨b1024, 0, none⟩) ([([97] : Str)] : List Str).length 1, .slice none 0 0, .slice (some ⟨b1027, 0, none⟩) ([(1 : Int)] : List Int).length 1] 26 (0, 0)), Row rStr 9 (.slice (some ⟨b11, 0, none⟩) ([([97] : Str)] : List Str).length 1) ([([97] : Str)] : List Str), Row (rInt .i64) 3 (.slice (some ⟨b14, 0, none⟩) ([(1 : Int), (2 : Int)] : List Int).length 2) ([(1 : Int), (2 : Int)] : List Int), Row (rInt .i64) 3 (.slice (some ⟨b21, 0, none⟩) ([(5 : Int)] : List Int).length 1) ([(5 : Int)] : List Int), Blk b24 (.cells #[.bool false, .slice none 0 0, .slice (some ⟨b21, 0, none⟩) ([(5 : Int)] : List Int).length 1, .slice none 0 0] 26 (0, 0)), Blk b17 (.cells #[.bool false, .slice (some ⟨b11, 0, none⟩) ([([97] : Str)] : List Str).length 1, .slice (some ⟨b14, 0, none⟩) ([(1 : Int), (2 : Int)] : List Int).length 2, .slice none 0 0] 26 (0, 0)), Blk b7 (.cells #[.bool true, .slice (some ⟨b1, 0, none⟩) ([([] : Str), ([97] : Str)] : List Str).length 2, .slice none 0 0, .slice (some ⟨b4, 0, none⟩) ([(1 : Int), (2 : Int)] : List Int).length 2] 26 (0, 0))]) ?_ ?_
  · have H := o1045h
    rcases iteS H with ⟨hb1043, H⟩ | ⟨hb1043, H⟩
    · skip
      refine W_yes (congrArg some hb1043) ?_
      refine W_v (.agg #[.bool true, .slice (some ⟨b1024, 0, none⟩) ([([97] : Str)] : List Str).length 1, .slice none 0 0, .slice (some ⟨b1027, 0, none⟩) ([(1 : Int)] : List Int).length 1]) (x_loadA (S.blk 2 rfl) ty26 rfl (sub_of_extract rfl) rfl rfl) rfl ?_
      refine W_yes (congrArg some hb1043) ?_
      obtain ⟨t1046, ht1047, H⟩ := bindS H
      refine W_callN 2 fn22 (fun h9 hs9 hd9 => fork_Safe.con k _ (some ⟨b1024, 0, none⟩) 1 none 0 (some ⟨b1027, 0, none⟩) 1 (⟨true, ([([97] : Str)] : List Str), ([] : (List Int)), ([(1 : Int)] : List Int)⟩ : fork_Node) (1 : Int) (1 : Int) true t1046 (Sats.row hs9 hd9 0 rfl) (SlW.nil _ _) (Sats.row hs9 hd9 1 rfl) ht1047) S rfl rfl (by rintro _ _ _ ⟨_, rfl⟩; exact flat_nil) ?_
      rintro _ w1048 _ Γ' E' S ⟨rfl, rfl⟩
      replace E := E.trans E'
      clear E'
      refine W_yes (congrArg some hb1043) ?_
      refine W_v (.bool (!t1046)) (x_not rfl) rfl ?_
      refine W_v (.bool (!t1046)) (x_pick (k := true) (congrArg Value.bool hb1043) rfl) rfl ?_
      refine Wl_nil ?_
      exact ⟨(!t1046), Option.some.inj H, ⟨rfl, rfl, rfl, rfl, rfl, trivial⟩, E, S.pick [0, 1, 2, 3, 4, 9, 48, 49, 50] (by decide)⟩
    · skip
      refine W_no (skT hb1043) rfl ?_
      refine W_no (skT hb1043) rfl ?_
      refine W_no (skT hb1043) rfl ?_
      refine W_v (.bool false) (x_pick (k := false) (congrArg Value.bool hb1043) rfl) rfl ?_
      refine Wl_nil ?_
      exact ⟨false, Option.some.inj H, ⟨rfl, rfl, rfl, rfl, rfl, trivial⟩, E, S.pick [0, 1, 2, 3, 4, 9, 48, 49, 50] (by decide)⟩
  clear o1045h
  rintro ρ w1049 ⟨x1044, rfl, hρ, E, S⟩
  rw [agree_eta hρ]
  clear hρ
  have H := o1045H
  clear o1045H
  refine W_v (.bool x1044) (x_move rfl) rfl ?_
  obtain ⟨o1058, o1058h, o1058H⟩ := bindS H
  clear H
  refine Wl_cutN 3 (fun ρ w' => ∃ (x1057 : Bool), (x1057) = o1058 ∧ Agree ρ [(1, .pointer (some ⟨b7, 0, none⟩)), (2, .pointer (some ⟨b17, 0, none⟩)), (3, .pointer (some ⟨b24, 0, none⟩)), (50, .pointer (some ⟨b1030, 0, none⟩)), (325, .bool x1057)] ∧ Ext w w' ∧ St w' M867 F [Row rStr 9 (.slice (some ⟨b1024, 0, none⟩) ([([97] : Str)] : List Str).length 1) ([([97] : Str)] : List Str), Row (rInt .u64) 41 (.slice (some ⟨b1027, 0, none⟩) ([(1 : Int)] : List Int).length 1) ([(1 : Int)] : List Int), Blk b1030 (.cells #[.bool true, .slice (some ⟨b1024, 0, none⟩) ([([97] : Str)] : List Str).length 1, .slice none 0 0, .slice (some ⟨b1027, 0, none⟩) ([(1 : Int)] : List Int).length 1] 26 (0, 0)), Row rStr 9 (.slice (some ⟨b11, 0, none⟩) ([([97] : Str)] : List Str).length 1) ([([97] : Str)] : List Str), Row (rInt .i64) 3 (.slice (some ⟨b14, 0, none⟩) ([(1 : Int), (2 : Int)] : List Int).length 2) ([(1 : Int), (2 : Int)] : List Int), Row (rInt .i64) 3 (.slice (some ⟨b21, 0, none⟩) ([(5 : Int)] : List Int).length 1) ([(5 : Int)] : List Int), Blk b24 (.cells #[.bool false, .slice none 0 0, .slice (some ⟨b21, 0, none⟩) ([(5 : Int)] : List Int).length 1, .slice none 0 0] 26 (0, 0)), Blk b17 (.cells #[.bool false, .slice (some ⟨b11, 0, none⟩) ([([97] : Str)] : List Str).length 1, .slice (some ⟨b14, 0, none⟩) ([(1 : Int), (2 : Int)] : List Int).length 2, .slice none 0 0] 26 (0, 0)), Blk b7 (.cells #[.bool true, .slice (some ⟨b1, 0, none⟩) ([([] : Str), ([97] : Str)] : List Str).length 2, .slice none 0 0, .slice (some ⟨b4, 0, none⟩) ([(1 : Int), (2 : Int)] : List Int).length 2] 26 (0, 0))]) ?_ ?_
  · have H := o1058h
    rcases iteS H with ⟨hb1056, H⟩ | ⟨hb1056, H⟩
    · skip
      refine W_yes (congrArg some hb1056) ?_
      refine W_v (.agg #[.bool true, .slice (some ⟨b1024, 0, none⟩) ([([97] : Str)] : List Str).length 1, .slice none 0 0, .slice (some ⟨b1027, 0, none⟩) ([(1 : Int)] : List Int).length 1]) (x_loadA (S.blk 2 rfl) ty26 rfl (sub_of_extract rfl) rfl rfl) rfl ?_
      refine W_yes (congrArg some hb1056) ?_
      obtain ⟨t1059, ht1060, H⟩ := bindS H
      refine W_callN 2 fn22 (fun h9 hs9 hd9 => fork_Safe.con k _ (some ⟨b1024, 0, none⟩) 1 none 0 (some ⟨b1027, 0, none⟩) 1 (⟨true, ([([97] : Str)] : List Str), ([] : (List Int)), ([(1 : Int)] : List Int)⟩ : fork_Node) (2 : Int) (1 : Int) false t1059 (Sats.row hs9 hd9 0 rfl) (SlW.nil _ _) (Sats.row hs9 hd9 1 rfl) ht1060) S rfl rfl (by rintro _ _ _ ⟨_, rfl⟩; exact flat_nil) ?_
      rintro _ w1061 _ Γ' E' S ⟨rfl, rfl⟩
      replace E := E.trans E'
      clear E'
      refine W_v (.bool t1059) (x_pick (k := true) (congrArg Value.bool hb1056) rfl) rfl ?_
      refine Wl_nil ?_
      exact ⟨t1059, Option.some.inj H, ⟨rfl, rfl, rfl, rfl, rfl, trivial⟩, E, S.pick [0, 1, 2, 3, 4, 5, 6, 7, 8] (by decide)⟩
    · skip
      refine W_no (skT hb1056) rfl ?_
      refine W_no (skT hb1056) rfl ?_
      refine W_v (.bool false) (x_pick (k := false) (congrArg Value.bool hb1056) rfl) rfl ?_
      refine Wl_nil ?_
      exact ⟨false, Option.some.inj H, ⟨rfl, rfl, rfl, rfl, rfl, trivial⟩, E, S.pick [0, 1, 2, 3, 4, 5, 6, 7, 8] (by decide)⟩
  clear o1058h
  rintro ρ w1062 ⟨x1057, rfl, hρ, E, S⟩
  rw [agree_eta hρ]
  clear hρ
  have H := o1058H
  clear o1058H
  refine W_v (.bool x1057) (x_move rfl) rfl ?_
  obtain ⟨o1071, o1071h, o1071H⟩ := bindS H
  clear H
  refine Wl_cutN 4 (fun ρ w' => ∃ (x1070 : Bool), (x1070) = o1071 ∧ Agree ρ [(1, .pointer (some ⟨b7, 0, none⟩)), (2, .pointer (some ⟨b17, 0, none⟩)), (3, .pointer (some ⟨b24, 0, none⟩)), (50, .pointer (some ⟨b1030, 0, none⟩)), (330, .bool x1070)] ∧ Ext w w' ∧ St w' M867 F [Row rStr 9 (.slice (some ⟨b1024, 0, none⟩) ([([97] : Str)] : List Str).length 1) ([([97] : Str)] : List Str), Row (rInt .u64) 41 (.slice (some ⟨b1027, 0, none⟩) ([(1 : Int)] : List Int).length 1) ([(1 : Int)] : List Int), Blk b1030 (.cells #[.bool true, .slice (some ⟨b1024, 0, none⟩) ([([97] : Str)] : List Str).length 1, .slice none 0 0, .slice (some ⟨b1027, 0, none⟩) ([(1 : Int)] : List Int).length 1] 26 (0, 0)), Row rStr 9 (.slice (some ⟨b11, 0, none⟩) ([([97] : Str)] : List Str).length 1) ([([97] : Str)] : List Str), Row (rInt .i64) 3 (.slice (some ⟨b14, 0, none⟩) ([(1 : Int), (2 : Int)] : List Int).length 2) ([(1 : Int), (2 : Int)] : List Int), Row (rInt .i64) 3 (.slice (some ⟨b21, 0, none⟩) ([(5 : Int)] : List Int).length 1) ([(5 : Int)] : List Int), Blk b24 (.cells #[.bool false, .slice none 0 0, .slice (some ⟨b21, 0, none⟩) ([(5 : Int)] : List Int).length 1, .slice none 0 0] 26 (0, 0)), Blk b17 (.cells #[.bool false, .slice (some ⟨b11, 0, none⟩) ([([97] : Str)] : List Str).length 1, .slice (some ⟨b14, 0, none⟩) ([(1 : Int), (2 : Int)] : List Int).length 2, .slice none 0 0] 26 (0, 0)), Blk b7 (.cells #[.bool true, .slice (some ⟨b1, 0, none⟩) ([([] : Str), ([97] : Str)] : List Str).length 2, .slice none 0 0, .slice (some ⟨b4, 0, none⟩) ([(1 : Int), (2 : Int)] : List Int).length 2] 26 (0, 0))]) ?_ ?_
  · have H := o1071h
    rcases iteS H with ⟨hb1069, H⟩ | ⟨hb1069, H⟩
    · skip
      refine W_yes (congrArg some hb1069) ?_
      refine W_v (.agg #[.bool true, .slice (some ⟨b1024, 0, none⟩) ([([97] : Str)] : List Str).length 1, .slice none 0 0, .slice (some ⟨b1027, 0, none⟩) ([(1 : Int)] : List Int).length 1]) (x_loadA (S.blk 2 rfl) ty26 rfl (sub_of_extract rfl) rfl rfl) rfl ?_
      refine W_yes (congrArg some hb1069) ?_
      obtain ⟨t1072, ht1073, H⟩ := bindS H
      refine W_callN 2 fn22 (fun h9 hs9 hd9 => fork_Safe.con k _ (some ⟨b1024, 0, none⟩) 1 none 0 (some ⟨b1027, 0, none⟩) 1 (⟨true, ([([97] : Str)] : List Str), ([] : (List Int)), ([(1 : Int)] : List Int)⟩ : fork_Node) (9 : Int) (2 : Int) false t1072 (Sats.row hs9 hd9 0 rfl) (SlW.nil _ _) (Sats.row hs9 hd9 1 rfl) ht1073) S rfl rfl (by rintro _ _ _ ⟨_, rfl⟩; exact flat_nil) ?_
      rintro _ w1074 _ Γ' E' S ⟨rfl, rfl⟩
      replace E := E.trans E'
      clear E'
      refine W_yes (congrArg some hb1069) ?_
      refine W_v (.bool (!t1072)) (x_not rfl) rfl ?_
      refine W_v (.bool (!t1072)) (x_pick (k := true) (congrArg Value.bool hb1069) rfl) rfl ?_
      refine Wl_nil ?_
      exact ⟨(!t1072), Option.some.inj H, ⟨rfl, rfl, rfl, rfl, rfl, trivial⟩, E, S.pick [0, 1, 2, 3, 4, 5, 6, 7, 8] (by decide)⟩
    · skip
      refine W_no (skT hb1069) rfl ?_
      refine W_no (skT hb1069) rfl ?_
      refine W_no (skT hb1069) rfl ?_
      refine W_v (.bool false) (x_pick (k := false) (congrArg Value.bool hb1069) rfl) rfl ?_
      refine Wl_nil ?_
      exact ⟨false, Option.some.inj H, ⟨rfl, rfl, rfl, rfl, rfl, trivial⟩, E, S.pick [0, 1, 2, 3, 4, 5, 6, 7, 8] (by decide)⟩
  clear o1071h
  rintro ρ w1075 ⟨x1070, rfl, hρ, E, S⟩
  rw [agree_eta hρ]
  clear hρ
  have H := o1071H
  clear o1071H
  refine W_v (.bool x1070) (x_move rfl) rfl ?_
  obtain ⟨o1084, o1084h, o1084H⟩ := bindS H
  clear H
  refine Wl_cutN 3 (fun ρ w' => ∃ (x1083 : Bool), (x1083) = o1084 ∧ Agree ρ [(1, .pointer (some ⟨b7, 0, none⟩)), (2, .pointer (some ⟨b17, 0, none⟩)), (3, .pointer (some ⟨b24, 0, none⟩)), (334, .bool x1083)] ∧ Ext w w' ∧ St w' M867 F [Row rStr 9 (.slice (some ⟨b11, 0, none⟩) ([([97] : Str)] : List Str).length 1) ([([97] : Str)] : List Str), Row (rInt .i64) 3 (.slice (some ⟨b14, 0, none⟩) ([(1 : Int), (2 : Int)] : List Int).length 2) ([(1 : Int), (2 : Int)] : List Int), Row (rInt .i64) 3 (.slice (some ⟨b21, 0, none⟩) ([(5 : Int)] : List Int).length 1) ([(5 : Int)] : List Int), Blk b24 (.cells #[.bool false, .slice none 0 0, .slice (some ⟨b21, 0, none⟩) ([(5 : Int)] : List Int).length 1, .slice none 0 0] 26 (0, 0)), Blk b17 (.cells #[.bool false, .slice (some ⟨b11, 0, none⟩) ([([97] : Str)] : List Str).length 1, .slice (some ⟨b14, 0, none⟩) ([(1 : Int), (2 : Int)] : List Int).length 2, .slice none 0 0] 26 (0, 0)), Blk b7 (.cells #[.bool true, .slice (some ⟨b1, 0, none⟩) ([([] : Str), ([97] : Str)] : List Str).length 2, .slice none 0 0, .slice (some ⟨b4, 0, none⟩) ([(1 : Int), (2 : Int)] : List Int).length 2] 26 (0, 0))]) ?_ ?_
  · have H := o1084h
    rcases iteS H with ⟨hb1082, H⟩ | ⟨hb1082, H⟩
    · skip
      refine W_yes (congrArg some hb1082) ?_
      refine W_v (.agg #[.bool true, .slice (some ⟨b1024, 0, none⟩) ([([97] : Str)] : List Str).length 1, .slice none 0 0, .slice (some ⟨b1027, 0, none⟩) ([(1 : Int)] : List Int).length 1]) (x_loadA (S.blk 2 rfl) ty26 rfl (sub_of_extract rfl) rfl rfl) rfl ?_
      refine W_yes (congrArg some hb1082) ?_
      obtain ⟨t1085, ht1086, H⟩ := bindS H
      refine W_callN 2 fn22 (fun h9 hs9 hd9 => fork_Safe.con k _ (some ⟨b1024, 0, none⟩) 1 none 0 (some ⟨b1027, 0, none⟩) 1 (⟨true, ([([97] : Str)] : List Str), ([] : (List Int)), ([(1 : Int)] : List Int)⟩ : fork_Node) (9 : Int) (2 : Int) true t1085 (Sats.row hs9 hd9 0 rfl) (SlW.nil _ _) (Sats.row hs9 hd9 1 rfl) ht1086) S rfl rfl (by rintro _ _ _ ⟨_, rfl⟩; exact flat_nil) ?_
      rintro _ w1087 _ Γ' E' S ⟨rfl, rfl⟩
      replace E := E.trans E'
      clear E'
      refine W_v (.bool t1085) (x_pick (k := true) (congrArg Value.bool hb1082) rfl) rfl ?_
      refine Wl_nil ?_
      exact ⟨t1085, Option.some.inj H, ⟨rfl, rfl, rfl, rfl, trivial⟩, E, S.pick [3, 4, 5, 6, 7, 8] (by decide)⟩
    · skip
      refine W_no (skT hb1082) rfl ?_
      refine W_no (skT hb1082) rfl ?_
      refine W_v (.bool false) (x_pick (k := false) (congrArg Value.bool hb1082) rfl) rfl ?_
      refine Wl_nil ?_
      exact ⟨false, Option.some.inj H, ⟨rfl, rfl, rfl, rfl, trivial⟩, E, S.pick [3, 4, 5, 6, 7, 8] (by decide)⟩
  clear o1084h
  rintro ρ w1088 ⟨x1083, rfl, hρ, E, S⟩
  rw [agree_eta hρ]
  clear hρ
  have H := o1084H
  clear o1084H
  refine W_v (.bool x1083) (x_move rfl) rfl ?_
  obtain ⟨o1097, o1097h, o1097H⟩ := bindS H
  clear H
  refine Wl_cutN 3 (fun ρ w' => ∃ (x1096 : Bool), (x1096) = o1097 ∧ Agree ρ [(1, .pointer (some ⟨b7, 0, none⟩)), (2, .pointer (some ⟨b17, 0, none⟩)), (3, .pointer (some ⟨b24, 0, none⟩)), (338, .bool x1096)] ∧ Ext w w' ∧ St w' M867 F [Row rStr 9 (.slice (some ⟨b11, 0, none⟩) ([([97] : Str)] : List Str).length 1) ([([97] : Str)] : List Str), Row (rInt .i64) 3 (.slice (some ⟨b14, 0, none⟩) ([(1 : Int), (2 : Int)] : List Int).length 2) ([(1 : Int), (2 : Int)] : List Int), Row (rInt .i64) 3 (.slice (some ⟨b21, 0, none⟩) ([(5 : Int)] : List Int).length 1) ([(5 : Int)] : List Int), Blk b24 (.cells #[.bool false, .slice none 0 0, .slice (some ⟨b21, 0, none⟩) ([(5 : Int)] : List Int).length 1, .slice none 0 0] 26 (0, 0)), Blk b17 (.cells #[.bool false, .slice (some ⟨b11, 0, none⟩) ([([97] : Str)] : List Str).length 1, .slice (some ⟨b14, 0, none⟩) ([(1 : Int), (2 : Int)] : List Int).length 2, .slice none 0 0] 26 (0, 0)), Blk b7 (.cells #[.bool true, .slice (some ⟨b1, 0, none⟩) ([([] : Str), ([97] : Str)] : List Str).length 2, .slice none 0 0, .slice (some ⟨b4, 0, none⟩) ([(1 : Int), (2 : Int)] : List Int).length 2] 26 (0, 0))]) ?_ ?_
  · have H := o1097h
    rcases iteS H with ⟨hb1095, H⟩ | ⟨hb1095, H⟩
    · skip
      refine W_yes (congrArg some hb1095) ?_
      refine W_v (.agg #[.bool true, .slice (some ⟨b1, 0, none⟩) ([([] : Str), ([97] : Str)] : List Str).length 2, .slice none 0 0, .slice (some ⟨b4, 0, none⟩) ([(1 : Int), (2 : Int)] : List Int).length 2]) (x_loadA (S.blk 5 rfl) ty26 rfl (sub_of_extract rfl) rfl rfl) rfl ?_
      refine W_yes (congrArg some hb1095) ?_
      obtain ⟨t1098, ht1099, H⟩ := bindS H
      refine W_callF fn22 (fork_Safe.con k M867 (some ⟨b1, 0, none⟩) 2 none 0 (some ⟨b4, 0, none⟩) 2 (⟨true, ([([] : Str), ([97] : Str)] : List Str), ([] : (List Int)), ([(1 : Int), (2 : Int)] : List Int)⟩ : fork_Node) (9 : Int) (2 : Int) false t1098 hf842 (SlW.nil _ _) hf845 ht1099) S rfl rfl (by rintro _ _ _ ⟨_, rfl⟩; exact flat_nil) ?_
      rintro _ w1100 _ Γ' E' S ⟨rfl, rfl⟩
      replace E := E.trans E'
      clear E'
      refine W_v (.bool t1098) (x_pick (k := true) (congrArg Value.bool hb1095) rfl) rfl ?_
      refine Wl_nil ?_
      exact ⟨t1098, Option.some.inj H, ⟨rfl, rfl, rfl, rfl, trivial⟩, E, S.pick [0, 1, 2, 3, 4, 5] (by decide)⟩
    · skip
      refine W_no (skT hb1095) rfl ?_
      refine W_no (skT hb1095) rfl ?_
      refine W_v (.bool false) (x_pick (k := false) (congrArg Value.bool hb1095) rfl) rfl ?_
      refine Wl_nil ?_
      exact ⟨false, Option.some.inj H, ⟨rfl, rfl, rfl, rfl, trivial⟩, E, S.pick [0, 1, 2, 3, 4, 5] (by decide)⟩
  clear o1097h
  rintro ρ w1101 ⟨x1096, rfl, hρ, E, S⟩
  rw [agree_eta hρ]
  clear hρ
  have H := o1097H
  clear o1097H
  refine W_v (.bool x1096) (x_move rfl) rfl ?_
  obtain ⟨o1110, o1110h, o1110H⟩ := bindS H
  clear H
  refine Wl_cutN 4 (fun ρ w' => ∃ (x1109 : Bool), (x1109) = o1110 ∧ Agree ρ [(1, .pointer (some ⟨b7, 0, none⟩)), (2, .pointer (some ⟨b17, 0, none⟩)), (343, .bool x1109)] ∧ Ext w w' ∧ St w' M867 F [Row rStr 9 (.slice (some ⟨b11, 0, none⟩) ([([97] : Str)] : List Str).length 1) ([([97] : Str)] : List Str), Row (rInt .i64) 3 (.slice (some ⟨b14, 0, none⟩) ([(1 : Int), (2 : Int)] : List Int).length 2) ([(1 : Int), (2 : Int)] : List Int), Blk b17 (.cells #[.bool false, .slice (some ⟨b11, 0, none⟩) ([([97] : Str)] : List Str).length 1, .slice (some ⟨b14, 0, none⟩) ([(1 : Int), (2 : Int)] : List Int).length 2, .slice none 0 0] 26 (0, 0)), Blk b7 (.cells #[.bool true, .slice (some ⟨b1, 0, none⟩) ([([] : Str), ([97] : Str)] : List Str).length 2, .slice none 0 0, .slice (some ⟨b4, 0, none⟩) ([(1 : Int), (2 : Int)] : List Int).length 2] 26 (0, 0))]) ?_ ?_
  · have H := o1110h
    rcases iteS H with ⟨hb1108, H⟩ | ⟨hb1108, H⟩
    · skip
      refine W_yes (congrArg some hb1108) ?_
      refine W_v (.agg #[.bool false, .slice none 0 0, .slice (some ⟨b21, 0, none⟩) ([(5 : Int)] : List Int).length 1, .slice none 0 0]) (x_loadA (S.blk 3 rfl) ty26 rfl (sub_of_extract rfl) rfl rfl) rfl ?_
      refine W_yes (congrArg some hb1108) ?_
      replace S : St w1101 M867 F [Row (rInt .i64) 3 (.slice (some ⟨b21, 0, none⟩) ([(5 : Int)] : List Int).length 1) ([(5 : Int)] : List Int), Row rStr 9 (.slice (some ⟨b11, 0, none⟩) ([([97] : Str)] : List Str).length 1) ([([97] : Str)] : List Str), Row (rInt .i64) 3 (.slice (some ⟨b14, 0, none⟩) ([(1 : Int), (2 : Int)] : List Int).length 2) ([(1 : Int), (2 : Int)] : List Int), Blk b24 (.cells #[.bool false, .slice none 0 0, .slice (some ⟨b21, 0, none⟩) ([(5 : Int)] : List Int).length 1, .slice none 0 0] 26 (0, 0)), Blk b17 (.cells #[.bool false, .slice (some ⟨b11, 0, none⟩) ([([97] : Str)] : List Str).length 1, .slice (some ⟨b14, 0, none⟩) ([(1 : Int), (2 : Int)] : List Int).length 2, .slice none 0 0] 26 (0, 0)), Blk b7 (.cells #[.bool true, .slice (some ⟨b1, 0, none⟩) ([([] : Str), ([97] : Str)] : List Str).length 2, .slice none 0 0, .slice (some ⟨b4, 0, none⟩) ([(1 : Int), (2 : Int)] : List Int).length 2] 26 (0, 0))] := S.pick [2, 0, 1, 3, 4, 5] (by decide)
      obtain ⟨t1111, ht1112, H⟩ := bindS H
      refine W_callN 1 fn22 (fun h9 hs9 hd9 => fork_Safe.con k _ none 0 (some ⟨b21, 0, none⟩) 1 none 0 (⟨false, ([] : (List Str)), ([(5 : Int)] : List Int), ([] : (List Int))⟩ : fork_Node) (9 : Int) (2 : Int) false t1111 (SlW.nil _ _) (Sats.row hs9 hd9 0 rfl) (SlW.nil _ _) ht1112) S rfl rfl (by rintro _ _ _ ⟨_, rfl⟩; exact flat_nil) ?_
      rintro _ w1113 _ Γ' E' S ⟨rfl, rfl⟩
      replace E := E.trans E'
      clear E'
      refine W_yes (congrArg some hb1108) ?_
      refine W_v (.bool (!t1111)) (x_not rfl) rfl ?_
      refine W_v (.bool (!t1111)) (x_pick (k := true) (congrArg Value.bool hb1108) rfl) rfl ?_
      refine Wl_nil ?_
      exact ⟨(!t1111), Option.some.inj H, ⟨rfl, rfl, rfl, trivial⟩, E, S.pick [1, 2, 4, 5] (by decide)⟩
    · skip
      refine W_no (skT hb1108) rfl ?_
      refine W_no (skT hb1108) rfl ?_
      refine W_no (skT hb1108) rfl ?_
      refine W_v (.bool false) (x_pick (k := false) (congrArg Value.bool hb1108) rfl) rfl ?_
      refine Wl_nil ?_
      exact ⟨false, Option.some.inj H, ⟨rfl, rfl, rfl, trivial⟩, E, S.pick [0, 1, 4, 5] (by decide)⟩
  clear o1110h
  rintro ρ w1114 ⟨x1109, rfl, hρ, E, S⟩
  rw [agree_eta hρ]
  clear hρ
  have H := o1110H
  clear o1110H
  refine W_v (.bool x1109) (x_move rfl) rfl ?_
  obtain ⟨o1123, o1123h, o1123H⟩ := bindS H
  clear H
  refine Wl_cutN 3 (fun ρ w' => ∃ (x1122 : Bool), (x1122) = o1123 ∧ Agree ρ [(1, .pointer (some ⟨b7, 0, none⟩)), (2, .pointer (some ⟨b17, 0, none⟩)), (347, .bool x1122)] ∧ Ext w w' ∧ St w' M867 F [Row rStr 9 (.slice (some ⟨b11, 0, none⟩) ([([97] : Str)] : List Str).length 1) ([([97] : Str)] : List Str), Row (rInt .i64) 3 (.slice (some ⟨b14, 0, none⟩) ([(1 : Int), (2 : Int)] : List Int).length 2) ([(1 : Int), (2 : Int)] : List Int), Blk b17 (.cells #[.bool false, .slice (some ⟨b11, 0, none⟩) ([([97] : Str)] : List Str).length 1, .slice (some ⟨b14, 0, none⟩) ([(1 : Int), (2 : Int)] : List Int).length 2, .slice none 0 0] 26 (0, 0)), Blk b7 (.cells #[.bool true, .slice (some ⟨b1, 0, none⟩) ([([] : Str), ([97] : Str)] : List Str).length 2, .slice none 0 0, .slice (some ⟨b4, 0, none⟩) ([(1 : Int), (2 : Int)] : List Int).length 2] 26 (0, 0))]) ?_ ?_
  · have H := o1123h
    rcases iteS H with ⟨hb1121, H⟩ | ⟨hb1121, H⟩
    · skip
      refine W_yes (congrArg some hb1121) ?_
      refine W_v (.agg #[.bool false, .slice (some ⟨b11, 0, none⟩) ([([97] : Str)] : List Str).length 1, .slice (some ⟨b14, 0, none⟩) ([(1 : Int), (2 : Int)] : List Int).length 2, .slice none 0 0]) (x_loadA (S.blk 2 rfl) ty26 rfl (sub_of_extract rfl) rfl rfl) rfl ?_
      refine W_yes (congrArg some hb1121) ?_
      obtain ⟨t1124, ht1125, H⟩ := bindS H
      refine W_callN 2 fn22 (fun h9 hs9 hd9 => fork_Safe.con k _ (some ⟨b11, 0, none⟩) 1 (some ⟨b14, 0, none⟩) 2 none 0 (⟨false, ([([97] : Str)] : List Str), ([(1 : Int), (2 : Int)] : List Int), ([] : (List Int))⟩ : fork_Node) (9 : Int) (2 : Int) false t1124 (Sats.row hs9 hd9 0 rfl) (Sats.row hs9 hd9 1 rfl) (SlW.nil _ _) ht1125) S rfl rfl (by rintro _ _ _ ⟨_, rfl⟩; exact flat_nil) ?_
      rintro _ w1126 _ Γ' E' S ⟨rfl, rfl⟩
      replace E := E.trans E'
      clear E'
      refine W_v (.bool t1124) (x_pick (k := true) (congrArg Value.bool hb1121) rfl) rfl ?_
      refine Wl_nil ?_
      exact ⟨t1124, Option.some.inj H, ⟨rfl, rfl, rfl, trivial⟩, E, S.pick [0, 1, 2, 3] (by decide)⟩
    · skip
      refine W_no (skT hb1121) rfl ?_
      refine W_no (skT hb1121) rfl ?_
      refine W_v (.bool false) (x_pick (k := false) (congrArg Value.bool hb1121) rfl) rfl ?_
      refine Wl_nil ?_
      exact ⟨false, Option.some.inj H, ⟨rfl, rfl, rfl, trivial⟩, E, S.pick [0, 1, 2, 3] (by decide)⟩
  clear o1123h
  rintro ρ w1127 ⟨x1122, rfl, hρ, E, S⟩
  rw [agree_eta hρ]
  clear hρ
  have H := o1123H
  clear o1123H
  refine W_v (.bool x1122) (x_move rfl) rfl ?_
  obtain ⟨o1136, o1136h, o1136H⟩ := bindS H
  clear H
  refine Wl_cutN 4 (fun ρ w' => ∃ (x1135 : Bool), (x1135) = o1136 ∧ Agree ρ [(1, .pointer (some ⟨b7, 0, none⟩)), (352, .bool x1135)] ∧ Ext w w' ∧ St w' M867 F [Blk b7 (.cells #[.bool true, .slice (some ⟨b1, 0, none⟩) ([([] : Str), ([97] : Str)] : List Str).length 2, .slice none 0 0, .slice (some ⟨b4, 0, none⟩) ([(1 : Int), (2 : Int)] : List Int).length 2] 26 (0, 0))]) ?_ ?_
  · have H := o1136h
    rcases iteS H with ⟨hb1134, H⟩ | ⟨hb1134, H⟩
    · skip
      refine W_yes (congrArg some hb1134) ?_
      refine W_v (.agg #[.bool false, .slice (some ⟨b11, 0, none⟩) ([([97] : Str)] : List Str).length 1, .slice (some ⟨b14, 0, none⟩) ([(1 : Int), (2 : Int)] : List Int).length 2, .slice none 0 0]) (x_loadA (S.blk 2 rfl) ty26 rfl (sub_of_extract rfl) rfl rfl) rfl ?_
      refine W_yes (congrArg some hb1134) ?_
      obtain ⟨t1137, ht1138, H⟩ := bindS H
      refine W_callN 2 fn22 (fun h9 hs9 hd9 => fork_Safe.con k _ (some ⟨b11, 0, none⟩) 1 (some ⟨b14, 0, none⟩) 2 none 0 (⟨false, ([([97] : Str)] : List Str), ([(1 : Int), (2 : Int)] : List Int), ([] : (List Int))⟩ : fork_Node) (9 : Int) (2 : Int) true t1137 (Sats.row hs9 hd9 0 rfl) (Sats.row hs9 hd9 1 rfl) (SlW.nil _ _) ht1138) S rfl rfl (by rintro _ _ _ ⟨_, rfl⟩; exact flat_nil) ?_
      rintro _ w1139 _ Γ' E' S ⟨rfl, rfl⟩
      replace E := E.trans E'
      clear E'
      refine W_yes (congrArg some hb1134) ?_
      refine W_v (.bool (!t1137)) (x_not rfl) rfl ?_
      refine W_v (.bool (!t1137)) (x_pick (k := true) (congrArg Value.bool hb1134) rfl) rfl ?_
      refine Wl_nil ?_
      exact ⟨(!t1137), Option.some.inj H, ⟨rfl, rfl, trivial⟩, E, S.pick [3] (by decide)⟩
    · skip
      refine W_no (skT hb1134) rfl ?_
      refine W_no (skT hb1134) rfl ?_
      refine W_no (skT hb1134) rfl ?_
      refine W_v (.bool false) (x_pick (k := false) (congrArg Value.bool hb1134) rfl) rfl ?_
      refine Wl_nil ?_
      exact ⟨false, Option.some.inj H, ⟨rfl, rfl, trivial⟩, E, S.pick [3] (by decide)⟩
  clear o1136h
  rintro ρ w1140 ⟨x1135, rfl, hρ, E, S⟩
  rw [agree_eta hρ]
  clear hρ
  have H := o1136H
  clear o1136H
  refine W_v (.bool x1135) (x_move rfl) rfl ?_
  obtain ⟨o1149, o1149h, o1149H⟩ := bindS H
  clear H
  refine Wl_cutN 4 (fun ρ w' => ∃ (x1148 : Bool), (x1148) = o1149 ∧ Agree ρ [(357, .bool x1148)] ∧ Ext w w' ∧ St w' M867 F []) ?_ ?_
  · have H := o1149h
    rcases iteS H with ⟨hb1147, H⟩ | ⟨hb1147, H⟩
    · skip
      refine W_yes (congrArg some hb1147) ?_
      refine W_v (.agg #[.bool true, .slice (some ⟨b1, 0, none⟩) ([([] : Str), ([97] : Str)] : List Str).length 2, .slice none 0 0, .slice (some ⟨b4, 0, none⟩) ([(1 : Int), (2 : Int)] : List Int).length 2]) (x_loadA (S.blk 0 rfl) ty26 rfl (sub_of_extract rfl) rfl rfl) rfl ?_
      refine W_yes (congrArg some hb1147) ?_
      obtain ⟨t1150, ht1151, H⟩ := bindS H
      refine W_callF fn22 (fork_Safe.con k M867 (some ⟨b1, 0, none⟩) 2 none 0 (some ⟨b4, 0, none⟩) 2 (⟨true, ([([] : Str), ([97] : Str)] : List Str), ([] : (List Int)), ([(1 : Int), (2 : Int)] : List Int)⟩ : fork_Node) (9 : Int) (3 : Int) true t1150 hf842 (SlW.nil _ _) hf845 ht1151) S rfl rfl (by rintro _ _ _ ⟨_, rfl⟩; exact flat_nil) ?_
      rintro _ w1152 _ Γ' E' S ⟨rfl, rfl⟩
      replace E := E.trans E'
      clear E'
      refine W_yes (congrArg some hb1147) ?_
      refine W_v (.bool (!t1150)) (x_not rfl) rfl ?_
      refine W_v (.bool (!t1150)) (x_pick (k := true) (congrArg Value.bool hb1147) rfl) rfl ?_
      refine Wl_nil ?_
      exact ⟨(!t1150), Option.some.inj H, ⟨rfl, trivial⟩, E, S.pick [] (by decide)⟩
    · skip
      refine W_no (skT hb1147) rfl ?_
      refine W_no (skT hb1147) rfl ?_
      refine W_no (skT hb1147) rfl ?_
      refine W_v (.bool false) (x_pick (k := false) (congrArg Value.bool hb1147) rfl) rfl ?_
      refine Wl_nil ?_
      exact ⟨false, Option.some.inj H, ⟨rfl, trivial⟩, E, S.pick [] (by decide)⟩
  clear o1149h
  rintro ρ w1153 ⟨x1148, rfl, hρ, E, S⟩
  rw [agree_eta hρ]
  clear hρ
  have H := o1149H
  clear o1149H
  refine W_v (.bool x1148) (x_assign rfl) rfl ?_
  refine Wl_nil ?_
  refine tn ?_
  refine Wp_ret ?_
  obtain rfl := Option.some.inj H
  exact ⟨_, _, _, fun w1 e1 => run_resR (vs := [.bool x1148]) (FA.cons (rfl) (FA.nil)), HM, E, S.pick [] (by decide), ⟨rfl, rfl⟩⟩
end Go.Proofs.Ytdommjjhfplcaaa
