import Derived.Test.YtdommjjhfplcaaaGf1P1
namespace Go.Proofs.Ytdommjjhfplcaaa
open Go
set_option linter.unusedVariables false
set_option linter.unusedSimpArgs false
/-! ### ferryman/ferrymanlaw13.awake: function 10 -/
def ferrymanlaw13_awake (k : Nat)  : Option (Bool) :=
  (Option.bind (fork_Place k (⟨true, ([([98] : Str), ([100] : Str), ([102] : Str)] : List Str), ([] : (List Int)), ([(1 : Int), (2 : Int), (3 : Int)] : List Int)⟩ : fork_Node) ([99] : Str)) (fun t11 => (Option.bind (fork_Place k (⟨true, ([([98] : Str), ([100] : Str), ([102] : Str)] : List Str), ([] : (List Int)), ([(1 : Int), (2 : Int), (3 : Int)] : List Int)⟩ : fork_Node) ([100] : Str)) (fun t14 => (Option.bind (fork_Place k (⟨true, ([([98] : Str), ([100] : Str), ([102] : Str)] : List Str), ([] : (List Int)), ([(1 : Int), (2 : Int), (3 : Int)] : List Int)⟩ : fork_Node) ([103] : Str)) (fun t17 => (Option.bind (fork_Put k (⟨true, ([([98] : Str), ([100] : Str), ([102] : Str)] : List Str), ([] : (List Int)), ([(1 : Int), (2 : Int), (3 : Int)] : List Int)⟩ : fork_Node) ([99] : Str) (9 : Int)) (fun t20 => (Option.bind (fork_Split k t20.1) (fun t45 => (Option.bind (α := Bool) (if (((((((t11.1 != (1 : Int)) || t11.2) || (t14.1 != (1 : Int))) || (!t14.2)) || (t17.1 != (3 : Int))) || t17.2) || (t20.2 != (0 : Int))) = true then some (true) else (Option.bind (ferrymanlaw13_is k t20.1 ([([98] : Str), ([99] : Str), ([100] : Str), ([102] : Str)] : List Str) ([] : (List Int)) ([(1 : Int), (9 : Int), (2 : Int), (3 : Int)] : List Int)) (fun t109 => some ((!t109))))) (fun x101 => (Option.bind (α := Bool) (if ((x101 || (t45.2.2.2 != (0 : Int))) || (sbin .neq t45.2.2.1 ([100] : Str))) = true then some (true) else (Option.bind (ferrymanlaw13_is k t45.1 ([([98] : Str), ([99] : Str)] : List Str) ([] : (List Int)) ([(1 : Int), (9 : Int)] : List Int)) (fun t142 => some ((!t142))))) (fun x134 => (Option.bind (α := Bool) (if x134 = true then some (true) else (Option.bind (ferrymanlaw13_is k t45.2.1 ([([100] : Str), ([102] : Str)] : List Str) ([] : (List Int)) ([(2 : Int), (3 : Int)] : List Int)) (fun t173 => some ((!t173))))) (fun x165 => (if x165 = true then some false else (Option.bind (fork_Fence k (⟨false, ([([98] : Str), ([100] : Str), ([102] : Str)] : List Str), ([(1 : Int), (2 : Int), (3 : Int), (4 : Int)] : List Int), ([] : (List Int))⟩ : fork_Node) (1 : Int)) (fun t188 => (Option.bind (fork_Fence k (⟨false, ([([98] : Str), ([100] : Str), ([102] : Str)] : List Str), ([(1 : Int), (2 : Int), (3 : Int), (4 : Int)] : List Int), ([] : (List Int))⟩ : fork_Node) (3 : Int)) (fun t191 => (Option.bind (fork_Split k (⟨false, ([([98] : Str), ([100] : Str), ([102] : Str)] : List Str), ([(1 : Int), (2 : Int), (3 : Int), (4 : Int)] : List Int), ([] : (List Int))⟩ : fork_Node)) (fun t200 => (Option.bind (fork_Graft k (⟨false, ([([98] : Str), ([100] : Str), ([102] : Str)] : List Str), ([(1 : Int), (2 : Int), (3 : Int), (4 : Int)] : List Int), ([] : (List Int))⟩ : fork_Node) ([101] : Str) (9 : Int)) (fun t225 => (Option.bind (fork_Cut k (⟨false, ([([98] : Str), ([100] : Str), ([102] : Str)] : List Str), ([(1 : Int), (2 : Int), (3 : Int), (4 : Int)] : List Int), ([] : (List Int))⟩ : fork_Node) (0 : Int)) (fun t241 => (Option.bind (fork_Cut k (⟨false, ([([98] : Str), ([100] : Str), ([102] : Str)] : List Str), ([(1 : Int), (2 : Int), (3 : Int), (4 : Int)] : List Int), ([] : (List Int))⟩ : fork_Node) (3 : Int)) (fun t257 => (Option.bind (fork_Kid k (⟨false, ([([98] : Str), ([100] : Str), ([102] : Str)] : List Str), ([(1 : Int), (2 : Int), (3 : Int), (4 : Int)] : List Int), ([] : (List Int))⟩ : fork_Node) ([97] : Str)) (fun t273 => (Option.bind (α := Bool) (if (t273 == (0 : Int)) = true then (Option.bind (fork_Kid k (⟨false, ([([98] : Str), ([100] : Str), ([102] : Str)] : List Str), ([(1 : Int), (2 : Int), (3 : Int), (4 : Int)] : List Int), ([] : (List Int))⟩ : fork_Node) ([98] : Str)) (fun t285 => some ((t285 == (1 : Int))))) else some (false)) (fun x283 => (Option.bind (α := Bool) (if x283 = true then (Option.bind (fork_Kid k (⟨false, ([([98] : Str), ([100] : Str), ([102] : Str)] : List Str), ([(1 : Int), (2 : Int), (3 : Int), (4 : Int)] : List Int), ([] : (List Int))⟩ : fork_Node) ([103] : Str)) (fun t298 => some ((t298 == (3 : Int))))) else some (false)) (fun x296 => (Option.bind (α := Bool) (if (((((x296 && t188.2) && (sbin .eql t188.1 ([100] : Str))) && (!t191.2)) && (t200.2.2.2 == (0 : Int))) && (sbin .eql t200.2.2.1 ([102] : Str))) = true then (Option.bind (ferrymanlaw13_is k t200.1 ([([98] : Str), ([100] : Str)] : List Str) ([(1 : Int), (2 : Int), (3 : Int)] : List Int) ([] : (List Int))) (fun t334 => some (t334))) else some (false)) (fun x326 => (Option.bind (α := Bool) (if x326 = true then (Option.bind (ferrymanlaw13_is k t200.2.1 ([] : (List Str)) ([(4 : Int)] : List Int) ([] : (List Int))) (fun t356 => some (t356))) else some (false)) (fun x351 => (Option.bind (α := Bool) (if (x351 && (t225.2 == (0 : Int))) = true then (Option.bind (ferrymanlaw13_is k t225.1 ([([98] : Str), ([100] : Str), ([101] : Str), ([102] : Str)] : List Str) ([(1 : Int), (2 : Int), (3 : Int), (9 : Int), (4 : Int)] : List Int) ([] : (List Int))) (fun t388 => some (t388))) else some (false)) (fun x380 => (Option.bind (α := Bool) (if (x380 && (t241.2 == (0 : Int))) = true then (Option.bind (ferrymanlaw13_is k t241.1 ([([100] : Str), ([102] : Str)] : List Str) ([(2 : Int), (3 : Int), (4 : Int)] : List Int) ([] : (List Int))) (fun t420 => some (t420))) else some (false)) (fun x412 => (Option.bind (α := Bool) (if (x412 && (t257.2 == (0 : Int))) = true then (Option.bind (ferrymanlaw13_is k t257.1 ([([98] : Str), ([100] : Str)] : List Str) ([(1 : Int), (2 : Int), (3 : Int)] : List Int) ([] : (List Int))) (fun t452 => some (t452))) else some (false)) (fun x444 => some x444)))))))))))))))))))))))))))))))))))))))))))))
set_option maxHeartbeats 2000000 in
theorem ferrymanlaw13_awake.mono {k : Nat}  : OLe (ferrymanlaw13_awake k ) (ferrymanlaw13_awake (k + 1) ) := by
  unfold ferrymanlaw13_awake
  repeat' (first | with_reducible exact OLe.none | with_reducible exact OLe.some | with_reducible refine OLe.ite ?_ ?_ | with_reducible refine OLe.bind ?_ (fun _ => ?_) | with_reducible exact ferrymanlaw13_is.mono | with_reducible exact fork_Cut.mono | with_reducible exact fork_Fence.mono | with_reducible exact fork_Graft.mono | with_reducible exact fork_Kid.mono | with_reducible exact fork_Place.mono | with_reducible exact fork_Put.mono | with_reducible exact fork_Split.mono | refine OLe.bind ?_ (fun _ => ?_) | refine OLe.ite ?_ ?_ | refine OLe.elim (fun _ => ?_) (fun _ => ?_) | split)
set_option maxHeartbeats 8000000 in
set_option maxRecDepth 100000 in
theorem ferrymanlaw13_awake.con (k : Nat) (M : Hp)  (r : Bool)  (h : ferrymanlaw13_awake k  = some r) : Con Try.prog 10 #[] M [] (fun v M' Γ' => v = .bool r ∧ Γ' = []) := by
  refine con_of_wp Try.func10 rfl Try.ntmps10 Try.results10 rfl ?_
  intro w F rn S hrn
  have E := Ext.refl w
  have HM := Hp.le_refl M
  have H := h
  unfold ferrymanlaw13_awake at H
  refine Wp_seq ?_
  refine Wp_region_lit ?_
  refine W_v (.bool false) (x_assign rfl) rfl ?_
  refine Wl_nil ?_
  refine tn ?_
  refine Wp_seq ?_
  refine Wp_region_lit ?_
  refine W_bslice S #[.string (bs ([98] : Str)), .string (bs ([100] : Str)), .string (bs ([102] : Str))] Try.underlying22 ty9 rfl rfl #[.string (bs ([] : Str)), .string (bs ([] : Str)), .string (bs ([] : Str))] (by kernel_rfl) (by kernel_rfl) rfl ?_
  intro b1 w2 E' S
  replace E := E.trans E'
  clear E'
  replace S := S.blk_row (r := rStr) (l := ([([98] : Str), ([100] : Str), ([102] : Str)] : List Str)) 0 rfl 3 (Nat.le_refl 3) rfl (Cells.cons (vs := [.string (bs ([98] : Str))]) (rfl) (Cells.cons (vs := [.string (bs ([100] : Str))]) (rfl) (Cells.cons (vs := [.string (bs ([102] : Str))]) (rfl) Cells.nil)))
  refine W_bslice S #[.int .u64 1, .int .u64 2, .int .u64 3] Try.underlying24 ty41 rfl rfl #[.int .u64 0, .int .u64 0, .int .u64 0] (by kernel_rfl) (by kernel_rfl) rfl ?_
  intro b4 w5 E' S
  replace E := E.trans E'
  clear E'
  replace S := S.blk_row (r := (rInt .u64)) (l := ([(1 : Int), (2 : Int), (3 : Int)] : List Int)) 0 rfl 3 (Nat.le_refl 3) rfl (Cells.cons (vs := [.int .u64 1]) (rfl) (Cells.cons (vs := [.int .u64 2]) (rfl) (Cells.cons (vs := [.int .u64 3]) (rfl) Cells.nil)))
  refine W_v (.agg #[.bool true, .slice (some ⟨b1, 0, none⟩) ([([98] : Str), ([100] : Str), ([102] : Str)] : List Str).length 3, .slice none 0 0, .slice (some ⟨b4, 0, none⟩) ([(1 : Int), (2 : Int), (3 : Int)] : List Int).length 3]) (x_build2 (pl := [(0, 1), (1, 1), (2, 1), (3, 1)]) #[.bool true, .slice (some ⟨b1, 0, none⟩) ([([98] : Str), ([100] : Str), ([102] : Str)] : List Str).length 3, .slice none 0 0, .slice (some ⟨b4, 0, none⟩) ([(1 : Int), (2 : Int), (3 : Int)] : List Int).length 3] Try.underlying26 ty26 (by kernel_rfl) rfl (by kernel_rfl)) rfl ?_
  refine W_alloc S #[.bool false, .slice none 0 0, .slice none 0 0, .slice none 0 0] ty26 rfl rfl ?_
  intro b7 w8 E' S
  replace E := E.trans E'
  clear E'
  refine W_store S 0 rfl ty26 rfl rfl [.bool true, .slice (some ⟨b1, 0, none⟩) ([([98] : Str), ([100] : Str), ([102] : Str)] : List Str).length 3, .slice none 0 0, .slice (some ⟨b4, 0, none⟩) ([(1 : Int), (2 : Int), (3 : Int)] : List Int).length 3] rfl rfl rfl #[.bool true, .slice (some ⟨b1, 0, none⟩) ([([98] : Str), ([100] : Str), ([102] : Str)] : List Str).length 3, .slice none 0 0, .slice (some ⟨b4, 0, none⟩) ([(1 : Int), (2 : Int), (3 : Int)] : List Int).length 3] rfl rfl ?_
  intro w10 E' S
  replace E := E.trans E'
  clear E'
  refine Wl_nil ?_
  refine tn ?_
  refine Wp_seq ?_
  refine Wp_region_lit ?_
  refine W_v (.agg #[.bool true, .slice (some ⟨b1, 0, none⟩) ([([98] : Str), ([100] : Str), ([102] : Str)] : List Str).length 3, .slice none 0 0, .slice (some ⟨b4, 0, none⟩) ([(1 : Int), (2 : Int), (3 : Int)] : List Int).length 3]) (x_loadA (S.blk 0 rfl) ty26 rfl (sub_of_extract rfl) rfl rfl) rfl ?_
  replace S : St w10 M F [Row rStr 9 (.slice (some ⟨b1, 0, none⟩) ([([98] : Str), ([100] : Str), ([102] : Str)] : List Str).length 3) ([([98] : Str), ([100] : Str), ([102] : Str)] : List Str), Row (rInt .u64) 41 (.slice (some ⟨b4, 0, none⟩) ([(1 : Int), (2 : Int), (3 : Int)] : List Int).length 3) ([(1 : Int), (2 : Int), (3 : Int)] : List Int), Blk b7 (.cells #[.bool true, .slice (some ⟨b1, 0, none⟩) ([([98] : Str), ([100] : Str), ([102] : Str)] : List Str).length 3, .slice none 0 0, .slice (some ⟨b4, 0, none⟩) ([(1 : Int), (2 : Int), (3 : Int)] : List Int).length 3] 26 (0, 0))] := S.pick [2, 1, 0] (by decide)
  obtain ⟨t11, ht12, H⟩ := bindS H
  refine W_callN 2 fn12 (fun h9 hs9 hd9 => fork_Place.con k _ (some ⟨b1, 0, none⟩) 3 none 0 (some ⟨b4, 0, none⟩) 3 (⟨true, ([([98] : Str), ([100] : Str), ([102] : Str)] : List Str), ([] : (List Int)), ([(1 : Int), (2 : Int), (3 : Int)] : List Int)⟩ : fork_Node) ([99] : Str) t11 (Sats.row hs9 hd9 0 rfl) (SlW.nil _ _) (Sats.row hs9 hd9 1 rfl) ht12) S rfl rfl (by rintro _ _ _ ⟨_, rfl⟩; exact flat_nil) ?_
  rintro _ w13 _ Γ' E' S ⟨rfl, rfl⟩
  replace E := E.trans E'
  clear E'
  refine W_v (.tuple #[.int .i64 t11.1, .bool t11.2]) (x_move rfl) rfl ?_
  refine W_v (.int .i64 t11.1) (x_extract rfl rfl) rfl ?_
  refine W_v (.bool t11.2) (x_extract rfl rfl) rfl ?_
  refine W_v (.int .i64 t11.1) (x_assign rfl) rfl ?_
  refine W_v (.bool t11.2) (x_assign rfl) rfl ?_
  refine Wl_nil ?_
  refine tn ?_
  refine Wp_seq ?_
  refine Wp_region_lit ?_
  refine W_v (.agg #[.bool true, .slice (some ⟨b1, 0, none⟩) ([([98] : Str), ([100] : Str), ([102] : Str)] : List Str).length 3, .slice none 0 0, .slice (some ⟨b4, 0, none⟩) ([(1 : Int), (2 : Int), (3 : Int)] : List Int).length 3]) (x_loadA (S.blk 2 rfl) ty26 rfl (sub_of_extract rfl) rfl rfl) rfl ?_
  obtain ⟨t14, ht15, H⟩ := bindS H
  refine W_callN 2 fn12 (fun h9 hs9 hd9 => fork_Place.con k _ (some ⟨b1, 0, none⟩) 3 none 0 (some ⟨b4, 0, none⟩) 3 (⟨true, ([([98] : Str), ([100] : Str), ([102] : Str)] : List Str), ([] : (List Int)), ([(1 : Int), (2 : Int), (3 : Int)] : List Int)⟩ : fork_Node) ([100] : Str) t14 (Sats.row hs9 hd9 0 rfl) (SlW.nil _ _) (Sats.row hs9 hd9 1 rfl) ht15) S rfl rfl (by rintro _ _ _ ⟨_, rfl⟩; exact flat_nil) ?_
  rintro _ w16 _ Γ' E' S ⟨rfl, rfl⟩
  replace E := E.trans E'
  clear E'
  refine W_v (.tuple #[.int .i64 t14.1, .bool t14.2]) (x_move rfl) rfl ?_
  refine W_v (.int .i64 t14.1) (x_extract rfl rfl) rfl ?_
  refine W_v (.bool t14.2) (x_extract rfl rfl) rfl ?_
  refine W_v (.int .i64 t14.1) (x_assign rfl) rfl ?_
  refine W_v (.bool t14.2) (x_assign rfl) rfl ?_
  refine Wl_nil ?_
  refine tn ?_
  refine Wp_seq ?_
  refine Wp_region_lit ?_
  refine W_v (.agg #[.bool true, .slice (some ⟨b1, 0, none⟩) ([([98] : Str), ([100] : Str), ([102] : Str)] : List Str).length 3, .slice none 0 0, .slice (some ⟨b4, 0, none⟩) ([(1 : Int), (2 : Int), (3 : Int)] : List Int).length 3]) (x_loadA (S.blk 2 rfl) ty26 rfl (sub_of_extract rfl) rfl rfl) rfl ?_
  obtain ⟨t17, ht18, H⟩ := bindS H
  refine W_callN 2 fn12 (fun h9 hs9 hd9 => fork_Place.con k _ (some ⟨b1, 0, none⟩) 3 none 0 (some ⟨b4, 0, none⟩) 3 (⟨true, ([([98] : Str), ([100] : Str), ([102] : Str)] : List Str), ([] : (List Int)), ([(1 : Int), (2 : Int), (3 : Int)] : List Int)⟩ : fork_Node) ([103] : Str) t17 (Sats.row hs9 hd9 0 rfl) (SlW.nil _ _) (Sats.row hs9 hd9 1 rfl) ht18) S rfl rfl (by rintro _ _ _ ⟨_, rfl⟩; exact flat_nil) ?_
  rintro _ w19 _ Γ' E' S ⟨rfl, rfl⟩
  replace E := E.trans E'
  clear E'
  refine W_v (.tuple #[.int .i64 t17.1, .bool t17.2]) (x_move rfl) rfl ?_
  refine W_v (.int .i64 t17.1) (x_extract rfl rfl) rfl ?_
  refine W_v (.bool t17.2) (x_extract rfl rfl) rfl ?_
  refine W_v (.int .i64 t17.1) (x_assign rfl) rfl ?_
  refine W_v (.bool t17.2) (x_assign rfl) rfl ?_
  refine Wl_nil ?_
  refine tn ?_
  refine Wp_seq ?_
  refine Wp_region_lit ?_
  refine W_v (.agg #[.bool true, .slice (some ⟨b1, 0, none⟩) ([([98] : Str), ([100] : Str), ([102] : Str)] : List Str).length 3, .slice none 0 0, .slice (some ⟨b4, 0, none⟩) ([(1 : Int), (2 : Int), (3 : Int)] : List Int).length 3]) (x_loadA (S.blk 2 rfl) ty26 rfl (sub_of_extract rfl) rfl rfl) rfl ?_
  obtain ⟨t20, ht21, H⟩ := bindS H
  refine W_callN 2 fn19 (fun h9 hs9 hd9 => fork_Put.con k _ (some ⟨b1, 0, none⟩) 3 none 0 (some ⟨b4, 0, none⟩) 3 (⟨true, ([([98] : Str), ([100] : Str), ([102] : Str)] : List Str), ([] : (List Int)), ([(1 : Int), (2 : Int), (3 : Int)] : List Int)⟩ : fork_Node) ([99] : Str) (9 : Int) t20 (Sats.row hs9 hd9 0 rfl) (SlW.nil _ _) (Sats.row hs9 hd9 1 rfl) ht21) S rfl rfl (by rintro _ _ _ ⟨_, _, _, _, _, _, _, rfl⟩; exact (flat_cons (flat_row (fun _ _ _ _ h => h)) (flat_cons (flat_row (fun _ _ _ _ h => h)) (flat_cons (flat_row (fun _ _ _ _ h => h)) flat_nil)))) ?_
  rintro _ w31 _ Γ' E' S ⟨A22, c23, A25, c26, A28, c29, rfl, rfl⟩
  replace E := E.trans E'
  clear E'
  refine W_v (.tuple #[.agg #[.bool t20.1.Leaf, .slice A22 t20.1.Keys.length c23, .slice A25 t20.1.Kids.length c26, .slice A28 t20.1.Rows.length c29], .int .i64 t20.2]) (x_move rfl) rfl ?_
  refine W_v (.agg #[.bool t20.1.Leaf, .slice A22 t20.1.Keys.length c23, .slice A25 t20.1.Kids.length c26, .slice A28 t20.1.Rows.length c29]) (x_extract rfl rfl) rfl ?_
  refine W_v (.int .i64 t20.2) (x_extract rfl rfl) rfl ?_
  refine W_alloc S #[.bool false, .slice none 0 0, .slice none 0 0, .slice none 0 0] ty26 rfl rfl ?_
  intro b32 w33 E' S
  replace E := E.trans E'
  clear E'
  refine W_store S 0 rfl ty26 rfl rfl [.bool t20.1.Leaf, .slice A22 t20.1.Keys.length c23, .slice A25 t20.1.Kids.length c26, .slice A28 t20.1.Rows.length c29] rfl rfl rfl #[.bool t20.1.Leaf, .slice A22 t20.1.Keys.length c23, .slice A25 t20.1.Kids.length c26, .slice A28 t20.1.Rows.length c29] rfl rfl ?_
  intro w35 E' S
  replace E := E.trans E'
  clear E'
  refine W_v (.int .i64 t20.2) (x_assign rfl) rfl ?_
  refine Wl_nil ?_
  refine tn ?_
  refine Wp_seq ?_
  refine Wp_region_lit ?_
  refine W_v (.agg #[.bool t20.1.Leaf, .slice A22 t20.1.Keys.length c23, .slice A25 t20.1.Kids.length c26, .slice A28 t20.1.Rows.length c29]) (x_loadA (S.blk 0 rfl) ty26 rfl (sub_of_extract rfl) rfl rfl) rfl ?_
  obtain ⟨M36, hM37, hf38, S⟩ := S.row_freeze 1 rfl
  replace HM := Hp.le_trans HM hM37
  obtain ⟨M39, hM40, hf41, S⟩ := S.row_freeze 1 rfl
  replace HM := Hp.le_trans HM hM40
  replace hf38 := SlR.mono hf38 hM40
  obtain ⟨M42, hM43, hf44, S⟩ := S.row_freeze 1 rfl
  replace HM := Hp.le_trans HM hM43
  replace hf38 := SlR.mono hf38 hM43
  replace hf41 := SlR.mono hf41 hM43
  obtain ⟨t45, ht46, H⟩ := bindS H
  refine W_call fn15 (fork_Split.con k M42 A22 c23 A25 c26 A28 c29 t20.1 t45 hf38 hf41 hf44 ht46) (Γ1 := []) (Γ2 := [Blk b32 (.cells #[.bool t20.1.Leaf, .slice A22 t20.1.Keys.length c23, .slice A25 t20.1.Kids.length c26, .slice A28 t20.1.Rows.length c29] 26 (0, 0)), Row rStr 9 (.slice (some ⟨b1, 0, none⟩) ([([98] : Str), ([100] : Str), ([102] : Str)] : List Str).length 3) ([([98] : Str), ([100] : Str), ([102] : Str)] : List Str), Row (rInt .u64) 41 (.slice (some ⟨b4, 0, none⟩) ([(1 : Int), (2 : Int), (3 : Int)] : List Int).length 3) ([(1 : Int), (2 : Int), (3 : Int)] : List Int), Blk b7 (.cells #[.bool true, .slice (some ⟨b1, 0, none⟩) ([([98] : Str), ([100] : Str), ([102] : Str)] : List Str).length 3, .slice none 0 0, .slice (some ⟨b4, 0, none⟩) ([(1 : Int), (2 : Int), (3 : Int)] : List Int).length 3] 26 (0, 0))]) S rfl rfl ?_
  rintro _ w65 M66 Γ' hM67 E' S ⟨A47, c48, A50, c51, A53, c54, A56, c57, A59, c60, A62, c63, rfl, hs49, hs52, hs55, hs58, hs61, hs64, rfl⟩
  replace HM := Hp.le_trans HM hM67
  replace hf38 := SlR.mono hf38 hM67
  replace hf41 := SlR.mono hf41 hM67
  replace hf44 := SlR.mono hf44 hM67
  replace E := E.trans E'
  clear E'
  refine W_v (.tuple #[.agg #[.bool t45.1.Leaf, .slice A47 t45.1.Keys.length c48, .slice A50 t45.1.Kids.length c51, .slice A53 t45.1.Rows.length c54], .agg #[.bool t45.2.1.Leaf, .slice A56 t45.2.1.Keys.length c57, .slice A59 t45.2.1.Kids.length c60, .slice A62 t45.2.1.Rows.length c63], .string (bs t45.2.2.1), .int .i64 t45.2.2.2]) (x_move rfl) rfl ?_
  refine W_v (.agg #[.bool t45.1.Leaf, .slice A47 t45.1.Keys.length c48, .slice A50 t45.1.Kids.length c51, .slice A53 t45.1.Rows.length c54]) (x_extract rfl rfl) rfl ?_
  refine W_v (.agg #[.bool t45.2.1.Leaf, .slice A56 t45.2.1.Keys.length c57, .slice A59 t45.2.1.Kids.length c60, .slice A62 t45.2.1.Rows.length c63]) (x_extract rfl rfl) rfl ?_
  refine W_v (.string (bs t45.2.2.1)) (x_extract rfl rfl) rfl ?_
  refine W_v (.int .i64 t45.2.2.2) (x_extract rfl rfl) rfl ?_
  refine W_alloc S #[.bool false, .slice none 0 0, .slice none 0 0, .slice none 0 0] ty26 rfl rfl ?_
  intro b68 w69 E' S
  replace E := E.trans E'
  clear E'
  refine W_alloc S #[.bool false, .slice none 0 0, .slice none 0 0, .slice none 0 0] ty26 rfl rfl ?_
  intro b71 w72 E' S
  replace E := E.trans E'
  clear E'
  refine W_store S 1 rfl ty26 rfl rfl [.bool t45.1.Leaf, .slice A47 t45.1.Keys.length c48, .slice A50 t45.1.Kids.length c51, .slice A53 t45.1.Rows.length c54] rfl rfl rfl #[.bool t45.1.Leaf, .slice A47 t45.1.Keys.length c48, .slice A50 t45.1.Kids.length c51, .slice A53 t45.1.Rows.length c54] rfl rfl ?_
  intro w74 E' S
  replace E := E.trans E'
  clear E'
  refine W_store S 0 rfl ty26 rfl rfl [.bool t45.2.1.Leaf, .slice A56 t45.2.1.Keys.length c57, .slice A59 t45.2.1.Kids.length c60, .slice A62 t45.2.1.Rows.length c63] rfl rfl rfl #[.bool t45.2.1.Leaf, .slice A56 t45.2.1.Keys.length c57, .slice A59 t45.2.1.Kids.length c60, .slice A62 t45.2.1.Rows.length c63] rfl rfl ?_
  intro w75 E' S
  replace E := E.trans E'
  clear E'
  refine W_v (.string (bs t45.2.2.1)) (x_assign rfl) rfl ?_
  refine W_v (.int .i64 t45.2.2.2) (x_assign rfl) rfl ?_
  refine Wl_nil ?_
  refine tn ?_
  refine Wp_seq ?_
  refine Wp_seq ?_
  refine Wp_region_lit ?_
  refine W_v (.int .i64 t11.1) (x_move rfl) rfl ?_
  refine W_v (.bool (t11.1 != (1 : Int))) (x_ibin rfl rfl rfl rfl) rfl ?_
  refine W_v (.bool (t11.1 != (1 : Int))) (x_move rfl) rfl ?_
  refine Wl_cutN 2 (fun ρ w' => Agree ρ [(4, .int .i64 t14.1), (5, .bool t14.2), (6, .int .i64 t17.1), (7, .bool t17.2), (8, .pointer (some ⟨b32, 0, none⟩)), (9, .int .i64 t20.2), (10, .pointer (some ⟨b68, 0, none⟩)), (11, .pointer (some ⟨b71, 0, none⟩)), (12, .string (bs t45.2.2.1)), (13, .int .i64 t45.2.2.2), (59, .bool ((t11.1 != (1 : Int)) || t11.2))] ∧ w75 = w') ?_ ?_
  · rcases boolCases (t11.1 != (1 : Int)) with hb76 | hb76
    · skip
      refine W_yes (congrArg some hb76) ?_
      refine W_v (.bool t11.2) (x_move rfl) rfl ?_
      refine W_v (.bool t11.2) (x_pick (k := false) (congrArg Value.bool hb76) rfl) rfl ?_
      refine Wl_nil ?_
      exact ⟨⟨rfl, rfl, rfl, rfl, rfl, rfl, rfl, rfl, rfl, rfl, (by first | rfl | (rw [hb76]; rfl) | (simp only [hb76]; rfl)), trivial⟩, rfl⟩
    · skip
      refine W_no (skF hb76) rfl ?_
      refine W_v (.bool true) (x_pick (k := true) (congrArg Value.bool hb76) rfl) rfl ?_
      refine Wl_nil ?_
      exact ⟨⟨rfl, rfl, rfl, rfl, rfl, rfl, rfl, rfl, rfl, rfl, (by first | rfl | (rw [hb76]; rfl) | (simp only [hb76]; rfl)), trivial⟩, rfl⟩
  rintro ρ _ ⟨hρ, rfl⟩
  rw [agree_eta hρ]
  clear hρ
  refine W_v (.bool ((t11.1 != (1 : Int)) || t11.2)) (x_move rfl) rfl ?_
  refine Wl_cutN 3 (fun ρ w' => Agree ρ [(5, .bool t14.2), (6, .int .i64 t17.1), (7, .bool t17.2), (8, .pointer (some ⟨b32, 0, none⟩)), (9, .int .i64 t20.2), (10, .pointer (some ⟨b68, 0, none⟩)), (11, .pointer (some ⟨b71, 0, none⟩)), (12, .string (bs t45.2.2.1)), (13, .int .i64 t45.2.2.2), (63, .bool (((t11.1 != (1 : Int)) || t11.2) || (t14.1 != (1 : Int))))] ∧ w75 = w') ?_ ?_
  · rcases boolCases ((t11.1 != (1 : Int)) || t11.2) with hb77 | hb77
    · skip
      refine W_yes (congrArg some hb77) ?_
      refine W_v (.int .i64 t14.1) (x_move rfl) rfl ?_
      refine W_yes (congrArg some hb77) ?_
      refine W_v (.bool (t14.1 != (1 : Int))) (x_ibin rfl rfl rfl rfl) rfl ?_
      refine W_v (.bool (t14.1 != (1 : Int))) (x_pick (k := false) (congrArg Value.bool hb77) rfl) rfl ?_
      refine Wl_nil ?_
      exact ⟨⟨rfl, rfl, rfl, rfl, rfl, rfl, rfl, rfl, rfl, (by first | rfl | (rw [hb77]; rfl) | (simp only [hb77]; rfl)), trivial⟩, rfl⟩
    · skip
      refine W_no (skF hb77) rfl ?_
      refine W_no (skF hb77) rfl ?_
      refine W_v (.bool true) (x_pick (k := true) (congrArg Value.bool hb77) rfl) rfl ?_
      refine Wl_nil ?_
      exact ⟨⟨rfl, rfl, rfl, rfl, rfl, rfl, rfl, rfl, rfl, (by first | rfl | (rw [hb77]; rfl) | (simp only [hb77]; rfl)), trivial⟩, rfl⟩
  rintro ρ _ ⟨hρ, rfl⟩
  rw [agree_eta hρ]
  clear hρ
  refine W_v (.bool (((t11.1 != (1 : Int)) || t11.2) || (t14.1 != (1 : Int)))) (x_move rfl) rfl ?_
  refine Wl_cutN 3 (fun ρ w' => Agree ρ [(6, .int .i64 t17.1), (7, .bool t17.2), (8, .pointer (some ⟨b32, 0, none⟩)), (9, .int .i64 t20.2), (10, .pointer (some ⟨b68, 0, none⟩)), (11, .pointer (some ⟨b71, 0, none⟩)), (12, .string (bs t45.2.2.1)), (13, .int .i64 t45.2.2.2), (67, .bool ((((t11.1 != (1 : Int)) || t11.2) || (t14.1 != (1 : Int))) || (!t14.2)))] ∧ w75 = w') ?_ ?_
  · rcases boolCases (((t11.1 != (1 : Int)) || t11.2) || (t14.1 != (1 : Int))) with hb78 | hb78
    · skip
      refine W_yes (congrArg some hb78) ?_
      refine W_v (.bool t14.2) (x_move rfl) rfl ?_
      refine W_yes (congrArg some hb78) ?_
      refine W_v (.bool (!t14.2)) (x_not rfl) rfl ?_
      refine W_v (.bool (!t14.2)) (x_pick (k := false) (congrArg Value.bool hb78) rfl) rfl ?_
      refine Wl_nil ?_
      exact ⟨⟨rfl, rfl, rfl, rfl, rfl, rfl, rfl, rfl, (by first | rfl | (rw [hb78]; rfl) | (simp only [hb78]; rfl)), trivial⟩, rfl⟩
    · skip
      refine W_no (skF hb78) rfl ?_
      refine W_no (skF hb78) rfl ?_
      refine W_v (.bool true) (x_pick (k := true) (congrArg Value.bool hb78) rfl) rfl ?_
      refine Wl_nil ?_
      exact ⟨⟨rfl, rfl, rfl, rfl, rfl, rfl, rfl, rfl, (by first | rfl | (rw [hb78]; rfl) | (simp only [hb78]; rfl)), trivial⟩, rfl⟩
  rintro ρ _ ⟨hρ, rfl⟩
  rw [agree_eta hρ]
  clear hρ
  refine W_v (.bool ((((t11.1 != (1 : Int)) || t11.2) || (t14.1 != (1 : Int))) || (!t14.2))) (x_move rfl) rfl ?_
  refine Wl_cutN 3 (fun ρ w' => Agree ρ [(7, .bool t17.2), (8, .pointer (some ⟨b32, 0, none⟩)), (9, .int .i64 t20.2), (10, .pointer (some ⟨b68, 0, none⟩)), (11, .pointer (some ⟨b71, 0, none⟩)), (12, .string (bs t45.2.2.1)), (13, .int .i64 t45.2.2.2), (71, .bool (((((t11.1 != (1 : Int)) || t11.2) || (t14.1 != (1 : Int))) || (!t14.2)) || (t17.1 != (3 : Int))))] ∧ w75 = w') ?_ ?_
  · rcases boolCases ((((t11.1 != (1 : Int)) || t11.2) || (t14.1 != (1 : Int))) || (!t14.2)) with hb79 | hb79
    · skip
      refine W_yes (congrArg some hb79) ?_
      refine W_v (.int .i64 t17.1) (x_move rfl) rfl ?_
      refine W_yes (congrArg some hb79) ?_
      refine W_v (.bool (t17.1 != (3 : Int))) (x_ibin rfl rfl rfl rfl) rfl ?_
      refine W_v (.bool (t17.1 != (3 : Int))) (x_pick (k := false) (congrArg Value.bool hb79) rfl) rfl ?_
      refine Wl_nil ?_
      exact ⟨⟨rfl, rfl, rfl, rfl, rfl, rfl, rfl, (by first | rfl | (rw [hb79]; rfl) | (simp only [hb79]; rfl)), trivial⟩, rfl⟩
    · skip
      refine W_no (skF hb79) rfl ?_
      refine W_no (skF hb79) rfl ?_
      refine W_v (.bool true) (x_pick (k := true) (congrArg Value.bool hb79) rfl) rfl ?_
      refine Wl_nil ?_
      exact ⟨⟨rfl, rfl, rfl, rfl, rfl, rfl, rfl, (by first | rfl | (rw [hb79]; rfl) | (simp only [hb79]; rfl)), trivial⟩, rfl⟩
  rintro ρ _ ⟨hρ, rfl⟩
  rw [agree_eta hρ]
  clear hρ
  refine W_v (.bool (((((t11.1 != (1 : Int)) || t11.2) || (t14.1 != (1 : Int))) || (!t14.2)) || (t17.1 != (3 : Int)))) (x_move rfl) rfl ?_
  refine Wl_cutN 2 (fun ρ w' => Agree ρ [(8, .pointer (some ⟨b32, 0, none⟩)), (9, .int .i64 t20.2), (10, .pointer (some ⟨b68, 0, none⟩)), (11, .pointer (some ⟨b71, 0, none⟩)), (12, .string (bs t45.2.2.1)), (13, .int .i64 t45.2.2.2), (74, .bool ((((((t11.1 != (1 : Int)) || t11.2) || (t14.1 != (1 : Int))) || (!t14.2)) || (t17.1 != (3 : Int))) || t17.2))] ∧ w75 = w') ?_ ?_
  · rcases boolCases (((((t11.1 != (1 : Int)) || t11.2) || (t14.1 != (1 : Int))) || (!t14.2)) || (t17.1 != (3 : Int))) with hb80 | hb80
    · skip
      refine W_yes (congrArg some hb80) ?_
      refine W_v (.bool t17.2) (x_move rfl) rfl ?_
      refine W_v (.bool t17.2) (x_pick (k := false) (congrArg Value.bool hb80) rfl) rfl ?_
      refine Wl_nil ?_
      exact ⟨⟨rfl, rfl, rfl, rfl, rfl, rfl, (by first | rfl | (rw [hb80]; rfl) | (simp only [hb80]; rfl)), trivial⟩, rfl⟩
    · skip
      refine W_no (skF hb80) rfl ?_
      refine W_v (.bool true) (x_pick (k := true) (congrArg Value.bool hb80) rfl) rfl ?_
      refine Wl_nil ?_
      exact ⟨⟨rfl, rfl, rfl, rfl, rfl, rfl, (by first | rfl | (rw [hb80]; rfl) | (simp only [hb80]; rfl)), trivial⟩, rfl⟩
  rintro ρ _ ⟨hρ, rfl⟩
  rw [agree_eta hρ]
  clear hρ
  refine W_v (.bool ((((((t11.1 != (1 : Int)) || t11.2) || (t14.1 != (1 : Int))) || (!t14.2)) || (t17.1 != (3 : Int))) || t17.2)) (x_move rfl) rfl ?_
  refine Wl_cutN 3 (fun ρ w' => Agree ρ [(8, .pointer (some ⟨b32, 0, none⟩)), (10, .pointer (some ⟨b68, 0, none⟩)), (11, .pointer (some ⟨b71, 0, none⟩)), (12, .string (bs t45.2.2.1)), (13, .int .i64 t45.2.2.2), (78, .bool (((((((t11.1 != (1 : Int)) || t11.2) || (t14.1 != (1 : Int))) || (!t14.2)) || (t17.1 != (3 : Int))) || t17.2) || (t20.2 != (0 : Int))))] ∧ w75 = w') ?_ ?_
  · rcases boolCases ((((((t11.1 != (1 : Int)) || t11.2) || (t14.1 != (1 : Int))) || (!t14.2)) || (t17.1 != (3 : Int))) || t17.2) with hb81 | hb81
    · skip
      refine W_yes (congrArg some hb81) ?_
      refine W_v (.int .i64 t20.2) (x_move rfl) rfl ?_
      refine W_yes (congrArg some hb81) ?_
      refine W_v (.bool (t20.2 != (0 : Int))) (x_ibin rfl rfl rfl rfl) rfl ?_
      refine W_v (.bool (t20.2 != (0 : Int))) (x_pick (k := false) (congrArg Value.bool hb81) rfl) rfl ?_
      refine Wl_nil ?_
      exact ⟨⟨rfl, rfl, rfl, rfl, rfl, (by first | rfl | (rw [hb81]; rfl) | (simp only [hb81]; rfl)), trivial⟩, rfl⟩
    · skip
      refine W_no (skF hb81) rfl ?_
      refine W_no (skF hb81) rfl ?_
      refine W_v (.bool true) (x_pick (k := true) (congrArg Value.bool hb81) rfl) rfl ?_
      refine Wl_nil ?_
      exact ⟨⟨rfl, rfl, rfl, rfl, rfl, (by first | rfl | (rw [hb81]; rfl) | (simp only [hb81]; rfl)), trivial⟩, rfl⟩
  rintro ρ _ ⟨hρ, rfl⟩
  rw [agree_eta hρ]
  clear hρ
  refine W_v (.bool (((((((t11.1 != (1 : Int)) || t11.2) || (t14.1 != (1 : Int))) || (!t14.2)) || (t17.1 != (3 : Int))) || t17.2) || (t20.2 != (0 : Int)))) (x_move rfl) rfl ?_
  obtain ⟨o102, o102h, o102H⟩ := bindS H
  clear H
  refine Wl_cutN 6 (fun ρ w' => ∃ (x101 : Bool), (x101) = o102 ∧ Agree ρ [(10, .pointer (some ⟨b68, 0, none⟩)), (11, .pointer (some ⟨b71, 0, none⟩)), (12, .string (bs t45.2.2.1)), (13, .int .i64 t45.2.2.2), (85, .bool x101)] ∧ Ext w w' ∧ St w' M66 F [Blk b71 (.cells #[.bool t45.2.1.Leaf, .slice A56 t45.2.1.Keys.length c57, .slice A59 t45.2.1.Kids.length c60, .slice A62 t45.2.1.Rows.length c63] 26 (0, 0)), Blk b68 (.cells #[.bool t45.1.Leaf, .slice A47 t45.1.Keys.length c48, .slice A50 t45.1.Kids.length c51, .slice A53 t45.1.Rows.length c54] 26 (0, 0))]) ?_ ?_
  · have H := o102h
    rcases iteS H with ⟨hb100, H⟩ | ⟨hb100, H⟩
    · skip
      refine W_no (skF hb100) rfl ?_
      refine W_no (skF hb100) rfl ?_
      refine W_no (skF hb100) rfl ?_
      refine W_no (skF hb100) rfl ?_
      refine W_no (skF hb100) rfl ?_
      refine W_v (.bool true) (x_pick (k := true) (congrArg Value.bool hb100) rfl) rfl ?_
      refine Wl_nil ?_
      exact ⟨true, Option.some.inj H, ⟨rfl, rfl, rfl, rfl, rfl, trivial⟩, E, S.pick [0, 1] (by decide)⟩
    · skip
      refine W_yes (congrArg some hb100) ?_
      refine W_v (.agg #[.bool t20.1.Leaf, .slice A22 t20.1.Keys.length c23, .slice A25 t20.1.Kids.length c26, .slice A28 t20.1.Rows.length c29]) (x_loadA (S.blk 2 rfl) ty26 rfl (sub_of_extract rfl) rfl rfl) rfl ?_
      refine W_yes (congrArg some hb100) ?_
      refine W_bslice S #[.string (bs ([98] : Str)), .string (bs ([99] : Str)), .string (bs ([100] : Str)), .string (bs ([102] : Str))] Try.underlying22 ty9 rfl rfl #[.string (bs ([] : Str)), .string (bs ([] : Str)), .string (bs ([] : Str)), .string (bs ([] : Str))] (by kernel_rfl) (by kernel_rfl) rfl ?_
      intro b103 w104 E' S
      replace E := E.trans E'
      clear E'
      replace S := S.blk_row (r := rStr) (l := ([([98] : Str), ([99] : Str), ([100] : Str), ([102] : Str)] : List Str)) 0 rfl 4 (Nat.le_refl 4) rfl (Cells.cons (vs := [.string (bs ([98] : Str))]) (rfl) (Cells.cons (vs := [.string (bs ([99] : Str))]) (rfl) (Cells.cons (vs := [.string (bs ([100] : Str))]) (rfl) (Cells.cons (vs := [.string (bs ([102] : Str))]) (rfl) Cells.nil))))
      refine W_yes (congrArg some hb100) ?_
      refine W_bslice S #[.int .u64 1, .int .u64 9, .int .u64 2, .int .u64 3] Try.underlying24 ty41 rfl rfl #[.int .u64 0, .int .u64 0, .int .u64 0, .int .u64 0] (by kernel_rfl) (by kernel_rfl) rfl ?_
      intro b106 w107 E' S
      replace E := E.trans E'
      clear E'
      replace S := S.blk_row (r := (rInt .u64)) (l := ([(1 : Int), (9 : Int), (2 : Int), (3 : Int)] : List Int)) 0 rfl 4 (Nat.le_refl 4) rfl (Cells.cons (vs := [.int .u64 1]) (rfl) (Cells.cons (vs := [.int .u64 9]) (rfl) (Cells.cons (vs := [.int .u64 2]) (rfl) (Cells.cons (vs := [.int .u64 3]) (rfl) Cells.nil))))
      refine W_yes (congrArg some hb100) ?_
      replace S : St w107 M66 F [Row rStr 9 (.slice (some ⟨b103, 0, none⟩) ([([98] : Str), ([99] : Str), ([100] : Str), ([102] : Str)] : List Str).length 4) ([([98] : Str), ([99] : Str), ([100] : Str), ([102] : Str)] : List Str), Row (rInt .u64) 41 (.slice (some ⟨b106, 0, none⟩) ([(1 : Int), (9 : Int), (2 : Int), (3 : Int)] : List Int).length 4) ([(1 : Int), (9 : Int), (2 : Int), (3 : Int)] : List Int), Blk b71 (.cells #[.bool t45.2.1.Leaf, .slice A56 t45.2.1.Keys.length c57, .slice A59 t45.2.1.Kids.length c60, .slice A62 t45.2.1.Rows.length c63] 26 (0, 0)), Blk b68 (.cells #[.bool t45.1.Leaf, .slice A47 t45.1.Keys.length c48, .slice A50 t45.1.Kids.length c51, .slice A53 t45.1.Rows.length c54] 26 (0, 0)), Blk b32 (.cells #[.bool t20.1.Leaf, .slice A22 t20.1.Keys.length c23, .slice A25 t20.1.Kids.length c26, .slice A28 t20.1.Rows.length c29] 26 (0, 0)), Row rStr 9 (.slice (some ⟨b1, 0, none⟩) ([([98] : Str), ([100] : Str), ([102] : Str)] : List Str).length 3) ([([98] : Str), ([100] : Str), ([102] : Str)] : List Str), Row (rInt .u64) 41 (.slice (some ⟨b4, 0, none⟩) ([(1 : Int), (2 : Int), (3 : Int)] : List Int).length 3) ([(1 : Int), (2 : Int), (3 : Int)] : List Int), Blk b7 (.cells #[.bool true, .slice (some ⟨b1, 0, none⟩) ([([98] : Str), ([100] : Str), ([102] : Str)] : List Str).length 3, .slice none 0 0, .slice (some ⟨b4, 0, none⟩) ([(1 : Int), (2 : Int), (3 : Int)] : List Int).length 3] 26 (0, 0))] := S.pick [1, 0, 2, 3, 4, 5, 6, 7] (by decide)
      obtain ⟨t109, ht110, H⟩ := bindS H
      refine W_callN 2 fn32 (fun h9 hs9 hd9 => ferrymanlaw13_is.con k _ A22 c23 A25 c26 A28 c29 t20.1 (some ⟨b103, 0, none⟩) 4 ([([98] : Str), ([99] : Str), ([100] : Str), ([102] : Str)] : List Str) none 0 ([] : (List Int)) (some ⟨b106, 0, none⟩) 4 ([(1 : Int), (9 : Int), (2 : Int), (3 : Int)] : List Int) t109 (SlR.mono hf38 (Hp.le_union_left _ _)) (SlR.mono hf41 (Hp.le_union_left _ _)) (SlR.mono hf44 (Hp.le_union_left _ _)) (Sats.row hs9 hd9 0 rfl) (SlW.nil _ _) (Sats.row hs9 hd9 1 rfl) ht110) S rfl rfl (by rintro _ _ _ ⟨_, rfl⟩; exact flat_nil) ?_
      rintro _ w111 _ Γ' E' S ⟨rfl, rfl⟩
      replace E := E.trans E'
      clear E'
      refine W_yes (congrArg some hb100) ?_
      refine W_v (.bool (!t109)) (x_not rfl) rfl ?_
      refine W_v (.bool (!t109)) (x_pick (k := false) (congrArg Value.bool hb100) rfl) rfl ?_
      refine Wl_nil ?_
      exact ⟨(!t109), Option.some.inj H, ⟨rfl, rfl, rfl, rfl, rfl, trivial⟩, E, S.pick [2, 3] (by decide)⟩
  clear o102h
  rintro ρ w112 ⟨x101, rfl, hρ, E, S⟩
  rw [agree_eta hρ]
  clear hρ
  have H := o102H
  clear o102H
  refine W_v (.bool x101) (x_move rfl) rfl ?_
  refine Wl_cutN 3 (fun ρ w' => Agree ρ [(10, .pointer (some ⟨b68, 0, none⟩)), (11, .pointer (some ⟨b71, 0, none⟩)), (12, .string (bs t45.2.2.1)), (89, .bool (x101 || (t45.2.2.2 != (0 : Int))))] ∧ w112 = w') ?_ ?_
  · rcases boolCases x101 with hb113 | hb113
    · skip
      refine W_yes (congrArg some hb113) ?_
      refine W_v (.int .i64 t45.2.2.2) (x_move rfl) rfl ?_
      refine W_yes (congrArg some hb113) ?_
      refine W_v (.bool (t45.2.2.2 != (0 : Int))) (x_ibin rfl rfl rfl rfl) rfl ?_
      refine W_v (.bool (t45.2.2.2 != (0 : Int))) (x_pick (k := false) (congrArg Value.bool hb113) rfl) rfl ?_
      refine Wl_nil ?_
      exact ⟨⟨rfl, rfl, rfl, (by first | rfl | (rw [hb113]; rfl) | (simp only [hb113]; rfl)), trivial⟩, rfl⟩
    · skip
      refine W_no (skF hb113) rfl ?_
      refine W_no (skF hb113) rfl ?_
      refine W_v (.bool true) (x_pick (k := true) (congrArg Value.bool hb113) rfl) rfl ?_
      refine Wl_nil ?_
      exact ⟨⟨rfl, rfl, rfl, (by first | rfl | (rw [hb113]; rfl) | (simp only [hb113]; rfl)), trivial⟩, rfl⟩
  rintro ρ _ ⟨hρ, rfl⟩
  rw [agree_eta hρ]
  clear hρ
  refine W_v (.bool (x101 || (t45.2.2.2 != (0 : Int)))) (x_move rfl) rfl ?_
  refine Wl_cutN 3 (fun ρ w' => Agree ρ [(10, .pointer (some ⟨b68, 0, none⟩)), (11, .pointer (some ⟨b71, 0, none⟩)), (93, .bool ((x101 || (t45.2.2.2 != (0 : Int))) || (sbin .neq t45.2.2.1 ([100] : Str))))] ∧ w112 = w') ?_ ?_
  · rcases boolCases (x101 || (t45.2.2.2 != (0 : Int))) with hb114 | hb114
    · skip
      refine W_yes (congrArg some hb114) ?_
      refine W_v (.string (bs t45.2.2.1)) (x_move rfl) rfl ?_
      refine W_yes (congrArg some hb114) ?_
      refine W_v (.bool (sbin .neq t45.2.2.1 ([100] : Str))) (x_sbin rfl rfl rfl) rfl ?_
      refine W_v (.bool (sbin .neq t45.2.2.1 ([100] : Str))) (x_pick (k := false) (congrArg Value.bool hb114) rfl) rfl ?_
      refine Wl_nil ?_
      exact ⟨⟨rfl, rfl, (by first | rfl | (rw [hb114]; rfl) | (simp only [hb114]; rfl)), trivial⟩, rfl⟩
    · skip
      refine W_no (skF hb114) rfl ?_
      refine W_no (skF hb114) rfl ?_
      refine W_v (.bool true) (x_pick (k := true) (congrArg Value.bool hb114) rfl) rfl ?_
      refine Wl_nil ?_
      exact ⟨⟨rfl, rfl, (by first | rfl | (rw [hb114]; rfl) | (simp only [hb114]; rfl)), trivial⟩, rfl⟩
  rintro ρ _ ⟨hρ, rfl⟩
  rw [agree_eta hρ]
  clear hρ
  refine W_v (.bool ((x101 || (t45.2.2.2 != (0 : Int))) || (sbin .neq t45.2.2.1 ([100] : Str)))) (x_move rfl) rfl ?_
  obtain ⟨o135, o135h, o135H⟩ := bindS H
  clear H
  refine Wl_cutN 6 (fun ρ w' => ∃ (x134 : Bool), (x134) = o135 ∧ Agree ρ [(10, .pointer (some ⟨b68, 0, none⟩)), (11, .pointer (some ⟨b71, 0, none⟩)), (100, .bool x134)] ∧ Ext w w' ∧ St w' M66 F [Blk b71 (.cells #[.bool t45.2.1.Leaf, .slice A56 t45.2.1.Keys.length c57, .slice A59 t45.2.1.Kids.length c60, .slice A62 t45.2.1.Rows.length c63] 26 (0, 0)), Blk b68 (.cells #[.bool t45.1.Leaf, .slice A47 t45.1.Keys.length c48, .slice A50 t45.1.Kids.length c51, .slice A53 t45.1.Rows.length c54] 26 (0, 0))]) ?_ ?_
  · have H := o135h
    rcases iteS H with ⟨hb133, H⟩ | ⟨hb133, H⟩
    · skip
      refine W_no (skF hb133) rfl ?_
      refine W_no (skF hb133) rfl ?_
      refine W_no (skF hb133) rfl ?_
      refine W_no (skF hb133) rfl ?_
      refine W_no (skF hb133) rfl ?_
      refine W_v (.bool true) (x_pick (k := true) (congrArg Value.bool hb133) rfl) rfl ?_
      refine Wl_nil ?_
      exact ⟨true, Option.some.inj H, ⟨rfl, rfl, rfl, trivial⟩, E, S.pick [0, 1] (by decide)⟩
    · skip
      refine W_yes (congrArg some hb133) ?_
      refine W_v (.agg #[.bool t45.1.Leaf, .slice A47 t45.1.Keys.length c48, .slice A50 t45.1.Kids.length c51, .slice A53 t45.1.Rows.length c54]) (x_loadA (S.blk 1 rfl) ty26 rfl (sub_of_extract rfl) rfl rfl) rfl ?_
      refine W_yes (congrArg some hb133) ?_
      refine W_bslice S #[.string (bs ([98] : Str)), .string (bs ([99] : Str))] Try.underlying22 ty9 rfl rfl #[.string (bs ([] : Str)), .string (bs ([] : Str))] (by kernel_rfl) (by kernel_rfl) rfl ?_
      intro b136 w137 E' S
      replace E := E.trans E'
      clear E'
      replace S := S.blk_row (r := rStr) (l := ([([98] : Str), ([99] : Str)] : List Str)) 0 rfl 2 (Nat.le_refl 2) rfl (Cells.cons (vs := [.string (bs ([98] : Str))]) (rfl) (Cells.cons (vs := [.string (bs ([99] : Str))]) (rfl) Cells.nil))
      refine W_yes (congrArg some hb133) ?_
      refine W_bslice S #[.int .u64 1, .int .u64 9] Try.underlying24 ty41 rfl rfl #[.int .u64 0, .int .u64 0] (by kernel_rfl) (by kernel_rfl) rfl ?_
      intro b139 w140 E' S
      replace E := E.trans E'
      clear E'
      replace S := S.blk_row (r := (rInt .u64)) (l := ([(1 : Int), (9 : Int)] : List Int)) 0 rfl 2 (Nat.le_refl 2) rfl (Cells.cons (vs := [.int .u64 1]) (rfl) (Cells.cons (vs := [.int .u64 9]) (rfl) Cells.nil))
      refine W_yes (congrArg some hb133) ?_
      replace S : St w140 M66 F [Row rStr 9 (.slice (some ⟨b136, 0, none⟩) ([([98] : Str), ([99] : Str)] : List Str).length 2) ([([98] : Str), ([99] : Str)] : List Str), Row (rInt .u64) 41 (.slice (some ⟨b139, 0, none⟩) ([(1 : Int), (9 : Int)] : List Int).length 2) ([(1 : Int), (9 : Int)] : List Int), Blk b71 (.cells #[.bool t45.2.1.Leaf, .slice A56 t45.2.1.Keys.length c57, .slice A59 t45.2.1.Kids.length c60, .slice A62 t45.2.1.Rows.length c63] 26 (0, 0)), Blk b68 (.cells #[.bool t45.1.Leaf, .slice A47 t45.1.Keys.length c48, .slice A50 t45.1.Kids.length c51, .slice A53 t45.1.Rows.length c54] 26 (0, 0))] := S.pick [1, 0, 2, 3] (by decide)
      obtain ⟨t142, ht143, H⟩ := bindS H
      refine W_callN 2 fn32 (fun h9 hs9 hd9 => ferrymanlaw13_is.con k _ A47 c48 A50 c51 A53 c54 t45.1 (some ⟨b136, 0, none⟩) 2 ([([98] : Str), ([99] : Str)] : List Str) none 0 ([] : (List Int)) (some ⟨b139, 0, none⟩) 2 ([(1 : Int), (9 : Int)] : List Int) t142 (SlR.mono hs49 (Hp.le_union_left _ _)) (SlR.mono hs52 (Hp.le_union_left _ _)) (SlR.mono hs55 (Hp.le_union_left _ _)) (Sats.row hs9 hd9 0 rfl) (SlW.nil _ _) (Sats.row hs9 hd9 1 rfl) ht143) S rfl rfl (by rintro _ _ _ ⟨_, rfl⟩; exact flat_nil) ?_
      rintro _ w144 _ Γ' E' S ⟨rfl, rfl⟩
      replace E := E.trans E'
      clear E'
      refine W_yes (congrArg some hb133) ?_
      refine W_v (.bool (!t142)) (x_not rfl) rfl ?_
      refine W_v (.bool (!t142)) (x_pick (k := false) (congrArg Value.bool hb133) rfl) rfl ?_
      refine Wl_nil ?_
      exact ⟨(!t142), Option.some.inj H, ⟨rfl, rfl, rfl, trivial⟩, E, S.pick [2, 3] (by decide)⟩
  clear o135h
  rintro ρ w145 ⟨x134, rfl, hρ, E, S⟩
  rw [agree_eta hρ]
  clear hρ
  have H := o135H
  clear o135H
  refine W_v (.bool x134) (x_move rfl) rfl ?_
  obtain ⟨o166, o166h, o166H⟩ := bindS H
  clear H
  refine Wl_cutN 6 (fun ρ w' => ∃ (x165 : Bool), (x165) = o166 ∧ Agree ρ [(10, .pointer (some ⟨b68, 0, none⟩)), (11, .pointer (some ⟨b71, 0, none⟩)), (107, .bool x165)] ∧ Ext w w' ∧ St w' M66 F [Blk b71 (.cells #[.bool t45.2.1.Leaf, .slice A56 t45.2.1.Keys.length c57, .slice A59 t45.2.1.Kids.length c60, .slice A62 t45.2.1.Rows.length c63] 26 (0, 0)), Blk b68 (.cells #[.bool t45.1.Leaf, .slice A47 t45.1.Keys.length c48, .slice A50 t45.1.Kids.length c51, .slice A53 t45.1.Rows.length c54] 26 (0, 0))]) ?_ ?_
  · have H := o166h
    rcases iteS H with ⟨hb164, H⟩ | ⟨hb164, H⟩
    · skip
      refine W_no (skF hb164) rfl ?_
      refine W_no (skF hb164) rfl ?_
      refine W_no (skF hb164) rfl ?_
      refine W_no (skF hb164) rfl ?_
      refine W_no (skF hb164) rfl ?_
      refine W_v (.bool true) (x_pick (k := true) (congrArg Value.bool hb164) rfl) rfl ?_
      refine Wl_nil ?_
      exact ⟨true, Option.some.inj H, ⟨rfl, rfl, rfl, trivial⟩, E, S.pick [0, 1] (by decide)⟩
    · skip
      refine W_yes (congrArg some hb164) ?_
      refine W_v (.agg #[.bool t45.2.1.Leaf, .slice A56 t45.2.1.Keys.length c57, .slice A59 t45.2.1.Kids.length c60, .slice A62 t45.2.1.Rows.length c63]) (x_loadA (S.blk 0 rfl) ty26 rfl (sub_of_extract rfl) rfl rfl) rfl ?_
      refine W_yes (congrArg some hb164) ?_
      refine W_bslice S #[.string (bs ([100] : Str)), .string (bs ([102] : Str))] Try.underlying22 ty9 rfl rfl #[.string (bs ([] : Str)), .string (bs ([] : Str))] (by kernel_rfl) (by kernel_rfl) rfl ?_
      intro b167 w168 E' S
      replace E := E.trans E'
      clear E'
      replace S := S.blk_row (r := rStr) (l := ([([100] : Str), ([102] : Str)] : List Str)) 0 rfl 2 (Nat.le_refl 2) rfl (Cells.cons (vs := [.string (bs ([100] : Str))]) (rfl) (Cells.cons (vs := [.string (bs ([102] : Str))]) (rfl) Cells.nil))
      refine W_yes (congrArg some hb164) ?_
      refine W_bslice S #[.int .u64 2, .int .u64 3] Try.underlying24 ty41 rfl rfl #[.int .u64 0, .int .u64 0] (by kernel_rfl) (by kernel_rfl) rfl ?_
      intro b170 w171 E' S
      replace E := E.trans E'
      clear E'
      replace S := S.blk_row (r := (rInt .u64)) (l := ([(2 : Int), (3 : Int)] : List Int)) 0 rfl 2 (Nat.le_refl 2) rfl (Cells.cons (vs := [.int .u64 2]) (rfl) (Cells.cons (vs := [.int .u64 3]) (rfl) Cells.nil))
      refine W_yes (congrArg some hb164) ?_
      replace S : St w171 M66 F [Row rStr 9 (.slice (some ⟨b167, 0, none⟩) ([([100] : Str), ([102] : Str)] : List Str).length 2) ([([100] : Str), ([102] : Str)] : List Str), Row (rInt .u64) 41 (.slice (some ⟨b170, 0, none⟩) ([(2 : Int), (3 : Int)] : List Int).length 2) ([(2 : Int), (3 : Int)] : List Int), Blk b71 (.cells #[.bool t45.2.1.Leaf, .slice A56 t45.2.1.Keys.length c57, .slice A59 t45.2.1.Kids.length c60, .slice A62 t45.2.1.Rows.length c63] 26 (0, 0)), Blk b68 (.cells #[.bool t45.1.Leaf, .slice A47 t45.1.Keys.length c48, .slice A50 t45.1.Kids.length c51, .slice A53 t45.1.Rows.length c54] 26 (0, 0))] := S.pick [1, 0, 2, 3] (by decide)
      obtain ⟨t173, ht174, H⟩ := bindS H
      refine W_callN 2 fn32 (fun h9 hs9 hd9 => ferrymanlaw13_is.con k _ A56 c57 A59 c60 A62 c63 t45.2.1 (some ⟨b167, 0, none⟩) 2 ([([100] : Str), ([102] : Str)] : List Str) none 0 ([] : (List Int)) (some ⟨b170, 0, none⟩) 2 ([(2 : Int), (3 : Int)] : List Int) t173 (SlR.mono hs58 (Hp.le_union_left _ _)) (SlR.mono hs61 (Hp.le_union_left _ _)) (SlR.mono hs64 (Hp.le_union_left _ _)) (Sats.row hs9 hd9 0 rfl) (SlW.nil _ _) (Sats.row hs9 hd9 1 rfl) ht174) S rfl rfl (by rintro _ _ _ ⟨_, rfl⟩; exact flat_nil) ?_
      rintro _ w175 _ Γ' E' S ⟨rfl, rfl⟩
      replace E := E.trans E'
      clear E'
      refine W_yes (congrArg some hb164) ?_
      refine W_v (.bool (!t173)) (x_not rfl) rfl ?_
      refine W_v (.bool (!t173)) (x_pick (k := false) (congrArg Value.bool hb164) rfl) rfl ?_
      refine Wl_nil ?_
      exact ⟨(!t173), Option.some.inj H, ⟨rfl, rfl, rfl, trivial⟩, E, S.pick [2, 3] (by decide)⟩
  clear o166h
  rintro ρ w176 ⟨x165, rfl, hρ, E, S⟩
  rw [agree_eta hρ]
  clear hρ
  have H := o166H
  clear o166H
  refine Wl_nil ?_
  refine tn ?_
  rcases iteS H with ⟨hb177, H⟩ | ⟨hb177, H⟩
  · refine Wp_cond_true (congrArg Value.bool hb177) ?_
    refine Wp_seq ?_
    refine Wp_region_lit ?_
    refine W_v (.bool false) (x_assign rfl) rfl ?_
    refine Wl_nil ?_
    refine tn ?_
    refine Wp_ret ?_
    refine tr (?_)
    obtain rfl := Option.some.inj H
    exact ⟨_, _, _, fun w1 e1 => run_resR (vs := [.bool false]) (FA.cons (rfl) (FA.nil)), HM, E, S.pick [] (by decide), ⟨rfl, rfl⟩⟩
  refine Wp_cond_false (congrArg Value.bool hb177) ?_
  refine Wp_skip ?_
  refine tn ?_
  refine Wp_seq ?_
  refine Wp_region_lit ?_
  refine W_bslice S #[.string (bs ([98] : Str)), .string (bs ([100] : Str)), .string (bs ([102] : Str))] Try.underlying22 ty9 rfl rfl #[.string (bs ([] : Str)), .string (bs ([] : Str)), .string (bs ([] : Str))] (by kernel_rfl) (by kernel_rfl) rfl ?_
  intro b178 w179 E' S
  replace E := E.trans E'
  clear E'
  replace S := S.blk_row (r := rStr) (l := ([([98] : Str), ([100] : Str), ([102] : Str)] : List Str)) 0 rfl 3 (Nat.le_refl 3) rfl (Cells.cons (vs := [.string (bs ([98] : Str))]) (rfl) (Cells.cons (vs := [.string (bs ([100] : Str))]) (rfl) (Cells.cons (vs := [.string (bs ([102] : Str))]) (rfl) Cells.nil)))
  refine W_bslice S #[.int .i64 1, .int .i64 2, .int .i64 3, .int .i64 4] Try.underlying23 ty3 rfl rfl #[.int .i64 0, .int .i64 0, .int .i64 0, .int .i64 0] (by kernel_rfl) (by kernel_rfl) rfl ?_
  intro b181 w182 E' S
  replace E := E.trans E'
  clear E'
  replace S := S.blk_row (r := (rInt .i64)) (l := ([(1 : Int), (2 : Int), (3 : Int), (4 : Int)] : List Int)) 0 rfl 4 (Nat.le_refl 4) rfl (Cells.cons (vs := [.int .i64 1]) (rfl) (Cells.cons (vs := [.int .i64 2]) (rfl) (Cells.cons (vs := [.int .i64 3]) (rfl) (Cells.cons (vs := [.int .i64 4]) (rfl) Cells.nil))))
  refine W_v (.agg #[.bool false, .slice (some ⟨b178, 0, none⟩) ([([98] : Str), ([100] : Str), ([102] : Str)] : List Str).length 3, .slice (some ⟨b181, 0, none⟩) ([(1 : Int), (2 : Int), (3 : Int), (4 : Int)] : List Int).length 4, .slice none 0 0]) (x_build2 (pl := [(0, 1), (1, 1), (2, 1), (3, 1)]) #[.bool false, .slice (some ⟨b178, 0, none⟩) ([([98] : Str), ([100] : Str), ([102] : Str)] : List Str).length 3, .slice (some ⟨b181, 0, none⟩) ([(1 : Int), (2 : Int), (3 : Int), (4 : Int)] : List Int).length 4, .slice none 0 0] Try.underlying26 ty26 (by kernel_rfl) rfl (by kernel_rfl)) rfl ?_
  refine W_alloc S #[.bool false, .slice none 0 0, .slice none 0 0, .slice none 0 0] ty26 rfl rfl ?_
  intro b184 w185 E' S
  replace E := E.trans E'
  clear E'
  refine W_store S 0 rfl ty26 rfl rfl [.bool false, .slice (some ⟨b178, 0, none⟩) ([([98] : Str), ([100] : Str), ([102] : Str)] : List Str).length 3, .slice (some ⟨b181, 0, none⟩) ([(1 : Int), (2 : Int), (3 : Int), (4 : Int)] : List Int).length 4, .slice none 0 0] rfl rfl rfl #[.bool false, .slice (some ⟨b178, 0, none⟩) ([([98] : Str), ([100] : Str), ([102] : Str)] : List Str).length 3, .slice (some ⟨b181, 0, none⟩) ([(1 : Int), (2 : Int), (3 : Int), (4 : Int)] : List Int).length 4, .slice none 0 0] rfl rfl ?_
  intro w187 E' S
  replace E := E.trans E'
  clear E'
  refine Wl_nil ?_
  refine tn ?_
  refine Wp_seq ?_
  refine Wp_region_lit ?_
  refine W_v (.agg #[.bool false, .slice (some ⟨b178, 0, none⟩) ([([98] : Str), ([100] : Str), ([102] : Str)] : List Str).length 3, .slice (some ⟨b181, 0, none⟩) ([(1 : Int), (2 : Int), (3 : Int), (4 : Int)] : List Int).length 4, .slice none 0 0]) (x_loadA (S.blk 0 rfl) ty26 rfl (sub_of_extract rfl) rfl rfl) rfl ?_
  replace S : St w187 M66 F [Row rStr 9 (.slice (some ⟨b178, 0, none⟩) ([([98] : Str), ([100] : Str), ([102] : Str)] : List Str).length 3) ([([98] : Str), ([100] : Str), ([102] : Str)] : List Str), Row (rInt .i64) 3 (.slice (some ⟨b181, 0, none⟩) ([(1 : Int), (2 : Int), (3 : Int), (4 : Int)] : List Int).length 4) ([(1 : Int), (2 : Int), (3 : Int), (4 : Int)] : List Int), Blk b184 (.cells #[.bool false, .slice (some ⟨b178, 0, none⟩) ([([98] : Str), ([100] : Str), ([102] : Str)] : List Str).length 3, .slice (some ⟨b181, 0, none⟩) ([(1 : Int), (2 : Int), (3 : Int), (4 : Int)] : List Int).length 4, .slice none 0 0] 26 (0, 0)), Blk b71 (.cells #[.bool t45.2.1.Leaf, .slice A56 t45.2.1.Keys.length c57, .slice A59 t45.2.1.Kids.length c60, .slice A62 t45.2.1.Rows.length c63] 26 (0, 0)), Blk b68 (.cells #[.bool t45.1.Leaf, .slice A47 t45.1.Keys.length c48, .slice A50 t45.1.Kids.length c51, .slice A53 t45.1.Rows.length c54] 26 (0, 0))] := S.pick [2, 1, 0, 3, 4] (by decide)
  obtain ⟨t188, ht189, H⟩ := bindS H
  refine W_callN 2 fn14 (fun h9 hs9 hd9 => fork_Fence.con k _ (some ⟨b178, 0, none⟩) 3 (some ⟨b181, 0, none⟩) 4 none 0 (⟨false, ([([98] : Str), ([100] : Str), ([102] : Str)] : List Str), ([(1 : Int), (2 : Int), (3 : Int), (4 : Int)] : List Int), ([] : (List Int))⟩ : fork_Node) (1 : Int) t188 (Sats.row hs9 hd9 0 rfl) (Sats.row hs9 hd9 1 rfl) (SlW.nil _ _) ht189) S rfl rfl (by rintro _ _ _ ⟨_, rfl⟩; exact flat_nil) ?_
  rintro _ w190 _ Γ' E' S ⟨rfl, rfl⟩
  replace E := E.trans E'
  clear E'
  refine W_v (.tuple #[.string (bs t188.1), .bool t188.2]) (x_move rfl) rfl ?_
  refine W_v (.string (bs t188.1)) (x_extract rfl rfl) rfl ?_
  refine W_v (.bool t188.2) (x_extract rfl rfl) rfl ?_
  refine W_v (.string (bs t188.1)) (x_assign rfl) rfl ?_
  refine W_v (.bool t188.2) (x_assign rfl) rfl ?_
  refine Wl_nil ?_
  refine tn ?_
  refine Wp_seq ?_
  refine Wp_region_lit ?_
  refine W_v (.agg #[.bool false, .slice (some ⟨b178, 0, none⟩) ([([98] : Str), ([100] : Str), ([102] : Str)] : List Str).length 3, .slice (some ⟨b181, 0, none⟩) ([(1 : Int), (2 : Int), (3 : Int), (4 : Int)] : List Int).length 4, .slice none 0 0]) (x_loadA (S.blk 2 rfl) ty26 rfl (sub_of_extract rfl) rfl rfl) rfl ?_
  obtain ⟨t191, ht192, H⟩ := bindS H
  refine W_callN 2 fn14 (fun h9 hs9 hd9 => fork_Fence.con k _ (some ⟨b178, 0, none⟩) 3 (some ⟨b181, 0, none⟩) 4 none 0 (⟨false, ([([98] : Str), ([100] : Str), ([102] : Str)] : List Str), ([(1 : Int), (2 : Int), (3 : Int), (4 : Int)] : List Int), ([] : (List Int))⟩ : fork_Node) (3 : Int) t191 (Sats.row hs9 hd9 0 rfl) (Sats.row hs9 hd9 1 rfl) (SlW.nil _ _) ht192) S rfl rfl (by rintro _ _ _ ⟨_, rfl⟩; exact flat_nil) ?_
  rintro _ w193 _ Γ' E' S ⟨rfl, rfl⟩
  replace E := E.trans E'
  clear E'
  refine W_v (.tuple #[.string (bs t191.1), .bool t191.2]) (x_move rfl) rfl ?_
  refine W_v (.string (bs t191.1)) (x_extract rfl rfl) rfl ?_
  refine W_v (.bool t191.2) (x_extract rfl rfl) rfl ?_
  refine W_v (.string (bs t191.1)) (x_assign rfl) rfl ?_
  refine W_v (.bool t191.2) (x_assign rfl) rfl ?_
  refine Wl_nil ?_
  refine tn ?_
  refine Wp_seq ?_
  refine Wp_region_lit ?_
  refine W_v (.agg #[.bool false, .slice (some ⟨b178, 0, none⟩) ([([98] : Str), ([100] : Str), ([102] : Str)] : List Str).length 3, .slice (some ⟨b181, 0, none⟩) ([(1 : Int), (2 : Int), (3 : Int), (4 : Int)] : List Int).length 4, .slice none 0 0]) (x_loadA (S.blk 2 rfl) ty26 rfl (sub_of_extract rfl) rfl rfl) rfl ?_
  obtain ⟨M194, hM195, hf196, S⟩ := S.row_freeze 0 rfl
  replace HM := Hp.le_trans HM hM195
  replace hf38 := SlR.mono hf38 hM195
  replace hf41 := SlR.mono hf41 hM195
  replace hf44 := SlR.mono hf44 hM195
  replace hs49 := SlR.mono hs49 hM195
  replace hs52 := SlR.mono hs52 hM195
  replace hs55 := SlR.mono hs55 hM195
  replace hs58 := SlR.mono hs58 hM195
  replace hs61 := SlR.mono hs61 hM195
  replace hs64 := SlR.mono hs64 hM195
  obtain ⟨M197, hM198, hf199, S⟩ := S.row_freeze 0 rfl
  replace HM := Hp.le_trans HM hM198
  replace hf38 := SlR.mono hf38 hM198
  replace hf41 := SlR.mono hf41 hM198
  replace hf44 := SlR.mono hf44 hM198
  replace hs49 := SlR.mono hs49 hM198
  replace hs52 := SlR.mono hs52 hM198
  replace hs55 := SlR.mono hs55 hM198
  replace hs58 := SlR.mono hs58 hM198
  replace hs61 := SlR.mono hs61 hM198
  replace hs64 := SlR.mono hs64 hM198
  replace hf196 := SlR.mono hf196 hM198
  obtain ⟨t200, ht201, H⟩ := bindS H
  refine W_call fn15 (fork_Split.con k M197 (some ⟨b178, 0, none⟩) 3 (some ⟨b181, 0, none⟩) 4 none 0 (⟨false, ([([98] : Str), ([100] : Str), ([102] : Str)] : List Str), ([(1 : Int), (2 : Int), (3 : Int), (4 : Int)] : List Int), ([] : (List Int))⟩ : fork_Node) t200 hf196 hf199 (SlW.nil _ _) ht201) (Γ1 := []) (Γ2 := [Blk b184 (.cells #[.bool false, .slice (some ⟨b178, 0, none⟩) ([([98] : Str), ([100] : Str), ([102] : Str)] : List Str).length 3, .slice (some ⟨b181, 0, none⟩) ([(1 : Int), (2 : Int), (3 : Int), (4 : Int)] : List Int).length 4, .slice none 0 0] 26 (0, 0)), Blk b71 (.cells #[.bool t45.2.1.Leaf, .slice A56 t45.2.1.Keys.length c57, .slice A59 t45.2.1.Kids.length c60, .slice A62 t45.2.1.Rows.length c63] 26 (0, 0)), Blk b68 (.cells #[.bool t45.1.Leaf, .slice A47 t45.1.Keys.length c48, .slice A50 t45.1.Kids.length c51, .slice A53 t45.1.Rows.length c54] 26 (0, 0))]) S rfl rfl ?_
  rintro _ w220 M221 Γ' hM222 E' S ⟨A202, c203, A205, c206, A208, c209, A211, c212, A214, c215, A217, c218, rfl, hs204, hs207, hs210, hs213, hs216, hs219, rfl⟩
  replace HM := Hp.le_trans HM hM222
  replace hf38 := SlR.mono hf38 hM222
  replace hf41 := SlR.mono hf41 hM222
  replace hf44 := SlR.mono hf44 hM222
  replace hs49 := SlR.mono hs49 hM222
  replace hs52 := SlR.mono hs52 hM222
  replace hs55 := SlR.mono hs55 hM222
  replace hs58 := SlR.mono hs58 hM222
  replace hs61 := SlR.mono hs61 hM222
  replace hs64 := SlR.mono hs64 hM222
  replace hf196 := SlR.mono hf196 hM222
  replace hf199 := SlR.mono hf199 hM222
  replace E := E.trans E'
  clear E'
  refine W_v (.tuple #[.agg #[.bool t200.1.Leaf, .slice A202 t200.1.Keys.length c203, .slice A205 t200.1.Kids.length c206, .slice A208 t200.1.Rows.length c209], .agg #[.bool t200.2.1.Leaf, .slice A211 t200.2.1.Keys.length c212, .slice A214 t200.2.1.Kids.length c215, .slice A217 t200.2.1.Rows.length c218], .string (bs t200.2.2.1), .int .i64 t200.2.2.2]) (x_move rfl) rfl ?_
  refine W_v (.agg #[.bool t200.1.Leaf, .slice A202 t200.1.Keys.length c203, .slice A205 t200.1.Kids.length c206, .slice A208 t200.1.Rows.length c209]) (x_extract rfl rfl) rfl ?_
  refine W_v (.agg #[.bool t200.2.1.Leaf, .slice A211 t200.2.1.Keys.length c212, .slice A214 t200.2.1.Kids.length c215, .slice A217 t200.2.1.Rows.length c218]) (x_extract rfl rfl) rfl ?_
  refine W_v (.string (bs t200.2.2.1)) (x_extract rfl rfl) rfl ?_
  refine W_v (.int .i64 t200.2.2.2) (x_extract rfl rfl) rfl ?_
  refine W_store S 2 rfl ty26 rfl rfl [.bool t200.1.Leaf, .slice A202 t200.1.Keys.length c203, .slice A205 t200.1.Kids.length c206, .slice A208 t200.1.Rows.length c209] rfl rfl rfl #[.bool t200.1.Leaf, .slice A202 t200.1.Keys.length c203, .slice A205 t200.1.Kids.length c206, .slice A208 t200.1.Rows.length c209] rfl rfl ?_
  intro w223 E' S
  replace E := E.trans E'
  clear E'
  refine W_store S 1 rfl ty26 rfl rfl [.bool t200.2.1.Leaf, .slice A211 t200.2.1.Keys.length c212, .slice A214 t200.2.1.Kids.length c215, .slice A217 t200.2.1.Rows.length c218] rfl rfl rfl #[.bool t200.2.1.Leaf, .slice A211 t200.2.1.Keys.length c212, .slice A214 t200.2.1.Kids.length c215, .slice A217 t200.2.1.Rows.length c218] rfl rfl ?_
  intro w224 E' S
  replace E := E.trans E'
  clear E'
  refine W_v (.string (bs t200.2.2.1)) (x_assign rfl) rfl ?_
  refine W_v (.int .i64 t200.2.2.2) (x_assign rfl) rfl ?_
  refine Wl_nil ?_
  refine tn ?_
  refine Wp_seq ?_
  refine Wp_region_lit ?_
  refine W_v (.agg #[.bool false, .slice (some ⟨b178, 0, none⟩) ([([98] : Str), ([100] : Str), ([102] : Str)] : List Str).length 3, .slice (some ⟨b181, 0, none⟩) ([(1 : Int), (2 : Int), (3 : Int), (4 : Int)] : List Int).length 4, .slice none 0 0]) (x_loadA (S.blk 0 rfl) ty26 rfl (sub_of_extract rfl) rfl rfl) rfl ?_
  obtain ⟨t225, ht226, H⟩ := bindS H
  refine W_callF fn21 (fork_Graft.con k M221 (some ⟨b178, 0, none⟩) 3 (some ⟨b181, 0, none⟩) 4 none 0 (⟨false, ([([98] : Str), ([100] : Str), ([102] : Str)] : List Str), ([(1 : Int), (2 : Int), (3 : Int), (4 : Int)] : List Int), ([] : (List Int))⟩ : fork_Node) ([101] : Str) (9 : Int) t225 hf196 hf199 (SlW.nil _ _) ht226) S rfl rfl (by rintro _ _ _ ⟨_, _, _, _, _, _, _, rfl⟩; exact (flat_cons (flat_row (fun _ _ _ _ h => h)) (flat_cons (flat_row (fun _ _ _ _ h => h)) (flat_cons (flat_row (fun _ _ _ _ h => h)) flat_nil)))) ?_
  rintro _ w236 _ Γ' E' S ⟨A227, c228, A230, c231, A233, c234, rfl, rfl⟩
  replace E := E.trans E'
  clear E'
  refine W_v (.tuple #[.agg #[.bool t225.1.Leaf, .slice A227 t225.1.Keys.length c228, .slice A230 t225.1.Kids.length c231, .slice A233 t225.1.Rows.length c234], .int .i64 t225.2]) (x_move rfl) rfl ?_
  refine W_v (.agg #[.bool t225.1.Leaf, .slice A227 t225.1.Keys.length c228, .slice A230 t225.1.Kids.length c231, .slice A233 t225.1.Rows.length c234]) (x_extract rfl rfl) rfl ?_
  refine W_v (.int .i64 t225.2) (x_extract rfl rfl) rfl ?_
  refine W_alloc S #[.bool false, .slice none 0 0, .slice none 0 0, .slice none 0 0] ty26 rfl rfl ?_
  intro b237 w238 E' S
  replace E := E.trans E'
  clear E'
  refine W_store S 0 rfl ty26 rfl rfl [.bool t225.1.Leaf, .slice A227 t225.1.Keys.length c228, .slice A230 t225.1.Kids.length c231, .slice A233 t225.1.Rows.length c234] rfl rfl rfl #[.bool t225.1.Leaf, .slice A227 t225.1.Keys.length c228, .slice A230 t225.1.Kids.length c231, .slice A233 t225.1.Rows.length c234] rfl rfl ?_
  intro w240 E' S
  replace E := E.trans E'
  clear E'
  refine W_v (.int .i64 t225.2) (x_assign rfl) rfl ?_
  refine Wl_nil ?_
  refine tn ?_
  refine Wp_seq ?_
  refine Wp_region_lit ?_
  refine W_v (.agg #[.bool false, .slice (some ⟨b178, 0, none⟩) ([([98] : Str), ([100] : Str), ([102] : Str)] : List Str).length 3, .slice (some ⟨b181, 0, none⟩) ([(1 : Int), (2 : Int), (3 : Int), (4 : Int)] : List Int).length 4, .slice none 0 0]) (x_loadA (S.blk 4 rfl) ty26 rfl (sub_of_extract rfl) rfl rfl) rfl ?_
  obtain ⟨t241, ht242, H⟩ := bindS H
  refine W_callF fn20 (fork_Cut.con k M221 (some ⟨b178, 0, none⟩) 3 (some ⟨b181, 0, none⟩) 4 none 0 (⟨false, ([([98] : Str), ([100] : Str), ([102] : Str)] : List Str), ([(1 : Int), (2 : Int), (3 : Int), (4 : Int)] : List Int), ([] : (List Int))⟩ : fork_Node) (0 : Int) t241 hf196 hf199 (SlW.nil _ _) ht242) S rfl rfl (by rintro _ _ _ ⟨_, _, _, _, _, _, _, rfl⟩; exact (flat_cons (flat_row (fun _ _ _ _ h => h)) (flat_cons (flat_row (fun _ _ _ _ h => h)) (flat_cons (flat_row (fun _ _ _ _ h => h)) flat_nil)))) ?_
  rintro _ w252 _ Γ' E' S ⟨A243, c244, A246, c247, A249, c250, rfl, rfl⟩
  replace E := E.trans E'
  clear E'
  refine W_v (.tuple #[.agg #[.bool t241.1.Leaf, .slice A243 t241.1.Keys.length c244, .slice A246 t241.1.Kids.length c247, .slice A249 t241.1.Rows.length c250], .int .i64 t241.2]) (x_move rfl) rfl ?_
  refine W_v (.agg #[.bool t241.1.Leaf, .slice A243 t241.1.Keys.length c244, .slice A246 t241.1.Kids.length c247, .slice A249 t241.1.Rows.length c250]) (x_extract rfl rfl) rfl ?_
  refine W_v (.int .i64 t241.2) (x_extract rfl rfl) rfl ?_
  refine W_alloc S #[.bool false, .slice none 0 0, .slice none 0 0, .slice none 0 0] ty26 rfl rfl ?_
  intro b253 w254 E' S
  replace E := E.trans E'
  clear E'
  refine W_store S 0 rfl ty26 rfl rfl [.bool t241.1.Leaf, .slice A243 t241.1.Keys.length c244, .slice A246 t241.1.Kids.length c247, .slice A249 t241.1.Rows.length c250] rfl rfl rfl #[.bool t241.1.Leaf, .slice A243 t241.1.Keys.length c244, .slice A246 t241.1.Kids.length c247, .slice A249 t241.1.Rows.length c250] rfl rfl ?_
  intro w256 E' S
  replace E := E.trans E'
  clear E'
  refine W_v (.int .i64 t241.2) (x_assign rfl) rfl ?_
  refine Wl_nil ?_
  refine tn ?_
  refine Wp_seq ?_
  refine Wp_region_lit ?_
  refine W_v (.agg #[.bool false, .slice (some ⟨b178, 0, none⟩) ([([98] : Str), ([100] : Str), ([102] : Str)] : List Str).length 3, .slice (some ⟨b181, 0, none⟩) ([(1 : Int), (2 : Int), (3 : Int), (4 : Int)] : List Int).length 4, .slice none 0 0]) (x_loadA (S.blk 8 rfl) ty26 rfl (sub_of_extract rfl) rfl rfl) rfl ?_
  obtain ⟨t257, ht258, H⟩ := bindS H
  refine W_callF fn20 (fork_Cut.con k M221 (some ⟨b178, 0, none⟩) 3 (some ⟨b181, 0, none⟩) 4 none 0 (⟨false, ([([98] : Str), ([100] : Str), ([102] : Str)] : List Str), ([(1 : Int), (2 : Int), (3 : Int), (4 : Int)] : List Int), ([] : (List Int))⟩ : fork_Node) (3 : Int) t257 hf196 hf199 (SlW.nil _ _) ht258) S rfl rfl (by rintro _ _ _ ⟨_, _, _, _, _, _, _, rfl⟩; exact (flat_cons (flat_row (fun _ _ _ _ h => h)) (flat_cons (flat_row (fun _ _ _ _ h => h)) (flat_cons (flat_row (fun _ _ _ _ h => h)) flat_nil)))) ?_
  rintro _ w268 _ Γ' E' S ⟨A259, c260, A262, c263, A265, c266, rfl, rfl⟩
  replace E := E.trans E'
  clear E'
  refine W_v (.tuple #[.agg #[.bool t257.1.Leaf, .slice A259 t257.1.Keys.length c260, .slice A262 t257.1.Kids.length c263, .slice A265 t257.1.Rows.length c266], .int .i64 t257.2]) (x_move rfl) rfl ?_
  refine W_v (.agg #[.bool t257.1.Leaf, .slice A259 t257.1.Keys.length c260, .slice A262 t257.1.Kids.length c263, .slice A265 t257.1.Rows.length c266]) (x_extract rfl rfl) rfl ?_
  refine W_v (.int .i64 t257.2) (x_extract rfl rfl) rfl ?_
  refine W_alloc S #[.bool false, .slice none 0 0, .slice none 0 0, .slice none 0 0] ty26 rfl rfl ?_
  intro b269 w270 E' S
  replace E := E.trans E'
  clear E'
  refine W_store S 0 rfl ty26 rfl rfl [.bool t257.1.Leaf, .slice A259 t257.1.Keys.length c260, .slice A262 t257.1.Kids.length c263, .slice A265 t257.1.Rows.length c266] rfl rfl rfl #[.bool t257.1.Leaf, .slice A259 t257.1.Keys.length c260, .slice A262 t257.1.Kids.length c263, .slice A265 t257.1.Rows.length c266] rfl rfl ?_
  intro w272 E' S
  replace E := E.trans E'
  clear E'
  refine W_v (.int .i64 t257.2) (x_assign rfl) rfl ?_
  refine Wl_nil ?_
  refine tn ?_
  refine Wp_seq ?_
  refine Wp_region_lit ?_
  refine W_v (.agg #[.bool false, .slice (some ⟨b178, 0, none⟩) ([([98] : Str), ([100] : Str), ([102] : Str)] : List Str).length 3, .slice (some ⟨b181, 0, none⟩) ([(1 : Int), (2 : Int), (3 : Int), (4 : Int)] : List Int).length 4, .slice none 0 0]) (x_loadA (S.blk 12 rfl) ty26 rfl (sub_of_extract rfl) rfl rfl) rfl ?_
  obtain ⟨t273, ht274, H⟩ := bindS H
  refine W_callF fn13 (fork_Kid.con k M221 (some ⟨b178, 0, none⟩) 3 (some ⟨b181, 0, none⟩) 4 none 0 (⟨false, ([([98] : Str), ([100] : Str), ([102] : Str)] : List Str), ([(1 : Int), (2 : Int), (3 : Int), (4 : Int)] : List Int), ([] : (List Int))⟩ : fork_Node) ([97] : Str) t273 hf196 hf199 (SlW.nil _ _) ht274) S rfl rfl (by rintro _ _ _ ⟨_, rfl⟩; exact flat_nil) ?_
  rintro _ w275 _ Γ' E' S ⟨rfl, rfl⟩
  replace E := E.trans E'
  clear E'
  refine W_v (.bool (t273 == (0 : Int))) (x_ibin rfl rfl rfl rfl) rfl ?_
  refine W_v (.bool (t273 == (0 : Int))) (x_move rfl) rfl ?_
  obtain ⟨o284, o284h, o284H⟩ := bindS H
  clear H
  refine Wl_cutN 4 (fun ρ w' => ∃ (x283 : Bool), (x283) = o284 ∧ Agree ρ [(10, .pointer (some ⟨b68, 0, none⟩)), (11, .pointer (some ⟨b71, 0, none⟩)), (12, .string (bs t200.2.2.1)), (13, .int .i64 t200.2.2.2), (14, .pointer (some ⟨b184, 0, none⟩)), (15, .string (bs t188.1)), (16, .bool t188.2), (18, .bool t191.2), (19, .pointer (some ⟨b237, 0, none⟩)), (20, .int .i64 t225.2), (21, .pointer (some ⟨b253, 0, none⟩)), (22, .int .i64 t241.2), (23, .pointer (some ⟨b269, 0, none⟩)), (24, .int .i64 t257.2), (150, .bool x283)] ∧ Ext w w' ∧ St w' M221 F [Blk b269 (.cells #[.bool t257.1.Leaf, .slice A259 t257.1.Keys.length c260, .slice A262 t257.1.Kids.length c263, .slice A265 t257.1.Rows.length c266] 26 (0, 0)), Row rStr 9 (.slice A259 t257.1.Keys.length c260) t257.1.Keys, Row (rInt .i64) 3 (.slice A262 t257.1.Kids.length c263) t257.1.Kids, Row (rInt .u64) 41 (.slice A265 t257.1.Rows.length c266) t257.1.Rows, Blk b253 (.cells #[.bool t241.1.Leaf, .slice A243 t241.1.Keys.length c244, .slice A246 t241.1.Kids.length c247, .slice A249 t241.1.Rows.length c250] 26 (0, 0)), Row rStr 9 (.slice A243 t241.1.Keys.length c244) t241.1.Keys, Row (rInt .i64) 3 (.slice A246 t241.1.Kids.length c247) t241.1.Kids, Row (rInt .u64) 41 (.slice A249 t241.1.Rows.length c250) t241.1.Rows, Blk b237 (.cells #[.bool t225.1.Leaf, .slice A227 t225.1.Keys.length c228, .slice A230 t225.1.Kids.length c231, .slice A233 t225.1.Rows.length c234] 26 (0, 0)), Row rStr 9 (.slice A227 t225.1.Keys.length c228) t225.1.Keys, Row (rInt .i64) 3 (.slice A230 t225.1.Kids.length c231) t225.1.Kids, Row (rInt .u64) 41 (.slice A233 t225.1.Rows.length c234) t225.1.Rows, Blk b184 (.cells #[.bool false, .slice (some ⟨b178, 0, none⟩) ([([98] : Str), ([100] : Str), ([102] : Str)] : List Str).length 3, .slice (some ⟨b181, 0, none⟩) ([(1 : Int), (2 : Int), (3 : Int), (4 : Int)] : List Int).length 4, .slice none 0 0] 26 (0, 0)), Blk b71 (.cells #[.bool t200.2.1.Leaf, .slice A211 t200.2.1.Keys.length c212, .slice A214 t200.2.1.Kids.length c215, .slice A217 t200.2.1.Rows.length c218] 26 (0, 0)), Blk b68 (.cells #[.bool t200.1.Leaf, .slice A202 t200.1.Keys.length c203, .slice A205 t200.1.Kids.length c206, .slice A208 t200.1.Rows.length c209] 26 (0, 0))]) ?_ ?_
  · have H := o284h
    rcases iteS H with ⟨hb282, H⟩ | ⟨hb282, H⟩
    · skip
      refine W_yes (congrArg some hb282) ?_
      refine W_v (.agg #[.bool false, .slice (some ⟨b178, 0, none⟩) ([([98] : Str), ([100] : Str), ([102] : Str)] : List Str).length 3, .slice (some ⟨b181, 0, none⟩) ([(1 : Int), (2 : Int), (3 : Int), (4 : Int)] : List Int).length 4, .slice none 0 0]) (x_loadA (S.blk 12 rfl) ty26 rfl (sub_of_extract rfl) rfl rfl) rfl ?_
      refine W_yes (congrArg some hb282) ?_
      obtain ⟨t285, ht286, H⟩ := bindS H
      refine W_callF fn13 (fork_Kid.con k M221 (some ⟨b178, 0, none⟩) 3 (some ⟨b181, 0, none⟩) 4 none 0 (⟨false, ([([98] : Str), ([100] : Str), ([102] : Str)] : List Str), ([(1 : Int), (2 : Int), (3 : Int), (4 : Int)] : List Int), ([] : (List Int))⟩ : fork_Node) ([98] : Str) t285 hf196 hf199 (SlW.nil _ _) ht286) S rfl rfl (by rintro _ _ _ ⟨_, rfl⟩; exact flat_nil) ?_
      rintro _ w287 _ Γ' E' S ⟨rfl, rfl⟩
      replace E := E.trans E'
      clear E'
      refine W_yes (congrArg some hb282) ?_
      refine W_v (.bool (t285 == (1 : Int))) (x_ibin rfl rfl rfl rfl) rfl ?_
      refine W_v (.bool (t285 == (1 : Int))) (x_pick (k := true) (congrArg Value.bool hb282) rfl) rfl ?_
      refine Wl_nil ?_
      exact ⟨(t285 == (1 : Int)), Option.some.inj H, ⟨rfl, rfl, rfl, rfl, rfl, rfl, rfl, rfl, rfl, rfl, rfl, rfl, rfl, rfl, rfl, trivial⟩, E, S.pick [0, 1, 2, 3, 4, 5, 6, 7, 8, 9, 10, 11, 12, 13, 14] (by decide)⟩
    · skip
      refine W_no (skT hb282) rfl ?_
      refine W_no (skT hb282) rfl ?_
      refine W_no (skT hb282) rfl ?_
      refine W_v (.bool false) (x_pick (k := false) (congrArg Value.bool hb282) rfl) rfl ?_
      refine Wl_nil ?_
      exact ⟨false, Option.some.inj H, ⟨rfl, rfl, rfl, rfl, rfl, rfl, rfl, rfl, rfl, rfl, rfl, rfl, rfl, rfl, rfl, trivial⟩, E, S.pick [0, 1, 2, 3, 4, 5, 6, 7, 8, 9, 10, 11, 12, 13, 14] (by decide)⟩
  clear o284h
  rintro ρ w288 ⟨x283, rfl, hρ, E, S⟩
  rw [agree_eta hρ]
  clear hρ
  have H := o284H
  clear o284H
  refine W_v (.bool x283) (x_move rfl) rfl ?_
  obtain ⟨o297, o297h, o297H⟩ := bindS H
  clear H
  refine Wl_cutN 4 (fun ρ w' => ∃ (x296 : Bool), (x296) = o297 ∧ Agree ρ [(10, .pointer (some ⟨b68, 0, none⟩)), (11, .pointer (some ⟨b71, 0, none⟩)), (12, .string (bs t200.2.2.1)), (13, .int .i64 t200.2.2.2), (15, .string (bs t188.1)), (16, .bool t188.2), (18, .bool t191.2), (19, .pointer (some ⟨b237, 0, none⟩)), (20, .int .i64 t225.2), (21, .pointer (some ⟨b253, 0, none⟩)), (22, .int .i64 t241.2), (23, .pointer (some ⟨b269, 0, none⟩)), (24, .int .i64 t257.2), (155, .bool x296)] ∧ Ext w w' ∧ St w' M221 F [Blk b269 (.cells #[.bool t257.1.Leaf, .slice A259 t257.1.Keys.length c260, .slice A262 t257.1.Kids.length c263, .slice A265 t257.1.Rows.length c266] 26 (0, 0)), Row rStr 9 (.slice A259 t257.1.Keys.length c260) t257.1.Keys, Row (rInt .i64) 3 (.slice A262 t257.1.Kids.length c263) t257.1.Kids, Row (rInt .u64) 41 (.slice A265 t257.1.Rows.length c266) t257.1.Rows, Blk b253 (.cells #[.bool t241.1.Leaf, .slice A243 t241.1.Keys.length c244, .slice A246 t241.1.Kids.length c247, .slice A249 t241.1.Rows.length c250] 26 (0, 0)), Row rStr 9 (.slice A243 t241.1.Keys.length c244) t241.1.Keys, Row (rInt .i64) 3 (.slice A246 t241.1.Kids.length c247) t241.1.Kids, Row (rInt .u64) 41 (.slice A249 t241.1.Rows.length c250) t241.1.Rows, Blk b237 (.cells #[.bool t225.1.Leaf, .slice A227 t225.1.Keys.length c228, .slice A230 t225.1.Kids.length c231, .slice A233 t225.1.Rows.length c234] 26 (0, 0)), Row rStr 9 (.slice A227 t225.1.Keys.length c228) t225.1.Keys, Row (rInt .i64) 3 (.slice A230 t225.1.Kids.length c231) t225.1.Kids, Row (rInt .u64) 41 (.slice A233 t225.1.Rows.length c234) t225.1.Rows, Blk b71 (.cells #[.bool t200.2.1.Leaf, .slice A211 t200.2.1.Keys.length c212, .slice A214 t200.2.1.Kids.length c215, .slice A217 t200.2.1.Rows.length c218] 26 (0, 0)), Blk b68 (.cells #[.bool t200.1.Leaf, .slice A202 t200.1.Keys.length c203, .slice A205 t200.1.Kids.length c206, .slice A208 t200.1.Rows.length c209] 26 (0, 0))]) ?_ ?_
  · have H := o297h
    rcases iteS H with ⟨hb295, H⟩ | ⟨hb295, H⟩
    · skip
      refine W_yes (congrArg some hb295) ?_
      refine W_v (.agg #[.bool false, .slice (some ⟨b178, 0, none⟩) ([([98] : Str), ([100] : Str), ([102] : Str)] : List Str).length 3, .slice (some ⟨b181, 0, none⟩) ([(1 : Int), (2 : Int), (3 : Int), (4 : Int)] : List Int).length 4, .slice none 0 0]) (x_loadA (S.blk 12 rfl) ty26 rfl (sub_of_extract rfl) rfl rfl) rfl ?_
      refine W_yes (congrArg some hb295) ?_
      obtain ⟨t298, ht299, H⟩ := bindS H
      refine W_callF fn13 (fork_Kid.con k M221 (some ⟨b178, 0, none⟩) 3 (some ⟨b181, 0, none⟩) 4 none 0 (⟨false, ([([98] : Str), ([100] : Str), ([102] : Str)] : List Str), ([(1 : Int), (2 : Int), (3 : Int), (4 : Int)] : List Int), ([] : (List Int))⟩ : fork_Node) ([103] : Str) t298 hf196 hf199 (SlW.nil _ _) ht299) S rfl rfl (by rintro _ _ _ ⟨_, rfl⟩; exact flat_nil) ?_
      rintro _ w300 _ Γ' E' S ⟨rfl, rfl⟩
      replace E := E.trans E'
      clear E'
      refine W_yes (congrArg some hb295) ?_
      refine W_v (.bool (t298 == (3 : Int))) (x_ibin rfl rfl rfl rfl) rfl ?_
      refine W_v (.bool (t298 == (3 : Int))) (x_pick (k := true) (congrArg Value.bool hb295) rfl) rfl ?_
      refine Wl_nil ?_
      exact ⟨(t298 == (3 : Int)), Option.some.inj H, ⟨rfl, rfl, rfl, rfl, rfl, rfl, rfl, rfl, rfl, rfl, rfl, rfl, rfl, rfl, trivial⟩, E, S.pick [0, 1, 2, 3, 4, 5, 6, 7, 8, 9, 10, 11, 13, 14] (by decide)⟩
    · skip
      refine W_no (skT hb295) rfl ?_
      refine W_no (skT hb295) rfl ?_
      refine W_no (skT hb295) rfl ?_
      refine W_v (.bool false) (x_pick (k := false) (congrArg Value.bool hb295) rfl) rfl ?_
      refine Wl_nil ?_
      exact ⟨false, Option.some.inj H, ⟨rfl, rfl, rfl, rfl, rfl, rfl, rfl, rfl, rfl, rfl, rfl, rfl, rfl, rfl, trivial⟩, E, S.pick [0, 1, 2, 3, 4, 5, 6, 7, 8, 9, 10, 11, 13, 14] (by decide)⟩
  clear o297h
  rintro ρ w301 ⟨x296, rfl, hρ, E, S⟩
  rw [agree_eta hρ]
  clear hρ
  have H := o297H
  clear o297H
  refine W_v (.bool x296) (x_move rfl) rfl ?_
  refine Wl_cutN 2 (fun ρ w' => Agree ρ [(10, .pointer (some ⟨b68, 0, none⟩)), (11, .pointer (some ⟨b71, 0, none⟩)), (12, .string (bs t200.2.2.1)), (13, .int .i64 t200.2.2.2), (15, .string (bs t188.1)), (18, .bool t191.2), (19, .pointer (some ⟨b237, 0, none⟩)), (20, .int .i64 t225.2), (21, .pointer (some ⟨b253, 0, none⟩)), (22, .int .i64 t241.2), (23, .pointer (some ⟨b269, 0, none⟩)), (24, .int .i64 t257.2), (158, .bool (x296 && t188.2))] ∧ w301 = w') ?_ ?_
  · rcases boolCases x296 with hb302 | hb302
    · skip
      refine W_no (skT hb302) rfl ?_
      refine W_v (.bool false) (x_pick (k := false) (congrArg Value.bool hb302) rfl) rfl ?_
      refine Wl_nil ?_
      exact ⟨⟨rfl, rfl, rfl, rfl, rfl, rfl, rfl, rfl, rfl, rfl, rfl, rfl, (by first | rfl | (rw [hb302]; rfl) | (simp only [hb302]; rfl)), trivial⟩, rfl⟩
    · skip
      refine W_yes (congrArg some hb302) ?_
      refine W_v (.bool t188.2) (x_move rfl) rfl ?_
      refine W_v (.bool t188.2) (x_pick (k := true) (congrArg Value.bool hb302) rfl) rfl ?_
      refine Wl_nil ?_
      exact ⟨⟨rfl, rfl, rfl, rfl, rfl, rfl, rfl, rfl, rfl, rfl, rfl, rfl, (by first | rfl | (rw [hb302]; rfl) | (simp only [hb302]; rfl)), trivial⟩, rfl⟩
  rintro ρ _ ⟨hρ, rfl⟩
  rw [agree_eta hρ]
  clear hρ
  refine W_v (.bool (x296 && t188.2)) (x_move rfl) rfl ?_
  refine Wl_cutN 3 (fun ρ w' => Agree ρ [(10, .pointer (some ⟨b68, 0, none⟩)), (11, .pointer (some ⟨b71, 0, none⟩)), (12, .string (bs t200.2.2.1)), (13, .int .i64 t200.2.2.2), (18, .bool t191.2), (19, .pointer (some ⟨b237, 0, none⟩)), (20, .int .i64 t225.2), (21, .pointer (some ⟨b253, 0, none⟩)), (22, .int .i64 t241.2), (23, .pointer (some ⟨b269, 0, none⟩)), (24, .int .i64 t257.2), (162, .bool ((x296 && t188.2) && (sbin .eql t188.1 ([100] : Str))))] ∧ w301 = w') ?_ ?_
  · rcases boolCases (x296 && t188.2) with hb303 | hb303
    · skip
      refine W_no (skT hb303) rfl ?_
      refine W_no (skT hb303) rfl ?_
      refine W_v (.bool false) (x_pick (k := false) (congrArg Value.bool hb303) rfl) rfl ?_
      refine Wl_nil ?_
      exact ⟨⟨rfl, rfl, rfl, rfl, rfl, rfl, rfl, rfl, rfl, rfl, rfl, (by first | rfl | (rw [hb303]; rfl) | (simp only [hb303]; rfl)), trivial⟩, rfl⟩
    · skip
      refine W_yes (congrArg some hb303) ?_
      refine W_v (.string (bs t188.1)) (x_move rfl) rfl ?_
      refine W_yes (congrArg some hb303) ?_
      refine W_v (.bool (sbin .eql t188.1 ([100] : Str))) (x_sbin rfl rfl rfl) rfl ?_
      refine W_v (.bool (sbin .eql t188.1 ([100] : Str))) (x_pick (k := true) (congrArg Value.bool hb303) rfl) rfl ?_
      refine Wl_nil ?_
      exact ⟨⟨rfl, rfl, rfl, rfl, rfl, rfl, rfl, rfl, rfl, rfl, rfl, (by first | rfl | (rw [hb303]; rfl) | (simp only [hb303]; rfl)), trivial⟩, rfl⟩
  rintro ρ _ ⟨hρ, rfl⟩
  rw [agree_eta hρ]
  clear hρ
  refine W_v (.bool ((x296 && t188.2) && (sbin .eql t188.1 ([100] : Str)))) (x_move rfl) rfl ?_
  refine Wl_cutN 3 (fun ρ w' => Agree ρ [(10, .pointer (some ⟨b68, 0, none⟩)), (11, .pointer (some ⟨b71, 0, none⟩)), (12, .string (bs t200.2.2.1)), (13, .int .i64 t200.2.2.2), (19, .pointer (some ⟨b237, 0, none⟩)), (20, .int .i64 t225.2), (21, .pointer (some ⟨b253, 0, none⟩)), (22, .int .i64 t241.2), (23, .pointer (some ⟨b269, 0, none⟩)), (24, .int .i64 t257.2), (166, .bool (((x296 && t188.2) && (sbin .eql t188.1 ([100] : Str))) && (!t191.2)))] ∧ w301 = w') ?_ ?_
  · rcases boolCases ((x296 && t188.2) && (sbin .eql t188.1 ([100] : Str))) with hb304 | hb304
    · skip
      refine W_no (skT hb304) rfl ?_
      refine W_no (skT hb304) rfl ?_
      refine W_v (.bool false) (x_pick (k := false) (congrArg Value.bool hb304) rfl) rfl ?_
      refine Wl_nil ?_
      exact ⟨⟨rfl, rfl, rfl, rfl, rfl, rfl, rfl, rfl, rfl, rfl, (by first | rfl | (rw [hb304]; rfl) | (simp only [hb304]; rfl)), trivial⟩, rfl⟩
    · skip
      refine W_yes (congrArg some hb304) ?_
      refine W_v (.bool t191.2) (x_move rfl) rfl ?_
      refine W_yes (congrArg some hb304) ?_
      refine W_v (.bool (!t191.2)) (x_not rfl) rfl ?_
      refine W_v (.bool (!t191.2)) (x_pick (k := true) (congrArg Value.bool hb304) rfl) rfl ?_
      refine Wl_nil ?_
      exact ⟨⟨rfl, rfl, rfl, rfl, rfl, rfl, rfl, rfl, rfl, rfl, (by first | rfl | (rw [hb304]; rfl) | (simp only [hb304]; rfl)), trivial⟩, rfl⟩
  rintro ρ _ ⟨hρ, rfl⟩
  rw [agree_eta hρ]
  clear hρ
  refine W_v (.bool (((x296 && t188.2) && (sbin .eql t188.1 ([100] : Str))) && (!t191.2))) (x_move rfl) rfl ?_
  refine Wl_cutN 3 (fun ρ w' => Agree ρ [(10, .pointer (some ⟨b68, 0, none⟩)), (11, .pointer (some ⟨b71, 0, none⟩)), (12, .string (bs t200.2.2.1)), (19, .pointer (some ⟨b237, 0, none⟩)), (20, .int .i64 t225.2), (21, .pointer (some ⟨b253, 0, none⟩)), (22, .int .i64 t241.2), (23, .pointer (some ⟨b269, 0, none⟩)), (24, .int .i64 t257.2), (170, .bool ((((x296 && t188.2) && (sbin .eql t188.1 ([100] : Str))) && (!t191.2)) && (t200.2.2.2 == (0 : Int))))] ∧ w301 = w') ?_ ?_
  · rcases boolCases (((x296 && t188.2) && (sbin .eql t188.1 ([100] : Str))) && (!t191.2)) with hb305 | hb305
    · skip
      refine W_no (skT hb305) rfl ?_
      refine W_no (skT hb305) rfl ?_
      refine W_v (.bool false) (x_pick (k := false) (congrArg Value.bool hb305) rfl) rfl ?_
      refine Wl_nil ?_
      exact ⟨⟨rfl, rfl, rfl, rfl, rfl, rfl, rfl, rfl, rfl, (by first | rfl | (rw [hb305]; rfl) | (simp only [hb305]; rfl)), trivial⟩, rfl⟩
    · skip
      refine W_yes (congrArg some hb305) ?_
      refine W_v (.int .i64 t200.2.2.2) (x_move rfl) rfl ?_
      refine W_yes (congrArg some hb305) ?_
      refine W_v (.bool (t200.2.2.2 == (0 : Int))) (x_ibin rfl rfl rfl rfl) rfl ?_
      refine W_v (.bool (t200.2.2.2 == (0 : Int))) (x_pick (k := true) (congrArg Value.bool hb305) rfl) rfl ?_
      refine Wl_nil ?_
      exact ⟨⟨rfl, rfl, rfl, rfl, rfl, rfl, rfl, rfl, rfl, (by first | rfl | (rw [hb305]; rfl) | (simp only [hb305]; rfl)), trivial⟩, rfl⟩
  rintro ρ _ ⟨hρ, rfl⟩
  rw [agree_eta hρ]
  clear hρ
  refine W_v (.bool ((((x296 && t188.2) && (sbin .eql t188.1 ([100] : Str))) && (!t191.2)) && (t200.2.2.2 == (0 : Int)))) (x_move rfl) rfl ?_
  refine Wl_cutN 3 (fun ρ w' => Agree ρ [(10, .pointer (some ⟨b68, 0, none⟩)), (11, .pointer (some ⟨b71, 0, none⟩)), (19, .pointer (some ⟨b237, 0, none⟩)), (20, .int .i64 t225.2), (21, .pointer (some ⟨b253, 0, none⟩)), (22, .int .i64 t241.2), (23, .pointer (some ⟨b269, 0, none⟩)), (24, .int .i64 t257.2), (174, .bool (((((x296 && t188.2) && (sbin .eql t188.1 ([100] : Str))) && (!t191.2)) && (t200.2.2.2 == (0 : Int))) && (sbin .eql t200.2.2.1 ([102] : Str))))] ∧ w301 = w') ?_ ?_
  · rcases boolCases ((((x296 && t188.2) && (sbin .eql t188.1 ([100] : Str))) && (!t191.2)) && (t200.2.2.2 == (0 : Int))) with hb306 | hb306
    · skip
      refine W_no (skT hb306) rfl ?_
      refine W_no (skT hb306) rfl ?_
      refine W_v (.bool false) (x_pick (k := false) (congrArg Value.bool hb306) rfl) rfl ?_
      refine Wl_nil ?_
      exact ⟨⟨rfl, rfl, rfl, rfl, rfl, rfl, rfl, rfl, (by first | rfl | (rw [hb306]; rfl) | (simp only [hb306]; rfl)), trivial⟩, rfl⟩
    · skip
      refine W_yes (congrArg some hb306) ?_
      refine W_v (.string (bs t200.2.2.1)) (x_move rfl) rfl ?_
      refine W_yes (congrArg some hb306) ?_
      refine W_v (.bool (sbin .eql t200.2.2.1 ([102] : Str))) (x_sbin rfl rfl rfl) rfl ?_
      refine W_v (.bool (sbin .eql t200.2.2.1 ([102] : Str))) (x_pick (k := true) (congrArg Value.bool hb306) rfl) rfl ?_
      refine Wl_nil ?_
      exact ⟨⟨rfl, rfl, rfl, rfl, rfl, rfl, rfl, rfl, (by first | rfl | (rw [hb306]; rfl) | (simp only [hb306]; rfl)), trivial⟩, rfl⟩
  rintro ρ _ ⟨hρ, rfl⟩
  rw [agree_eta hρ]
  clear hρ
  refine W_v (.bool (((((x296 && t188.2) && (sbin .eql t188.1 ([100] : Str))) && (!t191.2)) && (t200.2.2.2 == (0 : Int))) && (sbin .eql t200.2.2.1 ([102] : Str)))) (x_move rfl) rfl ?_
  obtain ⟨o327, o327h, o327H⟩ := bindS H
  clear H
  refine Wl_cutN 5 (fun ρ w' => ∃ (x326 : Bool), (x326) = o327 ∧ Agree ρ [(11, .pointer (some ⟨b71, 0, none⟩)), (19, .pointer (some ⟨b237, 0, none⟩)), (20, .int .i64 t225.2), (21, .pointer (some ⟨b253, 0, none⟩)), (22, .int .i64 t241.2), (23, .pointer (some ⟨b269, 0, none⟩)), (24, .int .i64 t257.2), (180, .bool x326)] ∧ Ext w w' ∧ St w' M221 F [Blk b269 (.cells #[.bool t257.1.Leaf, .slice A259 t257.1.Keys.length c260, .slice A262 t257.1.Kids.length c263, .slice A265 t257.1.Rows.length c266] 26 (0, 0)), Row rStr 9 (.slice A259 t257.1.Keys.length c260) t257.1.Keys, Row (rInt .i64) 3 (.slice A262 t257.1.Kids.length c263) t257.1.Kids, Row (rInt .u64) 41 (.slice A265 t257.1.Rows.length c266) t257.1.Rows, Blk b253 (.cells #[.bool t241.1.Leaf, .slice A243 t241.1.Keys.length c244, .slice A246 t241.1.Kids.length c247, .slice A249 t241.1.Rows.length c250] 26 (0, 0)), Row rStr 9 (.slice A243 t241.1.Keys.length c244) t241.1.Keys, Row (rInt .i64) 3 (.slice A246 t241.1.Kids.length c247) t241.1.Kids, Row (rInt .u64) 41 (.slice A249 t241.1.Rows.length c250) t241.1.Rows, Blk b237 (.cells #[.bool t225.1.Leaf, .slice A227 t225.1.Keys.length c228, .slice A230 t225.1.Kids.length c231, .slice A233 t225.1.Rows.length c234] 26 (0, 0)), Row rStr 9 (.slice A227 t225.1.Keys.length c228) t225.1.Keys, Row (rInt .i64) 3 (.slice A230 t225.1.Kids.length c231) t225.1.Kids, Row (rInt .u64) 41 (.slice A233 t225.1.Rows.length c234) t225.1.Rows, Blk b71 (.cells #[.bool t200.2.1.Leaf, .slice A211 t200.2.1.Keys.length c212, .slice A214 t200.2.1.Kids.length c215, .slice A217 t200.2.1.Rows.length c218] 26 (0, 0))]) ?_ ?_
  · have H := o327h
    rcases iteS H with ⟨hb325, H⟩ | ⟨hb325, H⟩
    · skip
      refine W_yes (congrArg some hb325) ?_
      refine W_v (.agg #[.bool t200.1.Leaf, .slice A202 t200.1.Keys.length c203, .slice A205 t200.1.Kids.length c206, .slice A208 t200.1.Rows.length c209]) (x_loadA (S.blk 13 rfl) ty26 rfl (sub_of_extract rfl) rfl rfl) rfl ?_
      refine W_yes (congrArg some hb325) ?_
      refine W_bslice S #[.string (bs ([98] : Str)), .string (bs ([100] : Str))] Try.underlying22 ty9 rfl rfl #[.string (bs ([] : Str)), .string (bs ([] : Str))] (by kernel_rfl) (by kernel_rfl) rfl ?_
      intro b328 w329 E' S
      replace E := E.trans E'
      clear E'
      replace S := S.blk_row (r := rStr) (l := ([([98] : Str), ([100] : Str)] : List Str)) 0 rfl 2 (Nat.le_refl 2) rfl (Cells.cons (vs := [.string (bs ([98] : Str))]) (rfl) (Cells.cons (vs := [.string (bs ([100] : Str))]) (rfl) Cells.nil))
      refine W_yes (congrArg some hb325) ?_
      refine W_bslice S #[.int .i64 1, .int .i64 2, .int .i64 3] Try.underlying23 ty3 rfl rfl #[.int .i64 0, .int .i64 0, .int .i64 0] (by kernel_rfl) (by kernel_rfl) rfl ?_
      intro b331 w332 E' S
      replace E := E.trans E'
      clear E'
      replace S := S.blk_row (r := (rInt .i64)) (l := ([(1 : Int), (2 : Int), (3 : Int)] : List Int)) 0 rfl 3 (Nat.le_refl 3) rfl (Cells.cons (vs := [.int .i64 1]) (rfl) (Cells.cons (vs := [.int .i64 2]) (rfl) (Cells.cons (vs := [.int .i64 3]) (rfl) Cells.nil)))
      refine W_yes (congrArg some hb325) ?_
      replace S : St w332 M221 F [Row rStr 9 (.slice (some ⟨b328, 0, none⟩) ([([98] : Str), ([100] : Str)] : List Str).length 2) ([([98] : Str), ([100] : Str)] : List Str), Row (rInt .i64) 3 (.slice (some ⟨b331, 0, none⟩) ([(1 : Int), (2 : Int), (3 : Int)] : List Int).length 3) ([(1 : Int), (2 : Int), (3 : Int)] : List Int), Blk b269 (.cells #[.bool t257.1.Leaf, .slice A259 t257.1.Keys.length c260, .slice A262 t257.1.Kids.length c263, .slice A265 t257.1.Rows.length c266] 26 (0, 0)), Row rStr 9 (.slice A259 t257.1.Keys.length c260) t257.1.Keys, Row (rInt .i64) 3 (.slice A262 t257.1.Kids.length c263) t257.1.Kids, Row (rInt .u64) 41 (.slice A265 t257.1.Rows.length c266) t257.1.Rows, Blk b253 (.cells #[.bool t241.1.Leaf, .slice A243 t241.1.Keys.length c244, .slice A246 t241.1.Kids.length c247, .slice A249 t241.1.Rows.length c250] 26 (0, 0)), Row rStr 9 (.slice A243 t241.1.Keys.length c244) t241.1.Keys, Row (rInt .i64) 3 (.slice A246 t241.1.Kids.length c247) t241.1.Kids, Row (rInt .u64) 41 (.slice A249 t241.1.Rows.length c250) t241.1.Rows, Blk b237 (.cells #[.bool t225.1.Leaf, .slice A227 t225.1.Keys.length c228, .slice A230 t225.1.Kids.length c231, .slice A233 t225.1.Rows.length c234] 26 (0, 0)), Row rStr 9 (.slice A227 t225.1.Keys.length c228) t225.1.Keys, Row (rInt .i64) 3 (.slice A230 t225.1.Kids.length c231) t225.1.Kids, Row (rInt .u64) 41 (.slice A233 t225.1.Rows.length c234) t225.1.Rows, Blk b71 (.cells #[.bool t200.2.1.Leaf, .slice A211 t200.2.1.Keys.length c212, .slice A214 t200.2.1.Kids.length c215, .slice A217 t200.2.1.Rows.length c218] 26 (0, 0)), Blk b68 (.cells #[.bool t200.1.Leaf, .slice A202 t200.1.Keys.length c203, .slice A205 t200.1.Kids.length c206, .slice A208 t200.1.Rows.length c209] 26 (0, 0))] := S.pick [1, 0, 2, 3, 4, 5, 6, 7, 8, 9, 10, 11, 12, 13, 14, 15] (by decide)
      obtain ⟨t334, ht335, H⟩ := bindS H
      refine W_callN 2 fn32 (fun h9 hs9 hd9 => ferrymanlaw13_is.con k _ A202 c203 A205 c206 A208 c209 t200.1 (some ⟨b328, 0, none⟩) 2 ([([98] : Str), ([100] : Str)] : List Str) (some ⟨b331, 0, none⟩) 3 ([(1 : Int), (2 : Int), (3 : Int)] : List Int) none 0 ([] : (List Int)) t334 (SlR.mono hs204 (Hp.le_union_left _ _)) (SlR.mono hs207 (Hp.le_union_left _ _)) (SlR.mono hs210 (Hp.le_union_left _ _)) (Sats.row hs9 hd9 0 rfl) (Sats.row hs9 hd9 1 rfl) (SlW.nil _ _) ht335) S rfl rfl (by rintro _ _ _ ⟨_, rfl⟩; exact flat_nil) ?_
      rintro _ w336 _ Γ' E' S ⟨rfl, rfl⟩
      replace E := E.trans E'
      clear E'
      refine W_v (.bool t334) (x_pick (k := true) (congrArg Value.bool hb325) rfl) rfl ?_
      refine Wl_nil ?_
      exact ⟨t334, Option.some.inj H, ⟨rfl, rfl, rfl, rfl, rfl, rfl, rfl, rfl, trivial⟩, E, S.pick [2, 3, 4, 5, 6, 7, 8, 9, 10, 11, 12, 13, 14] (by decide)⟩
    · skip
      refine W_no (skT hb325) rfl ?_
      refine W_no (skT hb325) rfl ?_
      refine W_no (skT hb325) rfl ?_
      refine W_no (skT hb325) rfl ?_
      refine W_v (.bool false) (x_pick (k := false) (congrArg Value.bool hb325) rfl) rfl ?_
      refine Wl_nil ?_
      exact ⟨false, Option.some.inj H, ⟨rfl, rfl, rfl, rfl, rfl, rfl, rfl, rfl, trivial⟩, E, S.pick [0, 1, 2, 3, 4, 5, 6, 7, 8, 9, 10, 11, 12] (by decide)⟩
  clear o327h
  rintro ρ w337 ⟨x326, rfl, hρ, E, S⟩
  rw [agree_eta hρ]
  clear hρ
  have H := o327H
  clear o327H
  refine W_v (.bool x326) (x_move rfl) rfl ?_
  obtain ⟨o352, o352h, o352H⟩ := bindS H
  clear H
  refine Wl_cutN 4 (fun ρ w' => ∃ (x351 : Bool), (x351) = o352 ∧ Agree ρ [(19, .pointer (some ⟨b237, 0, none⟩)), (20, .int .i64 t225.2), (21, .pointer (some ⟨b253, 0, none⟩)), (22, .int .i64 t241.2), (23, .pointer (some ⟨b269, 0, none⟩)), (24, .int .i64 t257.2), (185, .bool x351)] ∧ Ext w w' ∧ St w' M221 F [Blk b269 (.cells #[.bool t257.1.Leaf, .slice A259 t257.1.Keys.length c260, .slice A262 t257.1.Kids.length c263, .slice A265 t257.1.Rows.length c266] 26 (0, 0)), Row rStr 9 (.slice A259 t257.1.Keys.length c260) t257.1.Keys, Row (rInt .i64) 3 (.slice A262 t257.1.Kids.length c263) t257.1.Kids, Row (rInt .u64) 41 (.slice A265 t257.1.Rows.length c266) t257.1.Rows, Blk b253 (.cells #[.bool t241.1.Leaf, .slice A243 t241.1.Keys.length c244, .slice A246 t241.1.Kids.length c247, .slice A249 t241.1.Rows.length c250] 26 (0, 0)), Row rStr 9 (.slice A243 t241.1.Keys.length c244) t241.1.Keys, Row (rInt .i64) 3 (.slice A246 t241.1.Kids.length c247) t241.1.Kids, Row (rInt .u64) 41 (.slice A249 t241.1.Rows.length c250) t241.1.Rows, Blk b237 (.cells #[.bool t225.1.Leaf, .slice A227 t225.1.Keys.length c228, .slice A230 t225.1.Kids.length c231, .slice A233 t225.1.Rows.length c234] 26 (0, 0)), Row rStr 9 (.slice A227 t225.1.Keys.length c228) t225.1.Keys, Row (rInt .i64) 3 (.slice A230 t225.1.Kids.length c231) t225.1.Kids, Row (rInt .u64) 41 (.slice A233 t225.1.Rows.length c234) t225.1.Rows]) ?_ ?_
  · have H := o352h
    rcases iteS H with ⟨hb350, H⟩ | ⟨hb350, H⟩
    · skip
      refine W_yes (congrArg some hb350) ?_
      refine W_v (.agg #[.bool t200.2.1.Leaf, .slice A211 t200.2.1.Keys.length c212, .slice A214 t200.2.1.Kids.length c215, .slice A217 t200.2.1.Rows.length c218]) (x_loadA (S.blk 12 rfl) ty26 rfl (sub_of_extract rfl) rfl rfl) rfl ?_
      refine W_yes (congrArg some hb350) ?_
      refine W_bslice S #[.int .i64 4] Try.underlying23 ty3 rfl rfl #[.int .i64 0] (by kernel_rfl) (by kernel_rfl) rfl ?_
      intro b353 w354 E' S
      replace E := E.trans E'
      clear E'
      replace S := S.blk_row (r := (rInt .i64)) (l := ([(4 : Int)] : List Int)) 0 rfl 1 (Nat.le_refl 1) rfl (Cells.cons (vs := [.int .i64 4]) (rfl) Cells.nil)
      refine W_yes (congrArg some hb350) ?_
      obtain ⟨t356, ht357, H⟩ := bindS H
      refine W_callN 1 fn32 (fun h9 hs9 hd9 => ferrymanlaw13_is.con k _ A211 c212 A214 c215 A217 c218 t200.2.1 none 0 ([] : (List Str)) (some ⟨b353, 0, none⟩) 1 ([(4 : Int)] : List Int) none 0 ([] : (List Int)) t356 (SlR.mono hs213 (Hp.le_union_left _ _)) (SlR.mono hs216 (Hp.le_union_left _ _)) (SlR.mono hs219 (Hp.le_union_left _ _)) (SlW.nil _ _) (Sats.row hs9 hd9 0 rfl) (SlW.nil _ _) ht357) S rfl rfl (by rintro _ _ _ ⟨_, rfl⟩; exact flat_nil) ?_
      rintro _ w358 _ Γ' E' S ⟨rfl, rfl⟩
      replace E := E.trans E'
      clear E'
      refine W_v (.bool t356) (x_pick (k := true) (congrArg Value.bool hb350) rfl) rfl ?_
      refine Wl_nil ?_
      exact ⟨t356, Option.some.inj H, ⟨rfl, rfl, rfl, rfl, rfl, rfl, rfl, trivial⟩, E, S.pick [1, 2, 3, 4, 5, 6, 7, 8, 9, 10, 11, 12] (by decide)⟩
    · skip
      refine W_no (skT hb350) rfl ?_
      refine W_no (skT hb350) rfl ?_
      refine W_no (skT hb350) rfl ?_
      refine W_v (.bool false) (x_pick (k := false) (congrArg Value.bool hb350) rfl) rfl ?_
      refine Wl_nil ?_
      exact ⟨false, Option.some.inj H, ⟨rfl, rfl, rfl, rfl, rfl, rfl, rfl, trivial⟩, E, S.pick [0, 1, 2, 3, 4, 5, 6, 7, 8, 9, 10, 11] (by decide)⟩
  clear o352h
  rintro ρ w359 ⟨x351, rfl, hρ, E, S⟩
  rw [agree_eta hρ]
  clear hρ
  have H := o352H
  clear o352H
  refine W_v (.bool x351) (x_move rfl) rfl ?_
  refine Wl_cutN 3 (fun ρ w' => Agree ρ [(19, .pointer (some ⟨b237, 0, none⟩)), (21, .pointer (some ⟨b253, 0, none⟩)), (22, .int .i64 t241.2), (23, .pointer (some ⟨b269, 0, none⟩)), (24, .int .i64 t257.2), (189, .bool (x351 && (t225.2 == (0 : Int))))] ∧ w359 = w') ?_ ?_
  · rcases boolCases x351 with hb360 | hb360
    · skip
      refine W_no (skT hb360) rfl ?_
      refine W_no (skT hb360) rfl ?_
      refine W_v (.bool false) (x_pick (k := false) (congrArg Value.bool hb360) rfl) rfl ?_
      refine Wl_nil ?_
      exact ⟨⟨rfl, rfl, rfl, rfl, rfl, (by first | rfl | (rw [hb360]; rfl) | (simp only [hb360]; rfl)), trivial⟩, rfl⟩
    · skip
      refine W_yes (congrArg some hb360) ?_
      refine W_v (.int .i64 t225.2) (x_move rfl) rfl ?_
      refine W_yes (congrArg some hb360) ?_
      refine W_v (.bool (t225.2 == (0 : Int))) (x_ibin rfl rfl rfl rfl) rfl ?_
      refine W_v (.bool (t225.2 == (0 : Int))) (x_pick (k := true) (congrArg Value.bool hb360) rfl) rfl ?_
      refine Wl_nil ?_
      exact ⟨⟨rfl, rfl, rfl, rfl, rfl, (by first | rfl | (rw [hb360]; rfl) | (simp only [hb360]; rfl)), trivial⟩, rfl⟩
  rintro ρ _ ⟨hρ, rfl⟩
  rw [agree_eta hρ]
  clear hρ
  refine W_v (.bool (x351 && (t225.2 == (0 : Int)))) (x_move rfl) rfl ?_
  obtain ⟨o381, o381h, o381H⟩ := bindS H
  clear H
  refine Wl_cutN 5 (fun ρ w' => ∃ (x380 : Bool), (x380) = o381 ∧ Agree ρ [(21, .pointer (some ⟨b253, 0, none⟩)), (22, .int .i64 t241.2), (23, .pointer (some ⟨b269, 0, none⟩)), (24, .int .i64 t257.2), (195, .bool x380)] ∧ Ext w w' ∧ St w' M221 F [Blk b269 (.cells #[.bool t257.1.Leaf, .slice A259 t257.1.Keys.length c260, .slice A262 t257.1.Kids.length c263, .slice A265 t257.1.Rows.length c266] 26 (0, 0)), Row rStr 9 (.slice A259 t257.1.Keys.length c260) t257.1.Keys, Row (rInt .i64) 3 (.slice A262 t257.1.Kids.length c263) t257.1.Kids, Row (rInt .u64) 41 (.slice A265 t257.1.Rows.length c266) t257.1.Rows, Blk b253 (.cells #[.bool t241.1.Leaf, .slice A243 t241.1.Keys.length c244, .slice A246 t241.1.Kids.length c247, .slice A249 t241.1.Rows.length c250] 26 (0, 0)), Row rStr 9 (.slice A243 t241.1.Keys.length c244) t241.1.Keys, Row (rInt .i64) 3 (.slice A246 t241.1.Kids.length c247) t241.1.Kids, Row (rInt .u64) 41 (.slice A249 t241.1.Rows.length c250) t241.1.Rows]) ?_ ?_
  · have H := o381h
    rcases iteS H with ⟨hb379, H⟩ | ⟨hb379, H⟩
    · skip
      refine W_yes (congrArg some hb379) ?_
      refine W_v (.agg #[.bool t225.1.Leaf, .slice A227 t225.1.Keys.length c228, .slice A230 t225.1.Kids.length c231, .slice A233 t225.1.Rows.length c234]) (x_loadA (S.blk 8 rfl) ty26 rfl (sub_of_extract rfl) rfl rfl) rfl ?_
      refine W_yes (congrArg some hb379) ?_
      refine W_bslice S #[.string (bs ([98] : Str)), .string (bs ([100] : Str)), .string (bs ([101] : Str)), .string (bs ([102] : Str))] Try.underlying22 ty9 rfl rfl #[.string (bs ([] : Str)), .string (bs ([] : Str)), .string (bs ([] : Str)), .string (bs ([] : Str))] (by kernel_rfl) (by kernel_rfl) rfl ?_
      intro b382 w383 E' S
      replace E := E.trans E'
      clear E'
      replace S := S.blk_row (r := rStr) (l := ([([98] : Str), ([100] : Str), ([101] : Str), ([102] : Str)] : List Str)) 0 rfl 4 (Nat.le_refl 4) rfl (Cells.cons (vs := [.string (bs ([98] : Str))]) (rfl) (Cells.cons (vs := [.string (bs ([100] : Str))]) (rfl) (Cells.cons (vs := [.string (bs ([101] : Str))]) (rfl) (Cells.cons (vs := [.string (bs ([102] : Str))]) (rfl) Cells.nil))))
      refine W_yes (congrArg some hb379) ?_
      refine W_bslice S #[.int .i64 1, .int .i64 2, .int .i64 3, .int .i64 9, .int .i64 4] Try.underlying23 ty3 rfl rfl #[.int .i64 0, .int .i64 0, .int .i64 0, .int .i64 0, .int .i64 0] (by kernel_rfl) (by kernel_rfl) rfl ?_
      intro b385 w386 E' S
      replace E := E.trans E'
      clear E'
      replace S := S.blk_row (r := (rInt .i64)) (l := ([(1 : Int), (2 : Int), (3 : Int), (9 : Int), (4 : Int)] : List Int)) 0 rfl 5 (Nat.le_refl 5) rfl (Cells.cons (vs := [.int .i64 1]) (rfl) (Cells.cons (vs := [.int .i64 2]) (rfl) (Cells.cons (vs := [.int .i64 3]) (rfl) (Cells.cons (vs := [.int .i64 9]) (rfl) (Cells.cons (vs := [.int .i64 4]) (rfl) Cells.nil)))))
      refine W_yes (congrArg some hb379) ?_
      replace S : St w386 M221 F [Row rStr 9 (.slice A227 t225.1.Keys.length c228) t225.1.Keys, Row (rInt .i64) 3 (.slice A230 t225.1.Kids.length c231) t225.1.Kids, Row (rInt .u64) 41 (.slice A233 t225.1.Rows.length c234) t225.1.Rows, Row rStr 9 (.slice (some ⟨b382, 0, none⟩) ([([98] : Str), ([100] : Str), ([101] : Str), ([102] : Str)] : List Str).length 4) ([([98] : Str), ([100] : Str), ([101] : Str), ([102] : Str)] : List Str), Row (rInt .i64) 3 (.slice (some ⟨b385, 0, none⟩) ([(1 : Int), (2 : Int), (3 : Int), (9 : Int), (4 : Int)] : List Int).length 5) ([(1 : Int), (2 : Int), (3 : Int), (9 : Int), (4 : Int)] : List Int), Blk b269 (.cells #[.bool t257.1.Leaf, .slice A259 t257.1.Keys.length c260, .slice A262 t257.1.Kids.length c263, .slice A265 t257.1.Rows.length c266] 26 (0, 0)), Row rStr 9 (.slice A259 t257.1.Keys.length c260) t257.1.Keys, Row (rInt .i64) 3 (.slice A262 t257.1.Kids.length c263) t257.1.Kids, Row (rInt .u64) 41 (.slice A265 t257.1.Rows.length c266) t257.1.Rows, Blk b253 (.cells #[.bool t241.1.Leaf, .slice A243 t241.1.Keys.length c244, .slice A246 t241.1.Kids.length c247, .slice A249 t241.1.Rows.length c250] 26 (0, 0)), Row rStr 9 (.slice A243 t241.1.Keys.length c244) t241.1.Keys, Row (rInt .i64) 3 (.slice A246 t241.1.Kids.length c247) t241.1.Kids, Row (rInt .u64) 41 (.slice A249 t241.1.Rows.length c250) t241.1.Rows, Blk b237 (.cells #[.bool t225.1.Leaf, .slice A227 t225.1.Keys.length c228, .slice A230 t225.1.Kids.length c231, .slice A233 t225.1.Rows.length c234] 26 (0, 0))] := S.pick [11, 12, 13, 1, 0, 2, 3, 4, 5, 6, 7, 8, 9, 10] (by decide)
      obtain ⟨t388, ht389, H⟩ := bindS H
      refine W_callN 5 fn32 (fun h9 hs9 hd9 => ferrymanlaw13_is.con k _ A227 c228 A230 c231 A233 c234 t225.1 (some ⟨b382, 0, none⟩) 4 ([([98] : Str), ([100] : Str), ([101] : Str), ([102] : Str)] : List Str) (some ⟨b385, 0, none⟩) 5 ([(1 : Int), (2 : Int), (3 : Int), (9 : Int), (4 : Int)] : List Int) none 0 ([] : (List Int)) t388 (Sats.row hs9 hd9 0 rfl) (Sats.row hs9 hd9 1 rfl) (Sats.row hs9 hd9 2 rfl) (Sats.row hs9 hd9 3 rfl) (Sats.row hs9 hd9 4 rfl) (SlW.nil _ _) ht389) S rfl rfl (by rintro _ _ _ ⟨_, rfl⟩; exact flat_nil) ?_
      rintro _ w390 _ Γ' E' S ⟨rfl, rfl⟩
      replace E := E.trans E'
      clear E'
      refine W_v (.bool t388) (x_pick (k := true) (congrArg Value.bool hb379) rfl) rfl ?_
      refine Wl_nil ?_
      exact ⟨t388, Option.some.inj H, ⟨rfl, rfl, rfl, rfl, rfl, trivial⟩, E, S.pick [5, 6, 7, 8, 9, 10, 11, 12] (by decide)⟩
    · skip
      refine W_no (skT hb379) rfl ?_
      refine W_no (skT hb379) rfl ?_
      refine W_no (skT hb379) rfl ?_
      refine W_no (skT hb379) rfl ?_
      refine W_v (.bool false) (x_pick (k := false) (congrArg Value.bool hb379) rfl) rfl ?_
      refine Wl_nil ?_
      exact ⟨false, Option.some.inj H, ⟨rfl, rfl, rfl, rfl, rfl, trivial⟩, E, S.pick [0, 1, 2, 3, 4, 5, 6, 7] (by decide)⟩
  clear o381h
  rintro ρ w391 ⟨x380, rfl, hρ, E, S⟩
  rw [agree_eta hρ]
  clear hρ
  have H := o381H
  clear o381H
  refine W_v (.bool x380) (x_move rfl) rfl ?_
  refine Wl_cutN 3 (fun ρ w' => Agree ρ [(21, .pointer (some ⟨b253, 0, none⟩)), (23, .pointer (some ⟨b269, 0, none⟩)), (24, .int .i64 t257.2), (199, .bool (x380 && (t241.2 == (0 : Int))))] ∧ w391 = w') ?_ ?_
  · rcases boolCases x380 with hb392 | hb392
    · skip
      refine W_no (skT hb392) rfl ?_
      refine W_no (skT hb392) rfl ?_
      refine W_v (.bool false) (x_pick (k := false) (congrArg Value.bool hb392) rfl) rfl ?_
      refine Wl_nil ?_
      exact ⟨⟨rfl, rfl, rfl, (by first | rfl | (rw [hb392]; rfl) | (simp only [hb392]; rfl)), trivial⟩, rfl⟩
    · skip
      refine W_yes (congrArg some hb392) ?_
      refine W_v (.int .i64 t241.2) (x_move rfl) rfl ?_
      refine W_yes (congrArg some hb392) ?_
      refine W_v (.bool (t241.2 == (0 : Int))) (x_ibin rfl rfl rfl rfl) rfl ?_
      refine W_v (.bool (t241.2 == (0 : Int))) (x_pick (k := true) (congrArg Value.bool hb392) rfl) rfl ?_
      refine Wl_nil ?_
      exact ⟨⟨rfl, rfl, rfl, (by first | rfl | (rw [hb392]; rfl) | (simp only [hb392]; rfl)), trivial⟩, rfl⟩
  rintro ρ _ ⟨hρ, rfl⟩
  rw [agree_eta hρ]
  clear hρ
  refine W_v (.bool (x380 && (t241.2 == (0 : Int)))) (x_move rfl) rfl ?_
  obtain ⟨o413, o413h, o413H⟩ := bindS H
  clear H
  refine Wl_cutN 5 (fun ρ w' => ∃ (x412 : Bool), (x412) = o413 ∧ Agree ρ [(23, .pointer (some ⟨b269, 0, none⟩)), (24, .int .i64 t257.2), (205, .bool x412)] ∧ Ext w w' ∧ St w' M221 F [Blk b269 (.cells #[.bool t257.1.Leaf, .slice A259 t257.1.Keys.length c260, .slice A262 t257.1.Kids.length c263, .slice A265 t257.1.Rows.length c266] 26 (0, 0)), Row rStr 9 (.slice A259 t257.1.Keys.length c260) t257.1.Keys, Row (rInt .i64) 3 (.slice A262 t257.1.Kids.length c263) t257.1.Kids, Row (rInt .u64) 41 (.slice A265 t257.1.Rows.length c266) t257.1.Rows]) ?_ ?_
  · have H := o413h
    rcases iteS H with ⟨hb411, H⟩ | ⟨hb411, H⟩
    · skip
      refine W_yes (congrArg some hb411) ?_
      refine W_v (.agg #[.bool t241.1.Leaf, .slice A243 t241.1.Keys.length c244, .slice A246 t241.1.Kids.length c247, .slice A249 t241.1.Rows.length c250]) (x_loadA (S.blk 4 rfl) ty26 rfl (sub_of_extract rfl) rfl rfl) rfl ?_
      refine W_yes (congrArg some hb411) ?_
      refine W_bslice S #[.string (bs ([100] : Str)), .string (bs ([102] : Str))] Try.underlying22 ty9 rfl rfl #[.string (bs ([] : Str)), .string (bs ([] : Str))] (by kernel_rfl) (by kernel_rfl) rfl ?_
      intro b414 w415 E' S
      replace E := E.trans E'
      clear E'
      replace S := S.blk_row (r := rStr) (l := ([([100] : Str), ([102] : Str)] : List Str)) 0 rfl 2 (Nat.le_refl 2) rfl (Cells.cons (vs := [.string (bs ([100] : Str))]) (rfl) (Cells.cons (vs := [.string (bs ([102] : Str))]) (rfl) Cells.nil))
      refine W_yes (congrArg some hb411) ?_
      refine W_bslice S #[.int .i64 2, .int .i64 3, .int .i64 4] Try.underlying23 ty3 rfl rfl #[.int .i64 0, .int .i64 0, .int .i64 0] (by kernel_rfl) (by kernel_rfl) rfl ?_
      intro b417 w418 E' S
      replace E := E.trans E'
      clear E'
      replace S := S.blk_row (r := (rInt .i64)) (l := ([(2 : Int), (3 : Int), (4 : Int)] : List Int)) 0 rfl 3 (Nat.le_refl 3) rfl (Cells.cons (vs := [.int .i64 2]) (rfl) (Cells.cons (vs := [.int .i64 3]) (rfl) (Cells.cons (vs := [.int .i64 4]) (rfl) Cells.nil)))
      refine W_yes (congrArg some hb411) ?_
      replace S : St w418 M221 F [Row rStr 9 (.slice A243 t241.1.Keys.length c244) t241.1.Keys, Row (rInt .i64) 3 (.slice A246 t241.1.Kids.length c247) t241.1.Kids, Row (rInt .u64) 41 (.slice A249 t241.1.Rows.length c250) t241.1.Rows, Row rStr 9 (.slice (some ⟨b414, 0, none⟩) ([([100] : Str), ([102] : Str)] : List Str).length 2) ([([100] : Str), ([102] : Str)] : List Str), Row (rInt .i64) 3 (.slice (some ⟨b417, 0, none⟩) ([(2 : Int), (3 : Int), (4 : Int)] : List Int).length 3) ([(2 : Int), (3 : Int), (4 : Int)] : List Int), Blk b269 (.cells #[.bool t257.1.Leaf, .slice A259 t257.1.Keys.length c260, .slice A262 t257.1.Kids.length c263, .slice A265 t257.1.Rows.length c266] 26 (0, 0)), Row rStr 9 (.slice A259 t257.1.Keys.length c260) t257.1.Keys, Row (rInt .i64) 3 (.slice A262 t257.1.Kids.length c263) t257.1.Kids, Row (rInt .u64) 41 (.slice A265 t257.1.Rows.length c266) t257.1.Rows, Blk b253 (.cells #[.bool t241.1.Leaf, .slice A243 t241.1.Keys.length c244, .slice A246 t241.1.Kids.length c247, .slice A249 t241.1.Rows.length c250] 26 (0, 0))] := S.pick [7, 8, 9, 1, 0, 2, 3, 4, 5, 6] (by decide)
      obtain ⟨t420, ht421, H⟩ := bindS H
      refine W_callN 5 fn32 (fun h9 hs9 hd9 => ferrymanlaw13_is.con k _ A243 c244 A246 c247 A249 c250 t241.1 (some ⟨b414, 0, none⟩) 2 ([([100] : Str), ([102] : Str)] : List Str) (some ⟨b417, 0, none⟩) 3 ([(2 : Int), (3 : Int), (4 : Int)] : List Int) none 0 ([] : (List Int)) t420 (Sats.row hs9 hd9 0 rfl) (Sats.row hs9 hd9 1 rfl) (Sats.row hs9 hd9 2 rfl) (Sats.row hs9 hd9 3 rfl) (Sats.row hs9 hd9 4 rfl) (SlW.nil _ _) ht421) S rfl rfl (by rintro _ _ _ ⟨_, rfl⟩; exact flat_nil) ?_
      rintro _ w422 _ Γ' E' S ⟨rfl, rfl⟩
      replace E := E.trans E'
      clear E'
      refine W_v (.bool t420) (x_pick (k := true) (congrArg Value.bool hb411) rfl) rfl ?_
      refine Wl_nil ?_
      exact ⟨t420, Option.some.inj H, ⟨rfl, rfl, rfl, trivial⟩, E, S.pick [5, 6, 7, 8] (by decide)⟩
    · skip
      refine W_no (skT hb411) rfl ?_
      refine W_no (skT hb411) rfl ?_
      refine W_no (skT hb411) rfl ?_
      refine W_no (skT hb411) rfl ?_
      refine W_v (.bool false) (x_pick (k := false) (congrArg Value.bool hb411) rfl) rfl ?_
      refine Wl_nil ?_
      exact ⟨false, Option.some.inj H, ⟨rfl, rfl, rfl, trivial⟩, E, S.pick [0, 1, 2, 3] (by decide)⟩
  clear o413h
  rintro ρ w423 ⟨x412, rfl, hρ, E, S⟩
  rw [agree_eta hρ]
  clear hρ
  have H := o413H
  clear o413H
  refine W_v (.bool x412) (x_move rfl) rfl ?_
  refine Wl_cutN 3 (fun ρ w' => Agree ρ [(23, .pointer (some ⟨b269, 0, none⟩)), (209, .bool (x412 && (t257.2 == (0 : Int))))] ∧ w423 = w') ?_ ?_
  · rcases boolCases x412 with hb424 | hb424
    · skip
      refine W_no (skT hb424) rfl ?_
      refine W_no (skT hb424) rfl ?_
      refine W_v (.bool false) (x_pick (k := false) (congrArg Value.bool hb424) rfl) rfl ?_
      refine Wl_nil ?_
      exact ⟨⟨rfl, (by first | rfl | (rw [hb424]; rfl) | (simp only [hb424]; rfl)), trivial⟩, rfl⟩
    · skip
      refine W_yes (congrArg some hb424) ?_
      refine W_v (.int .i64 t257.2) (x_move rfl) rfl ?_
      refine W_yes (congrArg some hb424) ?_
      refine W_v (.bool (t257.2 == (0 : Int))) (x_ibin rfl rfl rfl rfl) rfl ?_
      refine W_v (.bool (t257.2 == (0 : Int))) (x_pick (k := true) (congrArg Value.bool hb424) rfl) rfl ?_
      refine Wl_nil ?_
      exact ⟨⟨rfl, (by first | rfl | (rw [hb424]; rfl) | (simp only [hb424]; rfl)), trivial⟩, rfl⟩
  rintro ρ _ ⟨hρ, rfl⟩
  rw [agree_eta hρ]
  clear hρ
  refine W_v (.bool (x412 && (t257.2 == (0 : Int)))) (x_move rfl) rfl ?_
  obtain ⟨o445, o445h, o445H⟩ := bindS H
  clear H
  refine Wl_cutN 5 (fun ρ w' => ∃ (x444 : Bool), (x444) = o445 ∧ Agree ρ [(215, .bool x444)] ∧ Ext w w' ∧ St w' M221 F []) ?_ ?_
  · have H := o445h
    rcases iteS H with ⟨hb443, H⟩ | ⟨hb443, H⟩
    · skip
      refine W_yes (congrArg some hb443) ?_
      refine W_v (.agg #[.bool t257.1.Leaf, .slice A259 t257.1.Keys.length c260, .slice A262 t257.1.Kids.length c263, .slice A265 t257.1.Rows.length c266]) (x_loadA (S.blk 0 rfl) ty26 rfl (sub_of_extract rfl) rfl rfl) rfl ?_
      refine W_yes (congrArg some hb443) ?_
      refine W_bslice S #[.string (bs ([98] : Str)), .string (bs ([100] : Str))] Try.underlying22 ty9 rfl rfl #[.string (bs ([] : Str)), .string (bs ([] : Str))] (by kernel_rfl) (by kernel_rfl) rfl ?_
      intro b446 w447 E' S
      replace E := E.trans E'
      clear E'
      replace S := S.blk_row (r := rStr) (l := ([([98] : Str), ([100] : Str)] : List Str)) 0 rfl 2 (Nat.le_refl 2) rfl (Cells.cons (vs := [.string (bs ([98] : Str))]) (rfl) (Cells.cons (vs := [.string (bs ([100] : Str))]) (rfl) Cells.nil))
      refine W_yes (congrArg some hb443) ?_
      refine W_bslice S #[.int .i64 1, .int .i64 2, .int .i64 3] Try.underlying23 ty3 rfl rfl #[.int .i64 0, .int .i64 0, .int .i64 0] (by kernel_rfl) (by kernel_rfl) rfl ?_
      intro b449 w450 E' S
      replace E := E.trans E'
      clear E'
      replace S := S.blk_row (r := (rInt .i64)) (l := ([(1 : Int), (2 : Int), (3 : Int)] : List Int)) 0 rfl 3 (Nat.le_refl 3) rfl (Cells.cons (vs := [.int .i64 1]) (rfl) (Cells.cons (vs := [.int .i64 2]) (rfl) (Cells.cons (vs := [.int .i64 3]) (rfl) Cells.nil)))
      refine W_yes (congrArg some hb443) ?_
      replace S : St w450 M221 F [Row rStr 9 (.slice A259 t257.1.Keys.length c260) t257.1.Keys, Row (rInt .i64) 3 (.slice A262 t257.1.Kids.length c263) t257.1.Kids, Row (rInt .u64) 41 (.slice A265 t257.1.Rows.length c266) t257.1.Rows, Row rStr 9 (.slice (some ⟨b446, 0, none⟩) ([([98] : Str), ([100] : Str)] : List Str).length 2) ([([98] : Str), ([100] : Str)] : List Str), Row (rInt .i64) 3 (.slice (some ⟨b449, 0, none⟩) ([(1 : Int), (2 : Int), (3 : Int)] : List Int).length 3) ([(1 : Int), (2 : Int), (3 : Int)] : List Int), Blk b269 (.cells #[.bool t257.1.Leaf, .slice A259 t257.1.Keys.length c260, .slice A262 t257.1.Kids.length c263, .slice A265 t257.1.Rows.length c266] 26 (0, 0))] := S.pick [3, 4, 5, 1, 0, 2] (by decide)
      obtain ⟨t452, ht453, H⟩ := bindS H
      refine W_callN 5 fn32 (fun h9 hs9 hd9 => ferrymanlaw13_is.con k _ A259 c260 A262 c263 A265 c266 t257.1 (some ⟨b446, 0, none⟩) 2 ([([98] : Str), ([100] : Str)] : List Str) (some ⟨b449, 0, none⟩) 3 ([(1 : Int), (2 : Int), (3 : Int)] : List Int) none 0 ([] : (List Int)) t452 (Sats.row hs9 hd9 0 rfl) (Sats.row hs9 hd9 1 rfl) (Sats.row hs9 hd9 2 rfl) (Sats.row hs9 hd9 3 rfl) (Sats.row hs9 hd9 4 rfl) (SlW.nil _ _) ht453) S rfl rfl (by rintro _ _ _ ⟨_, rfl⟩; exact flat_nil) ?_
      rintro _ w454 _ Γ' E' S ⟨rfl, rfl⟩
      replace E := E.trans E'
      clear E'
      refine W_v (.bool t452) (x_pick (k := true) (congrArg Value.bool hb443) rfl) rfl ?_
      refine Wl_nil ?_
      exact ⟨t452, Option.some.inj H, ⟨rfl, trivial⟩, E, S.pick [] (by decide)⟩
    · skip
      refine W_no (skT hb443) rfl ?_
      refine W_no (skT hb443) rfl ?_
      refine W_no (skT hb443) rfl ?_
      refine W_no (skT hb443) rfl ?_
      refine W_v (.bool false) (x_pick (k := false) (congrArg Value.bool hb443) rfl) rfl ?_
      refine Wl_nil ?_
      exact ⟨false, Option.some.inj H, ⟨rfl, trivial⟩, E, S.pick [] (by decide)⟩
  clear o445h
  rintro ρ w455 ⟨x444, rfl, hρ, E, S⟩
  rw [agree_eta hρ]
  clear hρ
  have H := o445H
  clear o445H
  refine W_v (.bool x444) (x_assign rfl) rfl ?_
  refine Wl_nil ?_
  refine tn ?_
  refine Wp_ret ?_
  obtain rfl := Option.some.inj H
  exact ⟨_, _, _, fun w1 e1 => run_resR (vs := [.bool x444]) (FA.cons (rfl) (FA.nil)), HM, E, S.pick [] (by decide), ⟨rfl, rfl⟩⟩
/-! ### ferryman/fork.Take: function 18 -/
def fork_Take (k : Nat) (a0 : fork_Node) (a1 : Str) : Option (fork_Node × Int) :=
  (Option.bind (fork_Place k a0 a1) (fun t7 => (Option.bind (α := Bool) (if (!a0.Leaf) = true then some (true) else (Option.bind (fork_May k a0) (fun t19 => some ((!t19))))) (fun x17 => (if x17 = true then some ((⟨false, ([] : (List Str)), ([] : (List Int)), ([] : (List Int))⟩ : fork_Node), (4 : Int)) else (if (!t7.2) = true then some ((⟨false, ([] : (List Str)), ([] : (List Int)), ([] : (List Int))⟩ : fork_Node), (5 : Int)) else (Option.bind (fork_with_string k a0.Keys t7.1 (1 : Int) ([] : (List Str))) (fun t48 => (Option.bind (fork_with_api_Handle k a0.Rows t7.1 (1 : Int) ([] : (List Int))) (fun t54 => some ((⟨true, t48, ([] : (List Int)), t54⟩ : fork_Node), (0 : Int))))))))))))
set_option maxHeartbeats 2000000 in
theorem fork_Take.mono {k : Nat} {a0 : fork_Node} {a1 : Str} : OLe (fork_Take k a0 a1) (fork_Take (k + 1) a0 a1) := by
  unfold fork_Take
  repeat' (first | with_reducible exact OLe.none | with_reducible exact OLe.some | with_reducible refine OLe.ite ?_ ?_ | with_reducible refine OLe.bind ?_ (fun _ => ?_) | with_reducible exact fork_May.mono | with_reducible exact fork_Place.mono | with_reducible exact fork_with_api_Handle.mono | with_reducible exact fork_with_string.mono | refine OLe.bind ?_ (fun _ => ?_) | refine OLe.ite ?_ ?_ | refine OLe.elim (fun _ => ?_) (fun _ => ?_) | split)
set_option maxHeartbeats 1000000 in
set_option maxRecDepth 100000 in
theorem fork_Take.con (k : Nat) (M : Hp) (A0_0 : Option Addr) (c0_0 : Nat) (A0_1 : Option Addr) (c0_1 : Nat) (A0_2 : Option Addr) (c0_2 : Nat) (a0 : fork_Node) (a1 : Str) (r : fork_Node × Int) (hr0_0 : SlR rStr M (.slice A0_0 a0.Keys.length c0_0) a0.Keys) (hr0_1 : SlR (rInt .i64) M (.slice A0_1 a0.Kids.length c0_1) a0.Kids) (hr0_2 : SlR (rInt .u64) M (.slice A0_2 a0.Rows.length c0_2) a0.Rows) (h : fork_Take k a0 a1 = some r) : Con Try.prog 18 #[.agg #[.bool a0.Leaf, .slice A0_0 a0.Keys.length c0_0, .slice A0_1 a0.Kids.length c0_1, .slice A0_2 a0.Rows.length c0_2], .string (bs a1)] M [] (fun v M' Γ' => ∃ (A0 : Option Addr) (c0 : Nat) (A1 : Option Addr) (c1 : Nat) (A2 : Option Addr) (c2 : Nat), v = .tuple #[.agg #[.bool r.1.Leaf, .slice A0 r.1.Keys.length c0, .slice A1 r.1.Kids.length c1, .slice A2 r.1.Rows.length c2], .int .i64 r.2] ∧ Γ' = [Row rStr 9 (.slice A0 r.1.Keys.length c0) r.1.Keys, Row (rInt .i64) 3 (.slice A1 r.1.Kids.length c1) r.1.Kids, Row (rInt .u64) 41 (.slice A2 r.1.Rows.length c2) r.1.Rows]) := by
  refine con_of_wp Try.func18 rfl Try.ntmps18 Try.results18 rfl ?_
  intro w F rn S hrn
  have E := Ext.refl w
  have HM := Hp.le_refl M
  have H := h
  unfold fork_Take at H
  refine Wp_seq ?_
  refine Wp_region_lit ?_
  refine W_box S #[.bool a0.Leaf, .slice A0_0 a0.Keys.length c0_0, .slice A0_1 a0.Kids.length c0_1, .slice A0_2 a0.Rows.length c0_2] rfl rfl rfl ?_
  intro b1 w2 E' S
  replace E := E.trans E'
  clear E'
  refine W_alloc S #[.bool false, .slice none 0 0, .slice none 0 0, .slice none 0 0] ty26 rfl rfl ?_
  intro b4 w5 E' S
  replace E := E.trans E'
  clear E'
  refine W_v (.int .i64 0) (x_assign rfl) rfl ?_
  refine Wl_nil ?_
  refine tn ?_
  refine Wp_seq ?_
  refine Wp_region_lit ?_
  refine W_v (.agg #[.bool a0.Leaf, .slice A0_0 a0.Keys.length c0_0, .slice A0_1 a0.Kids.length c0_1, .slice A0_2 a0.Rows.length c0_2]) (x_loadA (S.blk 1 rfl) ty26 rfl (sub_of_extract rfl) rfl rfl) rfl ?_
  refine W_v (.string (bs a1)) (x_move rfl) rfl ?_
  obtain ⟨t7, ht8, H⟩ := bindS H
  refine W_callF fn12 (fork_Place.con k M A0_0 c0_0 A0_1 c0_1 A0_2 c0_2 a0 a1 t7 hr0_0 hr0_1 hr0_2 ht8) S rfl rfl (by rintro _ _ _ ⟨_, rfl⟩; exact flat_nil) ?_
  rintro _ w9 _ Γ' E' S ⟨rfl, rfl⟩
  replace E := E.trans E'
  clear E'
  refine W_v (.tuple #[.int .i64 t7.1, .bool t7.2]) (x_move rfl) rfl ?_
  refine W_v (.int .i64 t7.1) (x_extract rfl rfl) rfl ?_
  refine W_v (.bool t7.2) (x_extract rfl rfl) rfl ?_
  refine W_v (.int .i64 t7.1) (x_assign rfl) rfl ?_
  refine W_v (.bool t7.2) (x_assign rfl) rfl ?_
  refine Wl_nil ?_
  refine tn ?_
  refine Wp_seq ?_
  refine Wp_block ?_
  refine Wp_seq ?_
  refine Wp_region_lit ?_
  refine W_v (.pointer (some ⟨b1, 0, none⟩)) (x_fieldAddr (o := 0) (off := 0) Try.underlying26 rfl ty4 rfl rfl) rfl ?_
  refine W_v (.bool a0.Leaf) (x_load (S.blk 1 rfl) ty4 rfl rfl) rfl ?_
  refine W_v (.bool (!a0.Leaf)) (x_not rfl) rfl ?_
  refine W_v (.bool (!a0.Leaf)) (x_move rfl) rfl ?_
  obtain ⟨o18, o18h, o18H⟩ := bindS H
  clear H
  refine Wl_cutN 4 (fun ρ w' => ∃ (x17 : Bool), (x17) = o18 ∧ Agree ρ [(2, .pointer (some ⟨b1, 0, none⟩)), (4, .pointer (some ⟨b4, 0, none⟩)), (6, .int .i64 t7.1), (7, .bool t7.2), (22, .bool x17)] ∧ Ext w w' ∧ St w' M F [Blk b4 (.cells #[.bool false, .slice none 0 0, .slice none 0 0, .slice none 0 0] 26 (0, 0)), Blk b1 (.cells #[.bool a0.Leaf, .slice A0_0 a0.Keys.length c0_0, .slice A0_1 a0.Kids.length c0_1, .slice A0_2 a0.Rows.length c0_2] 26 (0, 0))]) ?_ ?_
  · have H := o18h
    rcases iteS H with ⟨hb16, H⟩ | ⟨hb16, H⟩
    · skip
      refine W_no (skF hb16) rfl ?_
      refine W_no (skF hb16) rfl ?_
      refine W_no (skF hb16) rfl ?_
      refine W_v (.bool true) (x_pick (k := true) (congrArg Value.bool hb16) rfl) rfl ?_
      refine Wl_nil ?_
      exact ⟨true, Option.some.inj H, ⟨rfl, rfl, rfl, rfl, rfl, trivial⟩, E, S.pick [0, 1] (by decide)⟩
    · skip
      refine W_yes (congrArg some hb16) ?_
      refine W_v (.agg #[.bool a0.Leaf, .slice A0_0 a0.Keys.length c0_0, .slice A0_1 a0.Kids.length c0_1, .slice A0_2 a0.Rows.length c0_2]) (x_loadA (S.blk 1 rfl) ty26 rfl (sub_of_extract rfl) rfl rfl) rfl ?_
      refine W_yes (congrArg some hb16) ?_
      obtain ⟨t19, ht20, H⟩ := bindS H
      refine W_callF fn11 (fork_May.con k M A0_0 c0_0 A0_1 c0_1 A0_2 c0_2 a0 t19 hr0_0 hr0_1 hr0_2 ht20) S rfl rfl (by rintro _ _ _ ⟨_, rfl⟩; exact flat_nil) ?_
      rintro _ w21 _ Γ' E' S ⟨rfl, rfl⟩
      replace E := E.trans E'
      clear E'
      refine W_yes (congrArg some hb16) ?_
      refine W_v (.bool (!t19)) (x_not rfl) rfl ?_
      refine W_v (.bool (!t19)) (x_pick (k := false) (congrArg Value.bool hb16) rfl) rfl ?_
      refine Wl_nil ?_
      exact ⟨(!t19), Option.some.inj H, ⟨rfl, rfl, rfl, rfl, rfl, trivial⟩, E, S.pick [0, 1] (by decide)⟩
  clear o18h
  rintro ρ w22 ⟨x17, rfl, hρ, E, S⟩
  rw [agree_eta hρ]
  clear hρ
  have H := o18H
  clear o18H
  refine W_v (.bool x17) (x_assign rfl) rfl ?_
  refine Wl_nil ?_
  refine tn ?_
  rcases iteS H with ⟨hb23, H⟩ | ⟨hb23, H⟩
  · refine Wp_cond_true (congrArg Value.bool hb23) ?_
    refine Wp_seq ?_
    refine Wp_region_lit ?_
    refine W_v (.agg #[.bool false, .slice none 0 0, .slice none 0 0, .slice none 0 0]) (x_build2 (pl := [(0, 1), (1, 1), (2, 1), (3, 1)]) #[.bool false, .slice none 0 0, .slice none 0 0, .slice none 0 0] Try.underlying26 ty26 (by kernel_rfl) rfl (by kernel_rfl)) rfl ?_
    refine W_store S 0 rfl ty26 rfl rfl [.bool false, .slice none 0 0, .slice none 0 0, .slice none 0 0] rfl rfl rfl #[.bool false, .slice none 0 0, .slice none 0 0, .slice none 0 0] rfl rfl ?_
    intro w24 E' S
    replace E := E.trans E'
    clear E'
    refine W_v (.int .i64 4) (x_assign rfl) rfl ?_
    refine Wl_nil ?_
    refine tn ?_
    refine Wp_ret ?_
    refine br (tr (?_))
    obtain rfl := Option.some.inj H
    replace S := S.row_nil rStr 9
    replace S := S.row_nil (rInt .i64) 3
    replace S := S.row_nil (rInt .u64) 41
    exact ⟨_, _, _, fun w1 e1 => run_resR (vs := [.agg #[.bool false, .slice none 0 0, .slice none 0 0, .slice none 0 0], .int .i64 4]) (FA.cons (⟨_, rfl, run_loadVar_agg ty26 ((S.of_eq e1).blk 3 rfl) (sub_of_extract rfl) rfl (by decide)⟩) (FA.cons (rfl) (FA.nil))), HM, E, S.pick [2, 1, 0] (by decide), ⟨none, 0, none, 0, none, 0, rfl, rfl⟩⟩
  refine Wp_cond_false (congrArg Value.bool hb23) ?_
  refine Wp_seq ?_
  refine Wp_region_lit ?_
  refine W_v (.bool t7.2) (x_move rfl) rfl ?_
  refine W_v (.bool (!t7.2)) (x_not rfl) rfl ?_
  refine W_v (.bool (!t7.2)) (x_assign rfl) rfl ?_
  refine Wl_nil ?_
  refine tn ?_
  rcases iteS H with ⟨hb28, H⟩ | ⟨hb28, H⟩
  · refine Wp_cond_true (congrArg Value.bool hb28) ?_
    refine Wp_seq ?_
    refine Wp_region_lit ?_
    refine W_v (.agg #[.bool false, .slice none 0 0, .slice none 0 0, .slice none 0 0]) (x_build2 (pl := [(0, 1), (1, 1), (2, 1), (3, 1)]) #[.bool false, .slice none 0 0, .slice none 0 0, .slice none 0 0] Try.underlying26 ty26 (by kernel_rfl) rfl (by kernel_rfl)) rfl ?_
    refine W_store S 0 rfl ty26 rfl rfl [.bool false, .slice none 0 0, .slice none 0 0, .slice none 0 0] rfl rfl rfl #[.bool false, .slice none 0 0, .slice none 0 0, .slice none 0 0] rfl rfl ?_
    intro w29 E' S
    replace E := E.trans E'
    clear E'
    refine W_v (.int .i64 5) (x_assign rfl) rfl ?_
    refine Wl_nil ?_
    refine tn ?_
    refine Wp_ret ?_
    refine br (tr (?_))
    obtain rfl := Option.some.inj H
    replace S := S.row_nil rStr 9
    replace S := S.row_nil (rInt .i64) 3
    replace S := S.row_nil (rInt .u64) 41
    exact ⟨_, _, _, fun w1 e1 => run_resR (vs := [.agg #[.bool false, .slice none 0 0, .slice none 0 0, .slice none 0 0], .int .i64 5]) (FA.cons (⟨_, rfl, run_loadVar_agg ty26 ((S.of_eq e1).blk 3 rfl) (sub_of_extract rfl) rfl (by decide)⟩) (FA.cons (rfl) (FA.nil))), HM, E, S.pick [2, 1, 0] (by decide), ⟨none, 0, none, 0, none, 0, rfl, rfl⟩⟩
  refine Wp_cond_false (congrArg Value.bool hb28) ?_
  refine Wp_skip ?_
  refine bn ?_
  refine tn ?_
  refine Wp_seq ?_
  refine Wp_region_any (S := fun w' => ∃ Mx, M.le Mx ∧ St w' Mx F [Blk b1 (.cells #[.bool a0.Leaf, .slice A0_0 a0.Keys.length c0_0, .slice A0_1 a0.Kids.length c0_1, .slice A0_2 a0.Rows.length c0_2] 26 (0, 0))]) mixed ?_
  intro w46 hw47 E'
  replace S := S.heap hw47
  replace E := E.trans E'
  clear E'
  refine Wa_take (i := 0) rfl (by kernel_rfl) rfl rfl (.pointer (some ⟨b1, 1, none⟩)) rfl (fun w' h' => x_fieldAddr (o := 0) (off := 1) Try.underlying26 rfl ty22 rfl rfl) (⟨M, Hp.le_refl M, S.pick [1] (by decide)⟩) ?_
  refine Wa_take (i := 1) rfl (by kernel_rfl) rfl rfl (.slice A0_0 a0.Keys.length c0_0) rfl (fun w' h' => x_load (cls_blk h' 0 rfl) ty22 rfl rfl) (⟨M, Hp.le_refl M, S.pick [1] (by decide)⟩) ?_
  refine Wa_take (i := 2) rfl (by kernel_rfl) rfl rfl (.int .i64 t7.1) rfl (fun w' h' => x_move rfl) (⟨M, Hp.le_refl M, S.pick [1] (by decide)⟩) ?_
  refine Wa_take (i := 4) rfl (by kernel_rfl) rfl rfl (.pointer (some ⟨b1, 3, none⟩)) rfl (fun w' h' => x_fieldAddr (o := 0) (off := 3) Try.underlying26 rfl ty24 rfl rfl) (⟨M, Hp.le_refl M, S.pick [1] (by decide)⟩) ?_
  refine Wa_take (i := 5) rfl (by kernel_rfl) rfl rfl (.slice A0_2 a0.Rows.length c0_2) rfl (fun w' h' => x_load (cls_blk h' 0 rfl) ty24 rfl rfl) (⟨M, Hp.le_refl M, S.pick [1] (by decide)⟩) ?_
  refine Wa_take (i := 6) rfl (by kernel_rfl) rfl rfl (.int .i64 t7.1) rfl (fun w' h' => x_move rfl) (⟨M, Hp.le_refl M, S.pick [1] (by decide)⟩) ?_
  refine Wa_solo (i := 3) rfl (by kernel_rfl) ?_
  obtain ⟨t48, ht49, H⟩ := bindS H
  refine W_callF fn37 (fork_with_string.con k M A0_0 c0_0 a0.Keys t7.1 (1 : Int) none 0 ([] : (List Str)) t48 hr0_0 (SlW.nil _ _) ht49) S rfl rfl (by rintro _ _ _ ⟨_, _, _, rfl⟩; exact (flat_cons (flat_row (fun _ _ _ _ h => h)) flat_nil)) ?_
  rintro _ w53 _ Γ' E' S ⟨A50, c51, rfl, rfl⟩
  replace E := E.trans E'
  clear E'
  refine Wl_nil (on_n ⟨⟨M, Hp.le_refl M, S.pick [2] (by decide)⟩, ?_⟩)
  refine Wa_solo (i := 7) rfl (by kernel_rfl) ?_
  obtain ⟨t54, ht55, H⟩ := bindS H
  refine W_callF fn38 (fork_with_api_Handle.con k M A0_2 c0_2 a0.Rows t7.1 (1 : Int) none 0 ([] : (List Int)) t54 hr0_2 (SlW.nil _ _) ht55) S rfl rfl (by rintro _ _ _ ⟨_, _, _, rfl⟩; exact (flat_cons (flat_row (fun _ _ _ _ h => h)) flat_nil)) ?_
  rintro _ w59 _ Γ' E' S ⟨A56, c57, rfl, rfl⟩
  replace E := E.trans E'
  clear E'
  refine Wl_nil (on_n ⟨⟨M, Hp.le_refl M, S.pick [3] (by decide)⟩, ?_⟩)
  refine Wa_take (i := 8) rfl (by kernel_rfl) rfl rfl (.agg #[.bool true, .slice A50 t48.length c51, .slice none 0 0, .slice A56 t54.length c57]) rfl (fun w' h' => x_build2 (pl := [(0, 1), (1, 1), (2, 1), (3, 1)]) #[.bool true, .slice A50 t48.length c51, .slice none 0 0, .slice A56 t54.length c57] Try.underlying26 ty26 (by kernel_rfl) rfl (by kernel_rfl)) (⟨M, Hp.le_refl M, S.pick [3] (by decide)⟩) ?_
  refine Wa_solo (i := 9) rfl (by kernel_rfl) ?_
  refine W_store S 2 rfl ty26 rfl rfl [.bool true, .slice A50 t48.length c51, .slice none 0 0, .slice A56 t54.length c57] rfl rfl rfl #[.bool true, .slice A50 t48.length c51, .slice none 0 0, .slice A56 t54.length c57] rfl rfl ?_
  intro w60 E' S
  replace E := E.trans E'
  clear E'
  refine Wl_nil (on_n ⟨⟨M, Hp.le_refl M, S.pick [3] (by decide)⟩, ?_⟩)
  refine Wa_take (i := 10) rfl (by kernel_rfl) rfl rfl (.int .i64 0) rfl (fun w' h' => x_assign rfl) (⟨M, Hp.le_refl M, S.pick [3] (by decide)⟩) ?_
  refine Wa_done (by kernel_rfl) ?_
  refine tn ?_
  refine Wp_ret ?_
  obtain rfl := Option.some.inj H
  replace S := S.row_nil (rInt .i64) 3
  exact ⟨_, _, _, fun w1 e1 => run_resR (vs := [.agg #[.bool true, .slice A50 t48.length c51, .slice none 0 0, .slice A56 t54.length c57], .int .i64 0]) (FA.cons (⟨_, rfl, run_loadVar_agg ty26 ((S.of_eq e1).blk 3 rfl) (sub_of_extract rfl) rfl (by decide)⟩) (FA.cons (rfl) (FA.nil))), HM, E, S.pick [2, 0, 1] (by decide), ⟨A50, c51, none, 0, A56, c57, rfl, rfl⟩⟩
/-! ### ferryman/fork.Safe: function 22 -/
def fork_Safe (k : Nat) (a0 : fork_Node) (a1 : Int) (a2 : Int) (a3 : Bool) : Option (Bool) :=
  (if (a2 == (0 : Int)) = true then some true else (if (a2 == (1 : Int)) = true then some (decide ((a0.Keys.length : Int) < a1)) else (if (a2 != (2 : Int)) = true then some false else (if a0.Leaf = true then some (a3 || (decide ((a0.Keys.length : Int) > (1 : Int)))) else (if a3 = true then some (decide ((a0.Kids.length : Int) > (2 : Int))) else some (decide ((a0.Kids.length : Int) > (1 : Int))))))))
set_option maxHeartbeats 2000000 in
theorem fork_Safe.mono {k : Nat} {a0 : fork_Node} {a1 : Int} {a2 : Int} {a3 : Bool} : OLe (fork_Safe k a0 a1 a2 a3) (fork_Safe (k + 1) a0 a1 a2 a3) := by
  unfold fork_Safe
  repeat' (first | with_reducible exact OLe.none | with_reducible exact OLe.some | with_reducible refine OLe.ite ?_ ?_ | with_reducible refine OLe.bind ?_ (fun _ => ?_) | refine OLe.bind ?_ (fun _ => ?_) | refine OLe.ite ?_ ?_ | refine OLe.elim (fun _ => ?_) (fun _ => ?_) | split)
set_option maxHeartbeats 1000000 in
set_option maxRecDepth 100000 in
theorem fork_Safe.con (k : Nat) (M : Hp) (A0_0 : Option Addr) (c0_0 : Nat) (A0_1 : Option Addr) (c0_1 : Nat) (A0_2 : Option Addr) (c0_2 : Nat) (a0 : fork_Node) (a1 : Int) (a2 : Int) (a3 : Bool) (r : Bool) (hr0_0 : SlR rStr M (.slice A0_0 a0.Keys.length c0_0) a0.Keys) (hr0_1 : SlR (rInt .i64) M (.slice A0_1 a0.Kids.length c0_1) a0.Kids) (hr0_2 : SlR (rInt .u64) M (.slice A0_2 a0.Rows.length c0_2) a0.Rows) (h : fork_Safe k a0 a1 a2 a3 = some r) : Con Try.prog 22 #[.agg #[.bool a0.Leaf, .slice A0_0 a0.Keys.length c0_0, .slice A0_1 a0.Kids.length c0_1, .slice A0_2 a0.Rows.length c0_2], .int .i64 a1, .int .u8 a2, .bool a3] M [] (fun v M' Γ' => v = .bool r ∧ Γ' = []) := by
  refine con_of_wp Try.func22 rfl Try.ntmps22 Try.results22 rfl ?_
  intro w F rn S hrn
  have E := Ext.refl w
  have HM := Hp.le_refl M
  have H := h
  unfold fork_Safe at H
  refine Wp_seq ?_
  refine Wp_region_lit ?_
  refine W_box S #[.bool a0.Leaf, .slice A0_0 a0.Keys.length c0_0, .slice A0_1 a0.Kids.length c0_1, .slice A0_2 a0.Rows.length c0_2] rfl rfl rfl ?_
  intro b1 w2 E' S
  replace E := E.trans E'
  clear E'
  refine W_v (.bool false) (x_assign rfl) rfl ?_
  refine Wl_nil ?_
  refine tn ?_
  refine Wp_seq ?_
  refine Wp_block ?_
  refine Wp_seq ?_
  refine Wp_region_lit ?_
  refine W_v (.int .u8 a2) (x_move rfl) rfl ?_
  refine W_v (.bool (a2 == (0 : Int))) (x_ibin rfl rfl rfl rfl) rfl ?_
  refine W_v (.bool (a2 == (0 : Int))) (x_assign rfl) rfl ?_
  refine Wl_nil ?_
  refine tn ?_
  rcases iteS H with ⟨hb4, H⟩ | ⟨hb4, H⟩
  · refine Wp_cond_true (congrArg Value.bool hb4) ?_
    refine Wp_seq ?_
    refine Wp_region_lit ?_
    refine W_v (.bool true) (x_assign rfl) rfl ?_
    refine Wl_nil ?_
    refine tn ?_
    refine Wp_ret ?_
    refine br (tr (?_))
    obtain rfl := Option.some.inj H
    exact ⟨_, _, _, fun w1 e1 => run_resR (vs := [.bool true]) (FA.cons (rfl) (FA.nil)), HM, E, S.pick [] (by decide), ⟨rfl, rfl⟩⟩
  refine Wp_cond_false (congrArg Value.bool hb4) ?_
  refine Wp_seq ?_
  refine Wp_region_lit ?_
  refine W_v (.int .u8 a2) (x_move rfl) rfl ?_
  refine W_v (.bool (a2 == (1 : Int))) (x_ibin rfl rfl rfl rfl) rfl ?_
  refine W_v (.bool (a2 == (1 : Int))) (x_assign rfl) rfl ?_
  refine Wl_nil ?_
  refine tn ?_
  rcases iteS H with ⟨hb5, H⟩ | ⟨hb5, H⟩
  · refine Wp_cond_true (congrArg Value.bool hb5) ?_
    refine Wp_seq ?_
    refine Wp_region_lit ?_
    refine W_v (.pointer (some ⟨b1, 1, none⟩)) (x_fieldAddr (o := 0) (off := 1) Try.underlying26 rfl ty22 rfl rfl) rfl ?_
    refine W_v (.slice A0_0 a0.Keys.length c0_0) (x_load (S.blk 0 rfl) ty22 rfl rfl) rfl ?_
    refine W_v (.int .i64 (a0.Keys.length : Int)) (x_len_slice (n := a0.Keys.length) Try.underlying22 rfl) rfl ?_
    refine W_v (.int .i64 a1) (x_move rfl) rfl ?_
    refine W_v (.bool (decide ((a0.Keys.length : Int) < a1))) (x_ibin rfl rfl rfl rfl) rfl ?_
    refine W_v (.bool (decide ((a0.Keys.length : Int) < a1))) (x_assign rfl) rfl ?_
    refine Wl_nil ?_
    refine tn ?_
    refine Wp_ret ?_
    refine br (tr (?_))
    obtain rfl := Option.some.inj H
    exact ⟨_, _, _, fun w1 e1 => run_resR (vs := [.bool (decide ((a0.Keys.length : Int) < a1))]) (FA.cons (rfl) (FA.nil)), HM, E, S.pick [] (by decide), ⟨rfl, rfl⟩⟩
  refine Wp_cond_false (congrArg Value.bool hb5) ?_
  refine Wp_seq ?_
  refine Wp_region_lit ?_
  refine W_v (.int .u8 a2) (x_move rfl) rfl ?_
  refine W_v (.bool (a2 != (2 : Int))) (x_ibin rfl rfl rfl rfl) rfl ?_
  refine W_v (.bool (a2 != (2 : Int))) (x_assign rfl) rfl ?_
  refine Wl_nil ?_
  refine tn ?_
  rcases iteS H with ⟨hb6, H⟩ | ⟨hb6, H⟩
  · refine Wp_cond_true (congrArg Value.bool hb6) ?_
    refine Wp_seq ?_
    refine Wp_region_lit ?_
    refine W_v (.bool false) (x_assign rfl) rfl ?_
    refine Wl_nil ?_
    refine tn ?_
    refine Wp_ret ?_
    refine br (tr (?_))
    obtain rfl := Option.some.inj H
    exact ⟨_, _, _, fun w1 e1 => run_resR (vs := [.bool false]) (FA.cons (rfl) (FA.nil)), HM, E, S.pick [] (by decide), ⟨rfl, rfl⟩⟩
  refine Wp_cond_false (congrArg Value.bool hb6) ?_
  refine Wp_seq ?_
  refine Wp_region_lit ?_
  refine W_v (.pointer (some ⟨b1, 0, none⟩)) (x_fieldAddr (o := 0) (off := 0) Try.underlying26 rfl ty4 rfl rfl) rfl ?_
  refine W_v (.bool a0.Leaf) (x_load (S.blk 0 rfl) ty4 rfl rfl) rfl ?_
  refine W_v (.bool a0.Leaf) (x_assign rfl) rfl ?_
  refine Wl_nil ?_
  refine tn ?_
  rcases iteS H with ⟨hb7, H⟩ | ⟨hb7, H⟩
  · refine Wp_cond_true (congrArg Value.bool hb7) ?_
    refine Wp_seq ?_
    refine Wp_region_lit ?_
    refine W_v (.bool a3) (x_move rfl) rfl ?_
    refine W_v (.bool a3) (x_move rfl) rfl ?_
    refine Wl_cutN 5 (fun ρ w' => Agree ρ [(32, .bool (a3 || (decide ((a0.Keys.length : Int) > (1 : Int)))))] ∧ w2 = w') ?_ ?_
    · rcases boolCases a3 with hb8 | hb8
      · skip
        refine W_yes (congrArg some hb8) ?_
        refine W_v (.pointer (some ⟨b1, 1, none⟩)) (x_fieldAddr (o := 0) (off := 1) Try.underlying26 rfl ty22 rfl rfl) rfl ?_
        refine W_yes (congrArg some hb8) ?_
        refine W_v (.slice A0_0 a0.Keys.length c0_0) (x_load (S.blk 0 rfl) ty22 rfl rfl) rfl ?_
        refine W_yes (congrArg some hb8) ?_
        refine W_v (.int .i64 (a0.Keys.length : Int)) (x_len_slice (n := a0.Keys.length) Try.underlying22 rfl) rfl ?_
        refine W_yes (congrArg some hb8) ?_
        refine W_v (.bool (decide ((a0.Keys.length : Int) > (1 : Int)))) (x_ibin rfl rfl rfl rfl) rfl ?_
        refine W_v (.bool (decide ((a0.Keys.length : Int) > (1 : Int)))) (x_pick (k := false) (congrArg Value.bool hb8) rfl) rfl ?_
        refine Wl_nil ?_
        exact ⟨⟨(by first | rfl | (rw [hb8]; rfl) | (simp only [hb8]; rfl)), trivial⟩, rfl⟩
      · skip
        refine W_no (skF hb8) rfl ?_
        refine W_no (skF hb8) rfl ?_
        refine W_no (skF hb8) rfl ?_
        refine W_no (skF hb8) rfl ?_
        refine W_v (.bool true) (x_pick (k := true) (congrArg Value.bool hb8) rfl) rfl ?_
        refine Wl_nil ?_
        exact ⟨⟨(by first | rfl | (rw [hb8]; rfl) | (simp only [hb8]; rfl)), trivial⟩, rfl⟩
    rintro ρ _ ⟨hρ, rfl⟩
    rw [agree_eta hρ]
    clear hρ
    refine W_v (.bool (a3 || (decide ((a0.Keys.length : Int) > (1 : Int))))) (x_assign rfl) rfl ?_
    refine Wl_nil ?_
    refine tn ?_
    refine Wp_ret ?_
    refine br (tr (?_))
    obtain rfl := Option.some.inj H
    exact ⟨_, _, _, fun w1 e1 => run_resR (vs := [.bool (a3 || (decide ((a0.Keys.length : Int) > (1 : Int))))]) (FA.cons (rfl) (FA.nil)), HM, E, S.pick [] (by decide), ⟨rfl, rfl⟩⟩
  refine Wp_cond_false (congrArg Value.bool hb7) ?_
  refine Wp_seq ?_
  refine Wp_region_lit ?_
  refine W_v (.bool a3) (x_move rfl) rfl ?_
  refine W_v (.bool a3) (x_assign rfl) rfl ?_
  refine Wl_nil ?_
  refine tn ?_
  rcases iteS H with ⟨hb9, H⟩ | ⟨hb9, H⟩
  · refine Wp_cond_true (congrArg Value.bool hb9) ?_
    refine Wp_seq ?_
    refine Wp_region_lit ?_
    refine W_v (.pointer (some ⟨b1, 2, none⟩)) (x_fieldAddr (o := 0) (off := 2) Try.underlying26 rfl ty23 rfl rfl) rfl ?_
    refine W_v (.slice A0_1 a0.Kids.length c0_1) (x_load (S.blk 0 rfl) ty23 rfl rfl) rfl ?_
    refine W_v (.int .i64 (a0.Kids.length : Int)) (x_len_slice (n := a0.Kids.length) Try.underlying23 rfl) rfl ?_
    refine W_v (.bool (decide ((a0.Kids.length : Int) > (2 : Int)))) (x_ibin rfl rfl rfl rfl) rfl ?_
    refine W_v (.bool (decide ((a0.Kids.length : Int) > (2 : Int)))) (x_assign rfl) rfl ?_
    refine Wl_nil ?_
    refine tn ?_
    refine Wp_ret ?_
    refine br (tr (?_))
    obtain rfl := Option.some.inj H
    exact ⟨_, _, _, fun w1 e1 => run_resR (vs := [.bool (decide ((a0.Kids.length : Int) > (2 : Int)))]) (FA.cons (rfl) (FA.nil)), HM, E, S.pick [] (by decide), ⟨rfl, rfl⟩⟩
  refine Wp_cond_false (congrArg Value.bool hb9) ?_
  refine Wp_skip ?_
  refine bn ?_
  refine tn ?_
  refine Wp_seq ?_
  refine Wp_region_lit ?_
  refine W_v (.pointer (some ⟨b1, 2, none⟩)) (x_fieldAddr (o := 0) (off := 2) Try.underlying26 rfl ty23 rfl rfl) rfl ?_
  refine W_v (.slice A0_1 a0.Kids.length c0_1) (x_load (S.blk 0 rfl) ty23 rfl rfl) rfl ?_
  refine W_v (.int .i64 (a0.Kids.length : Int)) (x_len_slice (n := a0.Kids.length) Try.underlying23 rfl) rfl ?_
  refine W_v (.bool (decide ((a0.Kids.length : Int) > (1 : Int)))) (x_ibin rfl rfl rfl rfl) rfl ?_
  refine W_v (.bool (decide ((a0.Kids.length : Int) > (1 : Int)))) (x_assign rfl) rfl ?_
  refine Wl_nil ?_
  refine tn ?_
  refine Wp_ret ?_
  obtain rfl := Option.some.inj H
  exact ⟨_, _, _, fun w1 e1 => run_resR (vs := [.bool (decide ((a0.Kids.length : Int) > (1 : Int)))]) (FA.cons (rfl) (FA.nil)), HM, E, S.pick [] (by decide), ⟨rfl, rfl⟩⟩
end Go.Proofs.Ytdommjjhfplcaaa
