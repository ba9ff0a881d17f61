import Derived.Test.YtdommjjhfplcaaaGf2P1
namespace Go.Proofs.Ytdommjjhfplcaaa
open Go
set_option linter.unusedVariables false
set_option linter.unusedSimpArgs false
/-! ### ferryman/ferrymanlaw13.awake: function 10 -/
def ferrymanlaw13_awake (k : Nat)  : Option (Bool) :=
  (Option.bind (fork_Place k (⟨true, ([([98] : Str), ([100] : Str), ([102] : Str)] : List Str), ([] : (List Int)), ([(1 : Int), (2 : Int), (3 : Int)] : List Int)⟩ : fork_Node) ([99] : Str)) (fun t11 => (Option.bind (fork_Place k (⟨true, ([([98] : Str), ([100] : Str), ([102] : Str)] : List Str), ([] : (List Int)), ([(1 : Int), (2 : Int), (3 : Int)] : List Int)⟩ : fork_Node) ([100] : Str)) (fun t14 => (Option.bind (fork_Place k (⟨true, ([([98] : Str), ([100] : Str), ([102] : Str)] : List Str), ([] : (List Int)), ([(1 : Int), (2 : Int), (3 : Int)] : List Int)⟩ : fork_Node) ([103] : Str)) (fun t17 => (Option.bind (fork_Put k (⟨true, ([([98] : Str), ([100] : Str), ([102] : Str)] : List Str), ([] : (List Int)), ([(1 : Int), (2 : Int), (3 : Int)] : List Int)⟩ : fork_Node) ([99] : Str) (9 : Int)) (fun t20 => (Option.bind (fork_Split k t20.1) (fun t45 => (Option.bind (α := Bool) (if (((((((t11.1 != (1 : Int)) || t11.2) || (t14.1 != (1 : Int))) || (!t14.2)) || (t17.1 != (3 : Int))) || t17.2) || (t20.2 != (0 : Int))) = true then some (true) else (Option.bind (ferrymanlaw13_is k t20.1 ([([98] : Str), ([99] : Str), ([100] : Str), ([102] : Str)] : List Str) ([] : (List Int)) ([(1 : Int), (9 : Int), (2 : Int), (3 : Int)] : List Int)) (fun t109 => some ((!t109))))) (fun x101 => (Option.bind (α := Bool) (if ((x101 || (t45.2.2.2 != (0 : Int))) || (sbin .neq t45.2.2.1 ([100] : Str))) = true then some (true) else (Option.bind (ferrymanlaw13_is k t45.1 ([([98] : Str), ([99] : Str)] : List Str) ([] : (List Int)) ([(1 : Int), (9 : Int)] : List Int)) (fun t142 => some ((!t142))))) (fun x134 => (Option.bind (α := Bool) (if x134 = true then some (true) else (Option.bind (ferrymanlaw13_is k t45.2.1 ([([100] : Str), ([102] : Str)] : List Str) ([] : (List Int)) ([(2 : Int), (3 : Int)] : List Int)) (fun t173 => some ((!t173))))) (fun x165 => (if x165 = true then some false else (Option.bind (fork_Fence k (⟨false, ([([98] : Str), ([100] : Str), ([102] : Str)] : List Str), ([(1 : Int), (2 : Int), (3 : Int), (4 : Int)] : List Int), ([] : (List Int))⟩ : fork_Node) (1 : Int)) (fun t188 => (Option.bind (fork_Fence k (⟨false, ([([98] : Str), ([100] : Str), ([102] : Str)] : List Str), ([(1 : Int), (2 : Int), (3 : Int), (4 : Int)] : List Int), ([] : (List Int))⟩ : fork_Node) (3 : Int)) (fun t191 => (Option.bind (fork_Split k (⟨false, ([([98] : Str), ([100] : Str), ([102] : Str)] : List Str), ([(1 : Int), (2 : Int), (3 : Int), (4 : Int)] : List Int), ([] : (List Int))⟩ : fork_Node)) (fun t200 => (Option.bind (fork_Graft k (⟨false, ([([98] : Str), ([100] : Str), ([102] : Str)] : List Str), ([(1 : Int), (2 : Int), (3 : Int), (4 : Int)] : List Int), ([] : (List Int))⟩ : fork_Node) ([101] : Str) (9 : Int)) (fun t225 => (Option.bind (fork_Cut k (⟨false, ([([98] : Str), ([100] : Str), ([102] : Str)] : List Str), ([(1 : Int), (2 : Int), (3 : Int), (4 : Int)] : List Int), ([] : (List Int))⟩ : fork_Node) (0 : Int)) (fun t241 => (Option.bind (fork_Cut k (⟨false, ([([98] : Str), ([100] : Str), ([102] : Str)] : List Str), ([(1 : Int), (2 : Int), (3 : Int), (4 : Int)] : List Int), ([] : (List Int))⟩ : fork_Node) (3 : Int)) (fun t257 => (Option.bind (fork_Kid k (⟨false, ([([98] : Str), ([100] : Str), ([102] : Str)] : List Str), ([(1 : Int), (2 : Int), (3 : Int), (4 : Int)] : List Int), ([] : (List Int))⟩ : fork_Node) ([97] : Str)) (fun t273 => (Option.bind (α := Bool) (if (t273 == (0 : Int)) = true then (Option.bind (fork_Kid k (⟨false, ([([98] : Str), ([100] : Str), ([102] : Str)] : List Str), ([(1 : Int), (2 : Int), (3 : Int), (4 : Int)] : List Int), ([] : (List Int))⟩ : fork_Node) ([98] : Str)) (fun t285 => some ((t285 == (1 : Int))))) else some (false)) (fun x283 => (Option.bind (α := Bool) (if x283 = true then (Option.bind (fork_Kid k (⟨false, ([([98] : Str), ([100] : Str), ([102] : Str)] : List Str), ([(1 : Int), (2 : Int), (3 : Int), (4 : Int)] : List Int), ([] : (List Int))⟩ : fork_Node) ([103] : Str)) (fun t298 => some ((t298 == (3 : Int))))) else some (false)) (fun x296 => (Option.bind (α := Bool) (if (((((x296 && t188.2) && (sbin .eql t188.1 ([100] : Str))) && (!t191.2)) && (t200.2.2.2 == (0 : Int))) && (sbin .eql t200.2.2.1 ([102] : Str))) = true then (Option.bind (ferrymanlaw13_is k t200.1 ([([98] : Str), ([100] : Str)] : List Str) ([(1 : Int), (2 : Int), (3 : Int)] : List Int) ([] : (List Int))) (fun t334 => some (t334))) else some (false)) (fun x326 => (Option.bind (α := Bool) (if x326 = true then (Option.bind (ferrymanlaw13_is k t200.2.1 ([] : (List Str)) ([(4 : Int)] : List Int) ([] : (List Int))) (fun t356 => some (t356))) else some (false)) (fun x351 => (Option.bind (α := Bool) (if (x351 && (t225.2 == (0 : Int))) = true then (Option.bind (ferrymanlaw13_is k t225.1 ([([98] : Str), ([100] : Str), ([101] : Str), ([102] : Str)] : List Str) ([(1 : Int), (2 : Int), (3 : Int), (9 : Int), (4 : Int)] : List Int) ([] : (List Int))) (fun t388 => some (t388))) else some (false)) (fun x380 => (Option.bind (α := Bool) (if (x380 && (t241.2 == (0 : Int))) = true then (Option.bind (ferrymanlaw13_is k t241.1 ([([100] : Str), ([102] : Str)] : List Str) ([(2 : Int), (3 : Int), (4 : Int)] : List Int) ([] : (List Int))) (fun t420 => some (t420))) else some (false)) (fun x412 => (Option.bind (α := Bool) (if (x412 && (t257.2 == (0 : Int))) = true then (Option.bind (ferrymanlaw13_is k t257.1 ([([98] : Str), ([100] : Str)] : List Str) ([(1 : Int), (2 : Int), (3 : Int)] : List Int) ([] : (List Int))) (fun t452 => some (t452))) else some (false)) (fun x444 => some x444)))))))))))))))))))))))))))))))))))))))))))))
set_option maxHeartbeats 2000000 in
theorem ferrymanlaw13_awake.mono {k : Nat}  : OLe (ferrymanlaw13_awake k ) (ferrymanlaw13_awake (k + 1) ) := by
  unfold ferrymanlaw13_awake
  repeat' (first | with_reducible exact OLe.none | with_reducible exact OLe.some | with_reducible refine OLe.ite ?_ ?_ | with_reducible refine OLe.bind ?_ (fun _ => ?_) | with_reducible exact ferrymanlaw13_is.mono | with_reducible exact fork_Cut.mono | with_reducible exact fork_Fence.mono | with_reducible exact fork_Graft.mono | with_reducible exact fork_Kid.mono | with_reducible exact fork_Place.mono | with_reducible exact fork_Put.mono | with_reducible exact fork_Split.mono | refine OLe.bind ?_ (fun _ => ?_) | refine OLe.ite ?_ ?_ | refine OLe.elim (fun _ => ?_) (fun _ => ?_) | split)
set_option maxHeartbeats 8000000 in
set_option maxRecDepth 100000 in
theorem ferrymanlaw13_awake.con (k : Nat) (M : Hp)  (r : Bool)  (h : ferrymanlaw13_awake k  = some r) : Con Try.prog 10 #[] M [] (fun v M' Γ' => v = .bool r ∧ Γ' = []) := by
  refine con_of_wp Try.func10 rfl Try.ntmps10 Try.results10 rfl ?_
  intro w F rn S hrn
  have E := Ext.refl w
  have HM := Hp.le_refl M
  have H := h
  unfold ferrymanlaw13_awake at H
  refine Wp_seq ?_
  refine Wp_region_lit ?_
  refine W_v (.bool false) (x_assign rfl) rfl ?_
  refine Wl_nil ?_
  refine tn ?_
  refine Wp_seq ?_
  refine Wp_region_lit ?_
  refine W_bslice S #[.string (bs ([98] : Str)), .string (bs ([100] : Str)), .string (bs ([102] : Str))] Try.underlying22 ty9 rfl rfl #[.string (bs ([] : Str)), .string (bs ([] : Str)), .string (bs ([] : Str))] (by kernel_rfl) (by kernel_rfl) rfl ?_
  intro b1 w2 E' S
  replace E := E.trans E'
  clear E'
  replace S := S.blk_row (r := rStr) (l := ([([98] : Str), ([100] : Str), ([102] : Str)] : List Str)) 0 rfl 3 (Nat.le_refl 3) rfl (Cells.cons (vs := [.string (bs ([98] : Str))]) (rfl) (Cells.cons (vs := [.string (bs ([100] : Str))]) (rfl) (Cells.cons (vs := [.string (bs ([102] : Str))]) (rfl) Cells.nil)))
  refine W_bslice S #[.int .u64 1, .int .u64 2, .int .u64 3] Try.underlying24 ty41 rfl rfl #[.int .u64 0, .int .u64 0, .int .u64 0] (by kernel_rfl) (by kernel_rfl) rfl ?_
  intro b4 w5 E' S
  replace E := E.trans E'
  clear E'
  replace S := S.blk_row (r := (rInt .u64)) (l := ([(1 : Int), (2 : Int), (3 : Int)] : List Int)) 0 rfl 3 (Nat.le_refl 3) rfl (Cells.cons (vs := [.int .u64 1]) (rfl) (Cells.cons (vs := [.int .u64 2]) (rfl) (Cells.cons (vs := [.int .u64 3]) (rfl) Cells.nil)))
  refine W_v (.agg #[.bool true, .slice (some ⟨b1, 0, none⟩) ([([98] : Str), ([100] : Str), ([102] : Str)] : List Str).length 3, .slice none 0 0, .slice (some ⟨b4, 0, none⟩) ([(1 : Int), (2 : Int), (3 : Int)] : List Int).length 3]) (x_build2 (pl := [(0, 1), (1, 1), (2, 1), (3, 1)]) #[.bool true, .slice (some ⟨b1, 0, none⟩) ([([98] : Str), ([100] : Str), ([102] : Str)] : List Str).length 3, .slice none 0 0, .slice (some ⟨b4, 0, none⟩) ([(1 : Int), (2 : Int), (3 : Int)] : List Int).length 3] Try.underlying26 ty26 (by kernel_rfl) rfl (by kernel_rfl)) rfl ?_
  refine W_alloc S #[.bool false, .slice none 0 0, .slice none 0 0, .slice none 0 0] ty26 rfl rfl ?_
  intro b7 w8 E' S
  replace E := E.trans E'
  clear E'
  refine W_store S 0 rfl ty26 rfl rfl [.bool true, .slice (some ⟨b1, 0, none⟩) ([([98] : Str), ([100] : Str), ([102] : Str)] : List Str).length 3, .slice none 0 0, .slice (some ⟨b4, 0, none⟩) ([(1 : Int), (2 : Int), (3 : Int)] : List Int).length 3] rfl rfl rfl #[.bool true, .slice (some ⟨b1, 0, none⟩) ([([98] : Str), ([100] : Str), ([102] : Str)] : List Str).length 3, .slice none 0 0, .slice (some ⟨b4, 0, none⟩) ([(1 : Int), (2 : Int), (3 : Int)] : List Int).length 3] rfl rfl ?_
  intro w10 E' S
  replace E := E.trans E'
  clear E'
  refine Wl_nil ?_
  refine tn ?_
  refine Wp_seq ?_
  refine Wp_region_lit ?_
  refine W_v (.agg #[.bool true, .slice (some ⟨b1, 0, none⟩) ([([98] : Str), ([100] : Str), ([102] : Str)] : List Str).length 3, .slice none 0 0, .slice (some ⟨b4, 0, none⟩) ([(1 : Int), (2 : Int), (3 : Int)] : List Int).length 3]) (x_loadA (S.blk 0 rfl) ty26 rfl (sub_of_extract rfl) rfl rfl) rfl ?_
  replace S : St w10 M F [Row rStr 9 (.slice (some ⟨b1, 0, none⟩) ([([98] : Str), ([100] : Str), ([102] : Str)] : List Str).length 3) ([([98] : Str), ([100] : Str), ([102] : Str)] : List Str), Row (rInt .u64) 41 (.slice (some ⟨b4, 0, none⟩) ([(1 : Int), (2 : Int), (3 : Int)] : List Int).length 3) ([(1 : Int), (2 : Int), (3 : Int)] : List Int), Blk b7 (.cells #[.bool true, .slice (some ⟨b1, 0, none⟩) ([([98] : Str), ([100] : Str), ([102] : Str)] : List Str).length 3, .slice none 0 0, .slice (some ⟨b4, 0, none⟩) ([(1 : Int), (2 : Int), (3 : Int)] : List Int).length 3] 26 (0, 0))] := S.pick [2, 1, 0] (by decide)
  obtain ⟨t11, ht12, H⟩ := bindS H
  refine W_callN 2 fn12 (fun h9 hs9 hd9 => fork_Place.con k _ (some ⟨b1, 0, none⟩) 3 none 0 (some ⟨b4, 0, none⟩) 3 (⟨true, ([([98] : Str), ([100] : Str), ([102] : Str)] : List Str), ([] : (List Int)), ([(1 : Int), (2 : Int), (3 : Int)] : List Int)⟩ : fork_Node) ([99] : Str) t11 (Sats.row hs9 hd9 0 rfl) (SlW.nil _ _) (Sats.row hs9 hd9 1 rfl) ht12) S rfl rfl (by rintro _ _ _ ⟨_, rfl⟩; exact flat_nil) ?_
  rintro _ w13 _ Γ' E' S ⟨rfl, rfl⟩
  replace E := E.trans E'
  clear E'
  refine W_v (.tuple #[.int .i64 t11.1, .bool t11.2]) (x_move rfl) rfl ?_
  refine W_v (.int .i64 t11.1) (x_extract rfl rfl) rfl ?_
  refine W_v (.bool t11.2) (x_extract rfl rfl) rfl ?_
  refine W_v (.int .i64 t11.1) (x_assign rfl) rfl ?_
  refine W_v (.bool t11.2) (x_assign rfl) rfl ?_
  refine Wl_nil ?_
  refine tn ?_
  refine Wp_seq ?_
  refine Wp_region_lit ?_
  refine W_v (.agg #[.bool true, .slice (some ⟨b1, 0, none⟩) ([([98] : Str), ([100] : Str), ([102] : Str)] : List Str).length 3, .slice none 0 0, .slice (some ⟨b4, 0, none⟩) ([(1 : Int), (2 : Int), (3 : Int)] : List Int).length 3]) (x_loadA (S.blk 2 rfl) ty26 rfl (sub_of_extract rfl) rfl rfl) rfl ?_
  obtain ⟨t14, ht15, H⟩ := bindS H
  refine W_callN 2 fn12 (fun h9 hs9 hd9 => fork_Place.con k _ (some ⟨b1, 0, none⟩) 3 none 0 (some ⟨b4, 0, none⟩) 3 (⟨true, ([([98] : Str), ([100] : Str), ([102] : Str)] : List Str), ([] : (List Int)), ([(1 : Int), (2 : Int), (3 : Int)] : List Int)⟩ : fork_Node) ([100] : Str) t14 (Sats.row hs9 hd9 0 rfl) (SlW.nil _ _) (Sats.row hs9 hd9 1 rfl) ht15) S rfl rfl (by rintro _ _ _ ⟨_, rfl⟩; exact flat_nil) ?_
  rintro _ w16 _ Γ' E' S ⟨rfl, rfl⟩
  replace E := E.trans E'
  clear E'
  refine W_v (.tuple #[.int .i64 t14.1, .bool t14.2]) (x_move rfl) rfl ?_
  refine W_v (.int .i64 t14.1) (x_extract rfl rfl) rfl ?_
  refine W_v (.bool t14.2) (x_extract rfl rfl) rfl ?_
  refine W_v (.int .i64 t14.1) (x_assign rfl) rfl ?_
  refine W_v (.bool t14.2) (x_assign rfl) rfl ?_
  refine Wl_nil ?_
  refine tn ?_
  refine Wp_seq ?_
  refine Wp_region_lit ?_
  refine W_v (.agg #[.bool true, .slice (some ⟨b1, 0, none⟩) ([([98] : Str), ([100] : Str), ([102] : Str)] : List Str).length 3, .slice none 0 0, .slice (some ⟨b4, 0, none⟩) ([(1 : Int), (2 : Int), (3 : Int)] : List Int).length 3]) (x_loadA (S.blk 2 rfl) ty26 rfl (sub_of_extract rfl) rfl rfl) rfl ?_
  obtain ⟨t17, ht18, H⟩ := bindS H
  refine W_callN 2 fn12 (fun h9 hs9 hd9 => fork_Place.con k _ (some ⟨b1, 0, none⟩) 3 none 0 (some ⟨b4, 0, none⟩) 3 (⟨true, ([([98] : Str), ([100] : Str), ([102] : Str)] : List Str), ([] : (List Int)), ([(1 : Int), (2 : Int), (3 : Int)] : List Int)⟩ : fork_Node) ([103] : Str) t17 (Sats.row hs9 hd9 0 rfl) (SlW.nil _ _) (Sats.row hs9 hd9 1 rfl) ht18) S rfl rfl (by rintro _ _ _ ⟨_, rfl⟩; exact flat_nil) ?_
  rintro _ w19 _ Γ' E' S ⟨rfl, rfl⟩
  replace E := E.trans E'
  clear E'
  refine W_v (.tuple #[.int .i64 t17.1, .bool t17.2]) (x_move rfl) rfl ?_
  refine W_v (.int .i64 t17.1) (x_extract rfl rfl) rfl ?_
  refine W_v (.bool t17.2) (x_extract rfl rfl) rfl ?_
  refine W_v (.int .i64 t17.1) (x_assign rfl) rfl ?_
  refine W_v (.bool t17.2) (x_assign rfl) rfl ?_
  refine Wl_nil ?_
  refine tn ?_
  refine Wp_seq ?_
  refine Wp_region_lit ?_
  refine W_v (.agg #[.bool true, .slice (some ⟨b1, 0, none⟩) ([([98] : Str), ([100] : Str), ([102] : Str)] : List Str).length 3, .slice none 0 0, .slice (some ⟨b4, 0, none⟩) ([(1 : Int), (2 : Int), (3 : Int)] : List Int).length 3]) (x_loadA (S.blk 2 rfl) ty26 rfl (sub_of_extract rfl) rfl rfl) rfl ?_
  obtain ⟨t20, ht21, H⟩ := bindS H
  refine W_callN 2 fn19 (fun h9 hs9 hd9 => fork_Put.con k _ (some ⟨b1, 0, none⟩) 3 none 0 (some ⟨b4, 0, none⟩) 3 (⟨true, ([([98] : Str), ([100] : Str), ([102] : Str)] : List Str), ([] : (List Int)), ([(1 : Int), (2 : Int), (3 : Int)] : List Int)⟩ : fork_Node) ([99] : Str) (9 : Int) t20 (Sats.row hs9 hd9 0 rfl) (SlW.nil _ _) (Sats.row hs9 hd9 1 rfl) ht21) S rfl rfl (by rintro _ _ _ ⟨_, _, _, _, _, _, _, rfl⟩; exact (flat_cons (flat_row (fun _ _ _ _ h => h)) (flat_cons (flat_row (fun _ _ _ _ h => h)) (flat_cons (flat_row (fun _ _ _ _ h => h)) flat_nil)))) ?_
  rintro _ w31 _ Γ' E' S ⟨A22, c23, A25, c26, A28, c29, rfl, rfl⟩
  replace E := E.trans E'
  clear E'
  refine W_v (.tuple #[.agg #[.bool t20.1.Leaf, .slice A22 t20.1.Keys.length c23, .slice A25 t20.1.Kids.length c26, .slice A28 t20.1.Rows.length c29], .int .i64 t20.2]) (x_move rfl) rfl ?_
  refine W_v (.agg #[.bool t20.1.Leaf, .slice A22 t20.1.Keys.length c23, .slice A25 t20.1.Kids.length c26, .slice A28 t20.1.Rows.length c29]) (x_extract rfl rfl) rfl ?_
  refine W_v (.int .i64 t20.2) (x_extract rfl rfl) rfl ?_
  refine W_alloc S #[.bool false, .slice none 0 0, .slice none 0 0, .slice none 0 0] ty26 rfl rfl ?_
  intro b32 w33 E' S
  replace E := E.trans E'
  clear E'
  refine W_store S 0 rfl ty26 rfl rfl [.bool t20.1.Leaf, .slice A22 t20.1.Keys.length c23, .slice A25 t20.1.Kids.length c26, .slice A28 t20.1.Rows.length c29] rfl rfl rfl #[.bool t20.1.Leaf, .slice A22 t20.1.Keys.length c23, .slice A25 t20.1.Kids.length c26, .slice A28 t20.1.Rows.length c29] rfl rfl ?_
  intro w35 E' S
  replace E := E.trans E'
  clear E'
  refine W_v (.int .i64 t20.2) (x_assign rfl) rfl ?_
  refine Wl_nil ?_
  refine tn ?_
  refine Wp_seq ?_
  refine Wp_region_lit ?_
  refine W_v (.agg #[.bool t20.1.Leaf, .slice A22 t20.1.Keys.length c23, .slice A25 t20.1.Kids.length c26, .slice A28 t20.1.Rows.length c29]) (x_loadA (S.blk 0 rfl) ty26 rfl (sub_of_extract rfl) rfl rfl) rfl ?_
  obtain ⟨M36, hM37, hf38, S⟩ := S.row_freeze 1 rfl
  replace HM := Hp.le_trans HM hM37
  obtain ⟨M39, hM40, hf41, S⟩ := S.row_freeze 1 rfl
  replace HM := Hp.le_trans HM hM40
  replace hf38 := SlR.mono hf38 hM40
  obtain ⟨M42, hM43, hf44, S⟩ := S.row_freeze 1 rfl
  replace HM := Hp.le_trans HM hM43
  replace hf38 := SlR.mono hf38 hM43
  replace hf41 := SlR.mono hf41 hM43
  obtain ⟨t45, ht46, H⟩ := bindS H
  refine W_call fn15 (fork_Split.con k M42 A22 c23 A25 c26 A28 c29 t20.1 t45 hf38 hf41 hf44 ht46) (Γ1 := []) (Γ2 := [Blk b32 (.cells #[.bool t20.1.Leaf, .slice A22 t20.1.Keys.length c23, .slice A25 t20.1.Kids.length c26, .slice A28 t20.1.Rows.length c29] 26 (0, 0)), Row rStr 9 (.slice (some ⟨b1, 0, none⟩) ([([98] : Str), ([100] : Str), ([102] : Str)] : List Str).length 3) ([([98] : Str), ([100] : Str), ([102] : Str)] : List Str), Row (rInt .u64) 41 (.slice (some ⟨b4, 0, none⟩) ([(1 : Int), (2 : Int), (3 : Int)] : List Int).length 3) ([(1 : Int), (2 : Int), (3 : Int)] : List Int), Blk b7 (.cells #[.bool true, .slice (some ⟨b1, 0, none⟩) ([([98] : Str), ([100] : Str), ([102] : Str)] : List Str).length 3, .slice none 0 0, .slice (some ⟨b4, 0, none⟩) ([(1 : Int), (2 : Int), (3 : Int)] : List Int).length 3] 26 (0, 0))]) S rfl rfl ?_
  rintro _ w65 M66 Γ' hM67 E' S ⟨A47, c48, A50, c51, A53, c54, A56, c57, A59, c60, A62, c63, rfl, hs49, hs52, hs55, hs58, hs61, hs64, rfl⟩
  replace HM := Hp.le_trans HM hM67
  replace hf38 := SlR.mono hf38 hM67
  replace hf41 := SlR.mono hf41 hM67
  replace hf44 := SlR.mono hf44 hM67
  replace E := E.trans E'
  clear E'
  refine W_v (.tuple #[.agg #[.bool t45.1.Leaf, .slice A47 t45.1.Keys.length c48, .slice A50 t45.1.Kids.length c51, .slice A53 t45.1.Rows.length c54], .agg #[.bool t45.2.1.Leaf, .slice A56 t45.2.1.Keys.length c57, .slice A59 t45.2.1.Kids.length c60, .slice A62 t45.2.1.Rows.length c63], .string (bs t45.2.2.1), .int .i64 t45.2.2.2]) (x_move rfl) rfl ?_
  refine W_v (.agg #[.bool t45.1.Leaf, .slice A47 t45.1.Keys.length c48, .slice A50 t45.1.Kids.length c51, .slice A53 t45.1.Rows.length c54]) (x_extract rfl rfl) rfl ?_
  refine W_v (.agg #[.bool t45.2.1.Leaf, .slice A56 t45.2.1.Keys.length c57, .slice A59 t45.2.1.Kids.length c60, .slice A62 t45.2.1.Rows.length c63]) (x_extract rfl rfl) rfl ?_
  refine W_v (.string (bs t45.2.2.1)) (x_extract rfl rfl) rfl ?_
  refine W_v (.int .i64 t45.2.2.2) (x_extract rfl rfl) rfl ?_
  refine W_alloc S #[.bool false, .slice none 0 0, .slice none 0 0, .slice none 0 0] ty26 rfl rfl ?_
  intro b68 w69 E' S
  replace E := E.trans E'
  clear E'
  refine W_alloc S #[.bool false, .slice none 0 0, .slice none 0 0, .slice none 0 0] ty26 rfl rfl ?_
  intro b71 w72 E' S
  replace E := E.trans E'
  clear E'
  refine W_store S 1 rfl ty26 rfl rfl [.bool t45.1.Leaf, .slice A47 t45.1.Keys.length c48, .slice A50 t45.1.Kids.length c51, .slice A53 t45.1.Rows.length c54] rfl rfl rfl #[.bool t45.1.Leaf, .slice A47 t45.1.Keys.length c48, .slice A50 t45.1.Kids.length c51, .slice A53 t45.1.Rows.length c54] rfl rfl ?_
  intro w74 E' S
  replace E := E.trans E'
  clear E'
  refine W_store S 0 rfl ty26 rfl rfl [.bool t45.2.1.Leaf, .slice A56 t45.2.1.Keys.length c57, .slice A59 t45.2.1.Kids.length c60, .slice A62 t45.2.1.Rows.length c63] rfl rfl rfl #[.bool t45.2.1.Leaf, .slice A56 t45.2.1.Keys.length c57, .slice A59 t45.2.1.Kids.length c60, .slice A62 t45.2.1.Rows.length c63] rfl rfl ?_
  intro w75 E' S
  replace E := E.trans E'
  clear E'
  refine W_v (.string (bs t45.2.2.1)) (x_assign rfl) rfl ?_
  refine W_v (.int .i64 t45.2.2.2) (x_assign rfl) rfl ?_
  refine Wl_nil ?_
  refine tn ?_
  refine Wp_seq ?_
  refine Wp_seq ?_
  refine Wp_region_lit ?_
  refine W_v (.int .i64 t11.1) (x_move rfl) rfl ?_
  refine W_v (.bool (t11.1 != (1 : Int))) (x_ibin rfl rfl rfl rfl) rfl ?_
  refine W_v (.bool (t11.1 != (1 : Int))) (x_move rfl) rfl ?_
  refine Wl_cutN 2 (fun ρ w' => Agree ρ [(4, .int .i64 t14.1), (5, .bool t14.2), (6, .int .i64 t17.1), (7, .bool t17.2), (8, .pointer (some ⟨b32, 0, none⟩)), (9, .int .i64 t20.2), (10, .pointer (some ⟨b68, 0, none⟩)), (11, .pointer (some ⟨b71, 0, none⟩)), (12, .string (bs t45.2.2.1)), (13, .int .i64 t45.2.2.2), (59, .bool ((t11.1 != (1 : Int)) || t11.2))] ∧ w75 = w') ?_ ?_
  · rcases boolCases (t11.1 != (1 : Int)) with hb76 | hb76
    · skip
      refine W_yes (congrArg some hb76) ?_
      refine W_v (.bool t11.2) (x_move rfl) rfl ?_
      refine W_v (.bool t11.2) (x_pick (k := false) (congrArg Value.bool hb76) rfl) rfl ?_
      refine Wl_nil ?_
      exact ⟨⟨rfl, rfl, rfl, rfl, rfl, rfl, rfl, rfl, rfl, rfl, (by first | rfl | (rw [hb76]; rfl) | (simp only [hb76]; rfl)), trivial⟩, rfl⟩
    · skip
      refine W_no (skF hb76) rfl ?_
      refine W_v (.bool true) (x_pick (k := true) (congrArg Value.bool hb76) rfl) rfl ?_
      refine Wl_nil ?_
      exact ⟨⟨rfl, rfl, rfl, rfl, rfl, rfl, rfl, rfl, rfl, rfl, (by first | rfl | (rw [hb76]; rfl) | (simp only [hb76]; rfl)), trivial⟩, rfl⟩
  rintro ρ _ ⟨hρ, rfl⟩
  rw [agree_eta hρ]
  clear hρ
  refine W_v (.bool ((t11.1 != (1 : Int)) || t11.2)) (x_move rfl) rfl ?_
  refine Wl_cutN 3 (fun ρ w' => Agree ρ [(5, .bool t14.2), (6, .int .i64 t17.1), (7, .bool t17.2), (8, .pointer (some ⟨b32, 0, none⟩)), (9, .int .i64 t20.2), (10, .pointer (some ⟨b68, 0, none⟩)), (11, .pointer (some ⟨b71, 0, none⟩)), (12, .string (bs t45.2.2.1)), (13, .int .i64 t45.2.2.2), (63, .bool (((t11.1 != (1 : Int)) || t11.2) || (t14.1 != (1 : Int))))] ∧ w75 = w') ?_ ?_
  · rcases boolCases ((t11.1 != (1 : Int)) || t11.2) with hb77 | hb77
    · skip
      refine W_yes (congrArg some hb77) ?_
      refine W_v (.int .i64 t14.1) (x_move rfl) rfl ?_
      refine W_yes (congrArg some hb77) ?_
      refine W_v (.bool (t14.1 != (1 : Int))) (x_ibin rfl rfl rfl rfl) rfl ?_
      refine W_v (.bool (t14.1 != (1 : Int))) (x_pick (k := false) (congrArg Value.bool hb77) rfl) rfl ?_
      refine Wl_nil ?_
      exact ⟨⟨rfl, rfl, rfl, rfl, rfl, rfl, rfl, rfl, rfl, (by first | rfl | (rw [hb77]; rfl) | (simp only [hb77]; rfl)), trivial⟩, rfl⟩
    · skip
      refine W_no (skF hb77) rfl ?_
      refine W_no (skF hb77) rfl ?_
      refine W_v (.bool true) (x_pick (k := true) (congrArg Value.bool hb77) rfl) rfl ?_
      refine Wl_nil ?_
      exact ⟨⟨rfl, rfl, rfl, rfl, rfl, rfl, rfl, rfl, rfl, (by first | rfl | (rw [hb77]; rfl) | (simp only [hb77]; rfl)), trivial⟩, rfl⟩
  rintro ρ _ ⟨hρ, rfl⟩
  rw [agree_eta hρ]
  clear hρ
  refine W_v (.bool (((t11.1 != (1 : Int)) || t11.2) || (t14.1 != (1 : Int)))) (x_move rfl) rfl ?_
  refine Wl_cutN 3 (fun ρ w' => Agree ρ [(6, .int .i64 t17.1), (7, .bool t17.2), (8, .pointer (some ⟨b32, 0, none⟩)), (9, .int .i64 t20.2), (10, .pointer (some ⟨b68, 0, none⟩)), (11, .pointer (some ⟨b71, 0, none⟩)), (12, .string (bs t45.2.2.1)), (13, .int .i64 t45.2.2.2), (67, .bool ((((t11.1 != (1 : Int)) || t11.2) || (t14.1 != (1 : Int))) || (!t14.2)))] ∧ w75 = w') ?_ ?_
  · rcases boolCases (((t11.1 != (1 : Int)) || t11.2) || (t14.1 != (1 : Int))) with hb78 | hb78
    · skip
      refine W_yes (congrArg some hb78) ?_
      refine W_v (.bool t14.2) (x_move rfl) rfl ?_
      refine W_yes (congrArg some hb78) ?_
      refine W_v (.bool (!t14.2)) (x_not rfl) rfl ?_
      refine W_v (.bool (!t14.2)) (x_pick (k := false) (congrArg Value.bool hb78) rfl) rfl ?_
      refine Wl_nil ?_
      exact ⟨⟨rfl, rfl, rfl, rfl, rfl, rfl, rfl, rfl, (by first | rfl | (rw [hb78]; rfl) | (simp only [hb78]; rfl)), trivial⟩, rfl⟩
    · skip
      refine W_no (skF hb78) rfl ?_
      refine W_no (skF hb78) rfl ?_
      refine W_v (.bool true) (x_pick (k := true) (congrArg Value.bool hb78) rfl) rfl ?_
      refine Wl_nil ?_
      exact ⟨⟨rfl, rfl, rfl, rfl, rfl, rfl, rfl, rfl, (by first | rfl | (rw [hb78]; rfl) | (simp only [hb78]; rfl)), trivial⟩, rfl⟩
  rintro ρ _ ⟨hρ, rfl⟩
  rw [agree_eta hρ]
  clear hρ
  refine W_v (.bool ((((t11.1 != (1 : Int)) || t11.2) || (t14.1 != (1 : Int))) || (!t14.2))) (x_move rfl) rfl ?_
  refine Wl_cutN 3 (fun ρ w' => Agree ρ [(7, .bool t17.2), (8, .pointer (some ⟨b32, 0, none⟩)), (9, .int .i64 t20.2), (10, .pointer (some ⟨b68, 0, none⟩)), (11, .pointer (some ⟨b71, 0, none⟩)), (12, .string (bs t45.2.2.1)), (13, .int .i64 t45.2.2.2), (71, .bool (((((t11.1 != (1 : Int)) || t11.2) || (t14.1 != (1 : Int))) || (!t14.2)) || (t17.1 != (3 : Int))))] ∧ w75 = w') ?_ ?_
  · rcases boolCases ((((t11.1 != (1 : Int)) || t11.2) || (t14.1 != (1 : Int))) || (!t14.2)) with hb79 | hb79
    · skip
      refine W_yes (congrArg some hb79) ?_
      refine W_v (.int .i64 t17.1) (x_move rfl) rfl ?_
      refine W_yes (congrArg some hb79) ?_
      refine W_v (.bool (t17.1 != (3 : Int))) (x_ibin rfl rfl rfl rfl) rfl ?_
      refine W_v (.bool (t17.1 != (3 : Int))) (x_pick (k := false) (congrArg Value.bool hb79) rfl) rfl ?_
      refine Wl_nil ?_
      exact ⟨⟨rfl, rfl, rfl, rfl, rfl, rfl, rfl, (by first | rfl | (rw [hb79]; rfl) | (simp only [hb79]; rfl)), trivial⟩, rfl⟩
    · skip
      refine W_no (skF hb79) rfl ?_
      refine W_no (skF hb79) rfl ?_
      refine W_v (.bool true) (x_pick (k := true) (congrArg Value.bool hb79) rfl) rfl ?_
      refine Wl_nil ?_
      exact ⟨⟨rfl, rfl, rfl, rfl, rfl, rfl, rfl, (by first | rfl | (rw [hb79]; rfl) | (simp only [hb79]; rfl)), trivial⟩, rfl⟩
  rintro ρ _ ⟨hρ, rfl⟩
  rw [agree_eta hρ]
  clear hρ
  refine W_v (.bool (((((t11.1 != (1 : Int)) || t11.2) || (t14.1 != (1 : Int))) || (!t14.2)) || (t17.1 != (3 : Int)))) (x_move rfl) rfl ?_
  refine Wl_cutN 2 (fun ρ w' => Agree ρ [(8, .pointer (some ⟨b32, 0, none⟩)), (9, .int .i64 t20.2), (10, .pointer (some ⟨b68, 0, none⟩)), (11, .pointer (some ⟨b71, 0, none⟩)), (12, .string (bs t45.2.2.1)), (13, .int .i64 t45.2.2.2), (74, .bool ((((((t11.1 != (1 : Int)) || t11.2) || (t14.1 != (1 : Int))) || (!t14.2)) || (t17.1 != (3 : Int))) || t17.2))] ∧ w75 = w') ?_ ?_
  · rcases boolCases (((((t11.1 != (1 : Int)) || t11.2) || (t14.1 != (1 : Int))) || (!t14.2)) || (t17.1 != (3 : Int))) with hb80 | hb80
    · skip
      refine W_yes (congrArg some hb80) ?_
      refine W_v (.bool t17.2) (x_move rfl) rfl ?_
      refine W_v (.bool t17.2) (x_pick (k := false) (congrArg Value.bool hb80) rfl) rfl ?_
      refine Wl_nil ?_
      exact ⟨⟨rfl, rfl, rfl, rfl, rfl, rfl, (by first | rfl | (rw [hb80]; rfl) | (simp only [hb80]; rfl)), trivial⟩, rfl⟩
    · skip
      refine W_no (skF hb80) rfl ?_
      refine W_v (.bool true) (x_pick (k := true) (congrArg Value.bool hb80) rfl) rfl ?_
      refine Wl_nil ?_
      exact ⟨⟨rfl, rfl, rfl, rfl, rfl, rfl, (by first | rfl | (rw [hb80]; rfl) | (simp only [hb80]; rfl)), trivial⟩, rfl⟩
  rintro ρ _ ⟨hρ, rfl⟩
  rw [agree_eta hρ]
  clear hρ
  refine W_v (.bool ((((((t11.1 != (1 : Int)) || t11.2) || (t14.1 != (1 : Int))) || (!t14.2)) || (t17.1 != (3 : Int))) || t17.2)) (x_move rfl) rfl ?_
  refine Wl_cutN 3 (fun ρ w' => Agree ρ [(8, .pointer (some ⟨b32, 0, none⟩)), (10, .pointer (some ⟨b68, 0, none⟩)), (11, .pointer (some ⟨b71, 0, none⟩)), (12, .string (bs t45.2.2.1)), (13, .int .i64 t45.2.2.2), (78, .bool (((((((t11.1 != (1 : Int)) || t11.2) || (t14.1 != (1 : Int))) || (!t14.2)) || (t17.1 != (3 : Int))) || t17.2) || (t20.2 != (0 : Int))))] ∧ w75 = w') ?_ ?_
  · rcases boolCases ((((((t11.1 != (1 : Int)) || t11.2) || (t14.1 != (1 : Int))) || (!t14.2)) || (t17.1 != (3 : Int))) || t17.2) with hb81 | hb81
    · skip
      refine W_yes (congrArg some hb81) ?_
      refine W_v (.int .i64 t20.2) (x_move rfl) rfl ?_
      refine W_yes (congrArg some hb81) ?_
      refine W_v (.bool (t20.2 != (0 : Int))) (x_ibin rfl rfl rfl rfl) rfl ?_
      refine W_v (.bool (t20.2 != (0 : Int))) (x_pick (k := false) (congrArg Value.bool hb81) rfl) rfl ?_
      refine Wl_nil ?_
      exact ⟨⟨rfl, rfl, rfl, rfl, rfl, (by first | rfl | (rw [hb81]; rfl) | (simp only [hb81]; rfl)), trivial⟩, rfl⟩
    · skip
      refine W_no (skF hb81) rfl ?_
      refine W_no (skF hb81) rfl ?_
      refine W_v (.bool true) (x_pick (k := true) (congrArg Value.bool hb81) rfl) rfl ?_
      refine Wl_nil ?_
      exact ⟨⟨rfl, rfl, rfl, rfl, rfl, (by first | rfl | (rw [hb81]; rfl) | (simp only [hb81]; rfl)), trivial⟩, rfl⟩
  rintro ρ _ ⟨hρ, rfl⟩
  rw [agree_eta hρ]
  clear hρ
  refine W_v (.bool (((((((t11.1 != (1 : Int)) || t11.2) || (t14.1 != (1 : Int))) || (!t14.2)) || (t17.1 != (3 : Int))) || t17.2) || (t20.2 != (0 : Int)))) (x_move rfl) rfl ?_
  obtain ⟨o102, o102h, o102H⟩ := bindS H
  clear H
  refine Wl_cutN 6 (fun ρ w' => ∃ (x101 : Bool), (x101) = o102 ∧ Agree ρ [(10, .pointer (some ⟨b68, 0, none⟩)), (11, .pointer (some ⟨b71, 0, none⟩)), (12, .string (bs t45.2.2.1)), (13, .int .i64 t45.2.2.2), (85, .bool x101)] ∧ Ext w w' ∧ St w' M66 F [Blk b71 (.cells #[.bool t45.2.1.Leaf, .slice A56 t45.2.1.Keys.length c57, .slice A59 t45.2.1.Kids.length c60, .slice A62 t45.2.1.Rows.length c63] 26 (0, 0)), Blk b68 (.cells #[.bool t45.1.Leaf, .slice A47 t45.1.Keys.length c48, .slice A50 t45.1.Kids.length c51, .slice A53 t45.1.Rows.length c54] 26 (0, 0))]) ?_ ?_
  · have H := o102h
    rcases iteS H with ⟨hb100, H⟩ | ⟨hb100, H⟩
    · skip
      refine W_no (skF hb100) rfl ?_
      refine W_no (skF hb100) rfl ?_
      refine W_no (skF hb100) rfl ?_
      refine W_no (skF hb100) rfl ?_
      refine W_no (skF hb100) rfl ?_
      refine W_v (.bool true) (x_pick (k := true) (congrArg Value.bool hb100) rfl) rfl ?_
      refine Wl_nil ?_
      exact ⟨true, Option.some.inj H, ⟨rfl, rfl, rfl, rfl, rfl, trivial⟩, E, S.pick [0, 1] (by decide)⟩
    · skip
      refine W_yes (congrArg some hb100) ?_
      refine W_v (.agg #[.bool t20.1.Leaf, .slice A22 t20.1.Keys.length c23, .slice A25 t20.1.Kids.length c26, .slice A28 t20.1.Rows.length c29]) (x_loadA (S.blk 2 rfl) ty26 rfl (sub_of_extract rfl) rfl rfl) rfl ?_
      refine W_yes (congrArg some hb100) ?_
      refine W_bslice S #[.string (bs ([98] : Str)), .string (bs ([99] : Str)), .string (bs ([100] : Str)), .string (bs ([102] : Str))] Try.underlying22 ty9 rfl rfl #[.string (bs ([] : Str)), .string (bs ([] : Str)), .string (bs ([] : Str)), .string (bs ([] : Str))] (by kernel_rfl) (by kernel_rfl) rfl ?_
      intro b103 w104 E' S
      replace E := E.trans E'
      clear E'
      replace S := S.blk_row (r := rStr) (l := ([([98] : Str), ([99] : Str), ([100] : Str), ([102] : Str)] : List Str)) 0 rfl 4 (Nat.le_refl 4) rfl (Cells.cons (vs := [.string (bs ([98] : Str))]) (rfl) (Cells.cons (vs := [.string (bs ([99] : Str))]) (rfl) (Cells.cons (vs := [.string (bs ([100] : Str))]) (rfl) (Cells.cons (vs := [.string (bs ([102] : Str))]) (rfl) Cells.nil))))
      refine W_yes (congrArg some hb100) ?_
      refine W_bslice S #[.int .u64 1, .int .u64 9, .int .u64 2, .int .u64 3] Try.underlying24 ty41 rfl rfl #[.int .u64 0, .int .u64 0, .int .u64 0, .int .u64 0] (by kernel_rfl) (by kernel_rfl) rfl ?_
      intro b106 w107 E' S
      replace E := E.trans E'
      clear E'
      replace S := S.blk_row (r := (rInt .u64)) (l := ([(1 : Int), (9 : Int), (2 : Int), (3 : Int)] : List Int)) 0 rfl 4 (Nat.le_refl 4) rfl (Cells.cons (vs := [.int .u64 1]) (rfl) (Cells.cons (vs := [.int .u64 9]) (rfl) (Cells.cons (vs := [.int .u64 2]) (rfl) (Cells.cons (vs := [.int .u64 3]) (rfl) Cells.nil))))
      refine W_yes (congrArg some hb100) ?_
      replace S : St w107 M66 F [Row rStr 9 (.slice (some ⟨b103, 0, none⟩) ([([98] : Str), ([99] : Str), ([100] : Str), ([102] : Str)] : List Str).length 4) ([([98] : Str), ([99] : Str), ([100] : Str), ([102] : Str)] : List Str), Row (rInt .u64) 41 (.slice (some ⟨b106, 0, none⟩) ([(1 : Int), (9 : Int), (2 : Int), (3 : Int)] : List Int).length 4) ([(1 : Int), (9 : Int), (2 : Int), (3 : Int)] : List Int), Blk b71 (.cells #[.bool t45.2.1.Leaf, .slice A56 t45.2.1.Keys.length c57, .slice A59 t45.2.1.Kids.length c60, .slice A62 t45.2.1.Rows.length c63] 26 (0, 0)), Blk b68 (.cells #[.bool t45.1.Leaf, .slice A47 t45.1.Keys.length c48, .slice A50 t45.1.Kids.length c51, .slice A53 t45.1.Rows.length c54] 26 (0, 0)), Blk b32 (.cells #[.bool t20.1.Leaf, .slice A22 t20.1.Keys.length c23, .slice A25 t20.1.Kids.length c26, .slice A28 t20.1.Rows.length c29] 26 (0, 0)), Row rStr 9 (.slice (some ⟨b1, 0, none⟩) ([([98] : Str), ([100] : Str), ([102] : Str)] : List Str).length 3) ([([98] : Str), ([100] : Str), ([102] : Str)] : List Str), Row (rInt .u64) 41 (.slice (some ⟨b4, 0, none⟩) ([(1 : Int), (2 : Int), (3 : Int)] : List Int).length 3) ([(1 : Int), (2 : Int), (3 : Int)] : List Int), Blk b7 (.cells #[.bool true, .slice (some ⟨b1, 0, none⟩) ([([98] : Str), ([100] : Str), ([102] : Str)] : List Str).length 3, .slice none 0 0, .slice (some ⟨b4, 0, none⟩) ([(1 : Int), (2 : Int), (3 : Int)] : List Int).length 3] 26 (0, 0))] := S.pick [1, 0, 2, 3, 4, 5, 6, 7] (by decide)
      obtain ⟨t109, ht110, H⟩ := bindS H
      refine W_callN 2 fn32 (fun h9 hs9 hd9 => ferrymanlaw13_is.con k _ A22 c23 A25 c26 A28 c29 t20.1 (some ⟨b103, 0, none⟩) 4 ([([98] : Str), ([99] : Str), ([100] : Str), ([102] : Str)] : List Str) none 0 ([] : (List Int)) (some ⟨b106, 0, none⟩) 4 ([(1 : Int), (9 : Int), (2 : Int), (3 : Int)] : List Int) t109 (SlR.mono hf38 (Hp.le_union_left _ _)) (SlR.mono hf41 (Hp.le_union_left _ _)) (SlR.mono hf44 (Hp.le_union_left _ _)) (Sats.row hs9 hd9 0 rfl) (SlW.nil _ _) (Sats.row hs9 hd9 1 rfl) ht110) S rfl rfl (by rintro _ _ _ ⟨_, rfl⟩; exact flat_nil) ?_
      rintro _ w111 _ Γ' E' S ⟨rfl, rfl⟩
      replace E := E.trans E'
      clear E'
      refine W_yes (congrArg some hb100) ?_
      refine W_v (.bool (!t109)) (x_not rfl) rfl ?_
      refine W_v (.bool (!t109)) (x_pick (k := false) (congrArg Value.bool hb100) rfl) rfl ?_
      refine Wl_nil ?_
      exact ⟨(!t109), Option.some.inj H, ⟨rfl, rfl, rfl, rfl, rfl, trivial⟩, E, S.pick [2, 3] (by decide)⟩
  clear o102h
  rintro ρ w112 ⟨x101, rfl, hρ, E, S⟩
  rw [agree_eta hρ]
  clear hρ
  have H := o102H
  clear o102H
  refine W_v (.bool x101) (x_move rfl) rfl ?_
  refine Wl_cutN 3 (fun ρ w' => Agree ρ [(10, .pointer (some ⟨b68, 0, none⟩)), (11, .pointer (some ⟨b71, 0, none⟩)), (12, .string (bs t45.2.2.1)), (89, .bool (x101 || (t45.2.2.2 != (0 : Int))))] ∧ w112 = w') ?_ ?_
  · rcases boolCases x101 with hb113 | hb113
    · skip
      refine W_yes (congrArg some hb113) ?_
      refine W_v (.int .i64 t45.2.2.2) (x_move rfl) rfl ?_
      refine W_yes (congrArg some hb113) ?_
      refine W_v (.bool (t45.2.2.2 != (0 : Int))) (x_ibin rfl rfl rfl rfl) rfl ?_
      refine W_v (.bool (t45.2.2.2 != (0 : Int))) (x_pick (k := false) (congrArg Value.bool hb113) rfl) rfl ?_
      refine Wl_nil ?_
      exact ⟨⟨rfl, rfl, rfl, (by first | rfl | (rw [hb113]; rfl) | (simp only [hb113]; rfl)), trivial⟩, rfl⟩
    · skip
      refine W_no (skF hb113) rfl ?_
      refine W_no (skF hb113) rfl ?_
      refine W_v (.bool true) (x_pick (k := true) (congrArg Value.bool hb113) rfl) rfl ?_
      refine Wl_nil ?_
      exact ⟨⟨rfl, rfl, rfl, (by first | rfl | (rw [hb113]; rfl) | (simp only [hb113]; rfl)), trivial⟩, rfl⟩
  rintro ρ _ ⟨hρ, rfl⟩
  rw [agree_eta hρ]
  clear hρ
  refine W_v (.bool (x101 || (t45.2.2.2 != (0 : Int)))) (x_move rfl) rfl ?_
  refine Wl_cutN 3 (fun ρ w' => Agree ρ [(10, .pointer (some ⟨b68, 0, none⟩)), (11, .pointer (some ⟨b71, 0, none⟩)), (93, .bool ((x101 || (t45.2.2.2 != (0 : Int))) || (sbin .neq t45.2.2.1 ([100] : Str))))] ∧ w112 = w') ?_ ?_
  · rcases boolCases (x101 || (t45.2.2.2 != (0 : Int))) with hb114 | hb114
    · skip
      refine W_yes (congrArg some hb114) ?_
      refine W_v (.string (bs t45.2.2.1)) (x_move rfl) rfl ?_
      refine W_yes (congrArg some hb114) ?_
      refine W_v (.bool (sbin .neq t45.2.2.1 ([100] : Str))) (x_sbin rfl rfl rfl) rfl ?_
      refine W_v (.bool (sbin .neq t45.2.2.1 ([100] : Str))) (x_pick (k := false) (congrArg Value.bool hb114) rfl) rfl ?_
      refine Wl_nil ?_
      exact ⟨⟨rfl, rfl, (by first | rfl | (rw [hb114]; rfl) | (simp only [hb114]; rfl)), trivial⟩, rfl⟩
    · skip
      refine W_no (skF hb114) rfl ?_
      refine W_no (skF hb114) rfl ?_
      refine W_v (.bool true) (x_pick (k := true) (congrArg Value.bool hb114) rfl) rfl ?_
      refine Wl_nil ?_
      exact ⟨⟨rfl, rfl, (by first | rfl | (rw [hb114]; rfl) | (simp only [hb114]; rfl)), trivial⟩, rfl⟩
  rintro ρ _ ⟨hρ, rfl⟩
  rw [agree_eta hρ]
  clear hρ
  refine W_v (.bool ((x101 || (t45.2.2.2 != (0 : Int))) || (sbin .neq t45.2.2.1 ([100] : Str)))) (x_move rfl) rfl ?_
  obtain ⟨o135, o135h, o135H⟩ := bindS H
  clear H
  refine Wl_cutN 6 (fun ρ w' => ∃ (x134 : Bool), (x134) = o135 ∧ Agree ρ [(10, .pointer (some ⟨b68, 0, none⟩)), (11, .pointer (some ⟨b71, 0, none⟩)), (100, .bool x134)] ∧ Ext w w' ∧ St w' M66 F [Blk b71 (.cells #[.bool t45.2.1.Leaf, .slice A56 t45.2.1.Keys.length c57, .slice A59 t45.2.1.Kids.length c60, .slice A62 t45.2.1.Rows.length c63] 26 (0, 0)), Blk b68 (.cells #[.bool t45.1.Leaf, .slice A47 t45.1.Keys.length c48, .slice A50 t45.1.Kids.length c51, .slice A53 t45.1.Rows.length c54] 26 (0, 0))]) ?_ ?_
  · have H := o135h
    rcases iteS H with ⟨hb133, H⟩ | ⟨hb133, H⟩
    · skip
      refine W_no (skF hb133) rfl ?_
      refine W_no (skF hb133) rfl ?_
      refine W_no (skF hb133) rfl ?_
      refine W_no (skF hb133) rfl ?_
      refine W_no (skF hb133) rfl ?_
      refine W_v (.bool true) (x_pick (k := true) (congrArg Value.bool hb133) rfl) rfl ?_
      refine Wl_nil ?_
      exact ⟨true, Option.some.inj H, ⟨rfl, rfl, rfl, trivial⟩, E, S.pick [0, 1] (by decide)⟩
    · skip
      refine W_yes (congrArg some hb133) ?_
      refine W_v (.agg #[.bool t45.1.Leaf, .slice A47 t45.1.Keys.length c48, .slice A50 t45.1.Kids.length c51, .slice A53 t45.1.Rows.length c54]) (x_loadA (S.blk 1 rfl) ty26 rfl (sub_of_extract rfl) rfl rfl) rfl ?_
      refine W_yes (congrArg some hb133) ?_
      refine W_bslice S #[.string (bs ([98] : Str)), .string (bs ([99] : Str))] Try.underlying22 ty9 rfl rfl #[.string (bs ([] : Str)), .string (bs ([] : Str))] (by kernel_rfl) (by kernel_rfl) rfl ?_
      intro b136 w137 E' S
      replace E := E.trans E'
      clear E'
      replace S := S.blk_row (r := rStr) (l := ([([98] : Str), ([99] : Str)] : List Str)) 0 rfl 2 (Nat.le_refl 2) rfl (Cells.cons (vs := [.string (bs ([98] : Str))]) (rfl) (Cells.cons (vs := [.string (bs ([99] : Str))]) (rfl) Cells.nil))
      refine W_yes (congrArg some hb133) ?_
      refine W_bslice S #[.int .u64 1, .int .u64 9] Try.underlying24 ty41 rfl rfl #[.int .u64 0, .int .u64 0] (by kernel_rfl) (by kernel_rfl) rfl ?_
      intro b139 w140 E' S
      replace E := E.trans E'
      clear E'
      replace S := S.blk_row (r := (rInt .u64)) (l := ([(1 : Int), (9 : Int)] : List Int)) 0 rfl 2 (Nat.le_refl 2) rfl (Cells.cons (vs := [.int .u64 1]) (rfl) (Cells.cons (vs := [.int .u64 9]) (rfl) Cells.nil))
      refine W_yes (congrArg some hb133) ?_
      replace S : St w140 M66 F [Row rStr 9 (.slice (some ⟨b136, 0, none⟩) ([([98] : Str), ([99] : Str)] : List Str).length 2) ([([98] : Str), ([99] : Str)] : List Str), Row (rInt .u64) 41 (.slice (some ⟨b139, 0, none⟩) ([(1 : Int), (9 : Int)] : List Int).length 2) ([(1 : Int), (9 : Int)] : List Int), Blk b71 (.cells #[.bool t45.2.1.Leaf, .slice A56 t45.2.1.Keys.length c57, .slice A59 t45.2.1.Kids.length c60, .slice A62 t45.2.1.Rows.length c63] 26 (0, 0)), Blk b68 (.cells #[.bool t45.1.Leaf, .slice A47 t45.1.Keys.length c48, .slice A50 t45.1.Kids.length c51, .slice A53 t45.1.Rows.length c54] 26 (0, 0))] := S.pick [1, 0, 2, 3] (by decide)
      obtain ⟨t142, ht143, H⟩ := bindS H
      refine W_callN 2 fn32 (fun h9 hs9 hd9 => ferrymanlaw13_is.con k _ A47 c48 A50 c51 A53 c54 t45.1 (some ⟨b136, 0, none⟩) 2 ([([98] : Str), ([99] : Str)] : List Str) none 0 ([] : (List Int)) (some ⟨b139, 0, none⟩) 2 ([(1 : Int), (9 : Int)] : List Int) t142 (SlR.mono hs49 (Hp.le_union_left _ _)) (SlR.mono hs52 (Hp.le_union_left _ _)) (SlR.mono hs55 (Hp.le_union_left _ _)) (Sats.row hs9 hd9 0 rfl) (SlW.nil _ _) (Sats.row hs9 hd9 1 rfl) ht143) S rfl rfl (by rintro _ _ _ ⟨_, rfl⟩; exact flat_nil) ?_
      rintro _ w144 _ Γ' E' S ⟨rfl, rfl⟩
      replace E := E.trans E'
      clear E'
      refine W_yes (congrArg some hb133) ?_
      refine W_v (.bool (!t142)) (x_not rfl) rfl ?_
      refine W_v (.bool (!t142)) (x_pick (k := false) (congrArg Value.bool hb133) rfl) rfl ?_
      refine Wl_nil ?_
      exact ⟨(!t142), Option.some.inj H, ⟨rfl, rfl, rfl, trivial⟩, E, S.pick [2, 3] (by decide)⟩
  clear o135h
  rintro ρ w145 ⟨x134, rfl, hρ, E, S⟩
  rw [agree_eta hρ]
  clear hρ
  have H := o135H
  clear o135H
  refine W_v (.bool x134) (x_move rfl) rfl ?_
  obtain ⟨o166, o166h, o166H⟩ := bindS H
  clear H
  refine Wl_cutN 6 (fun ρ w' => ∃ (x165 : Bool), (x165) = o166 ∧ Agree ρ [(10, .pointer (some ⟨b68, 0, none⟩)), (11, .pointer (some ⟨b71, 0, none⟩)), (107, .bool x165)] ∧ Ext w w' ∧ St w' M66 F [Blk b71 (.cells #[.bool t45.2.1.Leaf, .slice A56 t45.2.1.Keys.length c57, .slice A59 t45.2.1.Kids.length c60, .slice A62 t45.2.1.Rows.length c63] 26 (0, 0)), Blk b68 (.cells #[.bool t45.1.Leaf, .slice A47 t45.1.Keys.length c48, .slice A50 t45.1.Kids.length c51, .slice A53 t45.1.Rows.length c54] 26 (0, 0))]) ?_ ?_
  · have H := o166h
    rcases iteS H with ⟨hb164, H⟩ | ⟨hb164, H⟩
    · skip
      refine W_no (skF hb164) rfl ?_
      refine W_no (skF hb164) rfl ?_
      refine W_no (skF hb164) rfl ?_
      refine W_no (skF hb164) rfl ?_
      refine W_no (skF hb164) rfl ?_
      refine W_v (.bool true) (x_pick (k := true) (congrArg Value.bool hb164) rfl) rfl ?_
      refine Wl_nil ?_
      exact ⟨true, Option.some.inj H, ⟨rfl, rfl, rfl, trivial⟩, E, S.pick [0, 1] (by decide)⟩
    · skip
      refine W_yes (congrArg some hb164) ?_
      refine W_v (.agg #[.bool t45.2.1.Leaf, .slice A56 t45.2.1.Keys.length c57, .slice A59 t45.2.1.Kids.length c60, .slice A62 t45.2.1.Rows.length c63]) (x_loadA (S.blk 0 rfl) ty26 rfl (sub_of_extract rfl) rfl rfl) rfl ?_
      refine W_yes (congrArg some hb164) ?_
      refine W_bslice S #[.string (bs ([100] : Str)), .string (bs ([102] : Str))] Try.underlying22 ty9 rfl rfl #[.string (bs ([] : Str)), .string (bs ([] : Str))] (by kernel_rfl) (by kernel_rfl) rfl ?_
      intro b167 w168 E' S
      replace E := E.trans E'
      clear E'
      replace S := S.blk_row (r := rStr) (l := ([([100] : Str), ([102] : Str)] : List Str)) 0 rfl 2 (Nat.le_refl 2) rfl (Cells.cons (vs := [.string (bs ([100] : Str))]) (rfl) (Cells.cons (vs := [.string (bs ([102] : Str))]) (rfl) Cells.nil))
      refine W_yes (congrArg some hb164) ?_
      refine W_bslice S #[.int .u64 2, .int .u64 3] Try.underlying24 ty41 rfl rfl #[.int .u64 0, .int .u64 0] (by kernel_rfl) (by kernel_rfl) rfl ?_
      intro b170 w171 E' S
      replace E := E.trans E'
      clear E'
      replace S := S.blk_row (r := (rInt .u64)) (l := ([(2 : Int), (3 : Int)] : List Int)) 0 rfl 2 (Nat.le_refl 2) rfl (Cells.cons (vs := [.int .u64 2]) (rfl) (Cells.cons (vs := [.int .u64 3]) (rfl) Cells.nil))
      refine W_yes (congrArg some hb164) ?_
      replace S : St w171 M66 F [Row rStr 9 (.slice (some ⟨b167, 0, none⟩) ([([100] : Str), ([102] : Str)] : List Str).length 2) ([([100] : Str), ([102] : Str)] : List Str), Row (rInt .u64) 41 (.slice (some ⟨b170, 0, none⟩) ([(2 : Int), (3 : Int)] : List Int).length 2) ([(2 : Int), (3 : Int)] : List Int), Blk b71 (.cells #[.bool t45.2.1.Leaf, .slice A56 t45.2.1.Keys.length c57, .slice A59 t45.2.1.Kids.length c60, .slice A62 t45.2.1.Rows.length c63] 26 (0, 0)), Blk b68 (.cells #[.bool t45.1.Leaf, .slice A47 t45.1.Keys.length c48, .slice A50 t45.1.Kids.length c51, .slice A53 t45.1.Rows.length c54] 26 (0, 0))] := S.pick [1, 0, 2, 3] (by decide)
      obtain ⟨t173, ht174, H⟩ := bindS H
      refine W_callN 2 fn32 (fun h9 hs9 hd9 => ferrymanlaw13_is.con k _ A56 c57 A59 c60 A62 c63 t45.2.1 (some ⟨b167, 0, none⟩) 2 ([([100] : Str), ([102] : Str)] : List Str) none 0 ([] : (List Int)) (some ⟨b170, 0, none⟩) 2 ([(2 : Int), (3 : Int)] : List Int) t173 (SlR.mono hs58 (Hp.le_union_left _ _)) (SlR.mono hs61 (Hp.le_union_left _ _)) (SlR.mono hs64 (Hp.le_union_left _ _)) (Sats.row hs9 hd9 0 rfl) (SlW.nil _ _) (Sats.row hs9 hd9 1 rfl) ht174) S rfl rfl (by rintro _ _ _ ⟨_, rfl⟩; exact flat_nil) ?_
      rintro _ w175 _ Γ' E' S ⟨rfl, rfl⟩
      replace E := E.trans E'
      clear E'
      refine W_yes (congrArg some hb164) ?_
      refine W_v (.bool (!t173)) (x_not rfl) rfl ?_
      refine W_v (.bool (!t173)) (x_pick (k := false) (congrArg Value.bool hb164) rfl) rfl ?_
      refine Wl_nil ?_
      exact ⟨(!t173), Option.some.inj H, ⟨rfl, rfl, rfl, trivial⟩, E, S.pick [2, 3] (by decide)⟩
  clear o166h
  rintro ρ w176 ⟨x165, rfl, hρ, E, S⟩
  rw [agree_eta hρ]
  clear hρ
  have H := o166H
  clear o166H
  refine Wl_nil ?_
  refine tn ?_
  rcases iteS H with ⟨hb177, H⟩ | ⟨hb177, H⟩
  · refine Wp_cond_true (congrArg Value.bool hb177) ?_
    refine Wp_seq ?_
    refine Wp_region_lit ?_
    refine W_v (.bool false) (x_assign rfl) rfl ?_
    refine Wl_nil ?_
    refine tn ?_
    refine Wp_ret ?_
    refine tr (?_)
    obtain rfl := Option.some.inj H
    exact ⟨_, _, _, fun w1 e1 => run_resR (vs := [.bool false]) (FA.cons (rfl) (FA.nil)), HM, E, S.pick [] (by decide), ⟨rfl, rfl⟩⟩
  refine Wp_cond_false (congrArg Value.bool hb177) ?_
  refine Wp_skip ?_
  refine tn ?_
  refine Wp_seq ?_
  refine Wp_region_lit ?_
  refine W_bslice S #[.string (bs ([98] : Str)), .string (bs ([100] : Str)), .string (bs ([102] : Str))] Try.underlying22 ty9 rfl rfl #[.string (bs ([] : Str)), .string (bs ([] : Str)), .string (bs ([] : Str))] (by kernel_rfl) (by kernel_rfl) rfl ?_
  intro b178 w179 E' S
  replace E := E.trans E'
  clear E'
  replace S := S.blk_row (r := rStr) (l := ([([98] : Str), ([100] : Str), ([102] : Str)] : List Str)) 0 rfl 3 (Nat.le_refl 3) rfl (Cells.cons (vs := [.string (bs ([98] : Str))]) (rfl) (Cells.cons (vs := [.string (bs ([100] : Str))]) (rfl) (Cells.cons (vs := [.string (bs ([102] : Str))]) (rfl) Cells.nil)))
  refine W_bslice S #[.int .i64 1, .int .i64 2, .int .i64 3, .int .i64 4] Try.underlying23 ty3 rfl rfl #[.int .i64 0, .int .i64 0, .int .i64 0, .int .i64 0] (by kernel_rfl) (by kernel_rfl) rfl ?_
  intro b181 w182 E' S
  replace E := E.trans E'
  clear E'
  replace S := S.blk_row (r := (rInt .i64)) (l := ([(1 : Int), (2 : Int), (3 : Int), (4 : Int)] : List Int)) 0 rfl 4 (Nat.le_refl 4) rfl (Cells.cons (vs := [.int .i64 1]) (rfl) (Cells.cons (vs := [.int .i64 2]) (rfl) (Cells.cons (vs := [.int .i64 3]) (rfl) (Cells.cons (vs := [.int .i64 4]) (rfl) Cells.nil))))
  refine W_v (.agg #[.bool false, .slice (some ⟨b178, 0, none⟩) ([([98] : Str), ([100] : Str), ([102] : Str)] : List Str).length 3, .slice (some ⟨b181, 0, none⟩) ([(1 : Int), (2 : Int), (3 : Int), (4 : Int)] : List Int).length 4, .slice none 0 0]) (x_build2 (pl := [(0, 1), (1, 1), (2, 1), (3, 1)]) #[.bool false, .slice (some ⟨b178, 0, none⟩) ([([98] : Str), ([100] : Str), ([102] : Str)] : List Str).length 3, .slice (some ⟨b181, 0, none⟩) ([(1 : Int), (2 : Int), (3 : Int), (4 : Int)] : List Int).length 4, .slice none 0 0] Try.underlying26 ty26 (by kernel_rfl) rfl (by kernel_rfl)) rfl ?_
  refine W_alloc S #[.bool false, .slice none 0 0, .slice none 0 0, .slice none 0 0] ty26 rfl rfl ?_
  intro b184 w185 E' S
  replace E := E.trans E'
  clear E'
  refine W_store S 0 rfl ty26 rfl rfl [.bool false, .slice (some ⟨b178, 0, none⟩) ([([98] : Str), ([100] : Str), ([102] : Str)] : List Str).length 3, .slice (some ⟨b181, 0, none⟩) ([(1 : Int), (2 : Int), (3 : Int), (4 : Int)] : List Int).length 4, .slice none 0 0] rfl rfl rfl #[.bool false, .slice (some ⟨b178, 0, none⟩) ([([98] : Str), ([100] : Str), ([102] : Str)] : List Str).length 3, .slice (some ⟨b181, 0, none⟩) ([(1 : Int), (2 : Int), (3 : Int), (4 : Int)] : List Int).length 4, .slice none 0 0] rfl rfl ?_
  intro w187 E' S
  replace E := E.trans E'
  clear E'
  refine Wl_nil ?_
  refine tn ?_
  refine Wp_seq ?_
  refine Wp_region_lit ?_
  refine W_v (.agg #[.bool false, .slice (some ⟨b178, 0, none⟩) ([([98] : Str), ([100] : Str), ([102] : Str)] : List Str).length 3, .slice (some ⟨b181, 0, none⟩) ([(1 : Int), (2 : Int), (3 : Int), (4 : Int)] : List Int).length 4, .slice none 0 0]) (x_loadA (S.blk 0 rfl) ty26 rfl (sub_of_extract rfl) rfl rfl) rfl ?_
  replace S : St w187 M66 F [Row rStr 9 (.slice (some ⟨b178, 0, none⟩) ([([98] : Str), ([100] : Str), ([102] : Str)] : List Str).length 3) ([([98] : Str), ([100] : Str), ([102] : Str)] : List Str), Row (rInt .i64) 3 (.slice (some ⟨b181, 0, none⟩) ([(1 : Int), (2 : Int), (3 : Int), (4 : Int)] : List Int).length 4) ([(1 : Int), (2 : Int), (3 : Int), (4 : Int)] : List Int), Blk b184 (.cells #[.bool false, .slice (some ⟨b178, 0, none⟩) ([([98] : Str), ([100] : Str), ([102] : Str)] : List Str).length 3, .slice (some ⟨b181, 0, none⟩) ([(1 : Int), (2 : Int), (3 : Int), (4 : Int)] : List Int).length 4, .slice none 0 0] 26 (0, 0)), Blk b71 (.cells #[.bool t45.2.1.Leaf, .slice A56 t45.2.1.Keys.length c57, .slice A59 t45.2.1.Kids.length c60, .slice A62 t45.2.1.Rows.length c63] 26 (0, 0)), Blk b68 (.cells #[.bool t45.1.Leaf, .slice A47 t45.1.Keys.length c48, .slice A50 t45.1.Kids.length c51, .slice A53 t45.1.Rows.length c54] 26 (0, 0))] := S.pick [2, 1, 0, 3, 4] (by decide)
  obtain ⟨t188, ht189, H⟩ := bindS H
  refine W_callN 2 fn14 (fun h9 hs9 hd9 => fork_Fence.con k _ (some ⟨b178, 0, none⟩) 3 (some ⟨b181, 0, none⟩) 4 none 0 (⟨false, ([([98] : Str), ([100] : Str), ([102] : Str)] : List Str), ([(1 : Int), (2 : Int), (3 : Int), (4 : Int)] : List Int), ([] : (List Int))⟩ : fork_Node) (1 : Int) t188 (Sats.row hs9 hd9 0 rfl) (Sats.row hs9 hd9 1 rfl) (SlW.nil _ _) ht189) S rfl rfl (by rintro _ _ _ ⟨_, rfl⟩; exact flat_nil) ?_
  rintro _ w190 _ Γ' E' S ⟨rfl, rfl⟩
  replace E := E.trans E'
  clear E'
  refine W_v (.tuple #[.string (bs t188.1), .bool t188.2]) (x_move rfl) rfl ?_
  refine W_v (.string (bs t188.1)) (x_extract rfl rfl) rfl ?_
  refine W_v (.bool t188.2) (x_extract rfl rfl) rfl ?_
  refine W_v (.string (bs t188.1)) (x_assign rfl) rfl ?_
  refine W_v (.bool t188.2) (x_assign rfl) rfl ?_
  refine Wl_nil ?_
  refine tn ?_
  refine Wp_seq ?_
  refine Wp_region_lit ?_
  refine W_v (.agg #[.bool false, .slice (some ⟨b178, 0, none⟩) ([([98] : Str), ([100] : Str), ([102] : Str)] : List Str).length 3, .slice (some ⟨b181, 0, none⟩) ([(1 : Int), (2 : Int), (3 : Int), (4 : Int)] : List Int).length 4, .slice none 0 0]) (x_loadA (S.blk 2 rfl) ty26 rfl (sub_of_extract rfl) rfl rfl) rfl ?_
  obtain ⟨t191, ht192, H⟩ := bindS H
  refine W_callN 2 fn14 (fun h9 hs9 hd9 => fork_Fence.con k _ (some ⟨b178, 0, none⟩) 3 (some ⟨b181, 0, none⟩) 4 none 0 (⟨false, ([([98] : Str), ([100] : Str), ([102] : Str)] : List Str), ([(1 : Int), (2 : Int), (3 : Int), (4 : Int)] : List Int), ([] : (List Int))⟩ : fork_Node) (3 : Int) t191 (Sats.row hs9 hd9 0 rfl) (Sats.row hs9 hd9 1 rfl) (SlW.nil _ _) ht192) S rfl rfl (by rintro _ _ _ ⟨_, rfl⟩; exact flat_nil) ?_
  rintro _ w193 _ Γ' E' S ⟨rfl, rfl⟩
  replace E := E.trans E'
  clear E'
  refine W_v (.tuple #[.string (bs t191.1), .bool t191.2]) (x_move rfl) rfl ?_
  refine W_v (.string (bs t191.1)) (x_extract rfl rfl) rfl ?_
  refine W_v (.bool t191.2) (x_extract rfl rfl) rfl ?_
  refine W_v (.string (bs t191.1)) (x_assign rfl) rfl ?_
  refine W_v (.bool t191.2) (x_assign rfl) rfl ?_
  refine Wl_nil ?_
  refine tn ?_
  refine Wp_seq ?_
  refine Wp_region_lit ?_
  refine W_v (.agg #[.bool false, .slice (some ⟨b178, 0, none⟩) ([([98] : Str), ([100] : Str), ([102] : Str)] : List Str).length 3, .slice (some ⟨b181, 0, none⟩) ([(1 : Int), (2 : Int), (3 : Int), (4 : Int)] : List Int).length 4, .slice none 0 0]) (x_loadA (S.blk 2 rfl) ty26 rfl (sub_of_extract rfl) rfl rfl) rfl ?_
  obtain ⟨M194, hM195, hf196, S⟩ := S.row_freeze 0 rfl
  replace HM := Hp.le_trans HM hM195
  replace hf38 := SlR.mono hf38 hM195
  replace hf41 := SlR.mono hf41 hM195
  replace hf44 := SlR.mono hf44 hM195
  replace hs49 := SlR.mono hs49 hM195
  replace hs52 := SlR.mono hs52 hM195
  replace hs55 := SlR.mono hs55 hM195
  replace hs58 := SlR.mono hs58 hM195
  replace hs61 := SlR.mono hs61 hM195
  replace hs64 := SlR.mono hs64 hM195
  obtain ⟨M197, hM198, hf199, S⟩ := S.row_freeze 0 rfl
  replace HM := Hp.le_trans HM hM198
  replace hf38 := SlR.mono hf38 hM198
  replace hf41 := SlR.mono hf41 hM198
  replace hf44 := SlR.mono hf44 hM198
  replace hs49 := SlR.mono hs49 hM198
  replace hs52 := SlR.mono hs52 hM198
  replace hs55 := SlR.mono hs55 hM198
  replace hs58 := SlR.mono hs58 hM198
  replace hs61 := SlR.mono hs61 hM198
  replace hs64 := SlR.mono hs64 hM198
  replace hf196 := SlR.mono hf196 hM198
  obtain ⟨t200, ht201, H⟩ := bindS H
  refine W_call fn15 (fork_Split.con k M197 (some ⟨b178, 0, none⟩) 3 (some ⟨b181, 0, none⟩) 4 none 0 (⟨false, ([([98] : Str), ([100] : Str), ([102] : Str)] : List Str), ([(1 : Int), (2 : Int), (3 : Int), (4 : Int)] : List Int), ([] : (List Int))⟩ : fork_Node) t200 hf196 hf199 (SlW.nil _ _) ht201) (Γ1 := []) (Γ2 := [Blk b184 (.cells #[.bool false, .slice (some ⟨b178, 0, none⟩) ([([98] : Str), ([100] : Str), ([102] : Str)] : List Str).length 3, .slice (some ⟨b181, 0, none⟩) ([(1 : Int), (2 : Int), (3 : Int), (4 : Int)] : List Int).length 4, .slice none 0 0] 26 (0, 0)), Blk b71 (.cells #[.bool t45.2.1.Leaf, .slice A56 t45.2.1.Keys.length c57, .slice A59 t45.2.1.Kids.length c60, .slice A62 t45.2.1.Rows.length c63] 26 (0, 0)), Blk b68 (.cells #[.bool t45.1.Leaf, .slice A47 t45.1.Keys.length c48, .slice A50 t45.1.Kids.length c51, .slice A53 t45.1.Rows.length c54] 26 (0, 0))]) S rfl rfl ?_
  rintro _ w220 M221 Γ' hM222 E' S ⟨A202, c203, A205, c206, A208, c209, A211, c212, A214, c215, A217, c218, rfl, hs204, hs207, hs210, hs213, hs216, hs219, rfl⟩
  replace HM := Hp.le_trans HM hM222
  replace hf38 := SlR.mono hf38 hM222
  replace hf41 := SlR.mono hf41 hM222
  replace hf44 := SlR.mono hf44 hM222
  replace hs49 := SlR.mono hs49 hM222
  replace hs52 := SlR.mono hs52 hM222
  replace hs55 := SlR.mono hs55 hM222
  replace hs58 := SlR.mono hs58 hM222
  replace hs61 := SlR.mono hs61 hM222
  replace hs64 := SlR.mono hs64 hM222
  replace hf196 := SlR.mono hf196 hM222
  replace hf199 := SlR.mono hf199 hM222
  replace E := E.trans E'
  clear E'
  refine W_v (.tuple #[.agg #[.bool t200.1.Leaf, .slice A202 t200.1.Keys.length c203, .slice A205 t200.1.Kids.length c206, .slice A208 t200.1.Rows.length c209], .agg #[.bool t200.2.1.Leaf, .slice A211 t200.2.1.Keys.length c212, .slice A214 t200.2.1.Kids.length c215, .slice A217 t200.2.1.Rows.length c218], .string (bs t200.2.2.1), .int .i64 t200.2.2.2]) (x_move rfl) rfl ?_
  refine W_v (.agg #[.bool t200.1.Leaf, .slice A202 t200.1.Keys.length c203, .slice A205 t200.1.Kids.length c206, .slice A208 t200.1.Rows.length c209]) (x_extract rfl rfl) rfl ?_
  refine W_v (.agg #[.bool t200.2.1.Leaf, .slice A211 t200.2.1.Keys.length c212, .slice A214 t200.2.1.Kids.length c215, .slice A217 t200.2.1.Rows.length c218]) (x_extract rfl rfl) rfl ?_
  refine W_v (.string (bs t200.2.2.1)) (x_extract rfl rfl) rfl ?_
  refine W_v (.int .i64 t200.2.2.2) (x_extract rfl rfl) rfl ?_
  refine W_store S 2 rfl ty26 rfl rfl [.bool t200.1.Leaf, .slice A202 t200.1.Keys.length c203, .slice A205 t200.1.Kids.length c206, .slice A208 t200.1.Rows.length c209] rfl rfl rfl #[.bool t200.1.Leaf, .slice A202 t200.1.Keys.length c203, .slice A205 t200.1.Kids.length c206, .slice A208 t200.1.Rows.length c209] rfl rfl ?_
  intro w223 E' S
  replace E := E.trans E'
  clear E'
  refine W_store S 1 rfl ty26 rfl rfl [.bool t200.2.1.Leaf, .slice A211 t200.2.1.Keys.length c212, .slice A214 t200.2.1.Kids.length c215, .slice A217 t200.2.1.Rows.length c218] rfl rfl rfl #[.bool t200.2.1.Leaf, .slice A211 t200.2.1.Keys.length c212, .slice A214 t200.2.1.Kids.length c215, .slice A217 t200.2.1.Rows.length c218] rfl rfl ?_
  intro w224 E' S
  replace E := E.trans E'
  clear E'
  refine W_v (.string (bs t200.2.2.1)) (x_assign rfl) rfl ?_
  refine W_v (.int .i64 t200.2.2.2) (x_assign rfl) rfl ?_
  refine Wl_nil ?_
  refine tn ?_
  refine Wp_seq ?_
  refine Wp_region_lit ?_
  refine W_v (.agg #[.bool false, .slice (some ⟨b178, 0, none⟩) ([([98] : Str), ([100] : Str), ([102] : Str)] : List Str).length 3, .slice (some ⟨b181, 0, none⟩) ([(1 : Int), (2 : Int), (3 : Int), (4 : Int)] : List Int).length 4, .slice none 0 0]) (x_loadA (S.blk 0 rfl) ty26 rfl (sub_of_extract rfl) rfl rfl) rfl ?_
  obtain ⟨t225, ht226, H⟩ := bindS H
  refine W_callF fn21 (fork_Graft.con k M221 (some ⟨b178, 0, none⟩) 3 (some ⟨b181, 0, none⟩) 4 none 0 (⟨false, ([([98] : Str), ([100] : Str), ([102] : Str)] : List Str), ([(1 : Int), (2 : Int), (3 : Int), (4 : Int)] : List Int), ([] : (List Int))⟩ : fork_Node) ([101] : Str) (9 : Int) t225 hf196 hf199 (SlW.nil _ _) ht226) S rfl rfl (by rintro _ _ _ ⟨_, _, _, _, _, _, _, rfl⟩; exact (flat_cons (flat_row (fun _ _ _ _ h => h)) (flat_cons (flat_row (fun _ _ _ _ h => h)) (flat_cons (flat_row (fun _ _ _ _ h => h)) flat_nil)))) ?_
  rintro _ w236 _ Γ' E' S ⟨A227, c228, A230, c231, A233, c234, rfl, rfl⟩
  replace E := E.trans E'
  clear E'
  refine W_v (.tuple #[.agg #[.bool t225.1.Leaf, .slice A227 t225.1.Keys.length c228, .slice A230 t225.1.Kids.length c231, .slice A233 t225.1.Rows.length c234], .int .i64 t225.2]) (x_move rfl) rfl ?_
  refine W_v (.agg #[.bool t225.1.Leaf, .slice A227 t225.1.Keys.length c228, .slice A230 t225.1.Kids.length c231, .slice A233 t225.1.Rows.length c234]) (x_extract rfl rfl) rfl ?_
  refine W_v (.int .i64 t225.2) (x_extract rfl rfl) rfl ?_
  refine W_alloc S #[.bool false, .slice none 0 0, .slice none 0 0, .slice none 0 0] ty26 rfl rfl ?_
  intro b237 w238 E' S
  replace E := E.trans E'
  clear E'
  refine W_store S 0 rfl ty26 rfl rfl [.bool t225.1.Leaf, .slice A227 t225.1.Keys.length c228, .slice A230 t225.1.Kids.length c231, .slice A233 t225.1.Rows.length c234] rfl rfl rfl #[.bool t225.1.Leaf, .slice A227 t225.1.Keys.length c228, .slice A230 t225.1.Kids.length c231, .slice A233 t225.1.Rows.length c234] rfl rfl ?_
  intro w240 E' S
  replace E := E.trans E'
  clear E'
  refine W_v (.int .i64 t225.2) (x_assign rfl) rfl ?_
  refine Wl_nil ?_
  refine tn ?_
  refine Wp_seq ?_
  refine Wp_region_lit ?_
  refine W_v (.agg #[.bool false, .slice (some ⟨b178, 0, none⟩) ([([98] : Str), ([100] : Str), ([102] : Str)] : List Str).length 3, .slice (some ⟨b181, 0, none⟩) ([(1 : Int), (2 : Int), (3 : Int), (4 : Int)] : List Int).length 4, .slice none 0 0]) (x_loadA (S.blk 4 rfl) ty26 rfl (sub_of_extract rfl) rfl rfl) rfl ?_
  obtain ⟨t241, ht242, H⟩ := bindS H
  refine W_callF fn20 (fork_Cut.con k M221 (some ⟨b178, 0, none⟩) 3 (some ⟨b181, 0, none⟩) 4 none 0 (⟨false, ([([98] : Str), ([100] : Str), ([102] : Str)] : List Str), ([(1 : Int), (2 : Int), (3 : Int), (4 : Int)] : List Int), ([] : (List Int))⟩ : fork_Node) (0 : Int) t241 hf196 hf199 (SlW.nil _ _) ht242) S rfl rfl (by rintro _ _ _ ⟨_, _, _, _, _, _, _, rfl⟩; exact (flat_cons (flat_row (fun _ _ _ _ h => h)) (flat_cons (flat_row (fun _ _ _ _ h => h)) (flat_cons (flat_row (fun _ _ _ _ h => h)) flat_nil)))) ?_
  rintro _ w252 _ Γ' E' S ⟨A243, c244, A246, c247, A249, c250, rfl, rfl⟩
  replace E := E.trans E'
  clear E'
  refine W_v (.tuple #[.agg #[.bool t241.1.Leaf, .slice A243 t241.1.Keys.length c244, .slice A246 t241.1.Kids.length c247, .slice A249 t241.1.Rows.length c250], .int .i64 t241.2]) (x_move rfl) rfl ?_
  refine W_v (.agg #[.bool t241.1.Leaf, .slice A243 t241.1.Keys.length c244, .slice A246 t241.1.Kids.length c247, .slice A249 t241.1.Rows.length c250]) (x_extract rfl rfl) rfl ?_
  refine W_v (.int .i64 t241.2) (x_extract rfl rfl) rfl ?_
  refine W_alloc S #[.bool false, .slice none 0 0, .slice none 0 0, .slice none 0 0] ty26 rfl rfl ?_
  intro b253 w254 E' S
  replace E := E.trans E'
  clear E'
  refine W_store S 0 rfl ty26 rfl rfl [.bool t241.1.Leaf, .slice A243 t241.1.Keys.length c244, .slice A246 t241.1.Kids.length c247, .slice A249 t241.1.Rows.length c250] rfl rfl rfl #[.bool t241.1.Leaf, .slice A243 t241.1.Keys.length c244, .slice A246 t241.1.Kids.length c247, .slice A249 t241.1.Rows.length c250] rfl rfl ?_
  intro w256 E' S
  replace E := E.trans E'
  clear E'
  refine W_v (.int .i64 t241.2) (x_assign rfl) rfl ?_
  refine Wl_nil ?_
  refine tn ?_
  refine Wp_seq ?_
  refine Wp_region_lit ?_
  refine W_v (.agg #[.bool false, .slice (some ⟨b178, 0, none⟩) ([([98] : Str), ([100] : Str), ([102] : Str)] : List Str).length 3, .slice (some ⟨b181, 0, none⟩) ([(1 : Int), (2 : Int), (3 : Int), (4 : Int)] : List Int).length 4, .slice none 0 0]) (x_loadA (S.blk 8 rfl) ty26 rfl (sub_of_extract rfl) rfl rfl) rfl ?_
  obtain ⟨t257, ht258, H⟩ := bindS H
  refine W_callF fn20 (fork_Cut.con k M221 (some ⟨b178, 0, none⟩) 3 (some ⟨b181, 0, none⟩) 4 none 0 (⟨false, ([([98] : Str), ([100] : Str), ([102] : Str)] : List Str), ([(1 : Int), (2 : Int), (3 : Int), (4 : Int)] : List Int), ([] : (List Int))⟩ : fork_Node) (3 : Int) t257 hf196 hf199 (SlW.nil _ _) ht258) S rfl rfl (by rintro _ _ _ ⟨_, _, _, _, _, _, _, rfl⟩; exact (flat_cons (flat_row (fun _ _ _ _ h => h)) (flat_cons (flat_row (fun _ _ _ _ h => h)) (flat_cons (flat_row (fun _ _ _ _ h => h)) flat_nil)))) ?_
  rintro _ w268 _ Γ' E' S ⟨A259, c260, A262, c263, A265, c266, rfl, rfl⟩
  replace E := E.trans E'
  clear E'
  refine W_v (.tuple #[.agg #[.bool t257.1.Leaf, .slice A259 t257.1.Keys.length c260, .slice A262 t257.1.Kids.length c263, .slice A265 t257.1.Rows.length c266], .int .i64 t257.2]) (x_move rfl) rfl ?_
  refine W_v (.agg #[.bool t257.1.Leaf, .slice A259 t257.1.Keys.length c260, .slice A262 t257.1.Kids.length c263, .slice A265 t257.1.Rows.length c266]) (x_extract rfl rfl) rfl ?_
  refine W_v (.int .i64 t257.2) (x_extract rfl rfl) rfl ?_
  refine W_alloc S #[.bool false, .slice none 0 0, .slice none 0 0, .slice none 0 0] ty26 rfl rfl ?_
  intro b269 w270 E' S
  replace E := E.trans E'
  clear E'
  refine W_store S 0 rfl ty26 rfl rfl [.bool t257.1.Leaf, .slice A259 t257.1.Keys.length c260, .slice A262 t257.1.Kids.length c263, .slice A265 t257.1.Rows.length c266] rfl rfl rfl #[.bool t257.1.Leaf, .slice A259 t257.1.Keys.length c260, .slice A262 t257.1.Kids.length c263, .slice A265 t257.1.Rows.length c266] rfl rfl ?_
  intro w272 E' S
  replace E := E.trans E'
  clear E'
  refine W_v (.int .i64 t257.2) (x_assign rfl) rfl ?_
  refine Wl_nil ?_
  refine tn ?_
  refine Wp_seq ?_
  refine Wp_region_lit ?_
  refine W_v (.agg #[.bool false, .slice (some ⟨b178, 0, none⟩) ([([98] : Str), ([100] : Str), ([102] : Str)] : List Str).length 3, .slice (some ⟨b181, 0, none⟩) ([(1 : Int), (2 : Int), (3 : Int), (4 : Int)] : List Int).length 4, .slice none 0 0]) (x_loadA (S.blk 12 rfl) ty26 rfl (sub_of_extract rfl) rfl rfl) rfl ?_
  obtain ⟨t273, ht274, H⟩ := bindS H
  refine W_callF fn13 (fork_Kid.con k M221 (some ⟨b178, 0, none⟩) 3 (some ⟨b181, 0, none⟩) 4 none 0 (⟨false, ([([98] : Str), ([100] : Str), ([102] : Str)] : List Str), ([(1 : Int), (2 : Int), (3 : Int), (4 : Int)] : List Int), ([] : (List Int))⟩ : fork_Node) ([97] : Str) t273 hf196 hf199 (SlW.nil _ _) ht274) S rfl rfl (by rintro _ _ _ ⟨_, rfl⟩; exact flat_nil) ?_
  rintro _ w275 _ Γ' E' S ⟨rfl, rfl⟩
  replace E := E.trans E'
  clear E'
  refine W_v (.bool (t273 == (0 : Int))) (x_ibin rfl rfl rfl rfl) rfl ?_
  refine W_v (.bool (t273 == (0 : Int))) (x_move rfl) rfl ?_
  obtain ⟨o284, o284h, o284H⟩ := bindS H
  clear H
  refine Wl_cutN 4 (fun ρ w' => ∃ (x283 : Bool), (x283) = o284 ∧ Agree ρ [(10, .pointer (some ⟨b68, 0, none⟩)), (11, .pointer (some ⟨b71, 0, none⟩)), (12, .string (bs t200.2.2.1)), (13, .int .i64 t200.2.2.2), (14, .pointer (some ⟨b184, 0, none⟩)), (15, .string (bs t188.1)), (16, .bool t188.2), (18, .bool t191.2), (19, .pointer (some ⟨b237, 0, none⟩)), (20, .int .i64 t225.2), (21, .pointer (some ⟨b253, 0, none⟩)), (22, .int .i64 t241.2), (23, .pointer (some ⟨b269, 0, none⟩)), (24, .int .i64 t257.2), (150, .bool x283)] ∧ Ext w w' ∧ St w' M221 F [Blk b269 (.cells #[.bool t257.1.Leaf, .slice A259 t257.1.Keys.length c260, .slice A262 t257.1.Kids.length c263, .slice A265 t257.1.Rows.length c266] 26 (0, 0)), Row rStr 9 (.slice A259 t257.1.Keys.length c260) t257.1.Keys, Row (rInt .i64) 3 (.slice A262 t257.1.Kids.length c263) t257.1.Kids, Row (rInt .u64) 41 (.slice A265 t257.1.Rows.length c266) t257.1.Rows, Blk b253 (.cells #[.bool t241.1.Leaf, .slice A243 t241.1.Keys.length c244, .slice A246 t241.1.Kids.length c247, .slice A249 t241.1.Rows.length c250] 26 (0, 0)), Row rStr 9 (.slice A243 t241.1.Keys.length c244) t241.1.Keys, Row (rInt .i64) 3 (.slice A246 t241.1.Kids.length c247) t241.1.Kids, Row (rInt .u64) 41 (.slice A249 t241.1.Rows.length c250) t241.1.Rows, Blk b237 (.cells #[.bool t225.1.Leaf, .slice A227 t225.1.Keys.length c228, .slice A230 t225.1.Kids.length c231, .slice A233 t225.1.Rows.length c234] 26 (0, 0)), Row rStr 9 (.slice A227 t225.1.Keys.length c228) t225.1.Keys, Row (rInt .i64) 3 (.slice A230 t225.1.Kids.length c231) t225.1.Kids, Row (rInt .u64) 41 (.slice A233 t225.1.Rows.length c234) t225.1.Rows, Blk b184 (.cells #[.bool false, .slice (some ⟨b178, 0, none⟩) ([([98] : Str), ([100] : Str), ([102] : Str)] : List Str).length 3, .slice (some ⟨b181, 0, none⟩) ([(1 : Int), (2 : Int), (3 : Int), (4 : Int)] : List Int).length 4, .slice none 0 0] 26 (0, 0)), Blk b71 (.cells #[.bool t200.2.1.Leaf, .slice A211 t200.2.1.Keys.length c212, .slice A214 t200.2.1.Kids.length c215, .slice A217 t200.2.1.Rows.length c218] 26 (0, 0)), Blk b68 (.cells #[.bool t200.1.Leaf, .slice A202 t200.1.Keys.length c203, .slice A205 t200.1.Kids.length c206, .slice A208 t200.1.Rows.length c209] 26 (0, 0))]) ?_ ?_
  · have H := o284h
    rcases iteS H with ⟨hb282, H⟩ | ⟨hb282, H⟩
    · skip
      refine W_yes (congrArg some hb282) ?_
      refine W_v (.agg #[.bool false, .slice (some ⟨b178, 0, none⟩) ([([98] : Str), ([100] : Str), ([102] : Str)] : List Str).length 3, .slice (some ⟨b181, 0, none⟩) ([(1 : Int), (2 : Int), (3 : Int), (4 : Int)] : List Int).length 4, .slice none 0 0]) (x_loadA (S.blk 12 rfl) ty26 rfl (sub_of_extract rfl) rfl rfl) rfl ?_
      refine W_yes (congrArg some hb282) ?_
      obtain ⟨t285, ht286, H⟩ := bindS H
      refine W_callF fn13 (fork_Kid.con k M221 (some ⟨b178, 0, none⟩) 3 (some ⟨b181, 0, none⟩) 4 none 0 (⟨false, ([([98] : Str), ([100] : Str), ([102] : Str)] : List Str), ([(1 : Int), (2 : Int), (3 : Int), (4 : Int)] : List Int), ([] : (List Int))⟩ : fork_Node) ([98] : Str) t285 hf196 hf199 (SlW.nil _ _) ht286) S rfl rfl (by rintro _ _ _ ⟨_, rfl⟩; exact flat_nil) ?_
      rintro _ w287 _ Γ' E' S ⟨rfl, rfl⟩
      replace E := E.trans E'
      clear E'
      refine W_yes (congrArg some hb282) ?_
      refine W_v (.bool (t285 == (1 : Int))) (x_ibin rfl rfl rfl rfl) rfl ?_
      refine W_v (.bool (t285 == (1 : Int))) (x_pick (k := true) (congrArg Value.bool hb282) rfl) rfl ?_
      refine Wl_nil ?_
      exact ⟨(t285 == (1 : Int)), Option.some.inj H, ⟨rfl, rfl, rfl, rfl, rfl, rfl, rfl, rfl, rfl, rfl, rfl, rfl, rfl, rfl, rfl, trivial⟩, E, S.pick [0, 1, 2, 3, 4, 5, 6, 7, 8, 9, 10, 11, 12, 13, 14] (by decide)⟩
    · skip
      refine W_no (skT hb282) rfl ?_
      refine W_no (skT hb282) rfl ?_
      refine W_no (skT hb282) rfl ?_
      refine W_v (.bool false) (x_pick (k := false) (congrArg Value.bool hb282) rfl) rfl ?_
      refine Wl_nil ?_
      exact ⟨false, Option.some.inj H, ⟨rfl, rfl, rfl, rfl, rfl, rfl, rfl, rfl, rfl, rfl, rfl, rfl, rfl, rfl, rfl, trivial⟩, E, S.pick [0, 1, 2, 3, 4, 5, 6, 7, 8, 9, 10, 11, 12, 13, 14] (by decide)⟩
  clear o284h
  rintro ρ w288 ⟨x283, rfl, hρ, E, S⟩
  rw [agree_eta hρ]
  clear hρ
  have H := o284H
  clear o284H
  refine W_v (.bool x283) (x_move rfl) rfl ?_
  obtain ⟨o297, o297h, o297H⟩ := bindS H
  clear H
  refine Wl_cutN 4 (fun ρ w' => ∃ (x296 : Bool), (x296) = o297 ∧ Agree ρ [(10, .pointer (some ⟨b68, 0, none⟩)), (11, .pointer (some ⟨b71, 0, none⟩)), (12, .string (bs t200.2.2.1)), (13, .int .i64 t200.2.2.2), (15, .string (bs t188.1)), (16, .bool t188.2), (18, .bool t191.2), (19, .pointer (some ⟨b237, 0, none⟩)), (20, .int .i64 t225.2), (21, .pointer (some ⟨b253, 0, none⟩)), (22, .int .i64 t241.2), (23, .pointer (some ⟨b269, 0, none⟩)), (24, .int .i64 t257.2), (155, .bool x296)] ∧ Ext w w' ∧ St w' M221 F [Blk b269 (.cells #[.bool t257.1.Leaf, .slice A259 t257.1.Keys.length c260, .slice A262 t257.1.Kids.length c263, .slice A265 t257.1.Rows.length c266] 26 (0, 0)), Row rStr 9 (.slice A259 t257.1.Keys.length c260) t257.1.Keys, Row (rInt .i64) 3 (.slice A262 t257.1.Kids.length c263) t257.1.Kids, Row (rInt .u64) 41 (.slice A265 t257.1.Rows.length c266) t257.1.Rows, Blk b253 (.cells #[.bool t241.1.Leaf, .slice A243 t241.1.Keys.length c244, .slice A246 t241.1.Kids.length c247, .slice A249 t241.1.Rows.length c250] 26 (0, 0)), Row rStr 9 (.slice A243 t241.1.Keys.length c244) t241.1.Keys, Row (rInt .i64) 3 (.slice A246 t241.1.Kids.length c247) t241.1.Kids, Row (rInt .u64) 41 (.slice A249 t241.1.Rows.length c250) t241.1.Rows, Blk b237 (.cells #[.bool t225.1.Leaf, .slice A227 t225.1.Keys.length c228, .slice A230 t225.1.Kids.length c231, .slice A233 t225.1.Rows.length c234] 26 (0, 0)), Row rStr 9 (.slice A227 t225.1.Keys.length c228) t225.1.Keys, Row (rInt .i64) 3 (.slice A230 t225.1.Kids.length c231) t225.1.Kids, Row (rInt .u64) 41 (.slice A233 t225.1.Rows.length c234) t225.1.Rows, Blk b71 (.cells #[.bool t200.2.1.Leaf, .slice A211 t200.2.1.Keys.length c212, .slice A214 t200.2.1.Kids.length c215, .slice A217 t200.2.1.Rows.length c218] 26 (0, 0)), Blk b68 (.cells #[.bool t200.1.Leaf, .slice A202 t200.1.Keys.length c203, .slice A205 t200.1.Kids.length c206, .slice A208 t200.1.Rows.length c209] 26 (0, 0))]) ?_ ?_
  · have H := o297h
    rcases iteS H with ⟨hb295, H⟩ | ⟨hb295, H⟩
    · skip
      refine W_yes (congrArg some hb295) ?_
      refine W_v (.agg #[.bool false, .slice (some ⟨b178, 0, none⟩) ([([98] : Str), ([100] : Str), ([102] : Str)] : List Str).length 3, .slice (some ⟨b181, 0, none⟩) ([(1 : Int), (2 : Int), (3 : Int), (4 : Int)] : List Int).length 4, .slice none 0 0]) (x_loadA (S.blk 12 rfl) ty26 rfl (sub_of_extract rfl) rfl rfl) rfl ?_
      refine W_yes (congrArg some hb295) ?_
      obtain ⟨t298, ht299, H⟩ := bindS H
      refine W_callF fn13 (fork_Kid.con k M221 (some ⟨b178, 0, none⟩) 3 (some ⟨b181, 0, none⟩) 4 none 0 (⟨false, ([([98] : Str), ([100] : Str), ([102] : Str)] : List Str), ([(1 : Int), (2 : Int), (3 : Int), (4 : Int)] : List Int), ([] : (List Int))⟩ : fork_Node) ([103] : Str) t298 hf196 hf199 (SlW.nil _ _) ht299) S rfl rfl (by rintro _ _ _ ⟨_, rfl⟩; exact flat_nil) ?_
      rintro _ w300 _ Γ' E' S ⟨rfl, rfl⟩
      replace E := E.trans E'
      clear E'
      refine W_yes (congrArg some hb295) ?_
      refine W_v (.bool (t298 == (3 : Int))) (x_ibin rfl rfl rfl rfl) rfl ?_
      refine W_v (.bool (t298 == (3 : Int))) (x_pick (k := true) (congrArg Value.bool hb295) rfl) rfl ?_
      refine Wl_nil ?_
      exact ⟨(t298 == (3 : Int)), Option.some.inj H, ⟨rfl, rfl, rfl, rfl, rfl, rfl, rfl, rfl, rfl, rfl, rfl, rfl, rfl, rfl, trivial⟩, E, S.pick [0, 1, 2, 3, 4, 5, 6, 7, 8, 9, 10, 11, 13, 14] (by decide)⟩
    · skip
      refine W_no (skT hb295) rfl ?_
      refine W_no (skT hb295) rfl ?_
      refine W_no (skT hb295) rfl ?_
      refine W_v (.bool false) (x_pick (k := false) (congrArg Value.bool hb295) rfl) rfl ?_
      refine Wl_nil ?_
      exact ⟨false, Option.some.inj H, ⟨rfl, rfl, rfl, rfl, rfl, rfl, rfl, rfl, rfl, rfl, rfl, rfl, rfl, rfl, trivial⟩, E, S.pick [0, 1, 2, 3, 4, 5, 6, 7, 8, 9, 10, 11, 13, 14] (by decide)⟩
  clear o297h
  rintro ρ w301 ⟨x296, rfl, hρ, E, S⟩
  rw [agree_eta hρ]
  clear hρ
  have H := o297H
  clear o297H
  refine W_v (.bool x296) (x_move rfl) rfl ?_
  refine Wl_cutN 2 (fun ρ w' => Agree ρ [(10, .pointer (some ⟨b68, 0, none⟩)), (11, .pointer (some ⟨b71, 0, none⟩)), (12, .string (bs t200.2.2.1)), (13, .int .i64 t200.2.2.2), (15, .string (bs t188.1)), (18, .bool t191.2), (19, .pointer (some ⟨b237, 0, none⟩)), (20, .int .i64 t225.2), (21, .pointer (some ⟨b253, 0, none⟩)), (22, .int .i64 t241.2), (23, .pointer (some ⟨b269, 0, none⟩)), (24, .int .i64 t257.2), (158, .bool (x296 && t188.2))] ∧ w301 = w') ?_ ?_
  · rcases boolCases x296 with hb302 | hb302
    · skip
      refine W_no (skT hb302) rfl ?_
      refine W_v (.bool false) (x_pick (k := false) (congrArg Value.bool hb302) rfl) rfl ?_
      refine Wl_nil ?_
      exact ⟨⟨rfl, rfl, rfl, rfl, rfl, rfl, rfl, rfl, rfl, rfl, rfl, rfl, (by first | rfl | (rw [hb302]; rfl) | (simp only [hb302]; rfl)), trivial⟩, rfl⟩
    · skip
      refine W_yes (congrArg some hb302) ?_
      refine W_v (.bool t188.2) (x_move rfl) rfl ?_
      refine W_v (.bool t188.2) (x_pick (k := true) (congrArg Value.bool hb302) rfl) rfl ?_
      refine Wl_nil ?_
      exact ⟨⟨rfl, rfl, rfl, rfl, rfl, rfl, rfl, rfl, rfl, rfl, rfl, rfl, (by first | rfl | (rw [hb302]; rfl) | (simp only [hb302]; rfl)), trivial⟩, rfl⟩
  rintro ρ _ ⟨hρ, rfl⟩
  rw [agree_eta hρ]
  clear hρ
  refine W_v (.bool (x296 && t188.2)) (x_move rfl) rfl ?_
  refine Wl_cutN 3 (fun ρ w' => Agree ρ [(10, .pointer (some ⟨b68, 0, none⟩)), (11, .pointer (some ⟨b71, 0, none⟩)), (12, .string (bs t200.2.2.1)), (13, .int .i64 t200.2.2.2), (18, .bool t191.2), (19, .pointer (some ⟨b237, 0, none⟩)), (20, .int .i64 t225.2), (21, .pointer (some ⟨b253, 0, none⟩)), (22, .int .i64 t241.2), (23, .pointer (some ⟨b269, 0, none⟩)), (24, .int .i64 t257.2), (162, .bool ((x296 && t188.2) && (sbin .eql t188.1 ([100] : Str))))] ∧ w301 = w') ?_ ?_
  · rcases boolCases (x296 && t188.2) with hb303 | hb303
    · skip
      refine W_no (skT hb303) rfl ?_
      refine W_no (skT hb303) rfl ?_
      refine W_v (.bool false) (x_pick (k := false) (congrArg Value.bool hb303) rfl) rfl ?_
      refine Wl_nil ?_
      exact ⟨⟨rfl, rfl, rfl, rfl, rfl, rfl, rfl, rfl, rfl, rfl, rfl, (by first | rfl | (rw [hb303]; rfl) | (simp only [hb303]; rfl)), trivial⟩, rfl⟩
    · skip
      refine W_yes (congrArg some hb303) ?_
      refine W_v (.string (bs t188.1)) (x_move rfl) rfl ?_
      refine W_yes (congrArg some hb303) ?_
      refine W_v (.bool (sbin .eql t188.1 ([100] : Str))) (x_sbin rfl rfl rfl) rfl ?_
      refine W_v (.bool (sbin .eql t188.1 ([100] : Str))) (x_pick (k := true) (congrArg Value.bool hb303) rfl) rfl ?_
      refine Wl_nil ?_
      exact ⟨⟨rfl, rfl, rfl, rfl, rfl, rfl, rfl, rfl, rfl, rfl, rfl, (by first | rfl | (rw [hb303]; rfl) | (simp only [hb303]; rfl)), trivial⟩, rfl⟩
  rintro ρ _ ⟨hρ, rfl⟩
  rw [agree_eta hρ]
  clear hρ
  refine W_v (.bool ((x296 && t188.2) && (sbin .eql t188.1 ([100] : Str)))) (x_move rfl) rfl ?_
  refine Wl_cutN 3 (fun ρ w' => Agree ρ [(10, .pointer (some ⟨b68, 0, none⟩)), (11, .pointer (some ⟨b71, 0, none⟩)), (12, .string (bs t200.2.2.1)), (13, .int .i64 t200.2.2.2), (19, .pointer (some ⟨b237, 0, none⟩)), (20, .int .i64 t225.2), (21, .pointer (some ⟨b253, 0, none⟩)), (22, .int .i64 t241.2), (23, .pointer (some ⟨b269, 0, none⟩)), (24, .int .i64 t257.2), (166, .bool (((x296 && t188.2) && (sbin .eql t188.1 ([100] : Str))) && (!t191.2)))] ∧ w301 = w') ?_ ?_
  · rcases boolCases ((x296 && t188.2) && (sbin .eql t188.1 ([100] : Str))) with hb304 | hb304
    · skip
      refine W_no (skT hb304) rfl ?_
      refine W_no (skT hb304) rfl ?_
      refine W_v (.bool false) (x_pick (k := false) (congrArg Value.bool hb304) rfl) rfl ?_
      refine Wl_nil ?_
      exact ⟨⟨rfl, rfl, rfl, rfl, rfl, rfl, rfl, rfl, rfl, rfl, (by first | rfl | (rw [hb304]; rfl) | (simp only [hb304]; rfl)), trivial⟩, rfl⟩
    · skip
      refine W_yes (congrArg some hb304) ?_
      refine W_v (.bool t191.2) (x_move rfl) rfl ?_
      refine W_yes (congrArg some hb304) ?_
      refine W_v (.bool (!t191.2)) (x_not rfl) rfl ?_
      refine W_v (.bool (!t191.2)) (x_pick (k := true) (congrArg Value.bool hb304) rfl) rfl ?_
      refine Wl_nil ?_
      exact ⟨⟨rfl, rfl, rfl, rfl, rfl, rfl, rfl, rfl, rfl, rfl, (by first | rfl | (rw [hb304]; rfl) | (simp only [hb304]; rfl)), trivial⟩, rfl⟩
  rintro ρ _ ⟨hρ, rfl⟩
  rw [agree_eta hρ]
  clear hρ
  refine W_v (.bool (((x296 && t188.2) && (sbin .eql t188.1 ([100] : Str))) && (!t191.2))) (x_move rfl) rfl ?_
  refine Wl_cutN 3 (fun ρ w' => Agree ρ [(10, .pointer (some ⟨b68, 0, none⟩)), (11, .pointer (some ⟨b71, 0, none⟩)), (12, .string (bs t200.2.2.1)), (19, .pointer (some ⟨b237, 0, none⟩)), (20, .int .i64 t225.2), (21, .pointer (some ⟨b253, 0, none⟩)), (22, .int .i64 t241.2), (23, .pointer (some ⟨b269, 0, none⟩)), (24, .int .i64 t257.2), (170, .bool ((((x296 && t188.2) && (sbin .eql t188.1 ([100] : Str))) && (!t191.2)) && (t200.2.2.2 == (0 : Int))))] ∧ w301 = w') ?_ ?_
  · rcases boolCases (((x296 && t188.2) && (sbin .eql t188.1 ([100] : Str))) && (!t191.2)) with hb305 | hb305
    · skip
      refine W_no (skT hb305) rfl ?_
      refine W_no (skT hb305) rfl ?_
      refine W_v (.bool false) (x_pick (k := false) (congrArg Value.bool hb305) rfl) rfl ?_
      refine Wl_nil ?_
      exact ⟨⟨rfl, rfl, rfl, rfl, rfl, rfl, rfl, rfl, rfl, (by first | rfl | (rw [hb305]; rfl) | (simp only [hb305]; rfl)), trivial⟩, rfl⟩
    · skip
      refine W_yes (congrArg some hb305) ?_
      refine W_v (.int .i64 t200.2.2.2) (x_move rfl) rfl ?_
      refine W_yes (congrArg some hb305) ?_
      refine W_v (.bool (t200.2.2.2 == (0 : Int))) (x_ibin rfl rfl rfl rfl) rfl ?_
      refine W_v (.bool (t200.2.2.2 == (0 : Int))) (x_pick (k := true) (congrArg Value.bool hb305) rfl) rfl ?_
      refine Wl_nil ?_
      exact ⟨⟨rfl, rfl, rfl, rfl, rfl, rfl, rfl, rfl, rfl, (by first | rfl | (rw [hb305]; rfl) | (simp only [hb305]; rfl)), trivial⟩, rfl⟩
  rintro ρ _ ⟨hρ, rfl⟩
  rw [agree_eta hρ]
  clear hρ
  refine W_v (.bool ((((x296 && t188.2) && (sbin .eql t188.1 ([100] : Str))) && (!t191.2)) && (t200.2.2.2 == (0 : Int)))) (x_move rfl) rfl ?_
  refine Wl_cutN 3 (fun ρ w' => Agree ρ [(10, .pointer (some ⟨b68, 0, none⟩)), (11, .pointer (some ⟨b71, 0, none⟩)), (19, .pointer (some ⟨b237, 0, none⟩)), (20, .int .i64 t225.2), (21, .pointer (some ⟨b253, 0, none⟩)), (22, .int .i64 t241.2), (23, .pointer (some ⟨b269, 0, none⟩)), (24, .int .i64 t257.2), (174, .bool (((((x296 && t188.2) && (sbin .eql t188.1 ([100] : Str))) && (!t191.2)) && (t200.2.2.2 == (0 : Int))) && (sbin .eql t200.2.2.1 ([102] : Str))))] ∧ w301 = w') ?_ ?_
  · rcases boolCases ((((x296 && t188.2) && (sbin .eql t188.1 ([100] : Str))) && (!t191.2)) && (t200.2.2.2 == (0 : Int))) with hb306 | hb306
    · skip
      refine W_no (skT hb306) rfl ?_
      refine W_no (skT hb306) rfl ?_
      refine W_v (.bool false) (x_pick (k := false) (congrArg Value.bool hb306) rfl) rfl ?_
      refine Wl_nil ?_
      exact ⟨⟨rfl, rfl, rfl, rfl, rfl, rfl, rfl, rfl, (by first | rfl | (rw [hb306]; rfl) | (simp only [hb306]; rfl)), trivial⟩, rfl⟩
    · skip
      refine W_yes (congrArg some hb306) ?_
      refine W_v (.string (bs t200.2.2.1)) (x_move rfl) rfl ?_
      refine W_yes (congrArg some hb306) ?_
      refine W_v (.bool (sbin .eql t200.2.2.1 ([102] : Str))) (x_sbin rfl rfl rfl) rfl ?_
      refine W_v (.bool (sbin .eql t200.2.2.1 ([102] : Str))) (x_pick (k := true) (congrArg Value.bool hb306) rfl) rfl ?_
      refine Wl_nil ?_
      exact ⟨⟨rfl, rfl, rfl, rfl, rfl, rfl, rfl, rfl, (by first | rfl | (rw [hb306]; rfl) | (simp only [hb306]; rfl)), trivial⟩, rfl⟩
  rintro ρ _ ⟨hρ, rfl⟩
  rw [agree_eta hρ]
  clear hρ
  refine W_v (.bool (((((x296 && t188.2) && (sbin .eql t188.1 ([100] : Str))) && (!t191.2)) && (t200.2.2.2 == (0 : Int))) && (sbin .eql t200.2.2.1 ([102] : Str)))) (x_move rfl) rfl ?_
  obtain ⟨o327, o327h, o327H⟩ := bindS H
  clear H
  refine Wl_cutN 5 (fun ρ w' => ∃ (x326 : Bool), (x326) = o327 ∧ Agree ρ [(11, .pointer (some ⟨b71, 0, none⟩)), (19, .pointer (some ⟨b237, 0, none⟩)), (20, .int .i64 t225.2), (21, .pointer (some ⟨b253, 0, none⟩)), (22, .int .i64 t241.2), (23, .pointer (some ⟨b269, 0, none⟩)), (24, .int .i64 t257.2), (180, .bool x326)] ∧ Ext w w' ∧ St w' M221 F [Blk b269 (.cells #[.bool t257.1.Leaf, .slice A259 t257.1.Keys.length c260, .slice A262 t257.1.Kids.length c263, .slice A265 t257.1.Rows.length c266] 26 (0, 0)), Row rStr 9 (.slice A259 t257.1.Keys.length c260) t257.1.Keys, Row (rInt .i64) 3 (.slice A262 t257.1.Kids.length c263) t257.1.Kids, Row (rInt .u64) 41 (.slice A265 t257.1.Rows.length c266) t257.1.Rows, Blk b253 (.cells #[.bool t241.1.Leaf, .slice A243 t241.1.Keys.length c244, .slice A246 t241.1.Kids.length c247, .slice A249 t241.1.Rows.length c250] 26 (0, 0)), Row rStr 9 (.slice A243 t241.1.Keys.length c244) t241.1.Keys, Row (rInt .i64) 3 (.slice A246 t241.1.Kids.length c247) t241.1.Kids, Row (rInt .u64) 41 (.slice A249 t241.1.Rows.length c250) t241.1.Rows, Blk b237 (.cells #[.bool t225.1.Leaf, .slice A227 t225.1.Keys.length c228, .slice A230 t225.1.Kids.length c231, .slice A233 t225.1.Rows.length c234] 26 (0, 0)), Row rStr 9 (.slice A227 t225.1.Keys.length c228) t225.1.Keys, Row (rInt .i64) 3 (.slice A230 t225.1.Kids.length c231) t225.1.Kids, Row (rInt .u64) 41 (.slice A233 t225.1.Rows.length c234) t225.1.Rows, Blk b71 (.cells #[.bool t200.2.1.Leaf, .slice A211 t200.2.1.Keys.length c212, .slice A214 t200.2.1.Kids.length c215, .slice A217 t200.2.1.Rows.length c218] 26 (0, 0))]) ?_ ?_
  · have H := o327h
    rcases iteS H with ⟨hb325, H⟩ | ⟨hb325, H⟩
    · skip
      refine W_yes (congrArg some hb325) ?_
      refine W_v (.agg #[.bool t200.1.Leaf, .slice A202 t200.1.Keys.length c203, .slice A205 t200.1.Kids.length c206, .slice A208 t200.1.Rows.length c209]) (x_loadA (S.blk 13 rfl) ty26 rfl (sub_of_extract rfl) rfl rfl) rfl ?_
      refine W_yes (congrArg some hb325) ?_
      refine W_bslice S #[.string (bs ([98] : Str)), .string (bs ([100] : Str))] Try.underlying22 ty9 rfl rfl #[.string (bs ([] : Str)), .string (bs ([] : Str))] (by kernel_rfl) (by kernel_rfl) rfl ?_
      intro b328 w329 E' S
      replace E := E.trans E'
      clear E'
      replace S := S.blk_row (r := rStr) (l := ([([98] : Str), ([100] : Str)] : List Str)) 0 rfl 2 (Nat.le_refl 2) rfl (Cells.cons (vs := [.string (bs ([98] : Str))]) (rfl) (Cells.cons (vs := [.string (bs ([100] : Str))]) (rfl) Cells.nil))
      refine W_yes (congrArg some hb325) ?_
      refine W_bslice S #[.int .i64 1, .int .i64 2, .int .i64 3] Try.underlying23 ty3 rfl rfl #[.int .i64 0, .int .i64 0, .int .i64 0] (by kernel_rfl) (by kernel_rfl) rfl ?_
      intro b331 w332 E' S
      replace E := E.trans E'
      clear E'
      replace S := S.blk_row (r := (rInt .i64)) (l := ([(1 : Int), (2 : Int), (3 : Int)] : List Int)) 0 rfl 3 (Nat.le_refl 3) rfl (Cells.cons (vs := [.int .i64 1]) (rfl) (Cells.cons (vs := [.int .i64 2]) (rfl) (Cells.cons (vs := [.int .i64 3]) (rfl) Cells.nil)))
      refine W_yes (congrArg some hb325) ?_
      replace S : St w332 M221 F [Row rStr 9 (.slice (some ⟨b328, 0, none⟩) ([([98] : Str), ([100] : Str)] : List Str).length 2) ([([98] : Str), ([100] : Str)] : List Str), Row (rInt .i64) 3 (.slice (some ⟨b331, 0, none⟩) ([(1 : Int), (2 : Int), (3 : Int)] : List Int).length 3) ([(1 : Int), (2 : Int), (3 : Int)] : List Int), Blk b269 (.cells #[.bool t257.1.Leaf, .slice A259 t257.1.Keys.length c260, .slice A262 t257.1.Kids.length c263, .slice A265 t257.1.Rows.length c266] 26 (0, 0)), Row rStr 9 (.slice A259 t257.1.Keys.length c260) t257.1.Keys, Row (rInt .i64) 3 (.slice A262 t257.1.Kids.length c263) t257.1.Kids, Row (rInt .u64) 41 (.slice A265 t257.1.Rows.length c266) t257.1.Rows, Blk b253 (.cells #[.bool t241.1.Leaf, .slice A243 t241.1.Keys.length c244, .slice A246 t241.1.Kids.length c247, .slice A249 t241.1.Rows.length c250] 26 (0, 0)), Row rStr 9 (.slice A243 t241.1.Keys.length c244) t241.1.Keys, Row (rInt .i64) 3 (.slice A246 t241.1.Kids.length c247) t241.1.Kids, Row (rInt .u64) 41 (.slice A249 t241.1.Rows.length c250) t241.1.Rows, Blk b237 (.cells #[.bool t225.1.Leaf, .slice A227 t225.1.Keys.length c228, .slice A230 t225.1.Kids.length c231, .slice A233 t225.1.Rows.length c234] 26 (0, 0)), Row rStr 9 (.slice A227 t225.1.Keys.length c228) t225.1.Keys, Row (rInt .i64) 3 (.slice A230 t225.1.Kids.length c231) t225.1.Kids, Row (rInt .u64) 41 (.slice A233 t225.1.Rows.length c234) t225.1.Rows, Blk b71 (.cells #[.bool t200.2.1.Leaf, .slice A211 t200.2.1.Keys.length c212, .slice A214 t200.2.1.Kids.length c215, .slice A217 t200.2.1.Rows.length c218] 26 (0, 0)), Blk b68 (.cells #[.bool t200.1.Leaf, .slice A202 t200.1.Keys.length c203, .slice A205 t200.1.Kids.length c206, .slice A208 t200.1.Rows.length c209] 26 (0, 0))] := S.pick [1, 0, 2, 3, 4, 5, 6, 7, 8, 9, 10, 11, 12, 13, 14, 15] (by decide)
      obtain ⟨t334, ht335, H⟩ := bindS H
      refine W_callN 2 fn32 (fun h9 hs9 hd9 => ferrymanlaw13_is.con k _ A202 c203 A205 c206 A208 c209 t200.1 (some ⟨b328, 0, none⟩) 2 ([([98] : Str), ([100] : Str)] : List Str) (some ⟨b331, 0, none⟩) 3 ([(1 : Int), (2 : Int), (3 : Int)] : List Int) none 0 ([] : (List Int)) t334 (SlR.mono hs204 (Hp.le_union_left _ _)) (SlR.mono hs207 (Hp.le_union_left _ _)) (SlR.mono hs210 (Hp.le_union_left _ _)) (Sats.row hs9 hd9 0 rfl) (Sats.row hs9 hd9 1 rfl) (SlW.nil _ _) ht335) S rfl rfl (by rintro _ _ _ ⟨_, rfl⟩; exact flat_nil) ?_
      rintro _ w336 _ Γ' E' S ⟨rfl, rfl⟩
      replace E := E.trans E'
      clear E'
      refine W_v (.bool t334) (x_pick (k := true) (congrArg Value.bool hb325) rfl) rfl ?_
      refine Wl_nil ?_
      exact ⟨t334, Option.some.inj H, ⟨rfl, rfl, rfl, rfl, rfl, rfl, rfl, rfl, trivial⟩, E, S.pick [2, 3, 4, 5, 6, 7, 8, 9, 10, 11, 12, 13, 14] (by decide)⟩
    · skip
      refine W_no (skT hb325) rfl ?_
      refine W_no (skT hb325) rfl ?_
      refine W_no (skT hb325) rfl ?_
      refine W_no (skT hb325) rfl ?_
      refine W_v (.bool false) (x_pick (k := false) (congrArg Value.bool hb325) rfl) rfl ?_
      refine Wl_nil ?_
      exact ⟨false, Option.some.inj H, ⟨rfl, rfl, rfl, rfl, rfl, rfl, rfl, rfl, trivial⟩, E, S.pick [0, 1, 2, 3, 4, 5, 6, 7, 8, 9, 10, 11, 12] (by decide)⟩
  clear o327h
  rintro ρ w337 ⟨x326, rfl, hρ, E, S⟩
  rw [agree_eta hρ]
  clear hρ
  have H := o327H
  clear o327H
  refine W_v (.bool x326) (x_move rfl) rfl ?_
  obtain ⟨o352, o352h, o352H⟩ := bindS H
  clear H
  refine Wl_cutN 4 (fun ρ w' => ∃ (x351 : Bool), (x351) = o352 ∧ Agree ρ [(19, .pointer (some ⟨b237, 0, none⟩)), (20, .int .i64 t225.2), (21, .pointer (some ⟨b253, 0, none⟩)), (22, .int .i64 t241.2), (23, .pointer (some ⟨b269, 0, none⟩)), (24, .int .i64 t257.2), (185, .bool x351)] ∧ Ext w w' ∧ St w' M221 F [Blk b269 (.cells #[.bool t257.1.Leaf, .slice A259 t257.1.Keys.length c260, .slice A262 t257.1.Kids.length c263, .slice A265 t257.1.Rows.length c266] 26 (0, 0)), Row rStr 9 (.slice A259 t257.1.Keys.length c260) t257.1.Keys, Row (rInt .i64) 3 (.slice A262 t257.1.Kids.length c263) t257.1.Kids, Row (rInt .u64) 41 (.slice A265 t257.1.Rows.length c266) t257.1.Rows, Blk b253 (.cells #[.bool t241.1.Leaf, .slice A243 t241.1.Keys.length c244, .slice A246 t241.1.Kids.length c247, .slice A249 t241.1.Rows.length c250] 26 (0, 0)), Row rStr 9 (.slice A243 t241.1.Keys.length c244) t241.1.Keys, Row (rInt .i64) 3 (.slice A246 t241.1.Kids.length c247) t241.1.Kids, Row (rInt .u64) 41 (.slice A249 t241.1.Rows.length c250) t241.1.Rows, Blk b237 (.cells #[.bool t225.1.Leaf, .slice A227 t225.1.Keys.length c228, .slice A230 t225.1.Kids.length c231, .slice A233 t225.1.Rows.length c234] 26 (0, 0)), Row rStr 9 (.slice A227 t225.1.Keys.length c228) t225.1.Keys, Row (rInt .i64) 3 (.slice A230 t225.1.Kids.length c231) t225.1.Kids, Row (rInt .u64) 41 (.slice A233 t225.1.Rows.length c234) t225.1.Rows]) ?_ ?_
  · have H := o352h
    rcases iteS H with ⟨hb350, H⟩ | ⟨hb350, H⟩
    · skip
      refine W_yes (congrArg some hb350) ?_
      refine W_v (.agg #[.bool t200.2.1.Leaf, .slice A211 t200.2.1.Keys.length c212, .slice A214 t200.2.1.Kids.length c215, .slice A217 t200.2.1.Rows.length c218]) (x_loadA (S.blk 12 rfl) ty26 rfl (sub_of_extract rfl) rfl rfl) rfl ?_
      refine W_yes (congrArg some hb350) ?_
      refine W_bslice S #[.int .i64 4] Try.underlying23 ty3 rfl rfl #[.int .i64 0] (by kernel_rfl) (by kernel_rfl) rfl ?_
      intro b353 w354 E' S
      replace E := E.trans E'
      clear E'
      replace S := S.blk_row (r := (rInt .i64)) (l := ([(4 : Int)] : List Int)) 0 rfl 1 (Nat.le_refl 1) rfl (Cells.cons (vs := [.int .i64 4]) (rfl) Cells.nil)
      refine W_yes (congrArg some hb350) ?_
      obtain ⟨t356, ht357, H⟩ := bindS H
      refine W_callN 1 fn32 (fun h9 hs9 hd9 => ferrymanlaw13_is.con k _ A211 c212 A214 c215 A217 c218 t200.2.1 none 0 ([] : (List Str)) (some ⟨b353, 0, none⟩) 1 ([(4 : Int)] : List Int) none 0 ([] : (List Int)) t356 (SlR.mono hs213 (Hp.le_union_left _ _)) (SlR.mono hs216 (Hp.le_union_left _ _)) (SlR.mono hs219 (Hp.le_union_left _ _)) (SlW.nil _ _) (Sats.row hs9 hd9 0 rfl) (SlW.nil _ _) ht357) S rfl rfl (by rintro _ _ _ ⟨_, rfl⟩; exact flat_nil) ?_
      rintro _ w358 _ Γ' E' S ⟨rfl, rfl⟩
      replace E := E.trans E'
      clear E'
      refine W_v (.bool t356) (x_pick (k := true) (congrArg Value.bool hb350) rfl) rfl ?_
      refine Wl_nil ?_
      exact ⟨t356, Option.some.inj H, ⟨rfl, rfl, rfl, rfl, rfl, rfl, rfl, trivial⟩, E, S.pick [1, 2, 3, 4, 5, 6, 7, 8, 9, 10, 11, 12] (by decide)⟩
    · skip
      refine W_no (skT hb350) rfl ?_
      refine W_no (skT hb350) rfl ?_
      refine W_no (skT hb350) rfl ?_
      refine W_v (.bool false) (x_pick (k := false) (congrArg Value.bool hb350) rfl) rfl ?_
      refine Wl_nil ?_
      exact ⟨false, Option.some.inj H, ⟨rfl, rfl, rfl, rfl, rfl, rfl, rfl, trivial⟩, E, S.pick [0, 1, 2, 3, 4, 5, 6, 7, 8, 9, 10, 11] (by decide)⟩
  clear o352h
  rintro ρ w359 ⟨x351, rfl, hρ, E, S⟩
  rw [agree_eta hρ]
  clear hρ
  have H := o352H
  clear o352H
  refine W_v (.bool x351) (x_move rfl) rfl ?_
  refine Wl_cutN 3 (fun ρ w' => Agree ρ [(19, .pointer (some ⟨b237, 0, none⟩)), (21, .pointer (some ⟨b253, 0, none⟩)), (22, .int .i64 t241.2), (23, .pointer (some ⟨b269, 0, none⟩)), (24, .int .i64 t257.2), (189, .bool (x351 && (t225.2 == (0 : Int))))] ∧ w359 = w') ?_ ?_
  · rcases boolCases x351 with hb360 | hb360
    · skip
      refine W_no (skT hb360) rfl ?_
      refine W_no (skT hb360) rfl ?_
      refine W_v (.bool false) (x_pick (k := false) (congrArg Value.bool hb360) rfl) rfl ?_
      refine Wl_nil ?_
      exact ⟨⟨rfl, rfl, rfl, rfl, rfl, (by first | rfl | (rw [hb360]; rfl) | (simp only [hb360]; rfl)), trivial⟩, rfl⟩
    · skip
      refine W_yes (congrArg some hb360) ?_
      refine W_v (.int .i64 t225.2) (x_move rfl) rfl ?_
      refine W_yes (congrArg some hb360) ?_
      refine W_v (.bool (t225.2 == (0 : Int))) (x_ibin rfl rfl rfl rfl) rfl ?_
      refine W_v (.bool (t225.2 == (0 : Int))) (x_pick (k := true) (congrArg Value.bool hb360) rfl) rfl ?_
      refine Wl_nil ?_
      exact ⟨⟨rfl, rfl, rfl, rfl, rfl, (by first | rfl | (rw [hb360]; rfl) | (simp only [hb360]; rfl)), trivial⟩, rfl⟩
  rintro ρ _ ⟨hρ, rfl⟩
  rw [agree_eta hρ]
  clear hρ
  refine W_v (.bool (x351 && (t225.2 == (0 : Int)))) (x_move rfl) rfl ?_
  obtain ⟨o381, o381h, o381H⟩ := bindS H
  clear H
  refine Wl_cutN 5 (fun ρ w' => ∃ (x380 : Bool), (x380) = o381 ∧ Agree ρ [(21, .pointer (some ⟨b253, 0, none⟩)), (22, .int .i64 t241.2), (23, .pointer (some ⟨b269, 0, none⟩)), (24, .int .i64 t257.2), (195, .bool x380)] ∧ Ext w w' ∧ St w' M221 F [Blk b269 (.cells #[.bool t257.1.Leaf, .slice A259 t257.1.Keys.length c260, .slice A262 t257.1.Kids.length c263, .slice A265 t257.1.Rows.length c266] 26 (0, 0)), Row rStr 9 (.slice A259 t257.1.Keys.length c260) t257.1.Keys, Row (rInt .i64) 3 (.slice A262 t257.1.Kids.length c263) t257.1.Kids, Row (rInt .u64) 41 (.slice A265 t257.1.Rows.length c266) t257.1.Rows, Blk b253 (.cells #[.bool t241.1.Leaf, .slice A243 t241.1.Keys.length c244, .slice A246 t241.1.Kids.length c247, .slice A249 t241.1.Rows.length c250] 26 (0, 0)), Row rStr 9 (.slice A243 t241.1.Keys.length c244) t241.1.Keys, Row (rInt .i64) 3 (.slice A246 t241.1.Kids.length c247) t241.1.Kids, Row (rInt .u64) 41 (.slice A249 t241.1.Rows.length c250) t241.1.Rows]) ?_ ?_
  · have H := o381h
    rcases iteS H with ⟨hb379, H⟩ | ⟨hb379, H⟩
    · skip
      refine W_yes (congrArg some hb379) ?_
      refine W_v (.agg #[.bool t225.1.Leaf, .slice A227 t225.1.Keys.length c228, .slice A230 t225.1.Kids.length c231, .slice A233 t225.1.Rows.length c234]) (x_loadA (S.blk 8 rfl) ty26 rfl (sub_of_extract rfl) rfl rfl) rfl ?_
      refine W_yes (congrArg some hb379) ?_
      refine W_bslice S #[.string (bs ([98] : Str)), .string (bs ([100] : Str)), .string (bs ([101] : Str)), .string (bs ([102] : Str))] Try.underlying22 ty9 rfl rfl #[.string (bs ([] : Str)), .string (bs ([] : Str)), .string (bs ([] : Str)), .string (bs ([] : Str))] (by kernel_rfl) (by kernel_rfl) rfl ?_
      intro b382 w383 E' S
      replace E := E.trans E'
      clear E'
      replace S := S.blk_row (r := rStr) (l := ([([98] : Str), ([100] : Str), ([101] : Str), ([102] : Str)] : List Str)) 0 rfl 4 (Nat.le_refl 4) rfl (Cells.cons (vs := [.string (bs ([98] : Str))]) (rfl) (Cells.cons (vs := [.string (bs ([100] : Str))]) (rfl) (Cells.cons (vs := [.string (bs ([101] : Str))]) (rfl) (Cells.cons (vs := [.string (bs ([102] : Str))]) (rfl) Cells.nil))))
      refine W_yes (congrArg some hb379) ?_
      refine W_bslice S #[.int .i64 1, .int .i64 2, .int .i64 3, .int .i64 9, .int .i64 4] Try.underlying23 ty3 rfl rfl #[.int .i64 0, .int .i64 0, .int .i64 0, .int .i64 0, .int .i64 0] (by kernel_rfl) (by kernel_rfl) rfl ?_
      intro b385 w386 E' S
      replace E := E.trans E'
      clear E'
      replace S := S.blk_row (r := (rInt .i64)) (l := ([(1 : Int), (2 : Int), (3 : Int), (9 : Int), (4 : Int)] : List Int)) 0 rfl 5 (Nat.le_refl 5) rfl (Cells.cons (vs := [.int .i64 1]) (rfl) (Cells.cons (vs := [.int .i64 2]) (rfl) (Cells.cons (vs := [.int .i64 3]) (rfl) (Cells.cons (vs := [.int .i64 9]) (rfl) (Cells.cons (vs := [.int .i64 4]) (rfl) Cells.nil)))))
      refine W_yes (congrArg some hb379) ?_
      replace S : St w386 M221 F [Row rStr 9 (.slice A227 t225.1.Keys.length c228) t225.1.Keys, Row (rInt .i64) 3 (.slice A230 t225.1.Kids.length c231) t225.1.Kids, Row (rInt .u64) 41 (.slice A233 t225.1.Rows.length c234) t225.1.Rows, Row rStr 9 (.slice (some ⟨b382, 0, none⟩) ([([98] : Str), ([100] : Str), ([101] : Str), ([102] : Str)] : List Str).length 4) ([([98] : Str), ([100] : Str), ([101] : Str), ([102] : Str)] : List Str), Row (rInt .i64) 3 (.slice (some ⟨b385, 0, none⟩) ([(1 : Int), (2 : Int), (3 : Int), (9 : Int), (4 : Int)] : List Int).length 5) ([(1 : Int), (2 : Int), (3 : Int), (9 : Int), (4 : Int)] : List Int), Blk b269 (.cells #[.bool t257.1.Leaf, .slice A259 t257.1.Keys.length c260, .slice A262 t257.1.Kids.length c263, .slice A265 t257.1.Rows.length c266] 26 (0, 0)), Row rStr 9 (.slice A259 t257.1.Keys.length c260) t257.1.Keys, Row (rInt .i64) 3 (.slice A262 t257.1.Kids.length c263) t257.1.Kids, Row (rInt .u64) 41 (.slice A265 t257.1.Rows.length c266) t257.1.Rows, Blk b253 (.cells #[.bool t241.1.Leaf, .slice A243 t241.1.Keys.length c244, .slice A246 t241.1.Kids.length c247, .slice A249 t241.1.Rows.length c250] 26 (0, 0)), Row rStr 9 (.slice A243 t241.1.Keys.length c244) t241.1.Keys, Row (rInt .i64) 3 (.slice A246 t241.1.Kids.length c247) t241.1.Kids, Row (rInt .u64) 41 (.slice A249 t241.1.Rows.length c250) t241.1.Rows, Blk b237 (.cells #[.bool t225.1.Leaf, .slice A227 t225.1.Keys.length c228, .slice A230 t225.1.Kids.length c231, .slice A233 t225.1.Rows.length c234] 26 (0, 0))] := S.pick [11, 12, 13, 1, 0, 2, 3, 4, 5, 6, 7, 8, 9, 10] (by decide)
      obtain ⟨t388, ht389, H⟩ := bindS H
      refine W_callN 5 fn32 (fun h9 hs9 hd9 => ferrymanlaw13_is.con k _ A227 c228 A230 c231 A233 c234 t225.1 (some ⟨b382, 0, none⟩) 4 ([([98] : Str), ([100] : Str), ([101] : Str), ([102] : Str)] : List Str) (some ⟨b385, 0, none⟩) 5 ([(1 : Int), (2 : Int), (3 : Int), (9 : Int), (4 : Int)] : List Int) none 0 ([] : (List Int)) t388 (Sats.row hs9 hd9 0 rfl) (Sats.row hs9 hd9 1 rfl) (Sats.row hs9 hd9 2 rfl) (Sats.row hs9 hd9 3 rfl) (Sats.row hs9 hd9 4 rfl) (SlW.nil _ _) ht389) S rfl rfl (by rintro _ _ _ ⟨_, rfl⟩; exact flat_nil) ?_
      rintro _ w390 _ Γ' E' S ⟨rfl, rfl⟩
      replace E := E.trans E'
      clear E'
      refine W_v (.bool t388) (x_pick (k := true) (congrArg Value.bool hb379) rfl) rfl ?_
      refine Wl_nil ?_
      exact ⟨t388, Option.some.inj H, ⟨rfl, rfl, rfl, rfl, rfl, trivial⟩, E, S.pick [5, 6, 7, 8, 9, 10, 11, 12] (by decide)⟩
    · skip
      refine W_no (skT hb379) rfl ?_
      refine W_no (skT hb379) rfl ?_
      refine W_no (skT hb379) rfl ?_
      refine W_no (skT hb379) rfl ?_
      refine W_v (.bool false) (x_pick (k := false) (congrArg Value.bool hb379) rfl) rfl ?_
      refine Wl_nil ?_
      exact ⟨false, Option.some.inj H, ⟨rfl, rfl, rfl, rfl, rfl, trivial⟩, E, S.pick [0, 1, 2, 3, 4, 5, 6, 7] (by decide)⟩
  clear o381h
  rintro ρ w391 ⟨x380, rfl, hρ, E, S⟩
  rw [agree_eta hρ]
  clear hρ
  have H := o381H
  clear o381H
  refine W_v (.bool x380) (x_move rfl) rfl ?_
  refine Wl_cutN 3 (fun ρ w' => Agree ρ [(21, .pointer (some ⟨b253, 0, none⟩)), (23, .pointer (some ⟨b269, 0, none⟩)), (24, .int .i64 t257.2), (199, .bool (x380 && (t241.2 == (0 : Int))))] ∧ w391 = w') ?_ ?_
  · rcases boolCases x380 with hb392 | hb392
    · skip
      refine W_no (skT hb392) rfl ?_
      refine W_no (skT hb392) rfl ?_
      refine W_v (.bool false) (x_pick (k := false) (congrArg Value.bool hb392) rfl) rfl ?_
      refine Wl_nil ?_
      exact ⟨⟨rfl, rfl, rfl, (by first | rfl | (rw [hb392]; rfl) | (simp only [hb392]; rfl)), trivial⟩, rfl⟩
    · skip
      refine W_yes (congrArg some hb392) ?_
      refine W_v (.int .i64 t241.2) (x_move rfl) rfl ?_
      refine W_yes (congrArg some hb392) ?_
      refine W_v (.bool (t241.2 == (0 : Int))) (x_ibin rfl rfl rfl rfl) rfl ?_
      refine W_v (.bool (t241.2 == (0 : Int))) (x_pick (k := true) (congrArg Value.bool hb392) rfl) rfl ?_
      refine Wl_nil ?_
      exact ⟨⟨rfl, rfl, rfl, (by first | rfl | (rw [hb392]; rfl) | (simp only [hb392]; rfl)), trivial⟩, rfl⟩
  rintro ρ _ ⟨hρ, rfl⟩
  rw [agree_eta hρ]
  clear hρ
  refine W_v (.bool (x380 && (t241.2 == (0 : Int)))) (x_move rfl) rfl ?_
  obtain ⟨o413, o413h, o413H⟩ := bindS H
  clear H
  refine Wl_cutN 5 (fun ρ w' => ∃ (x412 : Bool), (x412) = o413 ∧ Agree ρ [(23, .pointer (some ⟨b269, 0, none⟩)), (24, .int .i64 t257.2), (205, .bool x412)] ∧ Ext w w' ∧ St w' M221 F [Blk b269 (.cells #[.bool t257.1.Leaf, .slice A259 t257.1.Keys.length c260, .slice A262 t257.1.Kids.length c263, .slice A265 t257.1.Rows.length c266] 26 (0, 0)), Row rStr 9 (.slice A259 t257.1.Keys.length c260) t257.1.Keys, Row (rInt .i64) 3 (.slice A262 t257.1.Kids.length c263) t257.1.Kids, Row (rInt .u64) 41 (.slice A265 t257.1.Rows.length c266) t257.1.Rows]) ?_ ?_
  · have H := o413h
    rcases iteS H with ⟨hb411, H⟩ | ⟨hb411, H⟩
    · skip
      refine W_yes (congrArg some hb411) ?_
      refine W_v (.agg #[.bool t241.1.Leaf, .slice A243 t241.1.Keys.length c244, .slice A246 t241.1.Kids.length c247, .slice A249 t241.1.Rows.length c250]) (x_loadA (S.blk 4 rfl) ty26 rfl (sub_of_extract rfl) rfl rfl) rfl ?_
      refine W_yes (congrArg some hb411) ?_
      refine W_bslice S #[.string (bs ([100] : Str)), .string (bs ([102] : Str))] Try.underlying22 ty9 rfl rfl #[.string (bs ([] : Str)), .string (bs ([] : Str))] (by kernel_rfl) (by kernel_rfl) rfl ?_
      intro b414 w415 E' S
      replace E := E.trans E'
      clear E'
      replace S := S.blk_row (r := rStr) (l := ([([100] : Str), ([102] : Str)] : List Str)) 0 rfl 2 (Nat.le_refl 2) rfl (Cells.cons (vs := [.string (bs ([100] : Str))]) (rfl) (Cells.cons (vs := [.string (bs ([102] : Str))]) (rfl) Cells.nil))
      refine W_yes (congrArg some hb411) ?_
      refine W_bslice S #[.int .i64 2, .int .i64 3, .int .i64 4] Try.underlying23 ty3 rfl rfl #[.int .i64 0, .int .i64 0, .int .i64 0] (by kernel_rfl) (by kernel_rfl) rfl ?_
      intro b417 w418 E' S
      replace E := E.trans E'
      clear E'
      replace S := S.blk_row (r := (rInt .i64)) (l := ([(2 : Int), (3 : Int), (4 : Int)] : List Int)) 0 rfl 3 (Nat.le_refl 3) rfl (Cells.cons (vs := [.int .i64 2]) (rfl) (Cells.cons (vs := [.int .i64 3]) (rfl) (Cells.cons (vs := [.int .i64 4]) (rfl) Cells.nil)))
      refine W_yes (congrArg some hb411) ?_
      replace S : St w418 M221 F [Row rStr 9 (.slice A243 t241.1.Keys.length c244) t241.1.Keys, Row (rInt .i64) 3 (.slice A246 t241.1.Kids.length c247) t241.1.Kids, Row (rInt .u64) 41 (.slice A249 t241.1.Rows.length c250) t241.1.Rows, Row rStr 9 (.slice (some ⟨b414, 0, none⟩) ([([100] : Str), ([102] : Str)] : List Str).length 2) ([([100] : Str), ([102] : Str)] : List Str), Row (rInt .i64) 3 (.slice (some ⟨b417, 0, none⟩) ([(2 : Int), (3 : Int), (4 : Int)] : List Int).length 3) ([(2 : Int), (3 : Int), (4 : Int)] : List Int), Blk b269 (.cells #[.bool t257.1.Leaf, .slice A259 t257.1.Keys.length c260, .slice A262 t257.1.Kids.length c263, .slice A265 t257.1.Rows.length c266] 26 (0, 0)), Row rStr 9 (.slice A259 t257.1.Keys.length c260) t257.1.Keys, Row (rInt .i64) 3 (.slice A262 t257.1.Kids.length c263) t257.1.Kids, Row (rInt .u64) 41 (.slice A265 t257.1.Rows.length c266) t257.1.Rows, Blk b253 (.cells #[.bool t241.1.Leaf, .slice A243 t241.1.Keys.length c244, .slice A246 t241.1.Kids.length c247, .slice A249 t241.1.Rows.length c250] 26 (0, 0))] := S.pick [7, 8, 9, 1, 0, 2, 3, 4, 5, 6] (by decide)
      obtain ⟨t420, ht421, H⟩ := bindS H
      refine W_callN 5 fn32 (fun h9 hs9 hd9 => ferrymanlaw13_is.con k _ A243 c244 A246 c247 A249 c250 t241.1 (some ⟨b414, 0, none⟩) 2 ([([100] : Str), ([102] : Str)] : List Str) (some ⟨b417, 0, none⟩) 3 ([(2 : Int), (3 : Int), (4 : Int)] : List Int) none 0 ([] : (List Int)) t420 (Sats.row hs9 hd9 0 rfl) (Sats.row hs9 hd9 1 rfl) (Sats.row hs9 hd9 2 rfl) (Sats.row hs9 hd9 3 rfl) (Sats.row hs9 hd9 4 rfl) (SlW.nil _ _) ht421) S rfl rfl (by rintro _ _ _ ⟨_, rfl⟩; exact flat_nil) ?_
      rintro _ w422 _ Γ' E' S ⟨rfl, rfl⟩
      replace E := E.trans E'
      clear E'
      refine W_v (.bool t420) (x_pick (k := true) (congrArg Value.bool hb411) rfl) rfl ?_
      refine Wl_nil ?_
      exact ⟨t420, Option.some.inj H, ⟨rfl, rfl, rfl, trivial⟩, E, S.pick [5, 6, 7, 8] (by decide)⟩
    · skip
      refine W_no (skT hb411) rfl ?_
      refine W_no (skT hb411) rfl ?_
      refine W_no (skT hb411) rfl ?_
      refine W_no (skT hb411) rfl ?_
      refine W_v (.bool false) (x_pick (k := false) (congrArg Value.bool hb411) rfl) rfl ?_
      refine Wl_nil ?_
      exact ⟨false, Option.some.inj H, ⟨rfl, rfl, rfl, trivial⟩, E, S.pick [0, 1, 2, 3] (by decide)⟩
  clear o413h
  rintro ρ w423 ⟨x412, rfl, hρ, E, S⟩
  rw [agree_eta hρ]
  clear hρ
  have H := o413H
  clear o413H
  refine W_v (.bool x412) (x_move rfl) rfl ?_
  refine Wl_cutN 3 (fun ρ w' => Agree ρ [(23, .pointer (some ⟨b269, 0, none⟩)), (209, .bool (x412 && (t257.2 == (0 : Int))))] ∧ w423 = w') ?_ ?_
  · rcases boolCases x412 with hb424 | hb424
    · skip
      refine W_no (skT hb424) rfl ?_
      refine W_no (skT hb424) rfl ?_
      refine W_v (.bool false) (x_pick (k := false) (congrArg Value.bool hb424) rfl) rfl ?_
      refine Wl_nil ?_
      exact ⟨⟨rfl, (by first | rfl | (rw [hb424]; rfl) | (simp only [hb424]; rfl)), trivial⟩, rfl⟩
    · skip
      refine W_yes (congrArg some hb424) ?_
      refine W_v (.int .i64 t257.2) (x_move rfl) rfl ?_
      refine W_yes (congrArg some hb424) ?_
      refine W_v (.bool (t257.2 == (0 : Int))) (x_ibin rfl rfl rfl rfl) rfl ?_
      refine W_v (.bool (t257.2 == (0 : Int))) (x_pick (k := true) (congrArg Value.bool hb424) rfl) rfl ?_
      refine Wl_nil ?_
      exact ⟨⟨rfl, (by first | rfl | (rw [hb424]; rfl) | (simp only [hb424]; rfl)), trivial⟩, rfl⟩
  rintro ρ _ ⟨hρ, rfl⟩
  rw [agree_eta hρ]
  clear hρ
  refine W_v (.bool (x412 && (t257.2 == (0 : Int)))) (x_move rfl) rfl ?_
  obtain ⟨o445, o445h, o445H⟩ := bindS H
  clear H
  refine Wl_cutN 5 (fun ρ w' => ∃ (x444 : Bool), (x444) = o445 ∧ Agree ρ [(215, .bool x444)] ∧ Ext w w' ∧ St w' M221 F []) ?_ ?_
  · have H := o445h
    rcases iteS H with ⟨hb443, H⟩ | ⟨hb443, H⟩
    · skip
      refine W_yes (congrArg some hb443) ?_
      refine W_v (.agg #[.bool t257.1.Leaf, .slice A259 t257.1.Keys.length c260, .slice A262 t257.1.Kids.length c263, .slice A265 t257.1.Rows.length c266]) (x_loadA (S.blk 0 rfl) ty26 rfl (sub_of_extract rfl) rfl rfl) rfl ?_
      refine W_yes (congrArg some hb443) ?_
      refine W_bslice S #[.string (bs ([98] : Str)), .string (bs ([100] : Str))] Try.underlying22 ty9 rfl rfl #[.string (bs ([] : Str)), .string (bs ([] : Str))] (by kernel_rfl) (by kernel_rfl) rfl ?_
      intro b446 w447 E' S
      replace E := E.trans E'
      clear E'
      replace S := S.blk_row (r := rStr) (l := ([([98] : Str), ([100] : Str)] : List Str)) 0 rfl 2 (Nat.le_refl 2) rfl (Cells.cons (vs := [.string (bs ([98] : Str))]) (rfl) (Cells.cons (vs := [.string (bs ([100] : Str))]) (rfl) Cells.nil))
      refine W_yes (congrArg some hb443) ?_
      refine W_bslice S #[.int .i64 1, .int .i64 2, .int .i64 3] Try.underlying23 ty3 rfl rfl #[.int .i64 0, .int .i64 0, .int .i64 0] (by kernel_rfl) (by kernel_rfl) rfl ?_
      intro b449 w450 E' S
      replace E := E.trans E'
      clear E'
      replace S := S.blk_row (r := (rInt .i64)) (l := ([(1 : Int), (2 : Int), (3 : Int)] : List Int)) 0 rfl 3 (Nat.le_refl 3) rfl (Cells.cons (vs := [.int .i64 1]) (rfl) (Cells.cons (vs := [.int .i64 2]) (rfl) (Cells.cons (vs := [.int .i64 3]) (rfl) Cells.nil)))
      refine W_yes (congrArg some hb443) ?_
      replace S : St w450 M221 F [Row rStr 9 (.slice A259 t257.1.Keys.length c260) t257.1.Keys, Row (rInt .i64) 3 (.slice A262 t257.1.Kids.length c263) t257.1.Kids, Row (rInt .u64) 41 (.slice A265 t257.1.Rows.length c266) t257.1.Rows, Row rStr 9 (.slice (some ⟨b446, 0, none⟩) ([([98] : Str), ([100] : Str)] : List Str).length 2) ([([98] : Str), ([100] : Str)] : List Str), Row (rInt .i64) 3 (.slice (some ⟨b449, 0, none⟩) ([(1 : Int), (2 : Int), (3 : Int)] : List Int).length 3) ([(1 : Int), (2 : Int), (3 : Int)] : List Int), Blk b269 (.cells #[.bool t257.1.Leaf, .slice A259 t257.1.Keys.length c260, .slice A262 t257.1.Kids.length c263, .slice A265 t257.1.Rows.length c266] 26 (0, 0))] := S.pick [3, 4, 5, 1, 0, 2] (by decide)
      obtain ⟨t452, ht453, H⟩ := bindS H
      refine W_callN 5 fn32 (fun h9 hs9 hd9 => ferrymanlaw13_is.con k _ A259 c260 A262 c263 A265 c266 t257.1 (some ⟨b446, 0, none⟩) 2 ([([98] : Str), ([100] : Str)] : List Str) (some ⟨b449, 0, none⟩) 3 ([(1 : Int), (2 : Int), (3 : Int)] : List Int) none 0 ([] : (List Int)) t452 (Sats.row hs9 hd9 0 rfl) (Sats.row hs9 hd9 1 rfl) (Sats.row hs9 hd9 2 rfl) (Sats.row hs9 hd9 3 rfl) (Sats.row hs9 hd9 4 rfl) (SlW.nil _ _) ht453) S rfl rfl (by rintro _ _ _ ⟨_, rfl⟩; exact flat_nil) ?_
      rintro _ w454 _ Γ' E' S ⟨rfl, rfl⟩
      replace E := E.trans E'
      clear E'
      refine W_v (.bool t452) (x_pick (k := true) (congrArg Value.bool hb443) rfl) rfl ?_
      refine Wl_nil ?_
      exact ⟨t452, Option.some.inj H, ⟨rfl, trivial⟩, E, S.pick [] (by decide)⟩
    · skip
      refine W_no (skT hb443) rfl ?_
      refine W_no (skT hb443) rfl ?_
      refine W_no (skT hb443) rfl ?_
      refine W_no (skT hb443) rfl ?_
      refine W_v (.bool false) (x_pick (k := false) (congrArg Value.bool hb443) rfl) rfl ?_
      refine Wl_nil ?_
      exact ⟨false, Option.some.inj H, ⟨rfl, trivial⟩, E, S.pick [] (by decide)⟩
  clear o445h
  rintro ρ w455 ⟨x444, rfl, hρ, E, S⟩
  rw [agree_eta hρ]
  clear hρ
  have H := o445H
  clear o445H
  refine W_v (.bool x444) (x_assign rfl) rfl ?_
  refine Wl_nil ?_
  refine tn ?_
  refine Wp_ret ?_
  obtain rfl := Option.some.inj H
  exact ⟨_, _, _, fun w1 e1 => run_resR (vs := [.bool x444]) (FA.cons (rfl) (FA.nil)), HM, E, S.pick [] (by decide), ⟨rfl, rfl⟩⟩
/-! ### ferryman/fork.Safe: function 22 -/
def fork_Safe (k : Nat) (a0 : fork_Node) (a1 : Int) (a2 : Int) (a3 : Bool) : Option (Bool) :=
  (if (a2 == (0 : Int)) = true then some true else (if (a2 == (1 : Int)) = true then some (decide ((a0.Keys.length : Int) < a1)) else (if (a2 != (2 : Int)) = true then some false else (if a0.Leaf = true then some (a3 || (decide ((a0.Keys.length : Int) > (1 : Int)))) else (if a3 = true then some (decide ((a0.Kids.length : Int) > (2 : Int))) else some (decide ((a0.Kids.length : Int) > (1 : Int))))))))
set_option maxHeartbeats 2000000 in
theorem fork_Safe.mono {k : Nat} {a0 : fork_Node} {a1 : Int} {a2 : Int} {a3 : Bool} : OLe (fork_Safe k a0 a1 a2 a3) (fork_Safe (k + 1) a0 a1 a2 a3) := by
  unfold fork_Safe
  repeat' (first | with_reducible exact OLe.none | with_reducible exact OLe.some | with_reducible refine OLe.ite ?_ ?_ | with_reducible refine OLe.bind ?_ (fun _ => ?_) | refine OLe.bind ?_ (fun _ => ?_) | refine OLe.ite ?_ ?_ | refine OLe.elim (fun _ => ?_) (fun _ => ?_) | split)
set_option maxHeartbeats 1000000 in
set_option maxRecDepth 100000 in
theorem fork_Safe.con (k : Nat) (M : Hp) (A0_0 : Option Addr) (c0_0 : Nat) (A0_1 : Option Addr) (c0_1 : Nat) (A0_2 : Option Addr) (c0_2 : Nat) (a0 : fork_Node) (a1 : Int) (a2 : Int) (a3 : Bool) (r : Bool) (hr0_0 : SlR rStr M (.slice A0_0 a0.Keys.length c0_0) a0.Keys) (hr0_1 : SlR (rInt .i64) M (.slice A0_1 a0.Kids.length c0_1) a0.Kids) (hr0_2 : SlR (rInt .u64) M (.slice A0_2 a0.Rows.length c0_2) a0.Rows) (h : fork_Safe k a0 a1 a2 a3 = some r) : Con Try.prog 22 #[.agg #[.bool a0.Leaf, .slice A0_0 a0.Keys.length c0_0, .slice A0_1 a0.Kids.length c0_1, .slice A0_2 a0.Rows.length c0_2], .int .i64 a1, .int .u8 a2, .bool a3] M [] (fun v M' Γ' => v = .bool r ∧ Γ' = []) := by
  refine con_of_wp Try.func22 rfl Try.ntmps22 Try.results22 rfl ?_
  intro w F rn S hrn
  have E := Ext.refl w
  have HM := Hp.le_refl M
  have H := h
  unfold fork_Safe at H
  refine Wp_seq ?_
  refine Wp_region_lit ?_
  refine W_box S #[.bool a0.Leaf, .slice A0_0 a0.Keys.length c0_0, .slice A0_1 a0.Kids.length c0_1, .slice A0_2 a0.Rows.length c0_2] rfl rfl rfl ?_
  intro b1 w2 E' S
  replace E := E.trans E'
  clear E'
  refine W_v (.bool false) (x_assign rfl) rfl ?_
  refine Wl_nil ?_
  refine tn ?_
  refine Wp_seq ?_
  refine Wp_block ?_
  refine Wp_seq ?_
  refine Wp_region_lit ?_
  refine W_v (.int .u8 a2) (x_move rfl) rfl ?_
  refine W_v (.bool (a2 == (0 : Int))) (x_ibin rfl rfl rfl rfl) rfl ?_
  refine W_v (.bool (a2 == (0 : Int))) (x_assign rfl) rfl ?_
  refine Wl_nil ?_
  refine tn ?_
  rcases iteS H with ⟨hb4, H⟩ | ⟨hb4, H⟩
  · refine Wp_cond_true (congrArg Value.bool hb4) ?_
    refine Wp_seq ?_
    refine Wp_region_lit ?_
    refine W_v (.bool true) (x_assign rfl) rfl ?_
    refine Wl_nil ?_
    refine tn ?_
    refine Wp_ret ?_
    refine br (tr (?_))
    obtain rfl := Option.some.inj H
    exact ⟨_, _, _, fun w1 e1 => run_resR (vs := [.bool true]) (FA.cons (rfl) (FA.nil)), HM, E, S.pick [] (by decide), ⟨rfl, rfl⟩⟩
  refine Wp_cond_false (congrArg Value.bool hb4) ?_
  refine Wp_seq ?_
  refine Wp_region_lit ?_
  refine W_v (.int .u8 a2) (x_move rfl) rfl ?_
  refine W_v (.bool (a2 == (1 : Int))) (x_ibin rfl rfl rfl rfl) rfl ?_
  refine W_v (.bool (a2 == (1 : Int))) (x_assign rfl) rfl ?_
  refine Wl_nil ?_
  refine tn ?_
  rcases iteS H with ⟨hb5, H⟩ | ⟨hb5, H⟩
  · refine Wp_cond_true (congrArg Value.bool hb5) ?_
    refine Wp_seq ?_
    refine Wp_region_lit ?_
    refine W_v (.pointer (some ⟨b1, 1, none⟩)) (x_fieldAddr (o := 0) (off := 1) Try.underlying26 rfl ty22 rfl rfl) rfl ?_
    refine W_v (.slice A0_0 a0.Keys.length c0_0) (x_load (S.blk 0 rfl) ty22 rfl rfl) rfl ?_
    refine W_v (.int .i64 (a0.Keys.length : Int)) (x_len_slice (n := a0.Keys.length) Try.underlying22 rfl) rfl ?_
    refine W_v (.int .i64 a1) (x_move rfl) rfl ?_
    refine W_v (.bool (decide ((a0.Keys.length : Int) < a1))) (x_ibin rfl rfl rfl rfl) rfl ?_
    refine W_v (.bool (decide ((a0.Keys.length : Int) < a1))) (x_assign rfl) rfl ?_
    refine Wl_nil ?_
    refine tn ?_
    refine Wp_ret ?_
    refine br (tr (?_))
    obtain rfl := Option.some.inj H
    exact ⟨_, _, _, fun w1 e1 => run_resR (vs := [.bool (decide ((a0.Keys.length : Int) < a1))]) (FA.cons (rfl) (FA.nil)), HM, E, S.pick [] (by decide), ⟨rfl, rfl⟩⟩
  refine Wp_cond_false (congrArg Value.bool hb5) ?_
  refine Wp_seq ?_
  refine Wp_region_lit ?_
  refine W_v (.int .u8 a2) (x_move rfl) rfl ?_
  refine W_v (.bool (a2 != (2 : Int))) (x_ibin rfl rfl rfl rfl) rfl ?_
  refine W_v (.bool (a2 != (2 : Int))) (x_assign rfl) rfl ?_
  refine Wl_nil ?_
  refine tn ?_
  rcases iteS H with ⟨hb6, H⟩ | ⟨hb6, H⟩
  · refine Wp_cond_true (congrArg Value.bool hb6) ?_
    refine Wp_seq ?_
    refine Wp_region_lit ?_
    refine W_v (.bool false) (x_assign rfl) rfl ?_
    refine Wl_nil ?_
    refine tn ?_
    refine Wp_ret ?_
    refine br (tr (?_))
    obtain rfl := Option.some.inj H
    exact ⟨_, _, _, fun w1 e1 => run_resR (vs := [.bool false]) (FA.cons (rfl) (FA.nil)), HM, E, S.pick [] (by decide), ⟨rfl, rfl⟩⟩
  refine Wp_cond_false (congrArg Value.bool hb6) ?_
  refine Wp_seq ?_
  refine Wp_region_lit ?_
  refine W_v (.pointer (some ⟨b1, 0, none⟩)) (x_fieldAddr (o := 0) (off := 0) Try.underlying26 rfl ty4 rfl rfl) rfl ?_
  refine W_v (.bool a0.Leaf) (x_load (S.blk 0 rfl) ty4 rfl rfl) rfl ?_
  refine W_v (.bool a0.Leaf) (x_assign rfl) rfl ?_
  refine Wl_nil ?_
  refine tn ?_
  rcases iteS H with ⟨hb7, H⟩ | ⟨hb7, H⟩
  · refine Wp_cond_true (congrArg Value.bool hb7) ?_
    refine Wp_seq ?_
    refine Wp_region_lit ?_
    refine W_v (.bool a3) (x_move rfl) rfl ?_
    refine W_v (.bool a3) (x_move rfl) rfl ?_
    refine Wl_cutN 5 (fun ρ w' => Agree ρ [(32, .bool (a3 || (decide ((a0.Keys.length : Int) > (1 : Int)))))] ∧ w2 = w') ?_ ?_
    · rcases boolCases a3 with hb8 | hb8
      · skip
        refine W_yes (congrArg some hb8) ?_
        refine W_v (.pointer (some ⟨b1, 1, none⟩)) (x_fieldAddr (o := 0) (off := 1) Try.underlying26 rfl ty22 rfl rfl) rfl ?_
        refine W_yes (congrArg some hb8) ?_
        refine W_v (.slice A0_0 a0.Keys.length c0_0) (x_load (S.blk 0 rfl) ty22 rfl rfl) rfl ?_
        refine W_yes (congrArg some hb8) ?_
        refine W_v (.int .i64 (a0.Keys.length : Int)) (x_len_slice (n := a0.Keys.length) Try.underlying22 rfl) rfl ?_
        refine W_yes (congrArg some hb8) ?_
        refine W_v (.bool (decide ((a0.Keys.length : Int) > (1 : Int)))) (x_ibin rfl rfl rfl rfl) rfl ?_
        refine W_v (.bool (decide ((a0.Keys.length : Int) > (1 : Int)))) (x_pick (k := false) (congrArg Value.bool hb8) rfl) rfl ?_
        refine Wl_nil ?_
        exact ⟨⟨(by first | rfl | (rw [hb8]; rfl) | (simp only [hb8]; rfl)), trivial⟩, rfl⟩
      · skip
        refine W_no (skF hb8) rfl ?_
        refine W_no (skF hb8) rfl ?_
        refine W_no (skF hb8) rfl ?_
        refine W_no (skF hb8) rfl ?_
        refine W_v (.bool true) (x_pick (k := true) (congrArg Value.bool hb8) rfl) rfl ?_
        refine Wl_nil ?_
        exact ⟨⟨(by first | rfl | (rw [hb8]; rfl) | (simp only [hb8]; rfl)), trivial⟩, rfl⟩
    rintro ρ _ ⟨hρ, rfl⟩
    rw [agree_eta hρ]
    clear hρ
    refine W_v (.bool (a3 || (decide ((a0.Keys.length : Int) > (1 : Int))))) (x_assign rfl) rfl ?_
    refine Wl_nil ?_
    refine tn ?_
    refine Wp_ret ?_
    refine br (tr (?_))
    obtain rfl := Option.some.inj H
    exact ⟨_, _, _, fun w1 e1 => run_resR (vs := [.bool (a3 || (decide ((a0.Keys.length : Int) > (1 : Int))))]) (FA.cons (rfl) (FA.nil)), HM, E, S.pick [] (by decide), ⟨rfl, rfl⟩⟩
  refine Wp_cond_false (congrArg Value.bool hb7) ?_
  refine Wp_seq ?_
  refine Wp_region_lit ?_
  refine W_v (.bool a3) (x_move rfl) rfl ?_
  refine W_v (.bool a3) (x_assign rfl) rfl ?_
  refine Wl_nil ?_
  refine tn ?_
  rcases iteS H with ⟨hb9, H⟩ | ⟨hb9, H⟩
  · refine Wp_cond_true (congrArg Value.bool hb9) ?_
    refine Wp_seq ?_
    refine Wp_region_lit ?_
    refine W_v (.pointer (some ⟨b1, 2, none⟩)) (x_fieldAddr (o := 0) (off := 2) Try.underlying26 rfl ty23 rfl rfl) rfl ?_
    refine W_v (.slice A0_1 a0.Kids.length c0_1) (x_load (S.blk 0 rfl) ty23 rfl rfl) rfl ?_
    refine W_v (.int .i64 (a0.Kids.length : Int)) (x_len_slice (n := a0.Kids.length) Try.underlying23 rfl) rfl ?_
    refine W_v (.bool (decide ((a0.Kids.length : Int) > (2 : Int)))) (x_ibin rfl rfl rfl rfl) rfl ?_
    refine W_v (.bool (decide ((a0.Kids.length : Int) > (2 : Int)))) (x_assign rfl) rfl ?_
    refine Wl_nil ?_
    refine tn ?_
    refine Wp_ret ?_
    refine br (tr (?_))
    obtain rfl := Option.some.inj H
    exact ⟨_, _, _, fun w1 e1 => run_resR (vs := [.bool (decide ((a0.Kids.length : Int) > (2 : Int)))]) (FA.cons (rfl) (FA.nil)), HM, E, S.pick [] (by decide), ⟨rfl, rfl⟩⟩
  refine Wp_cond_false (congrArg Value.bool hb9) ?_
  refine Wp_skip ?_
  refine bn ?_
  refine tn ?_
  refine Wp_seq ?_
  refine Wp_region_lit ?_
  refine W_v (.pointer (some ⟨b1, 2, none⟩)) (x_fieldAddr (o := 0) (off := 2) Try.underlying26 rfl ty23 rfl rfl) rfl ?_
  refine W_v (.slice A0_1 a0.Kids.length c0_1) (x_load (S.blk 0 rfl) ty23 rfl rfl) rfl ?_
  refine W_v (.int .i64 (a0.Kids.length : Int)) (x_len_slice (n := a0.Kids.length) Try.underlying23 rfl) rfl ?_
  refine W_v (.bool (decide ((a0.Kids.length : Int) > (1 : Int)))) (x_ibin rfl rfl rfl rfl) rfl ?_
  refine W_v (.bool (decide ((a0.Kids.length : Int) > (1 : Int)))) (x_assign rfl) rfl ?_
  refine Wl_nil ?_
  refine tn ?_
  refine Wp_ret ?_
  obtain rfl := Option.some.inj H
  exact ⟨_, _, _, fun w1 e1 => run_resR (vs := [.bool (decide ((a0.Kids.length : Int) > (1 : Int)))]) (FA.cons (rfl) (FA.nil)), HM, E, S.pick [] (by decide), ⟨rfl, rfl⟩⟩
/-! ### ferryman/ferrymanlaw13.own: function 23 -/
def ferrymanlaw13_own (k : Nat) (a0 : fork_Node) : Option (fork_Node) :=
  (Option.bind (α := List Str × List Int × List Int) (if 0 ≤ (0 : Int) ∧ (0 : Int) ≤ (IntKind.i64.wrap ((a0.Keys.length : Int) + (3 : Int))) ∧ (IntKind.i64.wrap ((a0.Keys.length : Int) + (3 : Int))) * 16 ≤ 140737488355328 ∧ (IntKind.i64.wrap ((a0.Keys.length : Int) + (3 : Int))) ≤ 9223372036854775807 then (if (List.replicate (0 : Int).toNat ([] : Str)).length + a0.Keys.length ≤ 8796093022208 then (if 0 ≤ (0 : Int) ∧ (0 : Int) ≤ (IntKind.i64.wrap ((a0.Kids.length : Int) + (3 : Int))) ∧ (IntKind.i64.wrap ((a0.Kids.length : Int) + (3 : Int))) * 8 ≤ 140737488355328 ∧ (IntKind.i64.wrap ((a0.Kids.length : Int) + (3 : Int))) ≤ 9223372036854775807 then (if (List.replicate (0 : Int).toNat (0 : Int)).length + a0.Kids.length ≤ 17592186044416 then (if 0 ≤ (0 : Int) ∧ (0 : Int) ≤ (IntKind.i64.wrap ((a0.Rows.length : Int) + (3 : Int))) ∧ (IntKind.i64.wrap ((a0.Rows.length : Int) + (3 : Int))) * 8 ≤ 140737488355328 ∧ (IntKind.i64.wrap ((a0.Rows.length : Int) + (3 : Int))) ≤ 9223372036854775807 then some (((List.replicate (0 : Int).toNat ([] : Str)) ++ a0.Keys), ((List.replicate (0 : Int).toNat (0 : Int)) ++ a0.Kids), (List.replicate (0 : Int).toNat (0 : Int))) else none) else none) else none) else none) else none) (fun ⟨x1291, x1295, x1299⟩ => (if x1299.length + a0.Rows.length ≤ 17592186044416 then some (⟨a0.Leaf, x1291, x1295, (x1299 ++ a0.Rows)⟩ : fork_Node) else none)))
set_option maxHeartbeats 2000000 in
theorem ferrymanlaw13_own.mono {k : Nat} {a0 : fork_Node} : OLe (ferrymanlaw13_own k a0) (ferrymanlaw13_own (k + 1) a0) := by
  unfold ferrymanlaw13_own
  repeat' (first | with_reducible exact OLe.none | with_reducible exact OLe.some | with_reducible refine OLe.ite ?_ ?_ | with_reducible refine OLe.bind ?_ (fun _ => ?_) | refine OLe.bind ?_ (fun _ => ?_) | refine OLe.ite ?_ ?_ | refine OLe.elim (fun _ => ?_) (fun _ => ?_) | split)
set_option maxHeartbeats 1000000 in
set_option maxRecDepth 100000 in
theorem ferrymanlaw13_own.con (k : Nat) (M : Hp) (A0_0 : Option Addr) (c0_0 : Nat) (A0_1 : Option Addr) (c0_1 : Nat) (A0_2 : Option Addr) (c0_2 : Nat) (a0 : fork_Node) (r : fork_Node) (hr0_0 : SlR rStr M (.slice A0_0 a0.Keys.length c0_0) a0.Keys) (hr0_1 : SlR (rInt .i64) M (.slice A0_1 a0.Kids.length c0_1) a0.Kids) (hr0_2 : SlR (rInt .u64) M (.slice A0_2 a0.Rows.length c0_2) a0.Rows) (h : ferrymanlaw13_own k a0 = some r) : Con Try.prog 23 #[.agg #[.bool a0.Leaf, .slice A0_0 a0.Keys.length c0_0, .slice A0_1 a0.Kids.length c0_1, .slice A0_2 a0.Rows.length c0_2]] M [] (fun v M' Γ' => ∃ (A0 : Option Addr) (c0 : Nat) (A1 : Option Addr) (c1 : Nat) (A2 : Option Addr) (c2 : Nat), v = .agg #[.bool r.Leaf, .slice A0 r.Keys.length c0, .slice A1 r.Kids.length c1, .slice A2 r.Rows.length c2] ∧ Γ' = [Row rStr 9 (.slice A0 r.Keys.length c0) r.Keys, Row (rInt .i64) 3 (.slice A1 r.Kids.length c1) r.Kids, Row (rInt .u64) 41 (.slice A2 r.Rows.length c2) r.Rows]) := by
  refine con_of_wp Try.func23 rfl Try.ntmps23 Try.results23 rfl ?_
  intro w F rn S hrn
  have E := Ext.refl w
  have HM := Hp.le_refl M
  have H := h
  unfold ferrymanlaw13_own at H
  refine Wp_seq ?_
  refine Wp_region_lit ?_
  refine W_box S #[.bool a0.Leaf, .slice A0_0 a0.Keys.length c0_0, .slice A0_1 a0.Kids.length c0_1, .slice A0_2 a0.Rows.length c0_2] rfl rfl rfl ?_
  intro b1 w2 E' S
  replace E := E.trans E'
  clear E'
  refine W_alloc S #[.bool false, .slice none 0 0, .slice none 0 0, .slice none 0 0] ty26 rfl rfl ?_
  intro b4 w5 E' S
  replace E := E.trans E'
  clear E'
  refine Wl_nil ?_
  refine tn ?_
  refine Wp_seq ?_
  refine Wp_region_any (S := fun w' => ∃ Mx, M.le Mx ∧ St w' Mx F [Blk b1 (.cells #[.bool a0.Leaf, .slice A0_0 a0.Keys.length c0_0, .slice A0_1 a0.Kids.length c0_1, .slice A0_2 a0.Rows.length c0_2] 26 (0, 0))]) mixed ?_
  intro w1034 hw1035 E'
  replace S := S.heap hw1035
  replace E := E.trans E'
  clear E'
  refine Wa_take (i := 0) rfl (by kernel_rfl) rfl rfl (.pointer (some ⟨b1, 0, none⟩)) rfl (fun w' h' => x_fieldAddr (o := 0) (off := 0) Try.underlying26 rfl ty4 rfl rfl) (⟨M, Hp.le_refl M, S.pick [1] (by decide)⟩) ?_
  refine Wa_take (i := 1) rfl (by kernel_rfl) rfl rfl (.bool a0.Leaf) rfl (fun w' h' => x_load (cls_blk h' 0 rfl) ty4 rfl rfl) (⟨M, Hp.le_refl M, S.pick [1] (by decide)⟩) ?_
  refine Wa_take (i := 2) rfl (by kernel_rfl) rfl rfl (.pointer (some ⟨b1, 1, none⟩)) rfl (fun w' h' => x_fieldAddr (o := 0) (off := 1) Try.underlying26 rfl ty22 rfl rfl) (⟨M, Hp.le_refl M, S.pick [1] (by decide)⟩) ?_
  refine Wa_take (i := 3) rfl (by kernel_rfl) rfl rfl (.slice A0_0 a0.Keys.length c0_0) rfl (fun w' h' => x_load (cls_blk h' 0 rfl) ty22 rfl rfl) (⟨M, Hp.le_refl M, S.pick [1] (by decide)⟩) ?_
  refine Wa_take (i := 4) rfl (by kernel_rfl) rfl rfl (.int .i64 (a0.Keys.length : Int)) rfl (fun w' h' => x_len_slice (n := a0.Keys.length) Try.underlying22 rfl) (⟨M, Hp.le_refl M, S.pick [1] (by decide)⟩) ?_
  refine Wa_take (i := 5) rfl (by kernel_rfl) rfl rfl (.int .i64 (IntKind.i64.wrap ((a0.Keys.length : Int) + (3 : Int)))) rfl (fun w' h' => x_ibin rfl rfl rfl rfl) (⟨M, Hp.le_refl M, S.pick [1] (by decide)⟩) ?_
  refine Wa_take (i := 7) rfl (by kernel_rfl) rfl rfl (.pointer (some ⟨b1, 1, none⟩)) rfl (fun w' h' => x_fieldAddr (o := 0) (off := 1) Try.underlying26 rfl ty22 rfl rfl) (⟨M, Hp.le_refl M, S.pick [1] (by decide)⟩) ?_
  refine Wa_take (i := 8) rfl (by kernel_rfl) rfl rfl (.slice A0_0 a0.Keys.length c0_0) rfl (fun w' h' => x_load (cls_blk h' 0 rfl) ty22 rfl rfl) (⟨M, Hp.le_refl M, S.pick [1] (by decide)⟩) ?_
  refine Wa_take (i := 10) rfl (by kernel_rfl) rfl rfl (.pointer (some ⟨b1, 2, none⟩)) rfl (fun w' h' => x_fieldAddr (o := 0) (off := 2) Try.underlying26 rfl ty23 rfl rfl) (⟨M, Hp.le_refl M, S.pick [1] (by decide)⟩) ?_
  refine Wa_take (i := 11) rfl (by kernel_rfl) rfl rfl (.slice A0_1 a0.Kids.length c0_1) rfl (fun w' h' => x_load (cls_blk h' 0 rfl) ty23 rfl rfl) (⟨M, Hp.le_refl M, S.pick [1] (by decide)⟩) ?_
  refine Wa_take (i := 12) rfl (by kernel_rfl) rfl rfl (.int .i64 (a0.Kids.length : Int)) rfl (fun w' h' => x_len_slice (n := a0.Kids.length) Try.underlying23 rfl) (⟨M, Hp.le_refl M, S.pick [1] (by decide)⟩) ?_
  refine Wa_take (i := 13) rfl (by kernel_rfl) rfl rfl (.int .i64 (IntKind.i64.wrap ((a0.Kids.length : Int) + (3 : Int)))) rfl (fun w' h' => x_ibin rfl rfl rfl rfl) (⟨M, Hp.le_refl M, S.pick [1] (by decide)⟩) ?_
  refine Wa_take (i := 15) rfl (by kernel_rfl) rfl rfl (.pointer (some ⟨b1, 2, none⟩)) rfl (fun w' h' => x_fieldAddr (o := 0) (off := 2) Try.underlying26 rfl ty23 rfl rfl) (⟨M, Hp.le_refl M, S.pick [1] (by decide)⟩) ?_
  refine Wa_take (i := 16) rfl (by kernel_rfl) rfl rfl (.slice A0_1 a0.Kids.length c0_1) rfl (fun w' h' => x_load (cls_blk h' 0 rfl) ty23 rfl rfl) (⟨M, Hp.le_refl M, S.pick [1] (by decide)⟩) ?_
  refine Wa_take (i := 18) rfl (by kernel_rfl) rfl rfl (.pointer (some ⟨b1, 3, none⟩)) rfl (fun w' h' => x_fieldAddr (o := 0) (off := 3) Try.underlying26 rfl ty24 rfl rfl) (⟨M, Hp.le_refl M, S.pick [1] (by decide)⟩) ?_
  refine Wa_take (i := 19) rfl (by kernel_rfl) rfl rfl (.slice A0_2 a0.Rows.length c0_2) rfl (fun w' h' => x_load (cls_blk h' 0 rfl) ty24 rfl rfl) (⟨M, Hp.le_refl M, S.pick [1] (by decide)⟩) ?_
  refine Wa_take (i := 20) rfl (by kernel_rfl) rfl rfl (.int .i64 (a0.Rows.length : Int)) rfl (fun w' h' => x_len_slice (n := a0.Rows.length) Try.underlying24 rfl) (⟨M, Hp.le_refl M, S.pick [1] (by decide)⟩) ?_
  refine Wa_take (i := 21) rfl (by kernel_rfl) rfl rfl (.int .i64 (IntKind.i64.wrap ((a0.Rows.length : Int) + (3 : Int)))) rfl (fun w' h' => x_ibin rfl rfl rfl rfl) (⟨M, Hp.le_refl M, S.pick [1] (by decide)⟩) ?_
  refine Wa_take (i := 23) rfl (by kernel_rfl) rfl rfl (.pointer (some ⟨b1, 3, none⟩)) rfl (fun w' h' => x_fieldAddr (o := 0) (off := 3) Try.underlying26 rfl ty24 rfl rfl) (⟨M, Hp.le_refl M, S.pick [1] (by decide)⟩) ?_
  refine Wa_take (i := 24) rfl (by kernel_rfl) rfl rfl (.slice A0_2 a0.Rows.length c0_2) rfl (fun w' h' => x_load (cls_blk h' 0 rfl) ty24 rfl rfl) (⟨M, Hp.le_refl M, S.pick [1] (by decide)⟩) ?_
  obtain ⟨o1859, o1859h, o1859H⟩ := bindS H
  clear H
  refine Wa_join (fun ρ w' => ∃ (x1291 : List Str) (x1295 : List Int) (x1299 : List Int) (A1292 : Option Addr) (c1293 : Nat) (A1296 : Option Addr) (c1297 : Nat) (A1300 : Option Addr) (c1301 : Nat), (x1291, x1295, x1299) = o1859 ∧ Agree ρ [(2, .pointer (some ⟨b4, 0, none⟩)), (4, .bool a0.Leaf), (12, .slice A1292 x1291.length c1293), (20, .slice A1296 x1295.length c1297), (25, .slice A1300 x1299.length c1301), (27, .slice A0_2 a0.Rows.length c0_2)] ∧ Ext w w' ∧ St w' M F [Row (rInt .u64) 41 (.slice A1300 x1299.length c1301) x1299, Row (rInt .i64) 3 (.slice A1296 x1295.length c1297) x1295, Row rStr 9 (.slice A1292 x1291.length c1293) x1291, Blk b4 (.cells #[.bool false, .slice none 0 0, .slice none 0 0, .slice none 0 0] 26 (0, 0)), Blk b1 (.cells #[.bool a0.Leaf, .slice A0_0 a0.Keys.length c0_0, .slice A0_1 a0.Kids.length c0_1, .slice A0_2 a0.Rows.length c0_2] 26 (0, 0))]) 3 (Ls 28 [0, 1, 2, 3, 4, 5, 6, 7, 8, 9, 10, 11, 12, 13, 14, 15, 16, 17, 18, 19, 20, 21, 22, 23, 24]) ?_ ?_
  rotate_left
  · intro hq1873
    clear o1859H
    refine Wa_join (fun ρ w' => ∃ (x1271 : List Str) (x1275 : List Int) (x1279 : List Int) (A1272 : Option Addr) (c1273 : Nat) (A1276 : Option Addr) (c1277 : Nat) (A1280 : Option Addr) (c1281 : Nat), (if x1275.length + a0.Kids.length ≤ 17592186044416 then some (x1271, (x1275 ++ a0.Kids), x1279) else none) = some o1859 ∧ Agree ρ [(2, .pointer (some ⟨b4, 0, none⟩)), (4, .bool a0.Leaf), (12, .slice A1272 x1271.length c1273), (17, .slice A1276 x1275.length c1277), (19, .slice A0_1 a0.Kids.length c0_1), (25, .slice A1280 x1279.length c1281), (27, .slice A0_2 a0.Rows.length c0_2)] ∧ Ext w w' ∧ St w' M F [Row (rInt .u64) 41 (.slice A1280 x1279.length c1281) x1279, Row (rInt .i64) 3 (.slice A1276 x1275.length c1277) x1275, Row rStr 9 (.slice A1272 x1271.length c1273) x1271, Blk b4 (.cells #[.bool false, .slice none 0 0, .slice none 0 0, .slice none 0 0] 26 (0, 0)), Blk b1 (.cells #[.bool a0.Leaf, .slice A0_0 a0.Keys.length c0_0, .slice A0_1 a0.Kids.length c0_1, .slice A0_2 a0.Rows.length c0_2] 26 (0, 0))]) 4 (Ls 28 [0, 1, 2, 3, 4, 5, 6, 7, 8, 9, 10, 11, 12, 13, 14, 15, 16, 18, 19, 20, 21, 22, 23, 24]) ?_ ?_
    · clear o1859h
      rintro ρ w1874 ⟨x1271, x1275, x1279, A1272, c1273, A1276, c1277, A1280, c1281, H, hρ, E, S⟩
      rw [agree_eta hρ]
      clear hρ
      refine Wa_solo (i := 17) rfl (by kernel_rfl) ?_
      obtain ⟨p1875, H⟩ := chkS H
      obtain ⟨src1876, hs1877, hC1878⟩ := src_of_read (P := Try.prog) (ρ := (rInt .i64)) (l := a0.Kids) (SlR.world hr0_1 S) (by decide)
      refine W_append S 1 rfl rfl rfl Try.underlying23 (.inl Try.underlying23) ty3 rfl (by decide) (by decide) hs1877 hC1878 rfl (by omega) rfl ?_
      intro v1879 w1880 E' S
      replace E := E.trans E'
      clear E'
      obtain ⟨A1881, c1882, rfl, _⟩ := (S.row_read 1 rfl).form
      refine Wl_nil (on_n ⟨⟨M, Hp.le_refl M, S.pick [4] (by decide)⟩, ?_⟩)
      exact hq1873 _ _ ⟨x1271, (x1275 ++ a0.Kids), x1279, A1272, c1273, A1881, c1882, A1280, c1281, Option.some.inj H, ⟨rfl, rfl, rfl, rfl, rfl, rfl, trivial⟩, E, S.pick [0, 1, 2, 3, 4] (by decide)⟩
    intro hq1872
    refine Wa_join (fun ρ w' => ∃ (x1256 : List Str) (x1260 : List Int) (A1257 : Option Addr) (c1258 : Nat) (A1261 : Option Addr) (c1262 : Nat), (if 0 ≤ (0 : Int) ∧ (0 : Int) ≤ (IntKind.i64.wrap ((a0.Rows.length : Int) + (3 : Int))) ∧ (IntKind.i64.wrap ((a0.Rows.length : Int) + (3 : Int))) * 8 ≤ 140737488355328 ∧ (IntKind.i64.wrap ((a0.Rows.length : Int) + (3 : Int))) ≤ 9223372036854775807 then some (x1256, x1260, (List.replicate (0 : Int).toNat (0 : Int))) else none) = some o1859 ∧ Agree ρ [(2, .pointer (some ⟨b4, 0, none⟩)), (4, .bool a0.Leaf), (12, .slice A1257 x1256.length c1258), (20, .slice A1261 x1260.length c1262), (24, .int .i64 (IntKind.i64.wrap ((a0.Rows.length : Int) + (3 : Int)))), (27, .slice A0_2 a0.Rows.length c0_2)] ∧ Ext w w' ∧ St w' M F [Row (rInt .i64) 3 (.slice A1261 x1260.length c1262) x1260, Row rStr 9 (.slice A1257 x1256.length c1258) x1256, Blk b4 (.cells #[.bool false, .slice none 0 0, .slice none 0 0, .slice none 0 0] 26 (0, 0)), Blk b1 (.cells #[.bool a0.Leaf, .slice A0_0 a0.Keys.length c0_0, .slice A0_1 a0.Kids.length c0_1, .slice A0_2 a0.Rows.length c0_2] 26 (0, 0))]) 4 (Ls 28 [0, 1, 2, 3, 4, 5, 6, 7, 8, 9, 10, 11, 12, 13, 14, 15, 16, 17, 18, 19, 20, 21, 23, 24]) ?_ ?_
    · clear o1859h
      rintro ρ w1883 ⟨x1256, x1260, A1257, c1258, A1261, c1262, H, hρ, E, S⟩
      rw [agree_eta hρ]
      clear hρ
      refine Wa_solo (i := 22) rfl (by kernel_rfl) ?_
      obtain ⟨⟨p1884, p1885, p1886, p1887⟩, H⟩ := chkS H
      refine W_make (r := (rInt .u64)) S (0 : Int) Try.underlying24 ty41 rfl (by decide) (fun _ => rfl) rfl rfl p1884 p1885 p1886 p1887 rfl ?_
      intro b1888 w1889 E' S
      replace E := E.trans E'
      clear E'
      refine Wl_nil (on_n ⟨⟨M, Hp.le_refl M, S.pick [4] (by decide)⟩, ?_⟩)
      exact hq1873 _ _ ⟨x1256, x1260, (List.replicate (0 : Int).toNat (0 : Int)), A1257, c1258, A1261, c1262, (some ⟨b1888, 0, none⟩), ((IntKind.i64.wrap ((a0.Rows.length : Int) + (3 : Int))).toNat), Option.some.inj H, ⟨rfl, rfl, rfl, rfl, rfl, rfl, trivial⟩, E, S.pick [0, 1, 2, 3, 4] (by decide)⟩
    intro hq1871
    refine Wa_join (fun ρ w' => ∃ (x1236 : List Str) (x1240 : List Int) (x1244 : List Int) (A1237 : Option Addr) (c1238 : Nat) (A1241 : Option Addr) (c1242 : Nat) (A1245 : Option Addr) (c1246 : Nat), (if x1236.length + a0.Keys.length ≤ 8796093022208 then (if x1240.length + a0.Kids.length ≤ 17592186044416 then some ((x1236 ++ a0.Keys), (x1240 ++ a0.Kids), x1244) else none) else none) = some o1859 ∧ Agree ρ [(2, .pointer (some ⟨b4, 0, none⟩)), (4, .bool a0.Leaf), (9, .slice A1237 x1236.length c1238), (11, .slice A0_0 a0.Keys.length c0_0), (17, .slice A1241 x1240.length c1242), (19, .slice A0_1 a0.Kids.length c0_1), (25, .slice A1245 x1244.length c1246), (27, .slice A0_2 a0.Rows.length c0_2)] ∧ Ext w w' ∧ St w' M F [Row (rInt .u64) 41 (.slice A1245 x1244.length c1246) x1244, Row (rInt .i64) 3 (.slice A1241 x1240.length c1242) x1240, Row rStr 9 (.slice A1237 x1236.length c1238) x1236, Blk b4 (.cells #[.bool false, .slice none 0 0, .slice none 0 0, .slice none 0 0] 26 (0, 0)), Blk b1 (.cells #[.bool a0.Leaf, .slice A0_0 a0.Keys.length c0_0, .slice A0_1 a0.Kids.length c0_1, .slice A0_2 a0.Rows.length c0_2] 26 (0, 0))]) 5 (Ls 28 [0, 1, 2, 3, 4, 5, 6, 7, 8, 10, 11, 12, 13, 14, 15, 16, 18, 19, 20, 21, 22, 23, 24]) ?_ ?_
    · clear o1859h
      rintro ρ w1891 ⟨x1236, x1240, x1244, A1237, c1238, A1241, c1242, A1245, c1246, H, hρ, E, S⟩
      rw [agree_eta hρ]
      clear hρ
      refine Wa_solo (i := 9) rfl (by kernel_rfl) ?_
      obtain ⟨p1892, H⟩ := chkS H
      obtain ⟨src1893, hs1894, hC1895⟩ := src_of_read (P := Try.prog) (ρ := rStr) (l := a0.Keys) (SlR.world hr0_0 S) (by decide)
      refine W_append S 2 rfl rfl rfl Try.underlying22 (.inl Try.underlying22) ty9 rfl (by decide) (by decide) hs1894 hC1895 rfl (by omega) rfl ?_
      intro v1896 w1897 E' S
      replace E := E.trans E'
      clear E'
      obtain ⟨A1898, c1899, rfl, _⟩ := (S.row_read 2 rfl).form
      refine Wl_nil (on_n ⟨⟨M, Hp.le_refl M, S.pick [4] (by decide)⟩, ?_⟩)
      exact hq1872 _ _ ⟨(x1236 ++ a0.Keys), x1240, x1244, A1898, c1899, A1241, c1242, A1245, c1246, H, ⟨rfl, rfl, rfl, rfl, rfl, rfl, rfl, trivial⟩, E, S.pick [0, 1, 2, 3, 4] (by decide)⟩
    intro hq1870
    refine Wa_join (fun ρ w' => ∃ (x1221 : List Str) (x1225 : List Int) (A1222 : Option Addr) (c1223 : Nat) (A1226 : Option Addr) (c1227 : Nat), (if 0 ≤ (0 : Int) ∧ (0 : Int) ≤ (IntKind.i64.wrap ((a0.Kids.length : Int) + (3 : Int))) ∧ (IntKind.i64.wrap ((a0.Kids.length : Int) + (3 : Int))) * 8 ≤ 140737488355328 ∧ (IntKind.i64.wrap ((a0.Kids.length : Int) + (3 : Int))) ≤ 9223372036854775807 then (if (List.replicate (0 : Int).toNat (0 : Int)).length + a0.Kids.length ≤ 17592186044416 then some (x1221, ((List.replicate (0 : Int).toNat (0 : Int)) ++ a0.Kids), x1225) else none) else none) = some o1859 ∧ Agree ρ [(2, .pointer (some ⟨b4, 0, none⟩)), (4, .bool a0.Leaf), (12, .slice A1222 x1221.length c1223), (16, .int .i64 (IntKind.i64.wrap ((a0.Kids.length : Int) + (3 : Int)))), (19, .slice A0_1 a0.Kids.length c0_1), (25, .slice A1226 x1225.length c1227), (27, .slice A0_2 a0.Rows.length c0_2)] ∧ Ext w w' ∧ St w' M F [Row (rInt .u64) 41 (.slice A1226 x1225.length c1227) x1225, Row rStr 9 (.slice A1222 x1221.length c1223) x1221, Blk b4 (.cells #[.bool false, .slice none 0 0, .slice none 0 0, .slice none 0 0] 26 (0, 0)), Blk b1 (.cells #[.bool a0.Leaf, .slice A0_0 a0.Keys.length c0_0, .slice A0_1 a0.Kids.length c0_1, .slice A0_2 a0.Rows.length c0_2] 26 (0, 0))]) 5 (Ls 28 [0, 1, 2, 3, 4, 5, 6, 7, 8, 9, 10, 11, 12, 13, 15, 16, 18, 19, 20, 21, 22, 23, 24]) ?_ ?_
    · clear o1859h
      rintro ρ w1900 ⟨x1221, x1225, A1222, c1223, A1226, c1227, H, hρ, E, S⟩
      rw [agree_eta hρ]
      clear hρ
      refine Wa_solo (i := 14) rfl (by kernel_rfl) ?_
      obtain ⟨⟨p1901, p1902, p1903, p1904⟩, H⟩ := chkS H
      refine W_make (r := (rInt .i64)) S (0 : Int) Try.underlying23 ty3 rfl (by decide) (fun _ => rfl) rfl rfl p1901 p1902 p1903 p1904 rfl ?_
      intro b1905 w1906 E' S
      replace E := E.trans E'
      clear E'
      refine Wl_nil (on_n ⟨⟨M, Hp.le_refl M, S.pick [4] (by decide)⟩, ?_⟩)
      exact hq1872 _ _ ⟨x1221, (List.replicate (0 : Int).toNat (0 : Int)), x1225, A1222, c1223, (some ⟨b1905, 0, none⟩), ((IntKind.i64.wrap ((a0.Kids.length : Int) + (3 : Int))).toNat), A1226, c1227, H, ⟨rfl, rfl, rfl, rfl, rfl, rfl, rfl, trivial⟩, E, S.pick [1, 0, 2, 3, 4] (by decide)⟩
    intro hq1869
    refine Wa_join (fun ρ w' => ∃ (x1198 : List Str) (x1202 : List Int) (A1199 : Option Addr) (c1200 : Nat) (A1203 : Option Addr) (c1204 : Nat), (if x1202.length + a0.Kids.length ≤ 17592186044416 then (if 0 ≤ (0 : Int) ∧ (0 : Int) ≤ (IntKind.i64.wrap ((a0.Rows.length : Int) + (3 : Int))) ∧ (IntKind.i64.wrap ((a0.Rows.length : Int) + (3 : Int))) * 8 ≤ 140737488355328 ∧ (IntKind.i64.wrap ((a0.Rows.length : Int) + (3 : Int))) ≤ 9223372036854775807 then some (x1198, (x1202 ++ a0.Kids), (List.replicate (0 : Int).toNat (0 : Int))) else none) else none) = some o1859 ∧ Agree ρ [(2, .pointer (some ⟨b4, 0, none⟩)), (4, .bool a0.Leaf), (12, .slice A1199 x1198.length c1200), (17, .slice A1203 x1202.length c1204), (19, .slice A0_1 a0.Kids.length c0_1), (24, .int .i64 (IntKind.i64.wrap ((a0.Rows.length : Int) + (3 : Int)))), (27, .slice A0_2 a0.Rows.length c0_2)] ∧ Ext w w' ∧ St w' M F [Row (rInt .i64) 3 (.slice A1203 x1202.length c1204) x1202, Row rStr 9 (.slice A1199 x1198.length c1200) x1198, Blk b4 (.cells #[.bool false, .slice none 0 0, .slice none 0 0, .slice none 0 0] 26 (0, 0)), Blk b1 (.cells #[.bool a0.Leaf, .slice A0_0 a0.Keys.length c0_0, .slice A0_1 a0.Kids.length c0_1, .slice A0_2 a0.Rows.length c0_2] 26 (0, 0))]) 5 (Ls 28 [0, 1, 2, 3, 4, 5, 6, 7, 8, 9, 10, 11, 12, 13, 14, 15, 16, 18, 19, 20, 21, 23, 24]) ?_ ?_
    · clear o1859h
      rintro ρ w1908 ⟨x1198, x1202, A1199, c1200, A1203, c1204, H, hρ, E, S⟩
      rw [agree_eta hρ]
      clear hρ
      refine Wa_oneOf (rs := [17, 22]) (by kernel_rfl) (by decide) ?_
      simp only [List.forall_mem_cons, List.not_mem_nil, false_implies, implies_true, and_true]
      refine ⟨?_, ?_⟩
      · refine ⟨_, rfl, ?_⟩
        obtain ⟨p1909, H⟩ := chkS H
        obtain ⟨src1910, hs1911, hC1912⟩ := src_of_read (P := Try.prog) (ρ := (rInt .i64)) (l := a0.Kids) (SlR.world hr0_1 S) (by decide)
        refine W_append S 0 rfl rfl rfl Try.underlying23 (.inl Try.underlying23) ty3 rfl (by decide) (by decide) hs1911 hC1912 rfl (by omega) rfl ?_
        intro v1913 w1914 E' S
        replace E := E.trans E'
        clear E'
        obtain ⟨A1915, c1916, rfl, _⟩ := (S.row_read 0 rfl).form
        refine Wl_nil (on_n ⟨⟨M, Hp.le_refl M, S.pick [3] (by decide)⟩, ?_⟩)
        exact hq1871 _ _ ⟨x1198, (x1202 ++ a0.Kids), A1199, c1200, A1915, c1916, H, ⟨rfl, rfl, rfl, rfl, rfl, rfl, trivial⟩, E, S.pick [0, 1, 2, 3] (by decide)⟩
      · refine ⟨_, rfl, ?_⟩
        replace H : (if 0 ≤ (0 : Int) ∧ (0 : Int) ≤ (IntKind.i64.wrap ((a0.Rows.length : Int) + (3 : Int))) ∧ (IntKind.i64.wrap ((a0.Rows.length : Int) + (3 : Int))) * 8 ≤ 140737488355328 ∧ (IntKind.i64.wrap ((a0.Rows.length : Int) + (3 : Int))) ≤ 9223372036854775807 then (if x1202.length + a0.Kids.length ≤ 17592186044416 then some (x1198, (x1202 ++ a0.Kids), (List.replicate (0 : Int).toNat (0 : Int))) else none) else none) = some o1859 := by first | exact H | ((repeat' split at H) <;> (try contradiction) <;> (repeat' split) <;> first | exact H | contradiction)
        obtain ⟨⟨p1917, p1918, p1919, p1920⟩, H⟩ := chkS H
        refine W_make (r := (rInt .u64)) S (0 : Int) Try.underlying24 ty41 rfl (by decide) (fun _ => rfl) rfl rfl p1917 p1918 p1919 p1920 rfl ?_
        intro b1921 w1922 E' S
        replace E := E.trans E'
        clear E'
        refine Wl_nil (on_n ⟨⟨M, Hp.le_refl M, S.pick [4] (by decide)⟩, ?_⟩)
        exact hq1872 _ _ ⟨x1198, x1202, (List.replicate (0 : Int).toNat (0 : Int)), A1199, c1200, A1203, c1204, (some ⟨b1921, 0, none⟩), ((IntKind.i64.wrap ((a0.Rows.length : Int) + (3 : Int))).toNat), H, ⟨rfl, rfl, rfl, rfl, rfl, rfl, rfl, trivial⟩, E, S.pick [0, 1, 2, 3, 4] (by decide)⟩
    intro hq1868
    refine Wa_join (fun ρ w' => ∃ (x1183 : List Int) (x1187 : List Int) (A1184 : Option Addr) (c1185 : Nat) (A1188 : Option Addr) (c1189 : Nat), (if 0 ≤ (0 : Int) ∧ (0 : Int) ≤ (IntKind.i64.wrap ((a0.Keys.length : Int) + (3 : Int))) ∧ (IntKind.i64.wrap ((a0.Keys.length : Int) + (3 : Int))) * 16 ≤ 140737488355328 ∧ (IntKind.i64.wrap ((a0.Keys.length : Int) + (3 : Int))) ≤ 9223372036854775807 then (if (List.replicate (0 : Int).toNat ([] : Str)).length + a0.Keys.length ≤ 8796093022208 then (if x1183.length + a0.Kids.length ≤ 17592186044416 then some (((List.replicate (0 : Int).toNat ([] : Str)) ++ a0.Keys), (x1183 ++ a0.Kids), x1187) else none) else none) else none) = some o1859 ∧ Agree ρ [(2, .pointer (some ⟨b4, 0, none⟩)), (4, .bool a0.Leaf), (8, .int .i64 (IntKind.i64.wrap ((a0.Keys.length : Int) + (3 : Int)))), (11, .slice A0_0 a0.Keys.length c0_0), (17, .slice A1184 x1183.length c1185), (19, .slice A0_1 a0.Kids.length c0_1), (25, .slice A1188 x1187.length c1189), (27, .slice A0_2 a0.Rows.length c0_2)] ∧ Ext w w' ∧ St w' M F [Row (rInt .u64) 41 (.slice A1188 x1187.length c1189) x1187, Row (rInt .i64) 3 (.slice A1184 x1183.length c1185) x1183, Blk b4 (.cells #[.bool false, .slice none 0 0, .slice none 0 0, .slice none 0 0] 26 (0, 0)), Blk b1 (.cells #[.bool a0.Leaf, .slice A0_0 a0.Keys.length c0_0, .slice A0_1 a0.Kids.length c0_1, .slice A0_2 a0.Rows.length c0_2] 26 (0, 0))]) 6 (Ls 28 [0, 1, 2, 3, 4, 5, 7, 8, 10, 11, 12, 13, 14, 15, 16, 18, 19, 20, 21, 22, 23, 24]) ?_ ?_
    · clear o1859h
      rintro ρ w1924 ⟨x1183, x1187, A1184, c1185, A1188, c1189, H, hρ, E, S⟩
      rw [agree_eta hρ]
      clear hρ
      refine Wa_solo (i := 6) rfl (by kernel_rfl) ?_
      obtain ⟨⟨p1925, p1926, p1927, p1928⟩, H⟩ := chkS H
      refine W_make (r := rStr) S ([] : Str) Try.underlying22 ty9 rfl (by decide) (fun _ => rfl) rfl rfl p1925 p1926 p1927 p1928 rfl ?_
      intro b1929 w1930 E' S
      replace E := E.trans E'
      clear E'
      refine Wl_nil (on_n ⟨⟨M, Hp.le_refl M, S.pick [4] (by decide)⟩, ?_⟩)
      exact hq1870 _ _ ⟨(List.replicate (0 : Int).toNat ([] : Str)), x1183, x1187, (some ⟨b1929, 0, none⟩), ((IntKind.i64.wrap ((a0.Keys.length : Int) + (3 : Int))).toNat), A1184, c1185, A1188, c1189, H, ⟨rfl, rfl, rfl, rfl, rfl, rfl, rfl, rfl, trivial⟩, E, S.pick [1, 2, 0, 3, 4] (by decide)⟩
    intro hq1867
    refine Wa_join (fun ρ w' => ∃ (x1160 : List Str) (x1164 : List Int) (A1161 : Option Addr) (c1162 : Nat) (A1165 : Option Addr) (c1166 : Nat), (if x1160.length + a0.Keys.length ≤ 8796093022208 then (if 0 ≤ (0 : Int) ∧ (0 : Int) ≤ (IntKind.i64.wrap ((a0.Kids.length : Int) + (3 : Int))) ∧ (IntKind.i64.wrap ((a0.Kids.length : Int) + (3 : Int))) * 8 ≤ 140737488355328 ∧ (IntKind.i64.wrap ((a0.Kids.length : Int) + (3 : Int))) ≤ 9223372036854775807 then (if (List.replicate (0 : Int).toNat (0 : Int)).length + a0.Kids.length ≤ 17592186044416 then some ((x1160 ++ a0.Keys), ((List.replicate (0 : Int).toNat (0 : Int)) ++ a0.Kids), x1164) else none) else none) else none) = some o1859 ∧ Agree ρ [(2, .pointer (some ⟨b4, 0, none⟩)), (4, .bool a0.Leaf), (9, .slice A1161 x1160.length c1162), (11, .slice A0_0 a0.Keys.length c0_0), (16, .int .i64 (IntKind.i64.wrap ((a0.Kids.length : Int) + (3 : Int)))), (19, .slice A0_1 a0.Kids.length c0_1), (25, .slice A1165 x1164.length c1166), (27, .slice A0_2 a0.Rows.length c0_2)] ∧ Ext w w' ∧ St w' M F [Row (rInt .u64) 41 (.slice A1165 x1164.length c1166) x1164, Row rStr 9 (.slice A1161 x1160.length c1162) x1160, Blk b4 (.cells #[.bool false, .slice none 0 0, .slice none 0 0, .slice none 0 0] 26 (0, 0)), Blk b1 (.cells #[.bool a0.Leaf, .slice A0_0 a0.Keys.length c0_0, .slice A0_1 a0.Kids.length c0_1, .slice A0_2 a0.Rows.length c0_2] 26 (0, 0))]) 6 (Ls 28 [0, 1, 2, 3, 4, 5, 6, 7, 8, 10, 11, 12, 13, 15, 16, 18, 19, 20, 21, 22, 23, 24]) ?_ ?_
    · clear o1859h
      rintro ρ w1932 ⟨x1160, x1164, A1161, c1162, A1165, c1166, H, hρ, E, S⟩
      rw [agree_eta hρ]
      clear hρ
      refine Wa_oneOf (rs := [9, 14]) (by kernel_rfl) (by decide) ?_
      simp only [List.forall_mem_cons, List.not_mem_nil, false_implies, implies_true, and_true]
      refine ⟨?_, ?_⟩
      · refine ⟨_, rfl, ?_⟩
        obtain ⟨p1933, H⟩ := chkS H
        obtain ⟨src1934, hs1935, hC1936⟩ := src_of_read (P := Try.prog) (ρ := rStr) (l := a0.Keys) (SlR.world hr0_0 S) (by decide)
        refine W_append S 1 rfl rfl rfl Try.underlying22 (.inl Try.underlying22) ty9 rfl (by decide) (by decide) hs1935 hC1936 rfl (by omega) rfl ?_
        intro v1937 w1938 E' S
        replace E := E.trans E'
        clear E'
        obtain ⟨A1939, c1940, rfl, _⟩ := (S.row_read 1 rfl).form
        refine Wl_nil (on_n ⟨⟨M, Hp.le_refl M, S.pick [3] (by decide)⟩, ?_⟩)
        exact hq1869 _ _ ⟨(x1160 ++ a0.Keys), x1164, A1939, c1940, A1165, c1166, H, ⟨rfl, rfl, rfl, rfl, rfl, rfl, rfl, trivial⟩, E, S.pick [0, 1, 2, 3] (by decide)⟩
      · refine ⟨_, rfl, ?_⟩
        replace H : (if 0 ≤ (0 : Int) ∧ (0 : Int) ≤ (IntKind.i64.wrap ((a0.Kids.length : Int) + (3 : Int))) ∧ (IntKind.i64.wrap ((a0.Kids.length : Int) + (3 : Int))) * 8 ≤ 140737488355328 ∧ (IntKind.i64.wrap ((a0.Kids.length : Int) + (3 : Int))) ≤ 9223372036854775807 then (if x1160.length + a0.Keys.length ≤ 8796093022208 then (if (List.replicate (0 : Int).toNat (0 : Int)).length + a0.Kids.length ≤ 17592186044416 then some ((x1160 ++ a0.Keys), ((List.replicate (0 : Int).toNat (0 : Int)) ++ a0.Kids), x1164) else none) else none) else none) = some o1859 := by first | exact H | ((repeat' split at H) <;> (try contradiction) <;> (repeat' split) <;> first | exact H | contradiction)
        obtain ⟨⟨p1941, p1942, p1943, p1944⟩, H⟩ := chkS H
        refine W_make (r := (rInt .i64)) S (0 : Int) Try.underlying23 ty3 rfl (by decide) (fun _ => rfl) rfl rfl p1941 p1942 p1943 p1944 rfl ?_
        intro b1945 w1946 E' S
        replace E := E.trans E'
        clear E'
        refine Wl_nil (on_n ⟨⟨M, Hp.le_refl M, S.pick [4] (by decide)⟩, ?_⟩)
        exact hq1870 _ _ ⟨x1160, (List.replicate (0 : Int).toNat (0 : Int)), x1164, A1161, c1162, (some ⟨b1945, 0, none⟩), ((IntKind.i64.wrap ((a0.Kids.length : Int) + (3 : Int))).toNat), A1165, c1166, H, ⟨rfl, rfl, rfl, rfl, rfl, rfl, rfl, rfl, trivial⟩, E, S.pick [1, 0, 2, 3, 4] (by decide)⟩
    intro hq1866
    refine Wa_join (fun ρ w' => ∃ (x1137 : List Str) (x1141 : List Int) (A1138 : Option Addr) (c1139 : Nat) (A1142 : Option Addr) (c1143 : Nat), (if x1137.length + a0.Keys.length ≤ 8796093022208 then (if x1141.length + a0.Kids.length ≤ 17592186044416 then (if 0 ≤ (0 : Int) ∧ (0 : Int) ≤ (IntKind.i64.wrap ((a0.Rows.length : Int) + (3 : Int))) ∧ (IntKind.i64.wrap ((a0.Rows.length : Int) + (3 : Int))) * 8 ≤ 140737488355328 ∧ (IntKind.i64.wrap ((a0.Rows.length : Int) + (3 : Int))) ≤ 9223372036854775807 then some ((x1137 ++ a0.Keys), (x1141 ++ a0.Kids), (List.replicate (0 : Int).toNat (0 : Int))) else none) else none) else none) = some o1859 ∧ Agree ρ [(2, .pointer (some ⟨b4, 0, none⟩)), (4, .bool a0.Leaf), (9, .slice A1138 x1137.length c1139), (11, .slice A0_0 a0.Keys.length c0_0), (17, .slice A1142 x1141.length c1143), (19, .slice A0_1 a0.Kids.length c0_1), (24, .int .i64 (IntKind.i64.wrap ((a0.Rows.length : Int) + (3 : Int)))), (27, .slice A0_2 a0.Rows.length c0_2)] ∧ Ext w w' ∧ St w' M F [Row (rInt .i64) 3 (.slice A1142 x1141.length c1143) x1141, Row rStr 9 (.slice A1138 x1137.length c1139) x1137, Blk b4 (.cells #[.bool false, .slice none 0 0, .slice none 0 0, .slice none 0 0] 26 (0, 0)), Blk b1 (.cells #[.bool a0.Leaf, .slice A0_0 a0.Keys.length c0_0, .slice A0_1 a0.Kids.length c0_1, .slice A0_2 a0.Rows.length c0_2] 26 (0, 0))]) 6 (Ls 28 [0, 1, 2, 3, 4, 5, 6, 7, 8, 10, 11, 12, 13, 14, 15, 16, 18, 19, 20, 21, 23, 24]) ?_ ?_
    · clear o1859h
      rintro ρ w1948 ⟨x1137, x1141, A1138, c1139, A1142, c1143, H, hρ, E, S⟩
      rw [agree_eta hρ]
      clear hρ
      refine Wa_oneOf (rs := [9, 22]) (by kernel_rfl) (by decide) ?_
      simp only [List.forall_mem_cons, List.not_mem_nil, false_implies, implies_true, and_true]
      refine ⟨?_, ?_⟩
      · refine ⟨_, rfl, ?_⟩
        obtain ⟨p1949, H⟩ := chkS H
        obtain ⟨src1950, hs1951, hC1952⟩ := src_of_read (P := Try.prog) (ρ := rStr) (l := a0.Keys) (SlR.world hr0_0 S) (by decide)
        refine W_append S 1 rfl rfl rfl Try.underlying22 (.inl Try.underlying22) ty9 rfl (by decide) (by decide) hs1951 hC1952 rfl (by omega) rfl ?_
        intro v1953 w1954 E' S
        replace E := E.trans E'
        clear E'
        obtain ⟨A1955, c1956, rfl, _⟩ := (S.row_read 1 rfl).form
        refine Wl_nil (on_n ⟨⟨M, Hp.le_refl M, S.pick [3] (by decide)⟩, ?_⟩)
        exact hq1868 _ _ ⟨(x1137 ++ a0.Keys), x1141, A1955, c1956, A1142, c1143, H, ⟨rfl, rfl, rfl, rfl, rfl, rfl, rfl, trivial⟩, E, S.pick [0, 1, 2, 3] (by decide)⟩
      · refine ⟨_, rfl, ?_⟩
        replace H : (if 0 ≤ (0 : Int) ∧ (0 : Int) ≤ (IntKind.i64.wrap ((a0.Rows.length : Int) + (3 : Int))) ∧ (IntKind.i64.wrap ((a0.Rows.length : Int) + (3 : Int))) * 8 ≤ 140737488355328 ∧ (IntKind.i64.wrap ((a0.Rows.length : Int) + (3 : Int))) ≤ 9223372036854775807 then (if x1137.length + a0.Keys.length ≤ 8796093022208 then (if x1141.length + a0.Kids.length ≤ 17592186044416 then some ((x1137 ++ a0.Keys), (x1141 ++ a0.Kids), (List.replicate (0 : Int).toNat (0 : Int))) else none) else none) else none) = some o1859 := by first | exact H | ((repeat' split at H) <;> (try contradiction) <;> (repeat' split) <;> first | exact H | contradiction)
        obtain ⟨⟨p1957, p1958, p1959, p1960⟩, H⟩ := chkS H
        refine W_make (r := (rInt .u64)) S (0 : Int) Try.underlying24 ty41 rfl (by decide) (fun _ => rfl) rfl rfl p1957 p1958 p1959 p1960 rfl ?_
        intro b1961 w1962 E' S
        replace E := E.trans E'
        clear E'
        refine Wl_nil (on_n ⟨⟨M, Hp.le_refl M, S.pick [4] (by decide)⟩, ?_⟩)
        exact hq1870 _ _ ⟨x1137, x1141, (List.replicate (0 : Int).toNat (0 : Int)), A1138, c1139, A1142, c1143, (some ⟨b1961, 0, none⟩), ((IntKind.i64.wrap ((a0.Rows.length : Int) + (3 : Int))).toNat), H, ⟨rfl, rfl, rfl, rfl, rfl, rfl, rfl, rfl, trivial⟩, E, S.pick [0, 1, 2, 3, 4] (by decide)⟩
    intro hq1865
    refine Wa_join (fun ρ w' => ∃ (x1119 : List Str) (A1120 : Option Addr) (c1121 : Nat), (if 0 ≤ (0 : Int) ∧ (0 : Int) ≤ (IntKind.i64.wrap ((a0.Kids.length : Int) + (3 : Int))) ∧ (IntKind.i64.wrap ((a0.Kids.length : Int) + (3 : Int))) * 8 ≤ 140737488355328 ∧ (IntKind.i64.wrap ((a0.Kids.length : Int) + (3 : Int))) ≤ 9223372036854775807 then (if (List.replicate (0 : Int).toNat (0 : Int)).length + a0.Kids.length ≤ 17592186044416 then (if 0 ≤ (0 : Int) ∧ (0 : Int) ≤ (IntKind.i64.wrap ((a0.Rows.length : Int) + (3 : Int))) ∧ (IntKind.i64.wrap ((a0.Rows.length : Int) + (3 : Int))) * 8 ≤ 140737488355328 ∧ (IntKind.i64.wrap ((a0.Rows.length : Int) + (3 : Int))) ≤ 9223372036854775807 then some (x1119, ((List.replicate (0 : Int).toNat (0 : Int)) ++ a0.Kids), (List.replicate (0 : Int).toNat (0 : Int))) else none) else none) else none) = some o1859 ∧ Agree ρ [(2, .pointer (some ⟨b4, 0, none⟩)), (4, .bool a0.Leaf), (12, .slice A1120 x1119.length c1121), (16, .int .i64 (IntKind.i64.wrap ((a0.Kids.length : Int) + (3 : Int)))), (19, .slice A0_1 a0.Kids.length c0_1), (24, .int .i64 (IntKind.i64.wrap ((a0.Rows.length : Int) + (3 : Int)))), (27, .slice A0_2 a0.Rows.length c0_2)] ∧ Ext w w' ∧ St w' M F [Row rStr 9 (.slice A1120 x1119.length c1121) x1119, Blk b4 (.cells #[.bool false, .slice none 0 0, .slice none 0 0, .slice none 0 0] 26 (0, 0)), Blk b1 (.cells #[.bool a0.Leaf, .slice A0_0 a0.Keys.length c0_0, .slice A0_1 a0.Kids.length c0_1, .slice A0_2 a0.Rows.length c0_2] 26 (0, 0))]) 6 (Ls 28 [0, 1, 2, 3, 4, 5, 6, 7, 8, 9, 10, 11, 12, 13, 15, 16, 18, 19, 20, 21, 23, 24]) ?_ ?_
    · clear o1859h
      rintro ρ w1964 ⟨x1119, A1120, c1121, H, hρ, E, S⟩
      rw [agree_eta hρ]
      clear hρ
      refine Wa_oneOf (rs := [14, 22]) (by kernel_rfl) (by decide) ?_
      simp only [List.forall_mem_cons, List.not_mem_nil, false_implies, implies_true, and_true]
      refine ⟨?_, ?_⟩
      · refine ⟨_, rfl, ?_⟩
        obtain ⟨⟨p1965, p1966, p1967, p1968⟩, H⟩ := chkS H
        refine W_make (r := (rInt .i64)) S (0 : Int) Try.underlying23 ty3 rfl (by decide) (fun _ => rfl) rfl rfl p1965 p1966 p1967 p1968 rfl ?_
        intro b1969 w1970 E' S
        replace E := E.trans E'
        clear E'
        refine Wl_nil (on_n ⟨⟨M, Hp.le_refl M, S.pick [3] (by decide)⟩, ?_⟩)
        exact hq1868 _ _ ⟨x1119, (List.replicate (0 : Int).toNat (0 : Int)), A1120, c1121, (some ⟨b1969, 0, none⟩), ((IntKind.i64.wrap ((a0.Kids.length : Int) + (3 : Int))).toNat), H, ⟨rfl, rfl, rfl, rfl, rfl, rfl, rfl, trivial⟩, E, S.pick [0, 1, 2, 3] (by decide)⟩
      · refine ⟨_, rfl, ?_⟩
        replace H : (if 0 ≤ (0 : Int) ∧ (0 : Int) ≤ (IntKind.i64.wrap ((a0.Rows.length : Int) + (3 : Int))) ∧ (IntKind.i64.wrap ((a0.Rows.length : Int) + (3 : Int))) * 8 ≤ 140737488355328 ∧ (IntKind.i64.wrap ((a0.Rows.length : Int) + (3 : Int))) ≤ 9223372036854775807 then (if 0 ≤ (0 : Int) ∧ (0 : Int) ≤ (IntKind.i64.wrap ((a0.Kids.length : Int) + (3 : Int))) ∧ (IntKind.i64.wrap ((a0.Kids.length : Int) + (3 : Int))) * 8 ≤ 140737488355328 ∧ (IntKind.i64.wrap ((a0.Kids.length : Int) + (3 : Int))) ≤ 9223372036854775807 then (if (List.replicate (0 : Int).toNat (0 : Int)).length + a0.Kids.length ≤ 17592186044416 then some (x1119, ((List.replicate (0 : Int).toNat (0 : Int)) ++ a0.Kids), (List.replicate (0 : Int).toNat (0 : Int))) else none) else none) else none) = some o1859 := by first | exact H | ((repeat' split at H) <;> (try contradiction) <;> (repeat' split) <;> first | exact H | contradiction)
        obtain ⟨⟨p1972, p1973, p1974, p1975⟩, H⟩ := chkS H
        refine W_make (r := (rInt .u64)) S (0 : Int) Try.underlying24 ty41 rfl (by decide) (fun _ => rfl) rfl rfl p1972 p1973 p1974 p1975 rfl ?_
        intro b1976 w1977 E' S
        replace E := E.trans E'
        clear E'
        refine Wl_nil (on_n ⟨⟨M, Hp.le_refl M, S.pick [3] (by decide)⟩, ?_⟩)
        exact hq1869 _ _ ⟨x1119, (List.replicate (0 : Int).toNat (0 : Int)), A1120, c1121, (some ⟨b1976, 0, none⟩), ((IntKind.i64.wrap ((a0.Rows.length : Int) + (3 : Int))).toNat), H, ⟨rfl, rfl, rfl, rfl, rfl, rfl, rfl, trivial⟩, E, S.pick [0, 1, 2, 3] (by decide)⟩
    intro hq1864
    refine Wa_join (fun ρ w' => ∃ (x1101 : List Int) (A1102 : Option Addr) (c1103 : Nat), (if 0 ≤ (0 : Int) ∧ (0 : Int) ≤ (IntKind.i64.wrap ((a0.Keys.length : Int) + (3 : Int))) ∧ (IntKind.i64.wrap ((a0.Keys.length : Int) + (3 : Int))) * 16 ≤ 140737488355328 ∧ (IntKind.i64.wrap ((a0.Keys.length : Int) + (3 : Int))) ≤ 9223372036854775807 then (if (List.replicate (0 : Int).toNat ([] : Str)).length + a0.Keys.length ≤ 8796093022208 then (if 0 ≤ (0 : Int) ∧ (0 : Int) ≤ (IntKind.i64.wrap ((a0.Kids.length : Int) + (3 : Int))) ∧ (IntKind.i64.wrap ((a0.Kids.length : Int) + (3 : Int))) * 8 ≤ 140737488355328 ∧ (IntKind.i64.wrap ((a0.Kids.length : Int) + (3 : Int))) ≤ 9223372036854775807 then (if (List.replicate (0 : Int).toNat (0 : Int)).length + a0.Kids.length ≤ 17592186044416 then some (((List.replicate (0 : Int).toNat ([] : Str)) ++ a0.Keys), ((List.replicate (0 : Int).toNat (0 : Int)) ++ a0.Kids), x1101) else none) else none) else none) else none) = some o1859 ∧ Agree ρ [(2, .pointer (some ⟨b4, 0, none⟩)), (4, .bool a0.Leaf), (8, .int .i64 (IntKind.i64.wrap ((a0.Keys.length : Int) + (3 : Int)))), (11, .slice A0_0 a0.Keys.length c0_0), (16, .int .i64 (IntKind.i64.wrap ((a0.Kids.length : Int) + (3 : Int)))), (19, .slice A0_1 a0.Kids.length c0_1), (25, .slice A1102 x1101.length c1103), (27, .slice A0_2 a0.Rows.length c0_2)] ∧ Ext w w' ∧ St w' M F [Row (rInt .u64) 41 (.slice A1102 x1101.length c1103) x1101, Blk b4 (.cells #[.bool false, .slice none 0 0, .slice none 0 0, .slice none 0 0] 26 (0, 0)), Blk b1 (.cells #[.bool a0.Leaf, .slice A0_0 a0.Keys.length c0_0, .slice A0_1 a0.Kids.length c0_1, .slice A0_2 a0.Rows.length c0_2] 26 (0, 0))]) 7 (Ls 28 [0, 1, 2, 3, 4, 5, 7, 8, 10, 11, 12, 13, 15, 16, 18, 19, 20, 21, 22, 23, 24]) ?_ ?_
    · clear o1859h
      rintro ρ w1979 ⟨x1101, A1102, c1103, H, hρ, E, S⟩
      rw [agree_eta hρ]
      clear hρ
      refine Wa_oneOf (rs := [6, 14]) (by kernel_rfl) (by decide) ?_
      simp only [List.forall_mem_cons, List.not_mem_nil, false_implies, implies_true, and_true]
      refine ⟨?_, ?_⟩
      · refine ⟨_, rfl, ?_⟩
        obtain ⟨⟨p1980, p1981, p1982, p1983⟩, H⟩ := chkS H
        refine W_make (r := rStr) S ([] : Str) Try.underlying22 ty9 rfl (by decide) (fun _ => rfl) rfl rfl p1980 p1981 p1982 p1983 rfl ?_
        intro b1984 w1985 E' S
        replace E := E.trans E'
        clear E'
        refine Wl_nil (on_n ⟨⟨M, Hp.le_refl M, S.pick [3] (by decide)⟩, ?_⟩)
        exact hq1866 _ _ ⟨(List.replicate (0 : Int).toNat ([] : Str)), x1101, (some ⟨b1984, 0, none⟩), ((IntKind.i64.wrap ((a0.Keys.length : Int) + (3 : Int))).toNat), A1102, c1103, H, ⟨rfl, rfl, rfl, rfl, rfl, rfl, rfl, rfl, trivial⟩, E, S.pick [1, 0, 2, 3] (by decide)⟩
      · refine ⟨_, rfl, ?_⟩
        replace H : (if 0 ≤ (0 : Int) ∧ (0 : Int) ≤ (IntKind.i64.wrap ((a0.Kids.length : Int) + (3 : Int))) ∧ (IntKind.i64.wrap ((a0.Kids.length : Int) + (3 : Int))) * 8 ≤ 140737488355328 ∧ (IntKind.i64.wrap ((a0.Kids.length : Int) + (3 : Int))) ≤ 9223372036854775807 then (if 0 ≤ (0 : Int) ∧ (0 : Int) ≤ (IntKind.i64.wrap ((a0.Keys.length : Int) + (3 : Int))) ∧ (IntKind.i64.wrap ((a0.Keys.length : Int) + (3 : Int))) * 16 ≤ 140737488355328 ∧ (IntKind.i64.wrap ((a0.Keys.length : Int) + (3 : Int))) ≤ 9223372036854775807 then (if (List.replicate (0 : Int).toNat ([] : Str)).length + a0.Keys.length ≤ 8796093022208 then (if (List.replicate (0 : Int).toNat (0 : Int)).length + a0.Kids.length ≤ 17592186044416 then some (((List.replicate (0 : Int).toNat ([] : Str)) ++ a0.Keys), ((List.replicate (0 : Int).toNat (0 : Int)) ++ a0.Kids), x1101) else none) else none) else none) else none) = some o1859 := by first | exact H | ((repeat' split at H) <;> (try contradiction) <;> (repeat' split) <;> first | exact H | contradiction)
        obtain ⟨⟨p1987, p1988, p1989, p1990⟩, H⟩ := chkS H
        refine W_make (r := (rInt .i64)) S (0 : Int) Try.underlying23 ty3 rfl (by decide) (fun _ => rfl) rfl rfl p1987 p1988 p1989 p1990 rfl ?_
        intro b1991 w1992 E' S
        replace E := E.trans E'
        clear E'
        refine Wl_nil (on_n ⟨⟨M, Hp.le_refl M, S.pick [3] (by decide)⟩, ?_⟩)
        exact hq1867 _ _ ⟨(List.replicate (0 : Int).toNat (0 : Int)), x1101, (some ⟨b1991, 0, none⟩), ((IntKind.i64.wrap ((a0.Kids.length : Int) + (3 : Int))).toNat), A1102, c1103, H, ⟨rfl, rfl, rfl, rfl, rfl, rfl, rfl, rfl, trivial⟩, E, S.pick [1, 0, 2, 3] (by decide)⟩
    intro hq1863
    refine Wa_join (fun ρ w' => ∃ (x1083 : List Int) (A1084 : Option Addr) (c1085 : Nat), (if 0 ≤ (0 : Int) ∧ (0 : Int) ≤ (IntKind.i64.wrap ((a0.Keys.length : Int) + (3 : Int))) ∧ (IntKind.i64.wrap ((a0.Keys.length : Int) + (3 : Int))) * 16 ≤ 140737488355328 ∧ (IntKind.i64.wrap ((a0.Keys.length : Int) + (3 : Int))) ≤ 9223372036854775807 then (if (List.replicate (0 : Int).toNat ([] : Str)).length + a0.Keys.length ≤ 8796093022208 then (if x1083.length + a0.Kids.length ≤ 17592186044416 then (if 0 ≤ (0 : Int) ∧ (0 : Int) ≤ (IntKind.i64.wrap ((a0.Rows.length : Int) + (3 : Int))) ∧ (IntKind.i64.wrap ((a0.Rows.length : Int) + (3 : Int))) * 8 ≤ 140737488355328 ∧ (IntKind.i64.wrap ((a0.Rows.length : Int) + (3 : Int))) ≤ 9223372036854775807 then some (((List.replicate (0 : Int).toNat ([] : Str)) ++ a0.Keys), (x1083 ++ a0.Kids), (List.replicate (0 : Int).toNat (0 : Int))) else none) else none) else none) else none) = some o1859 ∧ Agree ρ [(2, .pointer (some ⟨b4, 0, none⟩)), (4, .bool a0.Leaf), (8, .int .i64 (IntKind.i64.wrap ((a0.Keys.length : Int) + (3 : Int)))), (11, .slice A0_0 a0.Keys.length c0_0), (17, .slice A1084 x1083.length c1085), (19, .slice A0_1 a0.Kids.length c0_1), (24, .int .i64 (IntKind.i64.wrap ((a0.Rows.length : Int) + (3 : Int)))), (27, .slice A0_2 a0.Rows.length c0_2)] ∧ Ext w w' ∧ St w' M F [Row (rInt .i64) 3 (.slice A1084 x1083.length c1085) x1083, Blk b4 (.cells #[.bool false, .slice none 0 0, .slice none 0 0, .slice none 0 0] 26 (0, 0)), Blk b1 (.cells #[.bool a0.Leaf, .slice A0_0 a0.Keys.length c0_0, .slice A0_1 a0.Kids.length c0_1, .slice A0_2 a0.Rows.length c0_2] 26 (0, 0))]) 7 (Ls 28 [0, 1, 2, 3, 4, 5, 7, 8, 10, 11, 12, 13, 14, 15, 16, 18, 19, 20, 21, 23, 24]) ?_ ?_
    · clear o1859h
      rintro ρ w1994 ⟨x1083, A1084, c1085, H, hρ, E, S⟩
      rw [agree_eta hρ]
      clear hρ
      refine Wa_oneOf (rs := [6, 22]) (by kernel_rfl) (by decide) ?_
      simp only [List.forall_mem_cons, List.not_mem_nil, false_implies, implies_true, and_true]
      refine ⟨?_, ?_⟩
      · refine ⟨_, rfl, ?_⟩
        obtain ⟨⟨p1995, p1996, p1997, p1998⟩, H⟩ := chkS H
        refine W_make (r := rStr) S ([] : Str) Try.underlying22 ty9 rfl (by decide) (fun _ => rfl) rfl rfl p1995 p1996 p1997 p1998 rfl ?_
        intro b1999 w2000 E' S
        replace E := E.trans E'
        clear E'
        refine Wl_nil (on_n ⟨⟨M, Hp.le_refl M, S.pick [3] (by decide)⟩, ?_⟩)
        exact hq1865 _ _ ⟨(List.replicate (0 : Int).toNat ([] : Str)), x1083, (some ⟨b1999, 0, none⟩), ((IntKind.i64.wrap ((a0.Keys.length : Int) + (3 : Int))).toNat), A1084, c1085, H, ⟨rfl, rfl, rfl, rfl, rfl, rfl, rfl, rfl, trivial⟩, E, S.pick [1, 0, 2, 3] (by decide)⟩
      · refine ⟨_, rfl, ?_⟩
        replace H : (if 0 ≤ (0 : Int) ∧ (0 : Int) ≤ (IntKind.i64.wrap ((a0.Rows.length : Int) + (3 : Int))) ∧ (IntKind.i64.wrap ((a0.Rows.length : Int) + (3 : Int))) * 8 ≤ 140737488355328 ∧ (IntKind.i64.wrap ((a0.Rows.length : Int) + (3 : Int))) ≤ 9223372036854775807 then (if 0 ≤ (0 : Int) ∧ (0 : Int) ≤ (IntKind.i64.wrap ((a0.Keys.length : Int) + (3 : Int))) ∧ (IntKind.i64.wrap ((a0.Keys.length : Int) + (3 : Int))) * 16 ≤ 140737488355328 ∧ (IntKind.i64.wrap ((a0.Keys.length : Int) + (3 : Int))) ≤ 9223372036854775807 then (if (List.replicate (0 : Int).toNat ([] : Str)).length + a0.Keys.length ≤ 8796093022208 then (if x1083.length + a0.Kids.length ≤ 17592186044416 then some (((List.replicate (0 : Int).toNat ([] : Str)) ++ a0.Keys), (x1083 ++ a0.Kids), (List.replicate (0 : Int).toNat (0 : Int))) else none) else none) else none) else none) = some o1859 := by first | exact H | ((repeat' split at H) <;> (try contradiction) <;> (repeat' split) <;> first | exact H | contradiction)
        obtain ⟨⟨p2002, p2003, p2004, p2005⟩, H⟩ := chkS H
        refine W_make (r := (rInt .u64)) S (0 : Int) Try.underlying24 ty41 rfl (by decide) (fun _ => rfl) rfl rfl p2002 p2003 p2004 p2005 rfl ?_
        intro b2006 w2007 E' S
        replace E := E.trans E'
        clear E'
        refine Wl_nil (on_n ⟨⟨M, Hp.le_refl M, S.pick [3] (by decide)⟩, ?_⟩)
        exact hq1867 _ _ ⟨x1083, (List.replicate (0 : Int).toNat (0 : Int)), A1084, c1085, (some ⟨b2006, 0, none⟩), ((IntKind.i64.wrap ((a0.Rows.length : Int) + (3 : Int))).toNat), H, ⟨rfl, rfl, rfl, rfl, rfl, rfl, rfl, rfl, trivial⟩, E, S.pick [0, 1, 2, 3] (by decide)⟩
    intro hq1862
    refine Wa_join (fun ρ w' => ∃ (x1057 : List Str) (A1058 : Option Addr) (c1059 : Nat), (if x1057.length + a0.Keys.length ≤ 8796093022208 then (if 0 ≤ (0 : Int) ∧ (0 : Int) ≤ (IntKind.i64.wrap ((a0.Kids.length : Int) + (3 : Int))) ∧ (IntKind.i64.wrap ((a0.Kids.length : Int) + (3 : Int))) * 8 ≤ 140737488355328 ∧ (IntKind.i64.wrap ((a0.Kids.length : Int) + (3 : Int))) ≤ 9223372036854775807 then (if (List.replicate (0 : Int).toNat (0 : Int)).length + a0.Kids.length ≤ 17592186044416 then (if 0 ≤ (0 : Int) ∧ (0 : Int) ≤ (IntKind.i64.wrap ((a0.Rows.length : Int) + (3 : Int))) ∧ (IntKind.i64.wrap ((a0.Rows.length : Int) + (3 : Int))) * 8 ≤ 140737488355328 ∧ (IntKind.i64.wrap ((a0.Rows.length : Int) + (3 : Int))) ≤ 9223372036854775807 then some ((x1057 ++ a0.Keys), ((List.replicate (0 : Int).toNat (0 : Int)) ++ a0.Kids), (List.replicate (0 : Int).toNat (0 : Int))) else none) else none) else none) else none) = some o1859 ∧ Agree ρ [(2, .pointer (some ⟨b4, 0, none⟩)), (4, .bool a0.Leaf), (9, .slice A1058 x1057.length c1059), (11, .slice A0_0 a0.Keys.length c0_0), (16, .int .i64 (IntKind.i64.wrap ((a0.Kids.length : Int) + (3 : Int)))), (19, .slice A0_1 a0.Kids.length c0_1), (24, .int .i64 (IntKind.i64.wrap ((a0.Rows.length : Int) + (3 : Int)))), (27, .slice A0_2 a0.Rows.length c0_2)] ∧ Ext w w' ∧ St w' M F [Row rStr 9 (.slice A1058 x1057.length c1059) x1057, Blk b4 (.cells #[.bool false, .slice none 0 0, .slice none 0 0, .slice none 0 0] 26 (0, 0)), Blk b1 (.cells #[.bool a0.Leaf, .slice A0_0 a0.Keys.length c0_0, .slice A0_1 a0.Kids.length c0_1, .slice A0_2 a0.Rows.length c0_2] 26 (0, 0))]) 7 (Ls 28 [0, 1, 2, 3, 4, 5, 6, 7, 8, 10, 11, 12, 13, 15, 16, 18, 19, 20, 21, 23, 24]) ?_ ?_
    · clear o1859h
      rintro ρ w2009 ⟨x1057, A1058, c1059, H, hρ, E, S⟩
      rw [agree_eta hρ]
      clear hρ
      refine Wa_oneOf (rs := [9, 14, 22]) (by kernel_rfl) (by decide) ?_
      simp only [List.forall_mem_cons, List.not_mem_nil, false_implies, implies_true, and_true]
      refine ⟨?_, ?_, ?_⟩
      · refine ⟨_, rfl, ?_⟩
        obtain ⟨p2010, H⟩ := chkS H
        obtain ⟨src2011, hs2012, hC2013⟩ := src_of_read (P := Try.prog) (ρ := rStr) (l := a0.Keys) (SlR.world hr0_0 S) (by decide)
        refine W_append S 0 rfl rfl rfl Try.underlying22 (.inl Try.underlying22) ty9 rfl (by decide) (by decide) hs2012 hC2013 rfl (by omega) rfl ?_
        intro v2014 w2015 E' S
        replace E := E.trans E'
        clear E'
        obtain ⟨A2016, c2017, rfl, _⟩ := (S.row_read 0 rfl).form
        refine Wl_nil (on_n ⟨⟨M, Hp.le_refl M, S.pick [2] (by decide)⟩, ?_⟩)
        exact hq1864 _ _ ⟨(x1057 ++ a0.Keys), A2016, c2017, H, ⟨rfl, rfl, rfl, rfl, rfl, rfl, rfl, trivial⟩, E, S.pick [0, 1, 2] (by decide)⟩
      · refine ⟨_, rfl, ?_⟩
        replace H : (if 0 ≤ (0 : Int) ∧ (0 : Int) ≤ (IntKind.i64.wrap ((a0.Kids.length : Int) + (3 : Int))) ∧ (IntKind.i64.wrap ((a0.Kids.length : Int) + (3 : Int))) * 8 ≤ 140737488355328 ∧ (IntKind.i64.wrap ((a0.Kids.length : Int) + (3 : Int))) ≤ 9223372036854775807 then (if x1057.length + a0.Keys.length ≤ 8796093022208 then (if (List.replicate (0 : Int).toNat (0 : Int)).length + a0.Kids.length ≤ 17592186044416 then (if 0 ≤ (0 : Int) ∧ (0 : Int) ≤ (IntKind.i64.wrap ((a0.Rows.length : Int) + (3 : Int))) ∧ (IntKind.i64.wrap ((a0.Rows.length : Int) + (3 : Int))) * 8 ≤ 140737488355328 ∧ (IntKind.i64.wrap ((a0.Rows.length : Int) + (3 : Int))) ≤ 9223372036854775807 then some ((x1057 ++ a0.Keys), ((List.replicate (0 : Int).toNat (0 : Int)) ++ a0.Kids), (List.replicate (0 : Int).toNat (0 : Int))) else none) else none) else none) else none) = some o1859 := by first | exact H | ((repeat' split at H) <;> (try contradiction) <;> (repeat' split) <;> first | exact H | contradiction)
        obtain ⟨⟨p2018, p2019, p2020, p2021⟩, H⟩ := chkS H
        refine W_make (r := (rInt .i64)) S (0 : Int) Try.underlying23 ty3 rfl (by decide) (fun _ => rfl) rfl rfl p2018 p2019 p2020 p2021 rfl ?_
        intro b2022 w2023 E' S
        replace E := E.trans E'
        clear E'
        refine Wl_nil (on_n ⟨⟨M, Hp.le_refl M, S.pick [3] (by decide)⟩, ?_⟩)
        exact hq1865 _ _ ⟨x1057, (List.replicate (0 : Int).toNat (0 : Int)), A1058, c1059, (some ⟨b2022, 0, none⟩), ((IntKind.i64.wrap ((a0.Kids.length : Int) + (3 : Int))).toNat), H, ⟨rfl, rfl, rfl, rfl, rfl, rfl, rfl, rfl, trivial⟩, E, S.pick [0, 1, 2, 3] (by decide)⟩
      · refine ⟨_, rfl, ?_⟩
        replace H : (if 0 ≤ (0 : Int) ∧ (0 : Int) ≤ (IntKind.i64.wrap ((a0.Rows.length : Int) + (3 : Int))) ∧ (IntKind.i64.wrap ((a0.Rows.length : Int) + (3 : Int))) * 8 ≤ 140737488355328 ∧ (IntKind.i64.wrap ((a0.Rows.length : Int) + (3 : Int))) ≤ 9223372036854775807 then (if x1057.length + a0.Keys.length ≤ 8796093022208 then (if 0 ≤ (0 : Int) ∧ (0 : Int) ≤ (IntKind.i64.wrap ((a0.Kids.length : Int) + (3 : Int))) ∧ (IntKind.i64.wrap ((a0.Kids.length : Int) + (3 : Int))) * 8 ≤ 140737488355328 ∧ (IntKind.i64.wrap ((a0.Kids.length : Int) + (3 : Int))) ≤ 9223372036854775807 then (if (List.replicate (0 : Int).toNat (0 : Int)).length + a0.Kids.length ≤ 17592186044416 then some ((x1057 ++ a0.Keys), ((List.replicate (0 : Int).toNat (0 : Int)) ++ a0.Kids), (List.replicate (0 : Int).toNat (0 : Int))) else none) else none) else none) else none) = some o1859 := by first | exact H | ((repeat' split at H) <;> (try contradiction) <;> (repeat' split) <;> first | exact H | contradiction)
        obtain ⟨⟨p2025, p2026, p2027, p2028⟩, H⟩ := chkS H
        refine W_make (r := (rInt .u64)) S (0 : Int) Try.underlying24 ty41 rfl (by decide) (fun _ => rfl) rfl rfl p2025 p2026 p2027 p2028 rfl ?_
        intro b2029 w2030 E' S
        replace E := E.trans E'
        clear E'
        refine Wl_nil (on_n ⟨⟨M, Hp.le_refl M, S.pick [3] (by decide)⟩, ?_⟩)
        exact hq1866 _ _ ⟨x1057, (List.replicate (0 : Int).toNat (0 : Int)), A1058, c1059, (some ⟨b2029, 0, none⟩), ((IntKind.i64.wrap ((a0.Rows.length : Int) + (3 : Int))).toNat), H, ⟨rfl, rfl, rfl, rfl, rfl, rfl, rfl, rfl, trivial⟩, E, S.pick [0, 1, 2, 3] (by decide)⟩
    intro hq1861
    have H := o1859h
    refine Wa_oneOf (rs := [6, 14, 22]) (by kernel_rfl) (by decide) ?_
    simp only [List.forall_mem_cons, List.not_mem_nil, false_implies, implies_true, and_true]
    refine ⟨?_, ?_, ?_⟩
    · refine ⟨_, rfl, ?_⟩
      obtain ⟨⟨p2032, p2033, p2034, p2035⟩, H⟩ := chkS H
      refine W_make (r := rStr) S ([] : Str) Try.underlying22 ty9 rfl (by decide) (fun _ => rfl) rfl rfl p2032 p2033 p2034 p2035 rfl ?_
      intro b2036 w2037 E' S
      replace E := E.trans E'
      clear E'
      refine Wl_nil (on_n ⟨⟨M, Hp.le_refl M, S.pick [2] (by decide)⟩, ?_⟩)
      exact hq1861 _ _ ⟨(List.replicate (0 : Int).toNat ([] : Str)), (some ⟨b2036, 0, none⟩), ((IntKind.i64.wrap ((a0.Keys.length : Int) + (3 : Int))).toNat), H, ⟨rfl, rfl, rfl, rfl, rfl, rfl, rfl, rfl, trivial⟩, E, S.pick [0, 1, 2] (by decide)⟩
    · refine ⟨_, rfl, ?_⟩
      replace H : (if 0 ≤ (0 : Int) ∧ (0 : Int) ≤ (IntKind.i64.wrap ((a0.Kids.length : Int) + (3 : Int))) ∧ (IntKind.i64.wrap ((a0.Kids.length : Int) + (3 : Int))) * 8 ≤ 140737488355328 ∧ (IntKind.i64.wrap ((a0.Kids.length : Int) + (3 : Int))) ≤ 9223372036854775807 then (if 0 ≤ (0 : Int) ∧ (0 : Int) ≤ (IntKind.i64.wrap ((a0.Keys.length : Int) + (3 : Int))) ∧ (IntKind.i64.wrap ((a0.Keys.length : Int) + (3 : Int))) * 16 ≤ 140737488355328 ∧ (IntKind.i64.wrap ((a0.Keys.length : Int) + (3 : Int))) ≤ 9223372036854775807 then (if (List.replicate (0 : Int).toNat ([] : Str)).length + a0.Keys.length ≤ 8796093022208 then (if (List.replicate (0 : Int).toNat (0 : Int)).length + a0.Kids.length ≤ 17592186044416 then (if 0 ≤ (0 : Int) ∧ (0 : Int) ≤ (IntKind.i64.wrap ((a0.Rows.length : Int) + (3 : Int))) ∧ (IntKind.i64.wrap ((a0.Rows.length : Int) + (3 : Int))) * 8 ≤ 140737488355328 ∧ (IntKind.i64.wrap ((a0.Rows.length : Int) + (3 : Int))) ≤ 9223372036854775807 then some (((List.replicate (0 : Int).toNat ([] : Str)) ++ a0.Keys), ((List.replicate (0 : Int).toNat (0 : Int)) ++ a0.Kids), (List.replicate (0 : Int).toNat (0 : Int))) else none) else none) else none) else none) else none) = some o1859 := by first | exact H | ((repeat' split at H) <;> (try contradiction) <;> (repeat' split) <;> first | exact H | contradiction)
      obtain ⟨⟨p2039, p2040, p2041, p2042⟩, H⟩ := chkS H
      refine W_make (r := (rInt .i64)) S (0 : Int) Try.underlying23 ty3 rfl (by decide) (fun _ => rfl) rfl rfl p2039 p2040 p2041 p2042 rfl ?_
      intro b2043 w2044 E' S
      replace E := E.trans E'
      clear E'
      refine Wl_nil (on_n ⟨⟨M, Hp.le_refl M, S.pick [2] (by decide)⟩, ?_⟩)
      exact hq1862 _ _ ⟨(List.replicate (0 : Int).toNat (0 : Int)), (some ⟨b2043, 0, none⟩), ((IntKind.i64.wrap ((a0.Kids.length : Int) + (3 : Int))).toNat), H, ⟨rfl, rfl, rfl, rfl, rfl, rfl, rfl, rfl, trivial⟩, E, S.pick [0, 1, 2] (by decide)⟩
    · refine ⟨_, rfl, ?_⟩
      replace H : (if 0 ≤ (0 : Int) ∧ (0 : Int) ≤ (IntKind.i64.wrap ((a0.Rows.length : Int) + (3 : Int))) ∧ (IntKind.i64.wrap ((a0.Rows.length : Int) + (3 : Int))) * 8 ≤ 140737488355328 ∧ (IntKind.i64.wrap ((a0.Rows.length : Int) + (3 : Int))) ≤ 9223372036854775807 then (if 0 ≤ (0 : Int) ∧ (0 : Int) ≤ (IntKind.i64.wrap ((a0.Keys.length : Int) + (3 : Int))) ∧ (IntKind.i64.wrap ((a0.Keys.length : Int) + (3 : Int))) * 16 ≤ 140737488355328 ∧ (IntKind.i64.wrap ((a0.Keys.length : Int) + (3 : Int))) ≤ 9223372036854775807 then (if (List.replicate (0 : Int).toNat ([] : Str)).length + a0.Keys.length ≤ 8796093022208 then (if 0 ≤ (0 : Int) ∧ (0 : Int) ≤ (IntKind.i64.wrap ((a0.Kids.length : Int) + (3 : Int))) ∧ (IntKind.i64.wrap ((a0.Kids.length : Int) + (3 : Int))) * 8 ≤ 140737488355328 ∧ (IntKind.i64.wrap ((a0.Kids.length : Int) + (3 : Int))) ≤ 9223372036854775807 then (if (List.replicate (0 : Int).toNat (0 : Int)).length + a0.Kids.length ≤ 17592186044416 then some (((List.replicate (0 : Int).toNat ([] : Str)) ++ a0.Keys), ((List.replicate (0 : Int).toNat (0 : Int)) ++ a0.Kids), (List.replicate (0 : Int).toNat (0 : Int))) else none) else none) else none) else none) else none) = some o1859 := by first | exact H | ((repeat' split at H) <;> (try contradiction) <;> (repeat' split) <;> first | exact H | contradiction)
      obtain ⟨⟨p2046, p2047, p2048, p2049⟩, H⟩ := chkS H
      refine W_make (r := (rInt .u64)) S (0 : Int) Try.underlying24 ty41 rfl (by decide) (fun _ => rfl) rfl rfl p2046 p2047 p2048 p2049 rfl ?_
      intro b2050 w2051 E' S
      replace E := E.trans E'
      clear E'
      refine Wl_nil (on_n ⟨⟨M, Hp.le_refl M, S.pick [2] (by decide)⟩, ?_⟩)
      exact hq1863 _ _ ⟨(List.replicate (0 : Int).toNat (0 : Int)), (some ⟨b2050, 0, none⟩), ((IntKind.i64.wrap ((a0.Rows.length : Int) + (3 : Int))).toNat), H, ⟨rfl, rfl, rfl, rfl, rfl, rfl, rfl, rfl, trivial⟩, E, S.pick [0, 1, 2] (by decide)⟩
  clear o1859h
  rintro ρ w2053 ⟨x1291, x1295, x1299, A1292, c1293, A1296, c1297, A1300, c1301, rfl, hρ, E, S⟩
  rw [agree_eta hρ]
  clear hρ
  have H := o1859H
  clear o1859H
  refine Wa_solo (i := 25) rfl (by kernel_rfl) ?_
  obtain ⟨p2054, H⟩ := chkS H
  obtain ⟨src2055, hs2056, hC2057⟩ := src_of_read (P := Try.prog) (ρ := (rInt .u64)) (l := a0.Rows) (SlR.world hr0_2 S) (by decide)
  refine W_append S 0 rfl rfl rfl Try.underlying24 (.inl Try.underlying24) ty41 rfl (by decide) (by decide) hs2056 hC2057 rfl (by omega) rfl ?_
  intro v2058 w2059 E' S
  replace E := E.trans E'
  clear E'
  obtain ⟨A2060, c2061, rfl, _⟩ := (S.row_read 0 rfl).form
  refine Wl_nil (on_n ⟨⟨M, Hp.le_refl M, S.pick [4] (by decide)⟩, ?_⟩)
  refine Wa_take (i := 26) rfl (by kernel_rfl) rfl rfl (.agg #[.bool a0.Leaf, .slice A1292 x1291.length c1293, .slice A1296 x1295.length c1297, .slice A2060 (x1299 ++ a0.Rows).length c2061]) rfl (fun w' h' => x_build2 (pl := [(0, 1), (1, 1), (2, 1), (3, 1)]) #[.bool a0.Leaf, .slice A1292 x1291.length c1293, .slice A1296 x1295.length c1297, .slice A2060 (x1299 ++ a0.Rows).length c2061] Try.underlying26 ty26 (by kernel_rfl) rfl (by kernel_rfl)) (⟨M, Hp.le_refl M, S.pick [4] (by decide)⟩) ?_
  refine Wa_solo (i := 27) rfl (by kernel_rfl) ?_
  refine W_store S 3 rfl ty26 rfl rfl [.bool a0.Leaf, .slice A1292 x1291.length c1293, .slice A1296 x1295.length c1297, .slice A2060 (x1299 ++ a0.Rows).length c2061] rfl rfl rfl #[.bool a0.Leaf, .slice A1292 x1291.length c1293, .slice A1296 x1295.length c1297, .slice A2060 (x1299 ++ a0.Rows).length c2061] rfl rfl ?_
  intro w2062 E' S
  replace E := E.trans E'
  clear E'
  refine Wl_nil (on_n ⟨⟨M, Hp.le_refl M, S.pick [4] (by decide)⟩, ?_⟩)
  refine Wa_done (by kernel_rfl) ?_
  refine tn ?_
  refine Wp_ret ?_
  obtain rfl := Option.some.inj H
  exact ⟨_, _, _, fun w1 e1 => run_resR (vs := [.agg #[.bool a0.Leaf, .slice A1292 x1291.length c1293, .slice A1296 x1295.length c1297, .slice A2060 (x1299 ++ a0.Rows).length c2061]]) (FA.cons (⟨_, rfl, run_loadVar_agg ty26 ((S.of_eq e1).blk 3 rfl) (sub_of_extract rfl) rfl (by decide)⟩) (FA.nil)), HM, E, S.pick [2, 1, 0] (by decide), ⟨A1292, c1293, A1296, c1297, A2060, c2061, rfl, rfl⟩⟩
/-! ### ferryman/ferrymanref13.May: function 26 -/
def ferrymanref13_May_l0 (a0 : ferrymanref13_Node) : Nat → Int → Option ((Bool) ⊕ (Unit))
  | 0, _ => none
  | k + 1, x94 => (if (decide (x94 < (a0.Keys.length : Int))) = true then (if 0 ≤ x94 ∧ x94 < (a0.Keys.length : Int) then (if 0 ≤ (IntKind.i64.wrap (x94 - (1 : Int))) ∧ (IntKind.i64.wrap (x94 - (1 : Int))) < (a0.Keys.length : Int) then (if (sbin .leq (rd a0.Keys x94) (rd a0.Keys (IntKind.i64.wrap (x94 - (1 : Int))))) = true then some (.inl false) else ferrymanref13_May_l0 a0 k (IntKind.i64.wrap (x94 + (1 : Int)))) else none) else none) else some (.inr ()))
set_option maxHeartbeats 2000000 in
theorem ferrymanref13_May_l0.mono {a0 : ferrymanref13_Node} : ∀ {k : Nat} {x0}, OLe (ferrymanref13_May_l0 a0 k x0) (ferrymanref13_May_l0 a0 (k + 1) x0) := by
  intro k
  induction k with
  | zero => intros; exact OLe.none
  | succ k ih =>
    intros
    rw [ferrymanref13_May_l0.eq_2, ferrymanref13_May_l0.eq_2]
    repeat' (first | with_reducible exact OLe.none | with_reducible exact OLe.some | with_reducible refine OLe.ite ?_ ?_ | with_reducible refine OLe.bind ?_ (fun _ => ?_) | exact ih | refine OLe.bind ?_ (fun _ => ?_) | refine OLe.ite ?_ ?_ | refine OLe.elim (fun _ => ?_) (fun _ => ?_) | split)
def ferrymanref13_May (k : Nat) (a0 : ferrymanref13_Node) : Option (Bool) :=
  (Option.bind (ferrymanref13_May_l0 a0 k (1 : Int)) (fun o139o => Sum.elim (fun r' => some r') (fun _ => (if a0.Leaf = true then some (((a0.Rows.length : Int) == (a0.Keys.length : Int)) && ((a0.Kids.length : Int) == (0 : Int))) else some (((a0.Kids.length : Int) == (IntKind.i64.wrap ((a0.Keys.length : Int) + (1 : Int)))) && ((a0.Rows.length : Int) == (0 : Int))))) o139o))
set_option maxHeartbeats 2000000 in
theorem ferrymanref13_May.mono {k : Nat} {a0 : ferrymanref13_Node} : OLe (ferrymanref13_May k a0) (ferrymanref13_May (k + 1) a0) := by
  unfold ferrymanref13_May
  repeat' (first | with_reducible exact OLe.none | with_reducible exact OLe.some | with_reducible refine OLe.ite ?_ ?_ | with_reducible refine OLe.bind ?_ (fun _ => ?_) | with_reducible exact ferrymanref13_May_l0.mono | refine OLe.bind ?_ (fun _ => ?_) | refine OLe.ite ?_ ?_ | refine OLe.elim (fun _ => ?_) (fun _ => ?_) | split)
set_option maxHeartbeats 1000000 in
set_option maxRecDepth 100000 in
theorem ferrymanref13_May.con (k : Nat) (M : Hp) (A0_0 : Option Addr) (c0_0 : Nat) (A0_1 : Option Addr) (c0_1 : Nat) (A0_2 : Option Addr) (c0_2 : Nat) (a0 : ferrymanref13_Node) (r : Bool) (hr0_0 : SlR rStr M (.slice A0_0 a0.Keys.length c0_0) a0.Keys) (hr0_1 : SlR (rInt .i64) M (.slice A0_1 a0.Kids.length c0_1) a0.Kids) (hr0_2 : SlR (rInt .u64) M (.slice A0_2 a0.Rows.length c0_2) a0.Rows) (h : ferrymanref13_May k a0 = some r) : Con Try.prog 26 #[.agg #[.bool a0.Leaf, .slice A0_0 a0.Keys.length c0_0, .slice A0_1 a0.Kids.length c0_1, .slice A0_2 a0.Rows.length c0_2]] M [] (fun v M' Γ' => v = .bool r ∧ Γ' = []) := by
  refine con_of_wp Try.func26 rfl Try.ntmps26 Try.results26 rfl ?_
  intro w F rn S hrn
  have E := Ext.refl w
  have HM := Hp.le_refl M
  have H := h
  unfold ferrymanref13_May at H
  refine Wp_seq ?_
  refine Wp_region_lit ?_
  refine W_box S #[.bool a0.Leaf, .slice A0_0 a0.Keys.length c0_0, .slice A0_1 a0.Kids.length c0_1, .slice A0_2 a0.Rows.length c0_2] rfl rfl rfl ?_
  intro b1 w2 E' S
  replace E := E.trans E'
  clear E'
  refine W_v (.bool false) (x_assign rfl) rfl ?_
  refine Wl_nil ?_
  refine tn ?_
  refine Wp_seq ?_
  refine Wp_seq ?_
  refine Wp_region_lit ?_
  refine W_v (.int .i64 1) (x_assign rfl) rfl ?_
  refine Wl_nil ?_
  refine tn ?_
  obtain ⟨o139, o139h, o139H⟩ := bindS H
  clear H
  refine Wp_blockJ (fun ρ w' => .inr () = o139 ∧ Agree ρ [(1, .pointer (some ⟨b1, 0, none⟩))] ∧ Ext w w' ∧ St w' M F [Blk b1 (.cells #[.bool a0.Leaf, .slice A0_0 a0.Keys.length c0_0, .slice A0_1 a0.Kids.length c0_1, .slice A0_2 a0.Rows.length c0_2] 39 (0, 0))]) ?_ ?_
  · skip
    refine Wp_loop (fun n ρ w' => ∃ (x94 : Int), ferrymanref13_May_l0 a0 n x94 = some o139 ∧ Agree ρ [(1, .pointer (some ⟨b1, 0, none⟩)), (3, .int .i64 x94)] ∧ Ext w w' ∧ St w' M F [Blk b1 (.cells #[.bool a0.Leaf, .slice A0_0 a0.Keys.length c0_0, .slice A0_1 a0.Kids.length c0_1, .slice A0_2 a0.Rows.length c0_2] 39 (0, 0))]) k ?_ ?_
    · skip
      exact ⟨(1 : Int), o139h, ⟨rfl, rfl, trivial⟩, E, S.pick [0] (by decide)⟩
    · intro n
      rintro ρ w140 ⟨x94, H, hρ, E, S⟩
      rw [agree_eta hρ]
      clear hρ
      cases n with
      | zero => cases H
      | succ k =>
        rw [ferrymanref13_May_l0.eq_2] at H
        refine Wp_seq ?_
        refine Wp_seq ?_
        refine Wp_region_lit ?_
        refine W_v (.int .i64 x94) (x_move rfl) rfl ?_
        refine W_v (.pointer (some ⟨b1, 1, none⟩)) (x_fieldAddr (o := 0) (off := 1) Try.underlying39 rfl ty22 rfl rfl) rfl ?_
        refine W_v (.slice A0_0 a0.Keys.length c0_0) (x_load (S.blk 0 rfl) ty22 rfl rfl) rfl ?_
        refine W_v (.int .i64 (a0.Keys.length : Int)) (x_len_slice (n := a0.Keys.length) Try.underlying22 rfl) rfl ?_
        refine W_v (.bool (decide (x94 < (a0.Keys.length : Int)))) (x_ibin rfl rfl rfl rfl) rfl ?_
        refine Wl_nil ?_
        refine tn ?_
        rcases iteS H with ⟨hb141, H⟩ | ⟨hb141, H⟩
        · refine Wp_cond_true (congrArg Value.bool hb141) ?_
          refine Wp_skip ?_
          refine tn ?_
          refine Wp_seq ?_
          refine Wp_block ?_
          refine Wp_seq ?_
          refine Wp_region_any (S := fun w' => ∃ Mx, M.le Mx ∧ St w' Mx F [Blk b1 (.cells #[.bool a0.Leaf, .slice A0_0 a0.Keys.length c0_0, .slice A0_1 a0.Kids.length c0_1, .slice A0_2 a0.Rows.length c0_2] 39 (0, 0))]) mixed ?_
          intro w162 hw163 E'
          replace S := S.heap hw163
          replace E := E.trans E'
          clear E'
          refine Wa_take (i := 0) rfl (by kernel_rfl) rfl rfl (.pointer (some ⟨b1, 1, none⟩)) rfl (fun w' h' => x_fieldAddr (o := 0) (off := 1) Try.underlying39 rfl ty22 rfl rfl) (⟨M, Hp.le_refl M, S.pick [0] (by decide)⟩) ?_
          refine Wa_take (i := 1) rfl (by kernel_rfl) rfl rfl (.slice A0_0 a0.Keys.length c0_0) rfl (fun w' h' => x_load (cls_blk h' 0 rfl) ty22 rfl rfl) (⟨M, Hp.le_refl M, S.pick [0] (by decide)⟩) ?_
          refine Wa_take (i := 2) rfl (by kernel_rfl) rfl rfl (.int .i64 x94) rfl (fun w' h' => x_move rfl) (⟨M, Hp.le_refl M, S.pick [0] (by decide)⟩) ?_
          obtain ⟨⟨p164, p165⟩, H⟩ := chkS H
          obtain ⟨b166, o167, cs168, _, _, ee173, hb169, vs170, hR171, hc172⟩ := SlW.at' hr0_0 p164 p165
          obtain rfl : vs170 = _ := hR171
          refine Wa_take (i := 3) rfl (by kernel_rfl) rfl rfl (.pointer (some ⟨b166, o167 + x94.toNat * 1, none⟩)) rfl (fun w' h' => x_indexAddr Try.underlying22 ty9 (slA ee173) rfl p164 p165) (⟨M, Hp.le_refl M, S.pick [0] (by decide)⟩) ?_
          refine Wa_take (i := 4) rfl (by kernel_rfl) rfl rfl (.string (bs (rd a0.Keys x94))) rfl (fun w' h' => x_load (cls_frz h' hb169) ty9 rfl (hc172 0 _ rfl)) (⟨M, Hp.le_refl M, S.pick [0] (by decide)⟩) ?_
          refine Wa_take (i := 5) rfl (by kernel_rfl) rfl rfl (.pointer (some ⟨b1, 1, none⟩)) rfl (fun w' h' => x_fieldAddr (o := 0) (off := 1) Try.underlying39 rfl ty22 rfl rfl) (⟨M, Hp.le_refl M, S.pick [0] (by decide)⟩) ?_
          refine Wa_take (i := 6) rfl (by kernel_rfl) rfl rfl (.slice A0_0 a0.Keys.length c0_0) rfl (fun w' h' => x_load (cls_blk h' 0 rfl) ty22 rfl rfl) (⟨M, Hp.le_refl M, S.pick [0] (by decide)⟩) ?_
          refine Wa_take (i := 7) rfl (by kernel_rfl) rfl rfl (.int .i64 x94) rfl (fun w' h' => x_move rfl) (⟨M, Hp.le_refl M, S.pick [0] (by decide)⟩) ?_
          refine Wa_take (i := 8) rfl (by kernel_rfl) rfl rfl (.int .i64 (IntKind.i64.wrap (x94 - (1 : Int)))) rfl (fun w' h' => x_ibin rfl rfl rfl rfl) (⟨M, Hp.le_refl M, S.pick [0] (by decide)⟩) ?_
          obtain ⟨⟨p174, p175⟩, H⟩ := chkS H
          obtain ⟨b176, o177, cs178, _, _, ee183, hb179, vs180, hR181, hc182⟩ := SlW.at' hr0_0 p174 p175
          obtain rfl : vs180 = _ := hR181
          refine Wa_take (i := 9) rfl (by kernel_rfl) rfl rfl (.pointer (some ⟨b176, o177 + (IntKind.i64.wrap (x94 - (1 : Int))).toNat * 1, none⟩)) rfl (fun w' h' => x_indexAddr Try.underlying22 ty9 (slA ee183) rfl p174 p175) (⟨M, Hp.le_refl M, S.pick [0] (by decide)⟩) ?_
          refine Wa_take (i := 10) rfl (by kernel_rfl) rfl rfl (.string (bs (rd a0.Keys (IntKind.i64.wrap (x94 - (1 : Int)))))) rfl (fun w' h' => x_load (cls_frz h' hb179) ty9 rfl (hc182 0 _ rfl)) (⟨M, Hp.le_refl M, S.pick [0] (by decide)⟩) ?_
          refine Wa_take (i := 11) rfl (by kernel_rfl) rfl rfl (.bool (sbin .leq (rd a0.Keys x94) (rd a0.Keys (IntKind.i64.wrap (x94 - (1 : Int)))))) rfl (fun w' h' => x_sbin rfl rfl rfl) (⟨M, Hp.le_refl M, S.pick [0] (by decide)⟩) ?_
          refine Wa_done (by kernel_rfl) ?_
          refine tn ?_
          rcases iteS H with ⟨hb184, H⟩ | ⟨hb184, H⟩
          · refine Wp_cond_true (congrArg Value.bool hb184) ?_
            refine Wp_seq ?_
            refine Wp_region_lit ?_
            refine W_v (.bool false) (x_assign rfl) rfl ?_
            refine Wl_nil ?_
            refine tn ?_
            refine Wp_ret ?_
            refine br (tr (tr (br (tr (tr (?_))))))
            obtain rfl := Option.some.inj H
            have H := o139H
            replace H := elimL H
            obtain rfl := Option.some.inj H
            exact ⟨_, _, _, fun w1 e1 => run_resR (vs := [.bool false]) (FA.cons (rfl) (FA.nil)), HM, E, S.pick [] (by decide), ⟨rfl, rfl⟩⟩
          refine Wp_cond_false (congrArg Value.bool hb184) ?_
          refine Wp_skip ?_
          refine bn ?_
          refine tn ?_
          refine Wp_region_lit ?_
          refine W_v (.int .i64 x94) (x_move rfl) rfl ?_
          refine W_v (.int .i64 (IntKind.i64.wrap (x94 + (1 : Int)))) (x_ibin rfl rfl rfl rfl) rfl ?_
          refine W_v (.int .i64 (IntKind.i64.wrap (x94 + (1 : Int)))) (x_assign rfl) rfl ?_
          refine Wl_nil ?_
          refine tn ?_
          exact ⟨k, Nat.lt_succ_self k, ⟨(IntKind.i64.wrap (x94 + (1 : Int))), H, ⟨rfl, rfl, trivial⟩, E, S.pick [0] (by decide)⟩⟩
        refine Wp_cond_false (congrArg Value.bool hb141) ?_
        refine Wp_exit ?_
        refine tx (tx (bsm (?_)))
        refine tn ?_
        exact ⟨Option.some.inj H, ⟨rfl, trivial⟩, E, S.pick [0] (by decide)⟩
  clear o139h
  rintro ρ w185 ⟨rfl, hρ, E, S⟩
  rw [agree_eta hρ]
  clear hρ
  have H := o139H
  clear o139H
  replace H := elimR H
  refine tn ?_
  refine Wp_seq ?_
  refine Wp_seq ?_
  refine Wp_region_lit ?_
  refine W_v (.pointer (some ⟨b1, 0, none⟩)) (x_fieldAddr (o := 0) (off := 0) Try.underlying39 rfl ty4 rfl rfl) rfl ?_
  refine W_v (.bool a0.Leaf) (x_load (S.blk 0 rfl) ty4 rfl rfl) rfl ?_
  refine Wl_nil ?_
  refine tn ?_
  rcases iteS H with ⟨hb186, H⟩ | ⟨hb186, H⟩
  · refine Wp_cond_true (congrArg Value.bool hb186) ?_
    refine Wp_seq ?_
    refine Wp_region_lit ?_
    refine W_v (.pointer (some ⟨b1, 3, none⟩)) (x_fieldAddr (o := 0) (off := 3) Try.underlying39 rfl ty24 rfl rfl) rfl ?_
    refine W_v (.slice A0_2 a0.Rows.length c0_2) (x_load (S.blk 0 rfl) ty24 rfl rfl) rfl ?_
    refine W_v (.int .i64 (a0.Rows.length : Int)) (x_len_slice (n := a0.Rows.length) Try.underlying24 rfl) rfl ?_
    refine W_v (.pointer (some ⟨b1, 1, none⟩)) (x_fieldAddr (o := 0) (off := 1) Try.underlying39 rfl ty22 rfl rfl) rfl ?_
    refine W_v (.slice A0_0 a0.Keys.length c0_0) (x_load (S.blk 0 rfl) ty22 rfl rfl) rfl ?_
    refine W_v (.int .i64 (a0.Keys.length : Int)) (x_len_slice (n := a0.Keys.length) Try.underlying22 rfl) rfl ?_
    refine W_v (.bool ((a0.Rows.length : Int) == (a0.Keys.length : Int))) (x_ibin rfl rfl rfl rfl) rfl ?_
    refine W_v (.bool ((a0.Rows.length : Int) == (a0.Keys.length : Int))) (x_move rfl) rfl ?_
    refine Wl_cutN 5 (fun ρ w' => Agree ρ [(37, .bool (((a0.Rows.length : Int) == (a0.Keys.length : Int)) && ((a0.Kids.length : Int) == (0 : Int))))] ∧ w185 = w') ?_ ?_
    · rcases boolCases ((a0.Rows.length : Int) == (a0.Keys.length : Int)) with hb187 | hb187
      · skip
        refine W_no (skT hb187) rfl ?_
        refine W_no (skT hb187) rfl ?_
        refine W_no (skT hb187) rfl ?_
        refine W_no (skT hb187) rfl ?_
        refine W_v (.bool false) (x_pick (k := false) (congrArg Value.bool hb187) rfl) rfl ?_
        refine Wl_nil ?_
        exact ⟨⟨(by first | rfl | (rw [hb187]; rfl) | (simp only [hb187]; rfl)), trivial⟩, rfl⟩
      · skip
        refine W_yes (congrArg some hb187) ?_
        refine W_v (.pointer (some ⟨b1, 2, none⟩)) (x_fieldAddr (o := 0) (off := 2) Try.underlying39 rfl ty23 rfl rfl) rfl ?_
        refine W_yes (congrArg some hb187) ?_
        refine W_v (.slice A0_1 a0.Kids.length c0_1) (x_load (S.blk 0 rfl) ty23 rfl rfl) rfl ?_
        refine W_yes (congrArg some hb187) ?_
        refine W_v (.int .i64 (a0.Kids.length : Int)) (x_len_slice (n := a0.Kids.length) Try.underlying23 rfl) rfl ?_
        refine W_yes (congrArg some hb187) ?_
        refine W_v (.bool ((a0.Kids.length : Int) == (0 : Int))) (x_ibin rfl rfl rfl rfl) rfl ?_
        refine W_v (.bool ((a0.Kids.length : Int) == (0 : Int))) (x_pick (k := true) (congrArg Value.bool hb187) rfl) rfl ?_
        refine Wl_nil ?_
        exact ⟨⟨(by first | rfl | (rw [hb187]; rfl) | (simp only [hb187]; rfl)), trivial⟩, rfl⟩
    rintro ρ _ ⟨hρ, rfl⟩
    rw [agree_eta hρ]
    clear hρ
    refine W_v (.bool (((a0.Rows.length : Int) == (a0.Keys.length : Int)) && ((a0.Kids.length : Int) == (0 : Int)))) (x_assign rfl) rfl ?_
    refine Wl_nil ?_
    refine tn ?_
    refine Wp_ret ?_
    refine tr (?_)
    obtain rfl := Option.some.inj H
    exact ⟨_, _, _, fun w1 e1 => run_resR (vs := [.bool (((a0.Rows.length : Int) == (a0.Keys.length : Int)) && ((a0.Kids.length : Int) == (0 : Int)))]) (FA.cons (rfl) (FA.nil)), HM, E, S.pick [] (by decide), ⟨rfl, rfl⟩⟩
  refine Wp_cond_false (congrArg Value.bool hb186) ?_
  refine Wp_skip ?_
  refine tn ?_
  refine Wp_seq ?_
  refine Wp_region_lit ?_
  refine W_v (.pointer (some ⟨b1, 2, none⟩)) (x_fieldAddr (o := 0) (off := 2) Try.underlying39 rfl ty23 rfl rfl) rfl ?_
  refine W_v (.slice A0_1 a0.Kids.length c0_1) (x_load (S.blk 0 rfl) ty23 rfl rfl) rfl ?_
  refine W_v (.int .i64 (a0.Kids.length : Int)) (x_len_slice (n := a0.Kids.length) Try.underlying23 rfl) rfl ?_
  refine W_v (.pointer (some ⟨b1, 1, none⟩)) (x_fieldAddr (o := 0) (off := 1) Try.underlying39 rfl ty22 rfl rfl) rfl ?_
  refine W_v (.slice A0_0 a0.Keys.length c0_0) (x_load (S.blk 0 rfl) ty22 rfl rfl) rfl ?_
  refine W_v (.int .i64 (a0.Keys.length : Int)) (x_len_slice (n := a0.Keys.length) Try.underlying22 rfl) rfl ?_
  refine W_v (.int .i64 (IntKind.i64.wrap ((a0.Keys.length : Int) + (1 : Int)))) (x_ibin rfl rfl rfl rfl) rfl ?_
  refine W_v (.bool ((a0.Kids.length : Int) == (IntKind.i64.wrap ((a0.Keys.length : Int) + (1 : Int))))) (x_ibin rfl rfl rfl rfl) rfl ?_
  refine W_v (.bool ((a0.Kids.length : Int) == (IntKind.i64.wrap ((a0.Keys.length : Int) + (1 : Int))))) (x_move rfl) rfl ?_
  refine Wl_cutN 5 (fun ρ w' => Agree ρ [(51, .bool (((a0.Kids.length : Int) == (IntKind.i64.wrap ((a0.Keys.length : Int) + (1 : Int)))) && ((a0.Rows.length : Int) == (0 : Int))))] ∧ w185 = w') ?_ ?_
  · rcases boolCases ((a0.Kids.length : Int) == (IntKind.i64.wrap ((a0.Keys.length : Int) + (1 : Int)))) with hb188 | hb188
    · skip
      refine W_no (skT hb188) rfl ?_
      refine W_no (skT hb188) rfl ?_
      refine W_no (skT hb188) rfl ?_
      refine W_no (skT hb188) rfl ?_
      refine W_v (.bool false) (x_pick (k := false) (congrArg Value.bool hb188) rfl) rfl ?_
      refine Wl_nil ?_
      exact ⟨⟨(by first | rfl | (rw [hb188]; rfl) | (simp only [hb188]; rfl)), trivial⟩, rfl⟩
    · skip
      refine W_yes (congrArg some hb188) ?_
      refine W_v (.pointer (some ⟨b1, 3, none⟩)) (x_fieldAddr (o := 0) (off := 3) Try.underlying39 rfl ty24 rfl rfl) rfl ?_
      refine W_yes (congrArg some hb188) ?_
      refine W_v (.slice A0_2 a0.Rows.length c0_2) (x_load (S.blk 0 rfl) ty24 rfl rfl) rfl ?_
      refine W_yes (congrArg some hb188) ?_
      refine W_v (.int .i64 (a0.Rows.length : Int)) (x_len_slice (n := a0.Rows.length) Try.underlying24 rfl) rfl ?_
      refine W_yes (congrArg some hb188) ?_
      refine W_v (.bool ((a0.Rows.length : Int) == (0 : Int))) (x_ibin rfl rfl rfl rfl) rfl ?_
      refine W_v (.bool ((a0.Rows.length : Int) == (0 : Int))) (x_pick (k := true) (congrArg Value.bool hb188) rfl) rfl ?_
      refine Wl_nil ?_
      exact ⟨⟨(by first | rfl | (rw [hb188]; rfl) | (simp only [hb188]; rfl)), trivial⟩, rfl⟩
  rintro ρ _ ⟨hρ, rfl⟩
  rw [agree_eta hρ]
  clear hρ
  refine W_v (.bool (((a0.Kids.length : Int) == (IntKind.i64.wrap ((a0.Keys.length : Int) + (1 : Int)))) && ((a0.Rows.length : Int) == (0 : Int)))) (x_assign rfl) rfl ?_
  refine Wl_nil ?_
  refine tn ?_
  refine Wp_ret ?_
  obtain rfl := Option.some.inj H
  exact ⟨_, _, _, fun w1 e1 => run_resR (vs := [.bool (((a0.Kids.length : Int) == (IntKind.i64.wrap ((a0.Keys.length : Int) + (1 : Int)))) && ((a0.Rows.length : Int) == (0 : Int)))]) (FA.cons (rfl) (FA.nil)), HM, E, S.pick [] (by decide), ⟨rfl, rfl⟩⟩
/-! ### ferryman/ferrymanref13.Place: function 24 -/
def ferrymanref13_Place_l0 (a0 : ferrymanref13_Node) (a1 : Str) : Nat → Int → Option ((Int × Bool) ⊕ (Unit))
  | 0, _ => none
  | k + 1, x78 => (if (decide (x78 < (a0.Keys.length : Int))) = true then (if 0 ≤ x78 ∧ x78 < (a0.Keys.length : Int) then (if (sbin .geq (rd a0.Keys x78) a1) = true then (if 0 ≤ x78 ∧ x78 < (a0.Keys.length : Int) then some (.inl (x78, (sbin .eql (rd a0.Keys x78) a1))) else none) else ferrymanref13_Place_l0 a0 a1 k (IntKind.i64.wrap (x78 + (1 : Int)))) else none) else some (.inr ()))
set_option maxHeartbeats 2000000 in
theorem ferrymanref13_Place_l0.mono {a0 : ferrymanref13_Node} {a1 : Str} : ∀ {k : Nat} {x0}, OLe (ferrymanref13_Place_l0 a0 a1 k x0) (ferrymanref13_Place_l0 a0 a1 (k + 1) x0) := by
  intro k
  induction k with
  | zero => intros; exact OLe.none
  | succ k ih =>
    intros
    rw [ferrymanref13_Place_l0.eq_2, ferrymanref13_Place_l0.eq_2]
    repeat' (first | with_reducible exact OLe.none | with_reducible exact OLe.some | with_reducible refine OLe.ite ?_ ?_ | with_reducible refine OLe.bind ?_ (fun _ => ?_) | exact ih | refine OLe.bind ?_ (fun _ => ?_) | refine OLe.ite ?_ ?_ | refine OLe.elim (fun _ => ?_) (fun _ => ?_) | split)
def ferrymanref13_Place (k : Nat) (a0 : ferrymanref13_Node) (a1 : Str) : Option (Int × Bool) :=
  (Option.bind (ferrymanref13_May k a0) (fun t4 => (if (!t4) = true then some ((0 : Int), false) else (Option.bind (ferrymanref13_Place_l0 a0 a1 k (0 : Int)) (fun o113o => Sum.elim (fun r' => some r') (fun _ => some ((a0.Keys.length : Int), false)) o113o)))))
set_option maxHeartbeats 2000000 in
theorem ferrymanref13_Place.mono {k : Nat} {a0 : ferrymanref13_Node} {a1 : Str} : OLe (ferrymanref13_Place k a0 a1) (ferrymanref13_Place (k + 1) a0 a1) := by
  unfold ferrymanref13_Place
  repeat' (first | with_reducible exact OLe.none | with_reducible exact OLe.some | with_reducible refine OLe.ite ?_ ?_ | with_reducible refine OLe.bind ?_ (fun _ => ?_) | with_reducible exact ferrymanref13_May.mono | with_reducible exact ferrymanref13_Place_l0.mono | refine OLe.bind ?_ (fun _ => ?_) | refine OLe.ite ?_ ?_ | refine OLe.elim (fun _ => ?_) (fun _ => ?_) | split)
set_option maxHeartbeats 1000000 in
set_option maxRecDepth 100000 in
theorem ferrymanref13_Place.con (k : Nat) (M : Hp) (A0_0 : Option Addr) (c0_0 : Nat) (A0_1 : Option Addr) (c0_1 : Nat) (A0_2 : Option Addr) (c0_2 : Nat) (a0 : ferrymanref13_Node) (a1 : Str) (r : Int × Bool) (hr0_0 : SlR rStr M (.slice A0_0 a0.Keys.length c0_0) a0.Keys) (hr0_1 : SlR (rInt .i64) M (.slice A0_1 a0.Kids.length c0_1) a0.Kids) (hr0_2 : SlR (rInt .u64) M (.slice A0_2 a0.Rows.length c0_2) a0.Rows) (h : ferrymanref13_Place k a0 a1 = some r) : Con Try.prog 24 #[.agg #[.bool a0.Leaf, .slice A0_0 a0.Keys.length c0_0, .slice A0_1 a0.Kids.length c0_1, .slice A0_2 a0.Rows.length c0_2], .string (bs a1)] M [] (fun v M' Γ' => v = .tuple #[.int .i64 r.1, .bool r.2] ∧ Γ' = []) := by
  refine con_of_wp Try.func24 rfl Try.ntmps24 Try.results24 rfl ?_
  intro w F rn S hrn
  have E := Ext.refl w
  have HM := Hp.le_refl M
  have H := h
  unfold ferrymanref13_Place at H
  refine Wp_seq ?_
  refine Wp_region_lit ?_
  refine W_box S #[.bool a0.Leaf, .slice A0_0 a0.Keys.length c0_0, .slice A0_1 a0.Kids.length c0_1, .slice A0_2 a0.Rows.length c0_2] rfl rfl rfl ?_
  intro b1 w2 E' S
  replace E := E.trans E'
  clear E'
  refine W_v (.int .i64 0) (x_assign rfl) rfl ?_
  refine W_v (.bool false) (x_assign rfl) rfl ?_
  refine Wl_nil ?_
  refine tn ?_
  refine Wp_seq ?_
  refine Wp_seq ?_
  refine Wp_region_lit ?_
  refine W_v (.agg #[.bool a0.Leaf, .slice A0_0 a0.Keys.length c0_0, .slice A0_1 a0.Kids.length c0_1, .slice A0_2 a0.Rows.length c0_2]) (x_loadA (S.blk 0 rfl) ty39 rfl (sub_of_extract rfl) rfl rfl) rfl ?_
  obtain ⟨t4, ht5, H⟩ := bindS H
  refine W_callF fn26 (ferrymanref13_May.con k M A0_0 c0_0 A0_1 c0_1 A0_2 c0_2 a0 t4 hr0_0 hr0_1 hr0_2 ht5) S rfl rfl (by rintro _ _ _ ⟨_, rfl⟩; exact flat_nil) ?_
  rintro _ w6 _ Γ' E' S ⟨rfl, rfl⟩
  replace E := E.trans E'
  clear E'
  refine W_v (.bool (!t4)) (x_not rfl) rfl ?_
  refine Wl_nil ?_
  refine tn ?_
  rcases iteS H with ⟨hb7, H⟩ | ⟨hb7, H⟩
  · refine Wp_cond_true (congrArg Value.bool hb7) ?_
    refine Wp_seq ?_
    refine Wp_region_lit ?_
    refine W_v (.int .i64 0) (x_assign rfl) rfl ?_
    refine W_v (.bool false) (x_assign rfl) rfl ?_
    refine Wl_nil ?_
    refine tn ?_
    refine Wp_ret ?_
    refine tr (?_)
    obtain rfl := Option.some.inj H
    exact ⟨_, _, _, fun w1 e1 => run_resR (vs := [.int .i64 0, .bool false]) (FA.cons (rfl) (FA.cons (rfl) (FA.nil))), HM, E, S.pick [] (by decide), ⟨rfl, rfl⟩⟩
  refine Wp_cond_false (congrArg Value.bool hb7) ?_
  refine Wp_skip ?_
  refine tn ?_
  refine Wp_seq ?_
  refine Wp_seq ?_
  refine Wp_region_lit ?_
  refine W_v (.int .i64 0) (x_assign rfl) rfl ?_
  refine Wl_nil ?_
  refine tn ?_
  obtain ⟨o113, o113h, o113H⟩ := bindS H
  clear H
  refine Wp_blockJ (fun ρ w' => .inr () = o113 ∧ Agree ρ [(2, .pointer (some ⟨b1, 0, none⟩))] ∧ Ext w w' ∧ St w' M F [Blk b1 (.cells #[.bool a0.Leaf, .slice A0_0 a0.Keys.length c0_0, .slice A0_1 a0.Kids.length c0_1, .slice A0_2 a0.Rows.length c0_2] 39 (0, 0))]) ?_ ?_
  · skip
    refine Wp_loop (fun n ρ w' => ∃ (x78 : Int), ferrymanref13_Place_l0 a0 a1 n x78 = some o113 ∧ Agree ρ [(1, .string (bs a1)), (2, .pointer (some ⟨b1, 0, none⟩)), (6, .int .i64 x78)] ∧ Ext w w' ∧ St w' M F [Blk b1 (.cells #[.bool a0.Leaf, .slice A0_0 a0.Keys.length c0_0, .slice A0_1 a0.Kids.length c0_1, .slice A0_2 a0.Rows.length c0_2] 39 (0, 0))]) k ?_ ?_
    · skip
      exact ⟨(0 : Int), o113h, ⟨rfl, rfl, rfl, trivial⟩, E, S.pick [0] (by decide)⟩
    · intro n
      rintro ρ w114 ⟨x78, H, hρ, E, S⟩
      rw [agree_eta hρ]
      clear hρ
      cases n with
      | zero => cases H
      | succ k =>
        rw [ferrymanref13_Place_l0.eq_2] at H
        refine Wp_seq ?_
        refine Wp_seq ?_
        refine Wp_region_lit ?_
        refine W_v (.int .i64 x78) (x_move rfl) rfl ?_
        refine W_v (.pointer (some ⟨b1, 1, none⟩)) (x_fieldAddr (o := 0) (off := 1) Try.underlying39 rfl ty22 rfl rfl) rfl ?_
        refine W_v (.slice A0_0 a0.Keys.length c0_0) (x_load (S.blk 0 rfl) ty22 rfl rfl) rfl ?_
        refine W_v (.int .i64 (a0.Keys.length : Int)) (x_len_slice (n := a0.Keys.length) Try.underlying22 rfl) rfl ?_
        refine W_v (.bool (decide (x78 < (a0.Keys.length : Int)))) (x_ibin rfl rfl rfl rfl) rfl ?_
        refine Wl_nil ?_
        refine tn ?_
        rcases iteS H with ⟨hb115, H⟩ | ⟨hb115, H⟩
        · refine Wp_cond_true (congrArg Value.bool hb115) ?_
          refine Wp_skip ?_
          refine tn ?_
          refine Wp_seq ?_
          refine Wp_block ?_
          refine Wp_seq ?_
          refine Wp_region_lit ?_
          refine W_v (.pointer (some ⟨b1, 1, none⟩)) (x_fieldAddr (o := 0) (off := 1) Try.underlying39 rfl ty22 rfl rfl) rfl ?_
          refine W_v (.slice A0_0 a0.Keys.length c0_0) (x_load (S.blk 0 rfl) ty22 rfl rfl) rfl ?_
          refine W_v (.int .i64 x78) (x_move rfl) rfl ?_
          obtain ⟨⟨p116, p117⟩, H⟩ := chkS H
          obtain ⟨b118, o119, cs120, _, _, ee125, hb121, vs122, hR123, hc124⟩ := SlW.at' hr0_0 p116 p117
          obtain rfl : vs122 = _ := hR123
          refine W_v (.pointer (some ⟨b118, o119 + x78.toNat * 1, none⟩)) (x_indexAddr Try.underlying22 ty9 (slA ee125) rfl p116 p117) rfl ?_
          refine W_v (.string (bs (rd a0.Keys x78))) (x_load (S.frz hb121) ty9 rfl (hc124 0 _ rfl)) rfl ?_
          refine W_v (.string (bs a1)) (x_move rfl) rfl ?_
          refine W_v (.bool (sbin .geq (rd a0.Keys x78) a1)) (x_sbin rfl rfl rfl) rfl ?_
          refine Wl_nil ?_
          refine tn ?_
          rcases iteS H with ⟨hb126, H⟩ | ⟨hb126, H⟩
          · refine Wp_cond_true (congrArg Value.bool hb126) ?_
            refine Wp_seq ?_
            refine Wp_region_any (S := fun w' => ∃ Mx, M.le Mx ∧ St w' Mx F [Blk b1 (.cells #[.bool a0.Leaf, .slice A0_0 a0.Keys.length c0_0, .slice A0_1 a0.Kids.length c0_1, .slice A0_2 a0.Rows.length c0_2] 39 (0, 0))]) mixed ?_
            intro w137 hw138 E'
            replace S := S.heap hw138
            replace E := E.trans E'
            clear E'
            refine Wa_take (i := 0) rfl (by kernel_rfl) rfl rfl (.int .i64 x78) rfl (fun w' h' => x_move rfl) (⟨M, Hp.le_refl M, S.pick [0] (by decide)⟩) ?_
            refine Wa_take (i := 1) rfl (by kernel_rfl) rfl rfl (.pointer (some ⟨b1, 1, none⟩)) rfl (fun w' h' => x_fieldAddr (o := 0) (off := 1) Try.underlying39 rfl ty22 rfl rfl) (⟨M, Hp.le_refl M, S.pick [0] (by decide)⟩) ?_
            refine Wa_take (i := 2) rfl (by kernel_rfl) rfl rfl (.slice A0_0 a0.Keys.length c0_0) rfl (fun w' h' => x_load (cls_blk h' 0 rfl) ty22 rfl rfl) (⟨M, Hp.le_refl M, S.pick [0] (by decide)⟩) ?_
            refine Wa_take (i := 3) rfl (by kernel_rfl) rfl rfl (.int .i64 x78) rfl (fun w' h' => x_move rfl) (⟨M, Hp.le_refl M, S.pick [0] (by decide)⟩) ?_
            obtain ⟨⟨p139, p140⟩, H⟩ := chkS H
            obtain ⟨b141, o142, cs143, _, _, ee148, hb144, vs145, hR146, hc147⟩ := SlW.at' hr0_0 p139 p140
            obtain rfl : vs145 = _ := hR146
            refine Wa_take (i := 4) rfl (by kernel_rfl) rfl rfl (.pointer (some ⟨b141, o142 + x78.toNat * 1, none⟩)) rfl (fun w' h' => x_indexAddr Try.underlying22 ty9 (slA ee148) rfl p139 p140) (⟨M, Hp.le_refl M, S.pick [0] (by decide)⟩) ?_
            refine Wa_take (i := 5) rfl (by kernel_rfl) rfl rfl (.string (bs (rd a0.Keys x78))) rfl (fun w' h' => x_load (cls_frz h' hb144) ty9 rfl (hc147 0 _ rfl)) (⟨M, Hp.le_refl M, S.pick [0] (by decide)⟩) ?_
            refine Wa_take (i := 6) rfl (by kernel_rfl) rfl rfl (.string (bs a1)) rfl (fun w' h' => x_move rfl) (⟨M, Hp.le_refl M, S.pick [0] (by decide)⟩) ?_
            refine Wa_take (i := 7) rfl (by kernel_rfl) rfl rfl (.bool (sbin .eql (rd a0.Keys x78) a1)) rfl (fun w' h' => x_sbin rfl rfl rfl) (⟨M, Hp.le_refl M, S.pick [0] (by decide)⟩) ?_
            refine Wa_take (i := 8) rfl (by kernel_rfl) rfl rfl (.int .i64 x78) rfl (fun w' h' => x_assign rfl) (⟨M, Hp.le_refl M, S.pick [0] (by decide)⟩) ?_
            refine Wa_take (i := 9) rfl (by kernel_rfl) rfl rfl (.bool (sbin .eql (rd a0.Keys x78) a1)) rfl (fun w' h' => x_assign rfl) (⟨M, Hp.le_refl M, S.pick [0] (by decide)⟩) ?_
            refine Wa_done (by kernel_rfl) ?_
            refine tn ?_
            refine Wp_ret ?_
            refine br (tr (tr (br (tr (tr (?_))))))
            obtain rfl := Option.some.inj H
            have H := o113H
            replace H := elimL H
            obtain rfl := Option.some.inj H
            exact ⟨_, _, _, fun w1 e1 => run_resR (vs := [.int .i64 x78, .bool (sbin .eql (rd a0.Keys x78) a1)]) (FA.cons (rfl) (FA.cons (rfl) (FA.nil))), HM, E, S.pick [] (by decide), ⟨rfl, rfl⟩⟩
          refine Wp_cond_false (congrArg Value.bool hb126) ?_
          refine Wp_skip ?_
          refine bn ?_
          refine tn ?_
          refine Wp_region_lit ?_
          refine W_v (.int .i64 x78) (x_move rfl) rfl ?_
          refine W_v (.int .i64 (IntKind.i64.wrap (x78 + (1 : Int)))) (x_ibin rfl rfl rfl rfl) rfl ?_
          refine W_v (.int .i64 (IntKind.i64.wrap (x78 + (1 : Int)))) (x_assign rfl) rfl ?_
          refine Wl_nil ?_
          refine tn ?_
          exact ⟨k, Nat.lt_succ_self k, ⟨(IntKind.i64.wrap (x78 + (1 : Int))), H, ⟨rfl, rfl, rfl, trivial⟩, E, S.pick [0] (by decide)⟩⟩
        refine Wp_cond_false (congrArg Value.bool hb115) ?_
        refine Wp_exit ?_
        refine tx (tx (bsm (?_)))
        refine tn ?_
        exact ⟨Option.some.inj H, ⟨rfl, trivial⟩, E, S.pick [0] (by decide)⟩
  clear o113h
  rintro ρ w149 ⟨rfl, hρ, E, S⟩
  rw [agree_eta hρ]
  clear hρ
  have H := o113H
  clear o113H
  replace H := elimR H
  refine tn ?_
  refine Wp_seq ?_
  refine Wp_region_lit ?_
  refine W_v (.pointer (some ⟨b1, 1, none⟩)) (x_fieldAddr (o := 0) (off := 1) Try.underlying39 rfl ty22 rfl rfl) rfl ?_
  refine W_v (.slice A0_0 a0.Keys.length c0_0) (x_load (S.blk 0 rfl) ty22 rfl rfl) rfl ?_
  refine W_v (.int .i64 (a0.Keys.length : Int)) (x_len_slice (n := a0.Keys.length) Try.underlying22 rfl) rfl ?_
  refine W_v (.int .i64 (a0.Keys.length : Int)) (x_assign rfl) rfl ?_
  refine W_v (.bool false) (x_assign rfl) rfl ?_
  refine Wl_nil ?_
  refine tn ?_
  refine Wp_ret ?_
  obtain rfl := Option.some.inj H
  exact ⟨_, _, _, fun w1 e1 => run_resR (vs := [.int .i64 (a0.Keys.length : Int), .bool false]) (FA.cons (rfl) (FA.cons (rfl) (FA.nil))), HM, E, S.pick [] (by decide), ⟨rfl, rfl⟩⟩
/-! ### ferryman/ferrymanref13.Fence: function 25 -/
def ferrymanref13_Fence (k : Nat) (a0 : ferrymanref13_Node) (a1 : Int) : Option (Str × Bool) :=
  (Option.bind (α := Bool) (if a0.Leaf = true then some (true) else (Option.bind (ferrymanref13_May k a0) (fun t13 => some ((!t13))))) (fun x11 => (if ((x11 || (decide (a1 < (0 : Int)))) || (decide (a1 ≥ (a0.Keys.length : Int)))) = true then some (([] : Str), false) else (if 0 ≤ a1 ∧ a1 < (a0.Keys.length : Int) then some ((rd a0.Keys a1), true) else none))))
set_option maxHeartbeats 2000000 in
theorem ferrymanref13_Fence.mono {k : Nat} {a0 : ferrymanref13_Node} {a1 : Int} : OLe (ferrymanref13_Fence k a0 a1) (ferrymanref13_Fence (k + 1) a0 a1) := by
  unfold ferrymanref13_Fence
  repeat' (first | with_reducible exact OLe.none | with_reducible exact OLe.some | with_reducible refine OLe.ite ?_ ?_ | with_reducible refine OLe.bind ?_ (fun _ => ?_) | with_reducible exact ferrymanref13_May.mono | refine OLe.bind ?_ (fun _ => ?_) | refine OLe.ite ?_ ?_ | refine OLe.elim (fun _ => ?_) (fun _ => ?_) | split)
set_option maxHeartbeats 1000000 in
set_option maxRecDepth 100000 in
theorem ferrymanref13_Fence.con (k : Nat) (M : Hp) (A0_0 : Option Addr) (c0_0 : Nat) (A0_1 : Option Addr) (c0_1 : Nat) (A0_2 : Option Addr) (c0_2 : Nat) (a0 : ferrymanref13_Node) (a1 : Int) (r : Str × Bool) (hr0_0 : SlR rStr M (.slice A0_0 a0.Keys.length c0_0) a0.Keys) (hr0_1 : SlR (rInt .i64) M (.slice A0_1 a0.Kids.length c0_1) a0.Kids) (hr0_2 : SlR (rInt .u64) M (.slice A0_2 a0.Rows.length c0_2) a0.Rows) (h : ferrymanref13_Fence k a0 a1 = some r) : Con Try.prog 25 #[.agg #[.bool a0.Leaf, .slice A0_0 a0.Keys.length c0_0, .slice A0_1 a0.Kids.length c0_1, .slice A0_2 a0.Rows.length c0_2], .int .i64 a1] M [] (fun v M' Γ' => v = .tuple #[.string (bs r.1), .bool r.2] ∧ Γ' = []) := by
  refine con_of_wp Try.func25 rfl Try.ntmps25 Try.results25 rfl ?_
  intro w F rn S hrn
  have E := Ext.refl w
  have HM := Hp.le_refl M
  have H := h
  unfold ferrymanref13_Fence at H
  refine Wp_seq ?_
  refine Wp_region_lit ?_
  refine W_box S #[.bool a0.Leaf, .slice A0_0 a0.Keys.length c0_0, .slice A0_1 a0.Kids.length c0_1, .slice A0_2 a0.Rows.length c0_2] rfl rfl rfl ?_
  intro b1 w2 E' S
  replace E := E.trans E'
  clear E'
  refine W_v (.string (bs ([] : Str))) (x_assign rfl) rfl ?_
  refine W_v (.bool false) (x_assign rfl) rfl ?_
  refine Wl_nil ?_
  refine tn ?_
  refine Wp_seq ?_
  refine Wp_seq ?_
  refine Wp_region_lit ?_
  refine W_v (.pointer (some ⟨b1, 0, none⟩)) (x_fieldAddr (o := 0) (off := 0) Try.underlying39 rfl ty4 rfl rfl) rfl ?_
  refine W_v (.bool a0.Leaf) (x_load (S.blk 0 rfl) ty4 rfl rfl) rfl ?_
  refine W_v (.bool a0.Leaf) (x_move rfl) rfl ?_
  obtain ⟨o12, o12h, o12H⟩ := bindS H
  clear H
  refine Wl_cutN 4 (fun ρ w' => ∃ (x11 : Bool), (x11) = o12 ∧ Agree ρ [(1, .int .i64 a1), (2, .pointer (some ⟨b1, 0, none⟩)), (12, .bool x11)] ∧ Ext w w' ∧ St w' M F [Blk b1 (.cells #[.bool a0.Leaf, .slice A0_0 a0.Keys.length c0_0, .slice A0_1 a0.Kids.length c0_1, .slice A0_2 a0.Rows.length c0_2] 39 (0, 0))]) ?_ ?_
  · have H := o12h
    rcases iteS H with ⟨hb10, H⟩ | ⟨hb10, H⟩
    · skip
      refine W_no (skF hb10) rfl ?_
      refine W_no (skF hb10) rfl ?_
      refine W_no (skF hb10) rfl ?_
      refine W_v (.bool true) (x_pick (k := true) (congrArg Value.bool hb10) rfl) rfl ?_
      refine Wl_nil ?_
      exact ⟨true, Option.some.inj H, ⟨rfl, rfl, rfl, trivial⟩, E, S.pick [0] (by decide)⟩
    · skip
      refine W_yes (congrArg some hb10) ?_
      refine W_v (.agg #[.bool a0.Leaf, .slice A0_0 a0.Keys.length c0_0, .slice A0_1 a0.Kids.length c0_1, .slice A0_2 a0.Rows.length c0_2]) (x_loadA (S.blk 0 rfl) ty39 rfl (sub_of_extract rfl) rfl rfl) rfl ?_
      refine W_yes (congrArg some hb10) ?_
      obtain ⟨t13, ht14, H⟩ := bindS H
      refine W_callF fn26 (ferrymanref13_May.con k M A0_0 c0_0 A0_1 c0_1 A0_2 c0_2 a0 t13 hr0_0 hr0_1 hr0_2 ht14) S rfl rfl (by rintro _ _ _ ⟨_, rfl⟩; exact flat_nil) ?_
      rintro _ w15 _ Γ' E' S ⟨rfl, rfl⟩
      replace E := E.trans E'
      clear E'
      refine W_yes (congrArg some hb10) ?_
      refine W_v (.bool (!t13)) (x_not rfl) rfl ?_
      refine W_v (.bool (!t13)) (x_pick (k := false) (congrArg Value.bool hb10) rfl) rfl ?_
      refine Wl_nil ?_
      exact ⟨(!t13), Option.some.inj H, ⟨rfl, rfl, rfl, trivial⟩, E, S.pick [0] (by decide)⟩
  clear o12h
  rintro ρ w16 ⟨x11, rfl, hρ, E, S⟩
  rw [agree_eta hρ]
  clear hρ
  have H := o12H
  clear o12H
  refine W_v (.bool x11) (x_move rfl) rfl ?_
  refine Wl_cutN 3 (fun ρ w' => Agree ρ [(1, .int .i64 a1), (2, .pointer (some ⟨b1, 0, none⟩)), (16, .bool (x11 || (decide (a1 < (0 : Int)))))] ∧ w16 = w') ?_ ?_
  · rcases boolCases x11 with hb17 | hb17
    · skip
      refine W_yes (congrArg some hb17) ?_
      refine W_v (.int .i64 a1) (x_move rfl) rfl ?_
      refine W_yes (congrArg some hb17) ?_
      refine W_v (.bool (decide (a1 < (0 : Int)))) (x_ibin rfl rfl rfl rfl) rfl ?_
      refine W_v (.bool (decide (a1 < (0 : Int)))) (x_pick (k := false) (congrArg Value.bool hb17) rfl) rfl ?_
      refine Wl_nil ?_
      exact ⟨⟨rfl, rfl, (by first | rfl | (rw [hb17]; rfl) | (simp only [hb17]; rfl)), trivial⟩, rfl⟩
    · skip
      refine W_no (skF hb17) rfl ?_
      refine W_no (skF hb17) rfl ?_
      refine W_v (.bool true) (x_pick (k := true) (congrArg Value.bool hb17) rfl) rfl ?_
      refine Wl_nil ?_
      exact ⟨⟨rfl, rfl, (by first | rfl | (rw [hb17]; rfl) | (simp only [hb17]; rfl)), trivial⟩, rfl⟩
  rintro ρ _ ⟨hρ, rfl⟩
  rw [agree_eta hρ]
  clear hρ
  refine W_v (.bool (x11 || (decide (a1 < (0 : Int))))) (x_move rfl) rfl ?_
  refine Wl_cutN 6 (fun ρ w' => Agree ρ [(1, .int .i64 a1), (2, .pointer (some ⟨b1, 0, none⟩)), (23, .bool ((x11 || (decide (a1 < (0 : Int)))) || (decide (a1 ≥ (a0.Keys.length : Int)))))] ∧ w16 = w') ?_ ?_
  · rcases boolCases (x11 || (decide (a1 < (0 : Int)))) with hb18 | hb18
    · skip
      refine W_yes (congrArg some hb18) ?_
      refine W_v (.int .i64 a1) (x_move rfl) rfl ?_
      refine W_yes (congrArg some hb18) ?_
      refine W_v (.pointer (some ⟨b1, 1, none⟩)) (x_fieldAddr (o := 0) (off := 1) Try.underlying39 rfl ty22 rfl rfl) rfl ?_
      refine W_yes (congrArg some hb18) ?_
      refine W_v (.slice A0_0 a0.Keys.length c0_0) (x_load (S.blk 0 rfl) ty22 rfl rfl) rfl ?_
      refine W_yes (congrArg some hb18) ?_
      refine W_v (.int .i64 (a0.Keys.length : Int)) (x_len_slice (n := a0.Keys.length) Try.underlying22 rfl) rfl ?_
      refine W_yes (congrArg some hb18) ?_
      refine W_v (.bool (decide (a1 ≥ (a0.Keys.length : Int)))) (x_ibin rfl rfl rfl rfl) rfl ?_
      refine W_v (.bool (decide (a1 ≥ (a0.Keys.length : Int)))) (x_pick (k := false) (congrArg Value.bool hb18) rfl) rfl ?_
      refine Wl_nil ?_
      exact ⟨⟨rfl, rfl, (by first | rfl | (rw [hb18]; rfl) | (simp only [hb18]; rfl)), trivial⟩, rfl⟩
    · skip
      refine W_no (skF hb18) rfl ?_
      refine W_no (skF hb18) rfl ?_
      refine W_no (skF hb18) rfl ?_
      refine W_no (skF hb18) rfl ?_
      refine W_no (skF hb18) rfl ?_
      refine W_v (.bool true) (x_pick (k := true) (congrArg Value.bool hb18) rfl) rfl ?_
      refine Wl_nil ?_
      exact ⟨⟨rfl, rfl, (by first | rfl | (rw [hb18]; rfl) | (simp only [hb18]; rfl)), trivial⟩, rfl⟩
  rintro ρ _ ⟨hρ, rfl⟩
  rw [agree_eta hρ]
  clear hρ
  refine Wl_nil ?_
  refine tn ?_
  rcases iteS H with ⟨hb19, H⟩ | ⟨hb19, H⟩
  · refine Wp_cond_true (congrArg Value.bool hb19) ?_
    refine Wp_seq ?_
    refine Wp_region_lit ?_
    refine W_v (.string (bs ([] : Str))) (x_assign rfl) rfl ?_
    refine W_v (.bool false) (x_assign rfl) rfl ?_
    refine Wl_nil ?_
    refine tn ?_
    refine Wp_ret ?_
    refine tr (?_)
    obtain rfl := Option.some.inj H
    exact ⟨_, _, _, fun w1 e1 => run_resR (vs := [.string (bs ([] : Str)), .bool false]) (FA.cons (rfl) (FA.cons (rfl) (FA.nil))), HM, E, S.pick [] (by decide), ⟨rfl, rfl⟩⟩
  refine Wp_cond_false (congrArg Value.bool hb19) ?_
  refine Wp_skip ?_
  refine tn ?_
  refine Wp_seq ?_
  refine Wp_region_lit ?_
  refine W_v (.pointer (some ⟨b1, 1, none⟩)) (x_fieldAddr (o := 0) (off := 1) Try.underlying39 rfl ty22 rfl rfl) rfl ?_
  refine W_v (.slice A0_0 a0.Keys.length c0_0) (x_load (S.blk 0 rfl) ty22 rfl rfl) rfl ?_
  refine W_v (.int .i64 a1) (x_move rfl) rfl ?_
  obtain ⟨⟨p20, p21⟩, H⟩ := chkS H
  obtain ⟨b22, o23, cs24, _, _, ee29, hb25, vs26, hR27, hc28⟩ := SlW.at' hr0_0 p20 p21
  obtain rfl : vs26 = _ := hR27
  refine W_v (.pointer (some ⟨b22, o23 + a1.toNat * 1, none⟩)) (x_indexAddr Try.underlying22 ty9 (slA ee29) rfl p20 p21) rfl ?_
  refine W_v (.string (bs (rd a0.Keys a1))) (x_load (S.frz hb25) ty9 rfl (hc28 0 _ rfl)) rfl ?_
  refine W_v (.string (bs (rd a0.Keys a1))) (x_assign rfl) rfl ?_
  refine W_v (.bool true) (x_assign rfl) rfl ?_
  refine Wl_nil ?_
  refine tn ?_
  refine Wp_ret ?_
  obtain rfl := Option.some.inj H
  exact ⟨_, _, _, fun w1 e1 => run_resR (vs := [.string (bs (rd a0.Keys a1)), .bool true]) (FA.cons (rfl) (FA.cons (rfl) (FA.nil))), HM, E, S.pick [] (by decide), ⟨rfl, rfl⟩⟩
/-! ### ferryman/ferrymanref13.Kid: function 27 -/
def ferrymanref13_Kid_l0 (a0 : ferrymanref13_Node) (a1 : Str) : Nat → Int → Int → Option ((Int))
  | 0, _, _ => none
  | k + 1, x90, x91 => (if (decide (x91 < (a0.Keys.length : Int))) = true then (Option.bind (α := Int) (if 0 ≤ x91 ∧ x91 < (a0.Keys.length : Int) then (Option.bind (α := Int) (if (sbin .leq (rd a0.Keys x91) a1) = true then some ((IntKind.i64.wrap (x90 + (1 : Int)))) else some (x90)) (fun x158 => some (x158))) else none) (fun x145 => ferrymanref13_Kid_l0 a0 a1 k x145 (IntKind.i64.wrap (x91 + (1 : Int))))) else some (x90))
set_option maxHeartbeats 2000000 in
theorem ferrymanref13_Kid_l0.mono {a0 : ferrymanref13_Node} {a1 : Str} : ∀ {k : Nat} {x0 x1}, OLe (ferrymanref13_Kid_l0 a0 a1 k x0 x1) (ferrymanref13_Kid_l0 a0 a1 (k + 1) x0 x1) := by
  intro k
  induction k with
  | zero => intros; exact OLe.none
  | succ k ih =>
    intros
    rw [ferrymanref13_Kid_l0.eq_2, ferrymanref13_Kid_l0.eq_2]
    repeat' (first | with_reducible exact OLe.none | with_reducible exact OLe.some | with_reducible refine OLe.ite ?_ ?_ | with_reducible refine OLe.bind ?_ (fun _ => ?_) | exact ih | refine OLe.bind ?_ (fun _ => ?_) | refine OLe.ite ?_ ?_ | refine OLe.elim (fun _ => ?_) (fun _ => ?_) | split)
def ferrymanref13_Kid (k : Nat) (a0 : ferrymanref13_Node) (a1 : Str) : Option (Int) :=
  (Option.bind (α := Bool) (if a0.Leaf = true then some (true) else (Option.bind (ferrymanref13_May k a0) (fun t13 => some ((!t13))))) (fun x11 => (if x11 = true then some (0 : Int) else (Option.bind (ferrymanref13_Kid_l0 a0 a1 k (0 : Int) (0 : Int)) (fun x126 => some x126)))))
set_option maxHeartbeats 2000000 in
theorem ferrymanref13_Kid.mono {k : Nat} {a0 : ferrymanref13_Node} {a1 : Str} : OLe (ferrymanref13_Kid k a0 a1) (ferrymanref13_Kid (k + 1) a0 a1) := by
  unfold ferrymanref13_Kid
  repeat' (first | with_reducible exact OLe.none | with_reducible exact OLe.some | with_reducible refine OLe.ite ?_ ?_ | with_reducible refine OLe.bind ?_ (fun _ => ?_) | with_reducible exact ferrymanref13_Kid_l0.mono | with_reducible exact ferrymanref13_May.mono | refine OLe.bind ?_ (fun _ => ?_) | refine OLe.ite ?_ ?_ | refine OLe.elim (fun _ => ?_) (fun _ => ?_) | split)
set_option maxHeartbeats 1000000 in
set_option maxRecDepth 100000 in
theorem ferrymanref13_Kid.con (k : Nat) (M : Hp) (A0_0 : Option Addr) (c0_0 : Nat) (A0_1 : Option Addr) (c0_1 : Nat) (A0_2 : Option Addr) (c0_2 : Nat) (a0 : ferrymanref13_Node) (a1 : Str) (r : Int) (hr0_0 : SlR rStr M (.slice A0_0 a0.Keys.length c0_0) a0.Keys) (hr0_1 : SlR (rInt .i64) M (.slice A0_1 a0.Kids.length c0_1) a0.Kids) (hr0_2 : SlR (rInt .u64) M (.slice A0_2 a0.Rows.length c0_2) a0.Rows) (h : ferrymanref13_Kid k a0 a1 = some r) : Con Try.prog 27 #[.agg #[.bool a0.Leaf, .slice A0_0 a0.Keys.length c0_0, .slice A0_1 a0.Kids.length c0_1, .slice A0_2 a0.Rows.length c0_2], .string (bs a1)] M [] (fun v M' Γ' => v = .int .i64 r ∧ Γ' = []) := by
  refine con_of_wp Try.func27 rfl Try.ntmps27 Try.results27 rfl ?_
  intro w F rn S hrn
  have E := Ext.refl w
  have HM := Hp.le_refl M
  have H := h
  unfold ferrymanref13_Kid at H
  refine Wp_seq ?_
  refine Wp_region_lit ?_
  refine W_box S #[.bool a0.Leaf, .slice A0_0 a0.Keys.length c0_0, .slice A0_1 a0.Kids.length c0_1, .slice A0_2 a0.Rows.length c0_2] rfl rfl rfl ?_
  intro b1 w2 E' S
  replace E := E.trans E'
  clear E'
  refine W_v (.int .i64 0) (x_assign rfl) rfl ?_
  refine Wl_nil ?_
  refine tn ?_
  refine Wp_seq ?_
  refine Wp_seq ?_
  refine Wp_region_lit ?_
  refine W_v (.pointer (some ⟨b1, 0, none⟩)) (x_fieldAddr (o := 0) (off := 0) Try.underlying39 rfl ty4 rfl rfl) rfl ?_
  refine W_v (.bool a0.Leaf) (x_load (S.blk 0 rfl) ty4 rfl rfl) rfl ?_
  refine W_v (.bool a0.Leaf) (x_move rfl) rfl ?_
  obtain ⟨o12, o12h, o12H⟩ := bindS H
  clear H
  refine Wl_cutN 4 (fun ρ w' => ∃ (x11 : Bool), (x11) = o12 ∧ Agree ρ [(1, .string (bs a1)), (2, .pointer (some ⟨b1, 0, none⟩)), (13, .bool x11)] ∧ Ext w w' ∧ St w' M F [Blk b1 (.cells #[.bool a0.Leaf, .slice A0_0 a0.Keys.length c0_0, .slice A0_1 a0.Kids.length c0_1, .slice A0_2 a0.Rows.length c0_2] 39 (0, 0))]) ?_ ?_
  · have H := o12h
    rcases iteS H with ⟨hb10, H⟩ | ⟨hb10, H⟩
    · skip
      refine W_no (skF hb10) rfl ?_
      refine W_no (skF hb10) rfl ?_
      refine W_no (skF hb10) rfl ?_
      refine W_v (.bool true) (x_pick (k := true) (congrArg Value.bool hb10) rfl) rfl ?_
      refine Wl_nil ?_
      exact ⟨true, Option.some.inj H, ⟨rfl, rfl, rfl, trivial⟩, E, S.pick [0] (by decide)⟩
    · skip
      refine W_yes (congrArg some hb10) ?_
      refine W_v (.agg #[.bool a0.Leaf, .slice A0_0 a0.Keys.length c0_0, .slice A0_1 a0.Kids.length c0_1, .slice A0_2 a0.Rows.length c0_2]) (x_loadA (S.blk 0 rfl) ty39 rfl (sub_of_extract rfl) rfl rfl) rfl ?_
      refine W_yes (congrArg some hb10) ?_
      obtain ⟨t13, ht14, H⟩ := bindS H
      refine W_callF fn26 (ferrymanref13_May.con k M A0_0 c0_0 A0_1 c0_1 A0_2 c0_2 a0 t13 hr0_0 hr0_1 hr0_2 ht14) S rfl rfl (by rintro _ _ _ ⟨_, rfl⟩; exact flat_nil) ?_
      rintro _ w15 _ Γ' E' S ⟨rfl, rfl⟩
      replace E := E.trans E'
      clear E'
      refine W_yes (congrArg some hb10) ?_
      refine W_v (.bool (!t13)) (x_not rfl) rfl ?_
      refine W_v (.bool (!t13)) (x_pick (k := false) (congrArg Value.bool hb10) rfl) rfl ?_
      refine Wl_nil ?_
      exact ⟨(!t13), Option.some.inj H, ⟨rfl, rfl, rfl, trivial⟩, E, S.pick [0] (by decide)⟩
  clear o12h
  rintro ρ w16 ⟨x11, rfl, hρ, E, S⟩
  rw [agree_eta hρ]
  clear hρ
  have H := o12H
  clear o12H
  refine Wl_nil ?_
  refine tn ?_
  rcases iteS H with ⟨hb17, H⟩ | ⟨hb17, H⟩
  · refine Wp_cond_true (congrArg Value.bool hb17) ?_
    refine Wp_seq ?_
    refine Wp_region_lit ?_
    refine W_v (.int .i64 0) (x_assign rfl) rfl ?_
    refine Wl_nil ?_
    refine tn ?_
    refine Wp_ret ?_
    refine tr (?_)
    obtain rfl := Option.some.inj H
    exact ⟨_, _, _, fun w1 e1 => run_resR (vs := [.int .i64 0]) (FA.cons (rfl) (FA.nil)), HM, E, S.pick [] (by decide), ⟨rfl, rfl⟩⟩
  refine Wp_cond_false (congrArg Value.bool hb17) ?_
  refine Wp_skip ?_
  refine tn ?_
  refine Wp_seq ?_
  refine Wp_region_lit ?_
  refine W_v (.int .i64 0) (x_assign rfl) rfl ?_
  refine Wl_nil ?_
  refine tn ?_
  refine Wp_seq ?_
  refine Wp_seq ?_
  refine Wp_region_lit ?_
  refine W_v (.int .i64 0) (x_assign rfl) rfl ?_
  refine Wl_nil ?_
  refine tn ?_
  obtain ⟨o127, o127h, o127H⟩ := bindS H
  clear H
  refine Wp_blockJ (fun ρ w' => ∃ (x126 : Int), (x126) = o127 ∧ Agree ρ [(5, .int .i64 x126)] ∧ Ext w w' ∧ St w' M F []) ?_ ?_
  · skip
    refine Wp_loop (fun n ρ w' => ∃ (x90 : Int) (x91 : Int), ferrymanref13_Kid_l0 a0 a1 n x90 x91 = some o127 ∧ Agree ρ [(1, .string (bs a1)), (2, .pointer (some ⟨b1, 0, none⟩)), (5, .int .i64 x90), (6, .int .i64 x91)] ∧ Ext w w' ∧ St w' M F [Blk b1 (.cells #[.bool a0.Leaf, .slice A0_0 a0.Keys.length c0_0, .slice A0_1 a0.Kids.length c0_1, .slice A0_2 a0.Rows.length c0_2] 39 (0, 0))]) k ?_ ?_
    · skip
      exact ⟨(0 : Int), (0 : Int), o127h, ⟨rfl, rfl, rfl, rfl, trivial⟩, E, S.pick [0] (by decide)⟩
    · intro n
      rintro ρ w128 ⟨x90, x91, H, hρ, E, S⟩
      rw [agree_eta hρ]
      clear hρ
      cases n with
      | zero => cases H
      | succ k =>
        rw [ferrymanref13_Kid_l0.eq_2] at H
        refine Wp_seq ?_
        refine Wp_seq ?_
        refine Wp_region_lit ?_
        refine W_v (.int .i64 x91) (x_move rfl) rfl ?_
        refine W_v (.pointer (some ⟨b1, 1, none⟩)) (x_fieldAddr (o := 0) (off := 1) Try.underlying39 rfl ty22 rfl rfl) rfl ?_
        refine W_v (.slice A0_0 a0.Keys.length c0_0) (x_load (S.blk 0 rfl) ty22 rfl rfl) rfl ?_
        refine W_v (.int .i64 (a0.Keys.length : Int)) (x_len_slice (n := a0.Keys.length) Try.underlying22 rfl) rfl ?_
        refine W_v (.bool (decide (x91 < (a0.Keys.length : Int)))) (x_ibin rfl rfl rfl rfl) rfl ?_
        refine Wl_nil ?_
        refine tn ?_
        rcases iteS H with ⟨hb129, H⟩ | ⟨hb129, H⟩
        · refine Wp_cond_true (congrArg Value.bool hb129) ?_
          refine Wp_skip ?_
          refine tn ?_
          refine Wp_seq ?_
          obtain ⟨o146, o146h, o146H⟩ := bindS H
          refine Wp_cut (fun ρ w' => ∃ (x145 : Int), (x145) = o146 ∧ Agree ρ [(1, .string (bs a1)), (2, .pointer (some ⟨b1, 0, none⟩)), (5, .int .i64 x145), (6, .int .i64 x91)] ∧ Ext w w' ∧ St w' M F [Blk b1 (.cells #[.bool a0.Leaf, .slice A0_0 a0.Keys.length c0_0, .slice A0_1 a0.Kids.length c0_1, .slice A0_2 a0.Rows.length c0_2] 39 (0, 0))]) ?_ ?_
          · clear o146H
            have H := o146h
            clear o146h
            refine Wp_block ?_
            refine Wp_seq ?_
            refine Wp_region_lit ?_
            refine W_v (.pointer (some ⟨b1, 1, none⟩)) (x_fieldAddr (o := 0) (off := 1) Try.underlying39 rfl ty22 rfl rfl) rfl ?_
            refine W_v (.slice A0_0 a0.Keys.length c0_0) (x_load (S.blk 0 rfl) ty22 rfl rfl) rfl ?_
            refine W_v (.int .i64 x91) (x_move rfl) rfl ?_
            obtain ⟨⟨p147, p148⟩, H⟩ := chkS H
            obtain ⟨b149, o150, cs151, _, _, ee156, hb152, vs153, hR154, hc155⟩ := SlW.at' hr0_0 p147 p148
            obtain rfl : vs153 = _ := hR154
            refine W_v (.pointer (some ⟨b149, o150 + x91.toNat * 1, none⟩)) (x_indexAddr Try.underlying22 ty9 (slA ee156) rfl p147 p148) rfl ?_
            refine W_v (.string (bs (rd a0.Keys x91))) (x_load (S.frz hb152) ty9 rfl (hc155 0 _ rfl)) rfl ?_
            refine W_v (.string (bs a1)) (x_move rfl) rfl ?_
            refine W_v (.bool (sbin .leq (rd a0.Keys x91) a1)) (x_sbin rfl rfl rfl) rfl ?_
            refine Wl_nil ?_
            refine tn ?_
            obtain ⟨o159, o159h, o159H⟩ := bindS H
            refine Wp_cut (fun ρ w' => ∃ (x158 : Int), (x158) = o159 ∧ Agree ρ [(1, .string (bs a1)), (2, .pointer (some ⟨b1, 0, none⟩)), (5, .int .i64 x158), (6, .int .i64 x91)] ∧ Ext w w' ∧ St w' M F [Blk b1 (.cells #[.bool a0.Leaf, .slice A0_0 a0.Keys.length c0_0, .slice A0_1 a0.Kids.length c0_1, .slice A0_2 a0.Rows.length c0_2] 39 (0, 0))]) ?_ ?_
            · clear o159H
              have H := o159h
              clear o159h
              rcases iteS H with ⟨hb160, H⟩ | ⟨hb160, H⟩
              · refine Wp_cond_true (congrArg Value.bool hb160) ?_
                refine Wp_region_lit ?_
                refine W_v (.int .i64 x90) (x_move rfl) rfl ?_
                refine W_v (.int .i64 (IntKind.i64.wrap (x90 + (1 : Int)))) (x_ibin rfl rfl rfl rfl) rfl ?_
                refine W_v (.int .i64 (IntKind.i64.wrap (x90 + (1 : Int)))) (x_assign rfl) rfl ?_
                refine Wl_nil ?_
                refine tn ?_
                exact ⟨(IntKind.i64.wrap (x90 + (1 : Int))), Option.some.inj H, ⟨rfl, rfl, rfl, rfl, trivial⟩, E, S.pick [0] (by decide)⟩
              refine Wp_cond_false (congrArg Value.bool hb160) ?_
              refine Wp_skip ?_
              refine tn ?_
              exact ⟨x90, Option.some.inj H, ⟨rfl, rfl, rfl, rfl, trivial⟩, E, S.pick [0] (by decide)⟩
            clear o159h
            rintro ρ w161 ⟨x158, rfl, hρ, E, S⟩
            rw [agree_eta hρ]
            clear hρ
            have H := o159H
            clear o159H
            refine bn ?_
            refine tn ?_
            exact ⟨x158, Option.some.inj H, ⟨rfl, rfl, rfl, rfl, trivial⟩, E, S.pick [0] (by decide)⟩
          clear o146h
          rintro ρ w162 ⟨x145, rfl, hρ, E, S⟩
          rw [agree_eta hρ]
          clear hρ
          have H := o146H
          clear o146H
          refine tn ?_
          refine Wp_region_lit ?_
          refine W_v (.int .i64 x91) (x_move rfl) rfl ?_
          refine W_v (.int .i64 (IntKind.i64.wrap (x91 + (1 : Int)))) (x_ibin rfl rfl rfl rfl) rfl ?_
          refine W_v (.int .i64 (IntKind.i64.wrap (x91 + (1 : Int)))) (x_assign rfl) rfl ?_
          refine Wl_nil ?_
          refine tn ?_
          exact ⟨k, Nat.lt_succ_self k, ⟨x145, (IntKind.i64.wrap (x91 + (1 : Int))), H, ⟨rfl, rfl, rfl, rfl, trivial⟩, E, S.pick [0] (by decide)⟩⟩
        refine Wp_cond_false (congrArg Value.bool hb129) ?_
        refine Wp_exit ?_
        refine tx (tx (bsm (?_)))
        refine tn ?_
        exact ⟨x90, Option.some.inj H, ⟨rfl, trivial⟩, E, S.pick [] (by decide)⟩
  clear o127h
  rintro ρ w163 ⟨x126, rfl, hρ, E, S⟩
  rw [agree_eta hρ]
  clear hρ
  have H := o127H
  clear o127H
  refine tn ?_
  refine Wp_seq ?_
  refine Wp_region_lit ?_
  refine W_v (.int .i64 x126) (x_move rfl) rfl ?_
  refine W_v (.int .i64 x126) (x_assign rfl) rfl ?_
  refine Wl_nil ?_
  refine tn ?_
  refine Wp_ret ?_
  obtain rfl := Option.some.inj H
  exact ⟨_, _, _, fun w1 e1 => run_resR (vs := [.int .i64 x126]) (FA.cons (rfl) (FA.nil)), HM, E, S.pick [] (by decide), ⟨rfl, rfl⟩⟩
end Go.Proofs.Ytdommjjhfplcaaa
