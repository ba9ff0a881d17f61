/-  Rows of one's own, written over up to their capacities. No program of its own. -/
import Derived.Test.YtdommjjhfplcaaaSlI
namespace Go.Proofs.Ytdommjjhfplcaaa
open Go
section
variable {rn : Rd} {P : Program} {N : Nat} {ops : Array Oper} {Q : Post} {rest : List Oper} {ρ : Rho} {w : World} {M F : Hp} {Γ : List Asr} {x y : Operand} {t e T ty : TypeId} {ps : String} {af : Array Edge} {bytes b o n : Nat} {agg : Bool} {z v u : Value}
/-- A row's block, whatever it holds. -/
def Raw (A : Option Addr) (c : Nat) (t : TypeId) : Asr :=
  ⟨fun _ h => (A = none ∧ c = 0) ∨ ∃ (b : Nat) (cs : Array Value), A = some ⟨b, 0, none⟩ ∧ cs.size = c ∧ h b = some (.cells cs t (0, 0)), fun _ h => h⟩
theorem St.raw {α : Type} {r : Rep α} {l : List α} {A : Option Addr} {nn cc : Nat} (S : St w M F Γ) (i : Nat) (hi : Γ[i]? = some (Row r e (.slice A nn cc) l)) (h1 : r.sz = 1) : St w M F (Γ.set i (Raw A cc e)) ∧ cc < 9223372036854775808 := by
  refine ⟨?_, S.row_cap i hi⟩
  obtain ⟨h0, ha, hle, hch⟩ := S.change i hi
  rcases ha with ⟨he, rfl⟩ | ⟨b, cap, cs, he, h2, h3, h4, h5, h9⟩
  · injection he with e1 e2 e3
    subst e1 e2 e3
    exact hch w _ Hp.emp (.inl ⟨rfl, rfl⟩) (fun b o h => by cases h) (fun b o h _ => h) (fun b o h => by cases h)
  · injection he with e1 e2 e3
    subst e1 e3
    refine hch w _ (Hp.single b (.cells cs e (0, 0))) (.inr ⟨b, cs, rfl, by rw [h4, h1, Nat.mul_one], by simp [Hp.single]⟩) (Hp.single_le.2 (hle _ _ h3)) (fun c o h _ => h) (fun c o h => ?_)
    simp only [Hp.single] at h
    split at h
    · rename_i ec; subst ec; left; rw [h3]; simp
    · cases h
theorem St.raw_some {A : Option Addr} {cc q : Nat} (S : St w M F Γ) (i : Nat) (hi : Γ[i]? = some (Raw A cc e)) (h : q < cc) : ∃ b, A = some ⟨b, 0, none⟩ := by
  obtain ⟨h1, ha, _, _⟩ := S.change i hi
  rcases ha with ⟨_, hc⟩ | ⟨b, cs, he, _⟩
  · omega
  · exact ⟨b, he⟩
theorem W_rawstore {A : Option Addr} {cc q : Nat} (S : St w M F Γ) (i : Nat) (hi : Γ[i]? = some (Raw A cc e)) (hq : q < cc) (ee : A = some ⟨b, 0, none⟩) (Ty : IsTy P ty agg z 1 bytes)
    (hx : evR ρ x = .pointer (some ⟨b, 0 + (q : Int).toNat * 1, none⟩)) (hy : evR ρ y = u) (hu : u.cells.toList.length = 1) (h1 : u.cells.toList.all (·.oneCell') = true)
    (K : ∀ w', Ext w w' → St w' M F (Γ.set i (Raw A cc e)) → Wl rn P N ops Q rest ρ w') : Wl rn P N ops Q (⟨none, .store ty x y, T, ps, af, none⟩ :: rest) ρ w := by
  subst ee
  have h1' : ∀ c ∈ u.cells.toList, c.oneCell' = true := fun c hc => List.all_eq_true.1 h1 c hc
  obtain ⟨g1, ha, hle, hch⟩ := S.change i hi
  rcases ha with ⟨he, _⟩ | ⟨b', cs, he, h4, h3⟩
  · cases he
  · injection he with e1
    injection e1 with e1
    subst e1
    have hfit : 0 + (q : Int).toNat * 1 + 1 ≤ cs.size := by rw [h4]; omega
    obtain ⟨w', hr, hb', hoth, hE⟩ := run_storeVar (P := P) (off := 0 + (q : Int).toNat * 1) Ty (Hp.of_get (hle _ _ h3)) (v := u) (by simpa using hu) h1' hfit
    refine Wl_unit rfl rfl (w' := w') ?_ hE (K w' hE ?_)
    · simp only [execOp, Instr.storeAt, Instr.sureAddr, hx, hy, Sem.run_bind, Sem.run_pure, Result.andThen_ok, hr]
    · refine hch w' _ (Hp.single b (.cells (over cs (0 + (q : Int).toNat * 1) u.cells.toList) e (0, 0))) (.inr ⟨b, over cs (0 + (q : Int).toNat * 1) u.cells.toList, rfl, by rw [over_size]; exact h4, by simp [Hp.single]⟩) (Hp.single_le.2 (Hp.of_mk hb')) (fun y o hy hn => ?_) (fun y o hy => ?_)
      · have hyb : y ≠ b := fun e => by subst e; rw [h3] at hn; cases hn
        exact (Hp.of_congr (hoth y hyb)).trans hy
      · simp only [Hp.single] at hy
        split at hy
        · rename_i ey; subst ey; left; rw [h3]; simp
        · cases hy
end
end Go.Proofs.Ytdommjjhfplcaaa
