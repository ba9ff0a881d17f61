import Derived.Test.YtkknoimjgifhlaaGreatDoorGr3B
import Derived.Test.YtkknoimjgifhlaaGreatDoorGr3LRoomTellsP0
import Derived.Test.YtkknoimjgifhlaaGreatDoorGr3LRoomTellsP3
namespace Go.Proofs.YtkknoimjgifhlaaGreatDoor
open Go
set_option linter.unusedVariables false
set_option linter.unusedSimpArgs false
set_option maxHeartbeats 80000000
set_option maxRecDepth 100000
def YO (k:Nat) :Option (Bool) :=
 (Option.bind (XZ k ) (fun t1=>(Option.bind (α:=List QY) (some ([(⟨(1:Int),(0:Int),([]:Str),([]:Str),([]:Str),(0:Int),(0:Int)⟩:QY),(⟨(3:Int),(1:Int),([97]:Str),([]:Str),([]:Str),(0:Int),(0:Int)⟩:QY)]:List QY)) (fun x11=>(Option.bind (Xm k t1) (fun t19=>(Option.bind (Xk k ([x11]:List (List QY)) (2:Int)) (fun t25=>(Option.bind (α:=Bool) (if ((t19.1==(5:Int))&&(t19.2==(3:Int)))=true then (Option.bind (XL k t1 (1:Int)) (fun t222=>some ((t222==(3:Int))))) else some (false)) (fun x220=>(Option.bind (α:=Bool) (if x220=true then (Option.bind (XL k t1 (2:Int)) (fun t232=>some ((t232==(93:Int))))) else some (false)) (fun x230=>(Option.bind (α:=Bool) (if x230=true then (Option.bind (XL k t1 (6:Int)) (fun t242=>some ((t242==(97:Int))))) else some (false)) (fun x240=>(Option.bind (α:=Bool) (if x240=true then (Option.bind (XL k t1 (5:Int)) (fun t252=>some ((t252==(215:Int))))) else some (false)) (fun x250=>(Option.bind (α:=Bool) (if x250=true then (Option.bind (Xo k t1) (fun t262=>some ((t262==(215:Int))))) else some (false)) (fun x260=>(Option.bind (α:=Bool) (if x260=true then (if 0≤(5:Int)∧(5:Int)≤(t25.length:Int) then (Option.bind (Xd k t1 ([x11]:List (List QY)) (List.take (5:Int).toNat t25) (3:Int) (2:Int)) (fun t282=>some (t282))) else none) else some (false)) (fun x275=>(Option.bind (α:=Bool) (if x275=true then (Option.bind (Xd k t1 ([x11]:List (List QY)) t25 (1:Int) (1:Int)) (fun t292=>some (t292))) else some (false)) (fun x290=>some x290))))))))))))))))))))))
theorem YO.mono {k}:OLe (YO k ) (YO (k+1) ):=by
 unfold YO
 have m1:=@Xd.mono
 have m2:=@Xk.mono
 have m3:=@XZ.mono
 have m4:=@Xm.mono
 have m5:=@Xo.mono
 have m6:=@XL.mono
 exact mo
theorem YO.con {k M} {r:Bool} (h:YO k =some r) (hg0:∃ gt fr,M 0=some (.cells cz1 gt fr)) (hg1:∃ gt fr,M 1=some (.cells cz2 gt fr)): Con Tryz.prog 5 #[] M [] (fun v M' Γ'=>v=.bool r∧Γ'=[]):=by
 refine cwA Tryz.func5 J Tryz.ntmps5 Tryz.results5 J h ?_
 intro w F rn S hrn E HM H
 unfold YO at H
 refine wsQ (waB J (wnQ (wsQ ?_)))
 obtain ⟨t1,ht2,H⟩:=QO H
 refine ZR fn14 (XZ.con ht2) S J J flN (eE4 E ?_)
 rintro _ w3 _ Γ' E S ⟨rfl,rfl⟩
 refine YN S #[vI 0,vI 0,vI 0,vI 0,vI 0,vI 0,vI 0,vI 0] ty23 J J (eE2 E ?_)
 intro b4 w5 E S
 refine Qu S 0 J ty23 J J [vI t1.Tasks,vI t1.Active,vI t1.Keys,vI t1.Depth,vI t1.TS,vI t1.KeyLen,vI t1.ValLen,vI t1.Fan] J J J (QF t1) (by as_aux_lemma=>kernel_rfl) J (eE1 E ?_)
 intro w7 E S
 refine wnQ (wsQ (W_v _ (xb2 [(0,1),(1,1),(2,1),(3,1),(4,1),(5,1),(6,1)] #[vU 1,vI 0,vS ([]:Str),vS ([]:Str),vS ([]:Str),vI 0,vU 0] Tryz.underlying43 ty43 J) J (W_v _ (xb2 [(0,1),(1,1),(2,1),(3,1),(4,1),(5,1),(6,1)] #[vU 3,vI 1,vS ([97]:Str),vS ([]:Str),vS ([]:Str),vI 0,vU 0] Tryz.underlying43 ty43 J) J ?_)))
 refine Xl S #[vU 1,vI 0,vS ([]:Str),vS ([]:Str),vS ([]:Str),vI 0,vU 0,vU 3,vI 1,vS ([97]:Str),vS ([]:Str),vS ([]:Str),vI 0,vU 0] Tryz.underlying41 ty43 J J #[vU 0,vI 0,vS ([]:Str),vS ([]:Str),vS ([]:Str),vI 0,vU 0,vU 0,vI 0,vS ([]:Str),vS ([]:Str),vS ([]:Str),vI 0,vU 0] (by as_aux_lemma=>kernel_rfl) (by as_aux_lemma=>kernel_rfl) J (eE2 E ?_)
 intro b8 w9 E S
 replace S:=S.blk_row (r:=Yk) (l:=([(⟨(1:Int),(0:Int),([]:Str),([]:Str),([]:Str),(0:Int),(0:Int)⟩:QY),(⟨(3:Int),(1:Int),([97]:Str),([]:Str),([]:Str),(0:Int),(0:Int)⟩:QY)]:List QY)) 0 J 2 (Nat.le_refl 2) J (Cells.cons (vs:=[vU 1,vI 0,vS ([]:Str),vS ([]:Str),vS ([]:Str),vI 0,vU 0]) (J) (Cells.cons (vs:=[vU 3,vI 1,vS ([97]:Str),vS ([]:Str),vS ([]:Str),vI 0,vU 0]) (J) Cells.nil))
 obtain ⟨x11,he12,H⟩:=QO H
 replace he12:=oi he12
 try unfold B23 at S
 rw [he12] at S
 refine Eq.mpr (congrArg (fun z=>Wl _ _ _ _ _ _ (upd _ _ z) _) (show Value.slice (some ⟨b8,0,none⟩) 2 2=Value.slice (some ⟨b8,0,none⟩) x11.length 2 from (by rw [← he12];rfl))) ?_
 obtain ⟨M13,hM14,hf15,S⟩:=S.row_freeze 0 J
 replace hg0:=gup hg0 hM14
 replace hg1:=gup hg1 hM14
 replace HM:=Hp.le_trans HM hM14
 refine Xl S #[.slice (some ⟨b8,0,none⟩) x11.length 2] Tryz.underlying24 ty41 J J #[.slice none 0 0] (by as_aux_lemma=>kernel_rfl) (by as_aux_lemma=>kernel_rfl) J (eE2 E ?_)
 intro b16 w17 E S
 replace S:=S.blk_row (r:=(rSl Yk)) (l:=([x11]:List (List QY))) 0 J 1 (Nat.le_refl 1) J (Cells.cons (vs:=[.slice (some ⟨b8,0,none⟩) x11.length 2]) (⟨_,hf15,J⟩) Cells.nil)
 refine waL J (wnQ (wsQ (W_v (.agg (QF t1)) (Qi (S.blk 1 J) ty23 J (QG J) J J) J ?_)))
 obtain ⟨t19,ht20,H⟩:=QO H
 refine ZR fn6 (Xm.con ht20) S J J flN (eE4 E ?_)
 rintro _ w21 _ Γ' E S ⟨rfl,rfl⟩
 refine wmT J (W_v _ (QR J J) J (W_v _ (QR J J) J (waI J (waI J (wnQ ?_)))))
 as_aux_lemma =>
 refine wsQ (wmL J ?_)
 obtain ⟨M22,hM23,hf24,S⟩:=S.row_freeze 0 J
 replace hg0:=gup hg0 hM23
 replace hg1:=gup hg1 hM23
 replace HM:=Hp.le_trans HM hM23
 obtain ⟨t25,ht26,H⟩:=QO H
 refine Y2 fn15 (Xk.con ht26 hf24) (Γ1:=[]) (Γ2:=[_]) S J J ?_
 rintro _ w30 M31 Γ' hM32 E' S ⟨A27,c28,rfl,rfl⟩
 replace hg0:=gup hg0 hM32
 replace hg1:=gup hg1 hM32
 replace HM:=Hp.le_trans HM hM32
 replace hf24:=SlR.mono hf24 hM32
 replace E:=E.trans E'
 refine waL J (wnQ (QH ?_))
 obtain ⟨M129,hM130,hf131,S⟩:=S.row_freeze 0 J
 replace hg0:=gup hg0 hM130
 replace hg1:=gup hg1 hM130
 replace HM:=Hp.le_trans HM hM130
 replace hf24:=SlR.mono hf24 hM130
 refine rgA S [0] [_] 45 mixed J (eE1 E ?_)
 intro w213 E S D1
 refine tz0 0 J D1 (xmI J) (tz0 1 J D1 (xiB J J) (tz0 2 J D1 (xmB J) ?_))
 refine YB (fun ρ w'=>QV ρ [(0,.bool false),(1,pt b4 0),(2,.slice (some ⟨b16,0,none⟩) ([x11]:List (List QY)).length 1),(5,.slice A27 t25.length c28),(23,.bool ((t19.1==(5:Int))&&(t19.2==(3:Int))))]∧w213=w') 39 (Ls 45 [0,1,2,3,4,5]) ?_ ?_
 rotate_left
 ·intro hrest
  rcases Qy (t19.1==(5:Int)) with hb215 | hb215
  ·refine tz4 3 J (skT hb215) D1 (tz4 4 J (skT hb215) D1 (tz0 5 J D1 (xqB hb215 J) ?_))
   exact hrest _ _ ⟨⟨J,J,J,J,(flB hb215),trivial⟩,rfl⟩
  ·refine tz2 3 J (cS hb215) D1 (xmI J) (tz2 4 J (cS hb215) D1 (xiB J J) (tz0 5 J D1 (xpB hb215 J) ?_))
   exact hrest _ _ ⟨⟨J,J,J,J,(flB hb215),trivial⟩,rfl⟩
 rintro ρ _ ⟨hρ,rfl⟩
 rw [QB hρ]
 refine tz0 6 J (⟨M129,Hp.le_refl M129,(S.pk [0])⟩) (xmB J) ?_
 obtain ⟨o221,o221h,o221H⟩:=QO H
 refine YB (fun ρ w'=>∃ (x220:Bool),(x220)=o221∧QV ρ [(0,.bool false),(1,pt b4 0),(2,.slice (some ⟨b16,0,none⟩) ([x11]:List (List QY)).length 1),(5,.slice A27 t25.length c28),(28,.bool x220)]∧Ext w w'∧St w' M129 F [B23 b4 t1]) 34 (Ls 45 [0,1,2,3,4,5,6,7,8,9,10]) ?_ ?_
 rotate_left
 ·intro hrest
  have H:=o221h
  rcases Q3 H with ⟨hb219,H⟩ | ⟨hb219,H⟩
  ·refine WtY 7 J J J (.agg (QF t1)) J (cS hb219) (fun w' h'=>Qi (Y1 h' 0 J) ty23 J (QG J) J J) (⟨M129,Hp.le_refl M129,(S.pk [0])⟩) ?_
   refine Wo 8 J ?_
   refine QN (cS hb219) ?_
   obtain ⟨t222,ht223,H⟩:=QO H
   refine ZR fn10 (XL.con ht223) S J J flN (eE4 E ?_)
   rintro _ w224 _ Γ' E S ⟨rfl,rfl⟩
   refine QK (Yl ⟨.inr ⟨M129,Hp.le_refl M129,(S.pk [0])⟩,?_⟩)
   have D6:∃ Mx,Hp.le M129 Mx∧St _ Mx F [_]:=⟨_,Hp.le_refl _,S.pk [0]⟩
   refine tz2 9 J (cS hb219) D6 (xiB J J) (tz0 10 J D6 (xpB hb219 J) ?_)
   exact hrest _ _ ⟨(t222==(3:Int)),oi H,agP J,E,S.pk [0]⟩
  ·refine tz4 7 J (skT hb219) D1 (tz4 8 J (skT hb219) D1 (tz4 9 J (skT hb219) D1 (tz0 10 J D1 (xqB hb219 J) ?_)))
   exact hrest _ _ ⟨false,oi H,agP J,E,S.pk [0]⟩
 rintro ρ w225 ⟨x220,rfl,hρ,E,S⟩
 rw [QB hρ]
 have H:=o221H
 refine tz0 11 J (⟨M129,Hp.le_refl M129,(S.pk [0])⟩) (xmB J) ?_
 obtain ⟨o231,o231h,o231H⟩:=QO H
 refine YB (fun ρ w'=>∃ (x230:Bool),(x230)=o231∧QV ρ [(0,.bool false),(1,pt b4 0),(2,.slice (some ⟨b16,0,none⟩) ([x11]:List (List QY)).length 1),(5,.slice A27 t25.length c28),(33,.bool x230)]∧Ext w w'∧St w' M129 F [B23 b4 t1]) 29 (Ls 45 [0,1,2,3,4,5,6,7,8,9,10,11,12,13,14,15]) ?_ ?_
 rotate_left
 ·intro hrest
  have H:=o231h
  rcases Q3 H with ⟨hb229,H⟩ | ⟨hb229,H⟩
  ·refine WtY 12 J J J (.agg (QF t1)) J (cS hb229) (fun w' h'=>Qi (Y1 h' 0 J) ty23 J (QG J) J J) (⟨M129,Hp.le_refl M129,(S.pk [0])⟩) ?_
   refine Wo 13 J ?_
   refine QN (cS hb229) ?_
   obtain ⟨t232,ht233,H⟩:=QO H
   refine ZR fn10 (XL.con ht233) S J J flN (eE4 E ?_)
   rintro _ w234 _ Γ' E S ⟨rfl,rfl⟩
   refine QK (Yl ⟨.inr ⟨M129,Hp.le_refl M129,(S.pk [0])⟩,?_⟩)
   have D10:∃ Mx,Hp.le M129 Mx∧St _ Mx F [_]:=⟨_,Hp.le_refl _,S.pk [0]⟩
   refine tz2 14 J (cS hb229) D10 (xiB J J) (tz0 15 J D10 (xpB hb229 J) ?_)
   exact hrest _ _ ⟨(t232==(93:Int)),oi H,agP J,E,S.pk [0]⟩
  ·have D11:∃ Mx,Hp.le M129 Mx∧St _ Mx F [_]:=⟨_,Hp.le_refl _,S.pk [0]⟩
   refine tz4 12 J (skT hb229) D11 (tz4 13 J (skT hb229) D11 (tz4 14 J (skT hb229) D11 (tz0 15 J D11 (xqB hb229 J) ?_)))
   exact hrest _ _ ⟨false,oi H,agP J,E,S.pk [0]⟩
 rintro ρ w235 ⟨x230,rfl,hρ,E,S⟩
 rw [QB hρ]
 have H:=o231H
 refine tz0 16 J (⟨M129,Hp.le_refl M129,(S.pk [0])⟩) (xmB J) ?_
 obtain ⟨o241,o241h,o241H⟩:=QO H
 refine YB (fun ρ w'=>∃ (x240:Bool),(x240)=o241∧QV ρ [(0,.bool false),(1,pt b4 0),(2,.slice (some ⟨b16,0,none⟩) ([x11]:List (List QY)).length 1),(5,.slice A27 t25.length c28),(38,.bool x240)]∧Ext w w'∧St w' M129 F [B23 b4 t1]) 24 (Ls 45 [0,1,2,3,4,5,6,7,8,9,10,11,12,13,14,15,16,17,18,19,20]) ?_ ?_
 rotate_left
 ·intro hrest
  have H:=o241h
  rcases Q3 H with ⟨hb239,H⟩ | ⟨hb239,H⟩
  ·refine WtY 17 J J J (.agg (QF t1)) J (cS hb239) (fun w' h'=>Qi (Y1 h' 0 J) ty23 J (QG J) J J) (⟨M129,Hp.le_refl M129,(S.pk [0])⟩) ?_
   refine Wo 18 J ?_
   refine QN (cS hb239) ?_
   obtain ⟨t242,ht243,H⟩:=QO H
   refine ZR fn10 (XL.con ht243) S J J flN (eE4 E ?_)
   rintro _ w244 _ Γ' E S ⟨rfl,rfl⟩
   refine QK (Yl ⟨.inr ⟨M129,Hp.le_refl M129,(S.pk [0])⟩,?_⟩)
   have D14:∃ Mx,Hp.le M129 Mx∧St _ Mx F [_]:=⟨_,Hp.le_refl _,S.pk [0]⟩
   refine tz2 19 J (cS hb239) D14 (xiB J J) (tz0 20 J D14 (xpB hb239 J) ?_)
   exact hrest _ _ ⟨(t242==(97:Int)),oi H,agP J,E,S.pk [0]⟩
  ·have D15:∃ Mx,Hp.le M129 Mx∧St _ Mx F [_]:=⟨_,Hp.le_refl _,S.pk [0]⟩
   refine tz4 17 J (skT hb239) D15 (tz4 18 J (skT hb239) D15 (tz4 19 J (skT hb239) D15 (tz0 20 J D15 (xqB hb239 J) ?_)))
   exact hrest _ _ ⟨false,oi H,agP J,E,S.pk [0]⟩
 rintro ρ w245 ⟨x240,rfl,hρ,E,S⟩
 rw [QB hρ]
 have H:=o241H
 refine tz0 21 J (⟨M129,Hp.le_refl M129,(S.pk [0])⟩) (xmB J) ?_
 obtain ⟨o251,o251h,o251H⟩:=QO H
 refine YB (fun ρ w'=>∃ (x250:Bool),(x250)=o251∧QV ρ [(0,.bool false),(1,pt b4 0),(2,.slice (some ⟨b16,0,none⟩) ([x11]:List (List QY)).length 1),(5,.slice A27 t25.length c28),(43,.bool x250)]∧Ext w w'∧St w' M129 F [B23 b4 t1]) 19 (Ls 45 [0,1,2,3,4,5,6,7,8,9,10,11,12,13,14,15,16,17,18,19,20,21,22,23,24,25]) ?_ ?_
 rotate_left
 ·intro hrest
  have H:=o251h
  rcases Q3 H with ⟨hb249,H⟩ | ⟨hb249,H⟩
  ·refine WtY 22 J J J (.agg (QF t1)) J (cS hb249) (fun w' h'=>Qi (Y1 h' 0 J) ty23 J (QG J) J J) (⟨M129,Hp.le_refl M129,(S.pk [0])⟩) ?_
   refine Wo 23 J ?_
   refine QN (cS hb249) ?_
   obtain ⟨t252,ht253,H⟩:=QO H
   refine ZR fn10 (XL.con ht253) S J J flN (eE4 E ?_)
   rintro _ w254 _ Γ' E S ⟨rfl,rfl⟩
   refine QK (Yl ⟨.inr ⟨M129,Hp.le_refl M129,(S.pk [0])⟩,?_⟩)
   have D18:∃ Mx,Hp.le M129 Mx∧St _ Mx F [_]:=⟨_,Hp.le_refl _,S.pk [0]⟩
   refine tz2 24 J (cS hb249) D18 (xiB J J) (tz0 25 J D18 (xpB hb249 J) ?_)
   exact hrest _ _ ⟨(t252==(215:Int)),oi H,agP J,E,S.pk [0]⟩
  ·have D19:∃ Mx,Hp.le M129 Mx∧St _ Mx F [_]:=⟨_,Hp.le_refl _,S.pk [0]⟩
   refine tz4 22 J (skT hb249) D19 (tz4 23 J (skT hb249) D19 (tz4 24 J (skT hb249) D19 (tz0 25 J D19 (xqB hb249 J) ?_)))
   exact hrest _ _ ⟨false,oi H,agP J,E,S.pk [0]⟩
 rintro ρ w255 ⟨x250,rfl,hρ,E,S⟩
 rw [QB hρ]
 have H:=o251H
 refine tz0 26 J (⟨M129,Hp.le_refl M129,(S.pk [0])⟩) (xmB J) ?_
 obtain ⟨o261,o261h,o261H⟩:=QO H
 refine YB (fun ρ w'=>∃ (x260:Bool),(x260)=o261∧QV ρ [(0,.bool false),(1,pt b4 0),(2,.slice (some ⟨b16,0,none⟩) ([x11]:List (List QY)).length 1),(5,.slice A27 t25.length c28),(48,.bool x260)]∧Ext w w'∧St w' M129 F [B23 b4 t1]) 14 (Ls 45 [0,1,2,3,4,5,6,7,8,9,10,11,12,13,14,15,16,17,18,19,20,21,22,23,24,25,26,27,28,29,30]) ?_ ?_
 rotate_left
 ·intro hrest
  have H:=o261h
  rcases Q3 H with ⟨hb259,H⟩ | ⟨hb259,H⟩
  ·refine WtY 27 J J J (.agg (QF t1)) J (cS hb259) (fun w' h'=>Qi (Y1 h' 0 J) ty23 J (QG J) J J) (⟨M129,Hp.le_refl M129,(S.pk [0])⟩) ?_
   refine Wo 28 J ?_
   refine QN (cS hb259) ?_
   obtain ⟨t262,ht263,H⟩:=QO H
   refine ZR fn12 (Xo.con ht263) S J J flN (eE4 E ?_)
   rintro _ w264 _ Γ' E S ⟨rfl,rfl⟩
   refine QK (Yl ⟨.inr ⟨M129,Hp.le_refl M129,(S.pk [0])⟩,?_⟩)
   have D22:∃ Mx,Hp.le M129 Mx∧St _ Mx F [_]:=⟨_,Hp.le_refl _,S.pk [0]⟩
   refine tz2 29 J (cS hb259) D22 (xiB J J) (tz0 30 J D22 (xpB hb259 J) ?_)
   exact hrest _ _ ⟨(t262==(215:Int)),oi H,agP J,E,S.pk [0]⟩
  ·have D23:∃ Mx,Hp.le M129 Mx∧St _ Mx F [_]:=⟨_,Hp.le_refl _,S.pk [0]⟩
   refine tz4 27 J (skT hb259) D23 (tz4 28 J (skT hb259) D23 (tz4 29 J (skT hb259) D23 (tz0 30 J D23 (xqB hb259 J) ?_)))
   exact hrest _ _ ⟨false,oi H,agP J,E,S.pk [0]⟩
 rintro ρ w265 ⟨x260,rfl,hρ,E,S⟩
 rw [QB hρ]
 have H:=o261H
 refine tz0 31 J (⟨M129,Hp.le_refl M129,(S.pk [0])⟩) (xmB J) ?_
 obtain ⟨o276,o276h,o276H⟩:=QO H
 refine YB (fun ρ w'=>∃ (x275:Bool),(x275)=o276∧QV ρ [(0,.bool false),(1,pt b4 0),(2,.slice (some ⟨b16,0,none⟩) ([x11]:List (List QY)).length 1),(5,.slice A27 t25.length c28),(55,.bool x275)]∧Ext w w'∧St w' M129 F [B23 b4 t1]) 7 (Ls 45 [0,1,2,3,4,5,6,7,8,9,10,11,12,13,14,15,16,17,18,19,20,21,22,23,24,25,26,27,28,29,30,31,32,33,34,35,36,37]) ?_ ?_
 rotate_left
 ·intro hrest
  have H:=o276h
  rcases Q3 H with ⟨hb274,H⟩ | ⟨hb274,H⟩
  ·have D25:∃ Mx,Hp.le M129 Mx∧St _ Mx F [_]:=⟨_,Hp.le_refl _,S.pk [0]⟩
   refine WtY 32 J J J (.agg (QF t1)) J (cS hb274) (fun w' h'=>Qi (Y1 h' 0 J) ty23 J (QG J) J J) D25 (tz2 33 J (cS hb274) D25 (xmL J) (tz2 34 J (cS hb274) D25 (xmL J) ?_))
   obtain ⟨⟨p277,p278⟩,H⟩:=Z8 H
   obtain ⟨hs280,hx281⟩:=sl_hi hf131 p277 p278
   refine WtY 35 J J J (.slice A27 (List.take (5:Int).toNat t25).length c28) J (cS hb274) (fun w' h'=>hx281 Tryz.underlying25 ty40 J J) D25 ?_
   refine Wo 36 J ?_
   refine QN (cS hb274) ?_
   obtain ⟨t282,ht283,H⟩:=QO H
   refine ZR fn16 (Xd.con ht283 hf24 hs280 hg0 hg1) S J J flN (eE4 E ?_)
   rintro _ w284 _ Γ' E S ⟨rfl,rfl⟩
   refine QK (Yl ⟨.inr ⟨M129,Hp.le_refl M129,(S.pk [0])⟩,?_⟩)
   refine tz0 37 J (⟨M129,Hp.le_refl M129,(S.pk [0])⟩) (xpB hb274 J) ?_
   exact hrest _ _ ⟨t282,oi H,agP J,E,S.pk [0]⟩
  ·have D27:∃ Mx,Hp.le M129 Mx∧St _ Mx F [_]:=⟨_,Hp.le_refl _,S.pk [0]⟩
   refine tz4 32 J (skT hb274) D27 (tz4 33 J (skT hb274) D27 (tz4 34 J (skT hb274) D27 (tz4 35 J (skT hb274) D27 (tz4 36 J (skT hb274) D27 (tz0 37 J D27 (xqB hb274 J) ?_)))))
   exact hrest _ _ ⟨false,oi H,agP J,E,S.pk [0]⟩
 rintro ρ w285 ⟨x275,rfl,hρ,E,S⟩
 rw [QB hρ]
 have H:=o276H
 refine tz0 38 J (⟨M129,Hp.le_refl M129,(S.pk [0])⟩) (xmB J) ?_
 obtain ⟨o291,o291h,o291H⟩:=QO H
 refine YB (fun ρ w'=>∃ (x290:Bool),(x290)=o291∧QV ρ [(0,.bool false),(61,.bool x290)]∧Ext w w'∧St w' M129 F [B23 b4 t1]) 1 (Ls 45 [0,1,2,3,4,5,6,7,8,9,10,11,12,13,14,15,16,17,18,19,20,21,22,23,24,25,26,27,28,29,30,31,32,33,34,35,36,37,38,39,40,41,42,43]) ?_ ?_
 rotate_left
 ·intro hrest
  have H:=o291h
  rcases Q3 H with ⟨hb289,H⟩ | ⟨hb289,H⟩
  ·have D29:∃ Mx,Hp.le M129 Mx∧St _ Mx F [_]:=⟨_,Hp.le_refl _,S.pk [0]⟩
   refine WtY 39 J J J (.agg (QF t1)) J (cS hb289) (fun w' h'=>Qi (Y1 h' 0 J) ty23 J (QG J) J J) D29 (tz2 40 J (cS hb289) D29 (xmL J) (tz2 41 J (cS hb289) D29 (xmL J) ?_))
   refine Wo 42 J ?_
   refine QN (cS hb289) ?_
   obtain ⟨t292,ht293,H⟩:=QO H
   refine ZR fn16 (Xd.con ht293 hf24 hf131 hg0 hg1) S J J flN (eE4 E ?_)
   rintro _ w294 _ Γ' E S ⟨rfl,rfl⟩
   refine QK (Yl ⟨.inr ⟨M129,Hp.le_refl M129,(S.pk [0])⟩,?_⟩)
   refine tz0 43 J (⟨M129,Hp.le_refl M129,(S.pk [0])⟩) (xpB hb289 J) ?_
   exact hrest _ _ ⟨t292,oi H,agP J,E,S.pk [0]⟩
  ·have D31:∃ Mx,Hp.le M129 Mx∧St _ Mx F [_]:=⟨_,Hp.le_refl _,S.pk [0]⟩
   refine tz4 39 J (skT hb289) D31 (tz4 40 J (skT hb289) D31 (tz4 41 J (skT hb289) D31 (tz4 42 J (skT hb289) D31 (tz0 43 J D31 (xqB hb289 J) ?_))))
   exact hrest _ _ ⟨false,oi H,agP J,E,S.pk [0]⟩
 rintro ρ w295 ⟨x290,rfl,hρ,E,S⟩
 rw [QB hρ]
 have H:=o291H
 refine tz0 44 J (⟨M129,Hp.le_refl M129,(S.pk [0])⟩) (xaB J) ?_
 refine Wz ?_
 refine tn ?_
 refine QT ?_
 obtain rfl:=oi H
 exact ⟨_,_,_,rsA (vs:=[_]) J,HM,E,S.pk [],⟨J,J⟩⟩
def Q0 (k:Nat) (a0:Int) (a1:Int) (a2:Int):Option (Bool) :=
 some ((decide (a0≥a1))&&(decide (a0≤a2)))
theorem Q0.mono {k a0 a1 a2}: OLe (Q0 k a0 a1 a2) (Q0 (k+1) a0 a1 a2):=by
 unfold Q0
 exact mo
theorem Q0.con {k M} {a0:Int} {a1:Int} {a2:Int} {r:Bool} (h:Q0 k a0 a1 a2=some r): Con Tryz.prog 31 #[vI a0,vI a1,vI a2] M [] (fun v M' Γ'=>v=.bool r∧Γ'=[]):=by
 refine cwA Tryz.func31 J Tryz.ntmps31 Tryz.results31 J h ?_
 intro w F rn S hrn E HM H
 unfold Q0 at H
 refine wsQ (waB J (wnQ (wsQ (wmI J (wmI J (wiB J J (wmB J ?_)))))))
 refine ZO 4 (fun ρ w'=>QV ρ [(14,.bool ((decide (a0≥a1))&&(decide (a0≤a2))))]∧w=w') ?_ ?_
 ·rcases Qy (decide (a0≥a1)) with hb1 | hb1
  ·refine QZ (skT hb1) J (QZ (skT hb1) J (QZ (skT hb1) J (wqB hb1 J (QK ?_))))
   exact ⟨⟨(flB hb1),trivial⟩,rfl⟩
  ·refine QN (cS hb1) (wmI J (QN (cS hb1) (wmI J (QN (cS hb1) (wiB J J (wpB hb1 J (QK ?_)))))))
   exact ⟨⟨(flB hb1),trivial⟩,rfl⟩
 rintro ρ _ ⟨hρ,rfl⟩
 rw [QB hρ]
 refine waB J (wnQ ?_)
 refine QT ?_
 obtain rfl:=oi H
 exact ⟨_,_,_,rsA (vs:=[_]) J,HM,E,S.pk [],⟨J,J⟩⟩
def ZV (k:Nat) (a0:QI):Option (Bool) :=
 (Option.bind (Q0 k a0.Tasks (1:Int) (6:Int)) (fun t4=>(Option.bind (α:=Bool) (if t4=true then (Option.bind (Q0 k a0.Active (1:Int) (8:Int)) (fun t16=>some (t16))) else some (false)) (fun x14=>(Option.bind (α:=Bool) (if x14=true then (Option.bind (Q0 k a0.Keys (1:Int) (64:Int)) (fun t29=>some (t29))) else some (false)) (fun x27=>(Option.bind (α:=Bool) (if x27=true then (Option.bind (Q0 k a0.Depth (2:Int) (8:Int)) (fun t42=>some (t42))) else some (false)) (fun x40=>(Option.bind (α:=Bool) (if x40=true then (Option.bind (Q0 k a0.TS (1:Int) (1048576:Int)) (fun t55=>some (t55))) else some (false)) (fun x53=>(Option.bind (α:=Bool) (if x53=true then (Option.bind (Q0 k a0.KeyLen (1:Int) (64:Int)) (fun t68=>some (t68))) else some (false)) (fun x66=>(Option.bind (α:=Bool) (if x66=true then (Option.bind (Q0 k a0.ValLen (0:Int) (256:Int)) (fun t81=>some (t81))) else some (false)) (fun x79=>(Option.bind (α:=Bool) (if x79=true then (Option.bind (Q0 k a0.Fan (3:Int) (8:Int)) (fun t94=>some (t94))) else some (false)) (fun x92=>some x92))))))))))))))))
theorem ZV.mono {k a0}: OLe (ZV k a0) (ZV (k+1) a0):=by
 unfold ZV
 have m1:=@Q0.mono
 exact mo
theorem ZV.con {k M} {a0:QI} {r:Bool} (h:ZV k a0=some r): Con Tryz.prog 18 #[.agg (QF a0)] M [] (fun v M' Γ'=>v=.bool r∧Γ'=[]):=by
 refine cwA Tryz.func18 J Tryz.ntmps18 Tryz.results18 J h ?_
 intro w F rn S hrn E HM H
 unfold ZV at H
 refine wsQ ?_
 refine Yz S (QF a0) J J J (eE2 E ?_)
 intro b1 w2 E S
 refine waB J (wnQ (wsQ (wfA Tryz.underlying23 ty3 J (wlA S 0 ty3 J ?_))))
 obtain ⟨t4,ht5,H⟩:=QO H
 refine ZR fn31 (Q0.con ht5) S J J flN (eE4 E ?_)
 rintro _ w6 _ Γ' E S ⟨rfl,rfl⟩
 refine wmB J ?_
 obtain ⟨o15,o15h,o15H⟩:=QO H
 refine ZO 4 (fun ρ w'=>∃ (x14:Bool),(x14)=o15∧QV ρ [(1,pt b1 0),(10,.bool x14)]∧Ext w w'∧St w' M F [B23 b1 a0]) ?_ ?_
 ·have H:=o15h
  rcases Q3 H with ⟨hb13,H⟩ | ⟨hb13,H⟩
  ·refine QN (cS hb13) (wfA Tryz.underlying23 ty3 J (QN (cS hb13) (wlA S 0 ty3 J (QN (cS hb13) ?_))))
   obtain ⟨t16,ht17,H⟩:=QO H
   refine ZR fn31 (Q0.con ht17) S J J flN (eE4 E ?_)
   rintro _ w18 _ Γ' E S ⟨rfl,rfl⟩
   refine wpB hb13 J (QK ?_)
   exact ⟨t16,oi H,agP J,E,S.pk [0]⟩
  ·refine QZ (skT hb13) J (QZ (skT hb13) J (QZ (skT hb13) J (wqB hb13 J (QK ?_))))
   exact ⟨false,oi H,agP J,E,S.pk [0]⟩
 as_aux_lemma =>
 rintro ρ w19 ⟨x14,rfl,hρ,E,S⟩
 rw [QB hρ]
 have H:=o15H
 refine wmB J ?_
 obtain ⟨o28,o28h,o28H⟩:=QO H
 refine ZO 4 (fun ρ w'=>∃ (x27:Bool),(x27)=o28∧QV ρ [(1,pt b1 0),(15,.bool x27)]∧Ext w w'∧St w' M F [B23 b1 a0]) ?_ ?_
 ·have H:=o28h
  rcases Q3 H with ⟨hb26,H⟩ | ⟨hb26,H⟩
  ·refine QN (cS hb26) (wfA Tryz.underlying23 ty3 J (QN (cS hb26) (wlA S 0 ty3 J (QN (cS hb26) ?_))))
   obtain ⟨t29,ht30,H⟩:=QO H
   refine ZR fn31 (Q0.con ht30) S J J flN (eE4 E ?_)
   rintro _ w31 _ Γ' E S ⟨rfl,rfl⟩
   refine wpB hb26 J (QK ?_)
   exact ⟨t29,oi H,agP J,E,S.pk [0]⟩
  ·refine QZ (skT hb26) J (QZ (skT hb26) J (QZ (skT hb26) J (wqB hb26 J (QK ?_))))
   exact ⟨false,oi H,agP J,E,S.pk [0]⟩
 as_aux_lemma =>
 rintro ρ w32 ⟨x27,rfl,hρ,E,S⟩
 rw [QB hρ]
 have H:=o28H
 refine wmB J ?_
 obtain ⟨o41,o41h,o41H⟩:=QO H
 refine ZO 4 (fun ρ w'=>∃ (x40:Bool),(x40)=o41∧QV ρ [(1,pt b1 0),(20,.bool x40)]∧Ext w w'∧St w' M F [B23 b1 a0]) ?_ ?_
 ·have H:=o41h
  rcases Q3 H with ⟨hb39,H⟩ | ⟨hb39,H⟩
  ·refine QN (cS hb39) (wfA Tryz.underlying23 ty3 J (QN (cS hb39) (wlA S 0 ty3 J (QN (cS hb39) ?_))))
   obtain ⟨t42,ht43,H⟩:=QO H
   refine ZR fn31 (Q0.con ht43) S J J flN (eE4 E ?_)
   rintro _ w44 _ Γ' E S ⟨rfl,rfl⟩
   refine wpB hb39 J (QK ?_)
   exact ⟨t42,oi H,agP J,E,S.pk [0]⟩
  ·refine QZ (skT hb39) J (QZ (skT hb39) J (QZ (skT hb39) J (wqB hb39 J (QK ?_))))
   exact ⟨false,oi H,agP J,E,S.pk [0]⟩
 as_aux_lemma =>
 rintro ρ w45 ⟨x40,rfl,hρ,E,S⟩
 rw [QB hρ]
 have H:=o41H
 refine wmB J ?_
 obtain ⟨o54,o54h,o54H⟩:=QO H
 refine ZO 4 (fun ρ w'=>∃ (x53:Bool),(x53)=o54∧QV ρ [(1,pt b1 0),(25,.bool x53)]∧Ext w w'∧St w' M F [B23 b1 a0]) ?_ ?_
 ·have H:=o54h
  rcases Q3 H with ⟨hb52,H⟩ | ⟨hb52,H⟩
  ·refine QN (cS hb52) (wfA Tryz.underlying23 ty3 J (QN (cS hb52) (wlA S 0 ty3 J (QN (cS hb52) ?_))))
   obtain ⟨t55,ht56,H⟩:=QO H
   refine ZR fn31 (Q0.con ht56) S J J flN (eE4 E ?_)
   rintro _ w57 _ Γ' E S ⟨rfl,rfl⟩
   refine wpB hb52 J (QK ?_)
   exact ⟨t55,oi H,agP J,E,S.pk [0]⟩
  ·refine QZ (skT hb52) J (QZ (skT hb52) J (QZ (skT hb52) J (wqB hb52 J (QK ?_))))
   exact ⟨false,oi H,agP J,E,S.pk [0]⟩
 as_aux_lemma =>
 rintro ρ w58 ⟨x53,rfl,hρ,E,S⟩
 rw [QB hρ]
 have H:=o54H
 refine wmB J ?_
 obtain ⟨o67,o67h,o67H⟩:=QO H
 refine ZO 4 (fun ρ w'=>∃ (x66:Bool),(x66)=o67∧QV ρ [(1,pt b1 0),(30,.bool x66)]∧Ext w w'∧St w' M F [B23 b1 a0]) ?_ ?_
 ·have H:=o67h
  rcases Q3 H with ⟨hb65,H⟩ | ⟨hb65,H⟩
  ·refine QN (cS hb65) (wfA Tryz.underlying23 ty3 J (QN (cS hb65) (wlA S 0 ty3 J (QN (cS hb65) ?_))))
   obtain ⟨t68,ht69,H⟩:=QO H
   refine ZR fn31 (Q0.con ht69) S J J flN (eE4 E ?_)
   rintro _ w70 _ Γ' E S ⟨rfl,rfl⟩
   refine wpB hb65 J (QK ?_)
   exact ⟨t68,oi H,agP J,E,S.pk [0]⟩
  ·refine QZ (skT hb65) J (QZ (skT hb65) J (QZ (skT hb65) J (wqB hb65 J (QK ?_))))
   exact ⟨false,oi H,agP J,E,S.pk [0]⟩
 as_aux_lemma =>
 rintro ρ w71 ⟨x66,rfl,hρ,E,S⟩
 rw [QB hρ]
 have H:=o67H
 refine wmB J ?_
 obtain ⟨o80,o80h,o80H⟩:=QO H
 refine ZO 4 (fun ρ w'=>∃ (x79:Bool),(x79)=o80∧QV ρ [(1,pt b1 0),(35,.bool x79)]∧Ext w w'∧St w' M F [B23 b1 a0]) ?_ ?_
 ·have H:=o80h
  rcases Q3 H with ⟨hb78,H⟩ | ⟨hb78,H⟩
  ·refine QN (cS hb78) (wfA Tryz.underlying23 ty3 J (QN (cS hb78) (wlA S 0 ty3 J (QN (cS hb78) ?_))))
   obtain ⟨t81,ht82,H⟩:=QO H
   refine ZR fn31 (Q0.con ht82) S J J flN (eE4 E ?_)
   rintro _ w83 _ Γ' E S ⟨rfl,rfl⟩
   refine wpB hb78 J (QK ?_)
   exact ⟨t81,oi H,agP J,E,S.pk [0]⟩
  ·refine QZ (skT hb78) J (QZ (skT hb78) J (QZ (skT hb78) J (wqB hb78 J (QK ?_))))
   exact ⟨false,oi H,agP J,E,S.pk [0]⟩
 rintro ρ w84 ⟨x79,rfl,hρ,E,S⟩
 rw [QB hρ]
 have H:=o80H
 refine wmB J ?_
 obtain ⟨o93,o93h,o93H⟩:=QO H
 refine ZO 4 (fun ρ w'=>∃ (x92:Bool),(x92)=o93∧QV ρ [(40,.bool x92)]∧Ext w w'∧St w' M F []) ?_ ?_
 ·have H:=o93h
  rcases Q3 H with ⟨hb91,H⟩ | ⟨hb91,H⟩
  ·refine QN (cS hb91) (wfA Tryz.underlying23 ty3 J (QN (cS hb91) (wlA S 0 ty3 J (QN (cS hb91) ?_))))
   obtain ⟨t94,ht95,H⟩:=QO H
   refine ZR fn31 (Q0.con ht95) S J J flN (eE4 E ?_)
   rintro _ w96 _ Γ' E S ⟨rfl,rfl⟩
   refine wpB hb91 J (QK ?_)
   exact ⟨t94,oi H,agP J,E,S.pk []⟩
  ·refine QZ (skT hb91) J (QZ (skT hb91) J (QZ (skT hb91) J (wqB hb91 J (QK ?_))))
   exact ⟨false,oi H,agP J,E,S.pk []⟩
 rintro ρ w97 ⟨x92,rfl,hρ,E,S⟩
 rw [QB hρ]
 have H:=o93H
 refine waB J (wnQ ?_)
 refine QT ?_
 obtain rfl:=oi H
 exact ⟨_,_,_,rsA (vs:=[_]) J,HM,E,S.pk [],⟨J,J⟩⟩
def YY (a0:QI):Nat→Int→Int→Int→Option ((Int×Int))
 | 0,_,_,_=>none
 | k+1,x48,x49,x50=>(if (decide (x50<a0.Tasks))=true then (Option.bind (α:=Int) (Option.bind (α:=Int) (if (decide ((IntKind.i64.wrap (a0.Keys*a0.Depth))>(IntKind.i64.wrap (a0.Depth+(1:Int)))))=true then some ((IntKind.i64.wrap (x48+(IntKind.i64.wrap (a0.Keys*a0.Depth))))) else some ((IntKind.i64.wrap ((IntKind.i64.wrap (x48+a0.Depth))+(1:Int))))) (fun x82=>some (x82))) (fun x78=>YY a0 k x78 (IntKind.i64.wrap (x49+(IntKind.i64.wrap (a0.Keys*a0.Depth)))) (IntKind.i64.wrap (x50+(1:Int))))) else some (x48,x49))
theorem YY.mono {a0}: ∀ {kl:Nat} {x0 x1 x2},OLe (YY a0 kl x0 x1 x2) (YY a0 (kl+1) x0 x1 x2):=by
 intro kl
 induction kl with
 | zero=>intros;exact OLe.none
 | succ kl ih =>
  intros
  rw [YY.eq_2,YY.eq_2]
  exact mo
def Yf (k:Nat) (a0:QI):Option (Int×Int) :=
 (Option.bind (ZV k a0) (fun t4=>(if (!t4)=true then some ((0:Int),(0:Int)) else (Option.bind (YY a0 k (IntKind.i64.wrap (a0.Keys*a0.Depth)) a0.Keys (0:Int)) (fun ⟨x67,x68⟩=>some (x67,x68))))))
theorem Yf.mono {k a0}: OLe (Yf k a0) (Yf (k+1) a0):=by
 unfold Yf
 have m1:=@ZV.mono
 have m2:=@YY.mono
 exact mo
theorem Yf.con {k M} {a0:QI} {r:Int×Int} (h:Yf k a0=some r): Con Tryz.prog 7 #[.agg (QF a0)] M [] (fun v M' Γ'=>v=.tuple #[vI r.1,vI r.2]∧Γ'=[]):=by
 refine cwA Tryz.func7 J Tryz.ntmps7 Tryz.results7 J h ?_
 intro w F rn S hrn E HM H
 unfold Yf at H
 refine wsQ ?_
 refine Yz S (QF a0) J J J (eE2 E ?_)
 intro b1 w2 E S
 refine waI J (waI J (wnQ (QH (wsQ (W_v (.agg (QF a0)) (Qi (S.blk 0 J) ty23 J (QG J) J J) J ?_)))))
 obtain ⟨t4,ht5,H⟩:=QO H
 refine ZR fn18 (ZV.con ht5) S J J flN (eE4 E ?_)
 rintro _ w6 _ Γ' E S ⟨rfl,rfl⟩
 refine W_v _ (Xr (b:=t4) J) J (wnQ ?_)
 rcases Q3 H with ⟨hb7,H⟩ | ⟨hb7,H⟩
 ·refine QC (cB hb7) ?_
  refine wsQ (waI J (waI J (wnQ ?_)))
  refine QT ?_
  refine tr (?_)
  obtain rfl:=oi H
  exact ⟨_,_,_,rsA (vs:=[_,_]) J,HM,E,S.pk [],⟨J,J⟩⟩
 refine QA (cB hb7) (QX (tn (QH ?_)))
 refine rgA S [0] [_] 9 mixed J (eE1 E ?_)
 intro w8 E S D1
 refine tz0 0 J D1 (xfA Tryz.underlying23 ty3 J) (tz1 1 J D1 (fun w' h'=>xlA h' 0 ty3 J) (tz0 2 J D1 (xfA Tryz.underlying23 ty3 J) (tz1 3 J D1 (fun w' h'=>xlA h' 0 ty3 J) (tz0 4 J D1 (xiI J J) (tz0 5 J D1 (xfA Tryz.underlying23 ty3 J) (tz1 6 J D1 (fun w' h'=>xlA h' 0 ty3 J) (tz0 7 J D1 (xaI J) (tz0 8 J D1 (xaI J) ?_))))))))
 refine Wz ?_
 refine tn ?_
 as_aux_lemma =>
 refine QH (wsQ (waI J (wnQ ?_)))
 obtain ⟨o69,o69h,o69H⟩:=QO H
 refine Zr (fun ρ w'=>∃ (x67:Int) (x68:Int),(x67,x68)=o69∧QV ρ [(4,vI x67),(5,vI x68)]∧Ext w w'∧St w' M F []) ?_ ?_
 ·refine Yr (fun n ρ w'=>∃ (x48:Int) (x49:Int) (x50:Int),YY a0 n x48 x49 x50=some o69∧QV ρ [(1,pt b1 0),(4,vI x48),(5,vI x49),(6,vI x50)]∧Ext w w'∧St w' M F [B23 b1 a0]) k ?_ ?_
  ·exact ⟨(IntKind.i64.wrap (a0.Keys*a0.Depth)),a0.Keys,(0:Int),o69h,agP J,E,S.pk [0]⟩
  ·intro n
   rintro ρ w70 ⟨x48,x49,x50,H,hρ,E,S⟩
   rw [QB hρ]
   cases n with
   | zero=>cases H
   | succ k =>
    rw [YY.eq_2] at H
    refine QH (wsQ (wmI J (wfA Tryz.underlying23 ty3 J (wlA S 0 ty3 J (wiB J J (wnQ ?_))))))
    rcases Q3 H with ⟨hb71,H⟩ | ⟨hb71,H⟩
    ·refine QC (cB hb71) ?_
     refine QX (tn (QH ?_))
     obtain ⟨o79,o79h,o79H⟩:=QO H
     refine Yc (fun ρ w'=>∃ (x78:Int),(x78)=o79∧QV ρ [(1,pt b1 0),(4,vI x78),(5,vI (IntKind.i64.wrap (x49+(IntKind.i64.wrap (a0.Keys*a0.Depth))))),(6,vI x50)]∧Ext w w'∧St w' M F [B23 b1 a0]) ?_ ?_
     ·as_aux_lemma =>
       clear o79H
       have H:=o79h
       refine ZW ?_
       refine wsQ (wmI J (wfA Tryz.underlying23 ty3 J (wlA S 0 ty3 J (wfA Tryz.underlying23 ty3 J (wlA S 0 ty3 J (wiI J J (wiI J J (waI J (wnQ (wsQ (wfA Tryz.underlying23 ty3 J (wlA S 0 ty3 J ?_))))))))))))
       refine wfA Tryz.underlying23 ty3 J (wlA S 0 ty3 J (wiI J J (wfA Tryz.underlying23 ty3 J (wlA S 0 ty3 J (wiI J J (wiB J J (wnQ ?_)))))))
       obtain ⟨o83,o83h,o83H⟩:=QO H
       refine Yc (fun ρ w'=>∃ (x82:Int),(x82)=o83∧QV ρ [(1,pt b1 0),(4,vI x82),(5,vI (IntKind.i64.wrap (x49+(IntKind.i64.wrap (a0.Keys*a0.Depth))))),(6,vI x50)]∧Ext w w'∧St w' M F [B23 b1 a0]) ?_ ?_
       ·clear o83H
        have H:=o83h
        rcases Q3 H with ⟨hb84,H⟩ | ⟨hb84,H⟩
        ·refine QC (cB hb84) ?_
         refine QJ (wmI J (wfA Tryz.underlying23 ty3 J (wlA S 0 ty3 J (wfA Tryz.underlying23 ty3 J (wlA S 0 ty3 J (wiI J J (wiI J J (waI J (wnQ ?_)))))))))
         exact ⟨(IntKind.i64.wrap (x48+(IntKind.i64.wrap (a0.Keys*a0.Depth)))),oi H,agP J,E,S.pk [0]⟩
        refine QA (cB hb84) (QJ (wmI J (wfA Tryz.underlying23 ty3 J (wlA S 0 ty3 J (wiI J J (wiI J J (waI J (wnQ ?_))))))))
        exact ⟨(IntKind.i64.wrap ((IntKind.i64.wrap (x48+a0.Depth))+(1:Int))),oi H,agP J,E,S.pk [0]⟩
       rintro ρ w85 ⟨x82,rfl,hρ,E,S⟩
       rw [QB hρ]
       have H:=o83H
       refine bn (tn ?_)
       exact ⟨x82,oi H,agP J,E,S.pk [0]⟩
     rintro ρ w86 ⟨x78,rfl,hρ,E,S⟩
     rw [QB hρ]
     have H:=o79H
     refine tn (QJ (wmI J (wiI J J (waI J (wnQ ?_)))))
     exact ⟨k,Nat.lt_succ_self k,⟨x78,(IntKind.i64.wrap (x49+(IntKind.i64.wrap (a0.Keys*a0.Depth)))),(IntKind.i64.wrap (x50+(1:Int))),H,agP J,E,S.pk [0]⟩⟩
    refine QA (cB hb71) ?_
    refine YZ ?_
    refine tx (tx (bsm (?_)))
    refine tn ?_
    exact ⟨x48,x49,oi H,agP J,E,S.pk []⟩
 rintro ρ w87 ⟨x67,x68,rfl,hρ,E,S⟩
 rw [QB hρ]
 have H:=o69H
 refine tn ?_
 as_aux_lemma =>
 refine wsQ (wmI J (wmI J (waI J (waI J (wnQ ?_)))))
 refine QT ?_
 obtain rfl:=oi H
 exact ⟨_,_,_,rsA (vs:=[_,_]) J,HM,E,S.pk [],⟨J,J⟩⟩
def XX (k:Nat) (a0:QI) (a1:Str):Option (Bool) :=
 (Option.bind (ZV k a0) (fun t4=>(Option.bind (α:=Bool) (if t4=true then (Option.bind (Q0 k (a1.length:Int) (1:Int) a0.KeyLen) (fun t16=>some (t16))) else some (false)) (fun x14=>some x14))))
theorem XX.mono {k a0 a1}: OLe (XX k a0 a1) (XX (k+1) a0 a1):=by
 unfold XX
 have m1:=@ZV.mono
 have m2:=@Q0.mono
 exact mo
theorem XX.con {k M} {a0:QI} {a1:Str} {r:Bool} (h:XX k a0 a1=some r): Con Tryz.prog 59 #[.agg (QF a0),vS a1] M [] (fun v M' Γ'=>v=.bool r∧Γ'=[]):=by
 refine cwA Tryz.func59 J Tryz.ntmps59 Tryz.results59 J h ?_
 intro w F rn S hrn E HM H
 unfold XX at H
 refine wsQ ?_
 refine Yz S (QF a0) J J J (eE2 E ?_)
 intro b1 w2 E S
 refine waB J (wnQ (wsQ (W_v (.agg (QF a0)) (Qi (S.blk 0 J) ty23 J (QG J) J J) J ?_)))
 obtain ⟨t4,ht5,H⟩:=QO H
 refine ZR fn18 (ZV.con ht5) S J J flN (eE4 E ?_)
 rintro _ w6 _ Γ' E S ⟨rfl,rfl⟩
 refine wmB J ?_
 obtain ⟨o15,o15h,o15H⟩:=QO H
 refine ZO 6 (fun ρ w'=>∃ (x14:Bool),(x14)=o15∧QV ρ [(13,.bool x14)]∧Ext w w'∧St w' M F []) ?_ ?_
 ·have H:=o15h
  rcases Q3 H with ⟨hb13,H⟩ | ⟨hb13,H⟩
  ·refine QN (cS hb13) (wmS J (QN (cS hb13) (W_v _ (VA Tryz.underlying9 J) J (QN (cS hb13) (wfA Tryz.underlying23 ty3 J (QN (cS hb13) (wlA S 0 ty3 J (QN (cS hb13) ?_))))))))
   obtain ⟨t16,ht17,H⟩:=QO H
   refine ZR fn31 (Q0.con ht17) S J J flN (eE4 E ?_)
   rintro _ w18 _ Γ' E S ⟨rfl,rfl⟩
   refine wpB hb13 J (QK ?_)
   exact ⟨t16,oi H,agP J,E,S.pk []⟩
  ·refine QZ (skT hb13) J (QZ (skT hb13) J (QZ (skT hb13) J (QZ (skT hb13) J (QZ (skT hb13) J (wqB hb13 J (QK ?_))))))
   exact ⟨false,oi H,agP J,E,S.pk []⟩
 rintro ρ w19 ⟨x14,rfl,hρ,E,S⟩
 rw [QB hρ]
 have H:=o15H
 refine waB J (wnQ ?_)
 refine QT ?_
 obtain rfl:=oi H
 exact ⟨_,_,_,rsA (vs:=[_]) J,HM,E,S.pk [],⟨J,J⟩⟩
def XE (k:Nat) (a0:QI) (a1:Str):Option (Bool) :=
 (Option.bind (ZV k a0) (fun t4=>(Option.bind (α:=Bool) (if t4=true then (Option.bind (Q0 k (a1.length:Int) (0:Int) a0.ValLen) (fun t16=>some (t16))) else some (false)) (fun x14=>some x14))))
theorem XE.mono {k a0 a1}: OLe (XE k a0 a1) (XE (k+1) a0 a1):=by
 unfold XE
 have m1:=@ZV.mono
 have m2:=@Q0.mono
 exact mo
theorem XE.con {k M} {a0:QI} {a1:Str} {r:Bool} (h:XE k a0 a1=some r): Con Tryz.prog 60 #[.agg (QF a0),vS a1] M [] (fun v M' Γ'=>v=.bool r∧Γ'=[]):=by
 refine cwA Tryz.func60 J Tryz.ntmps60 Tryz.results60 J h ?_
 intro w F rn S hrn E HM H
 unfold XE at H
 refine wsQ ?_
 refine Yz S (QF a0) J J J (eE2 E ?_)
 intro b1 w2 E S
 refine waB J (wnQ (wsQ (W_v (.agg (QF a0)) (Qi (S.blk 0 J) ty23 J (QG J) J J) J ?_)))
 obtain ⟨t4,ht5,H⟩:=QO H
 refine ZR fn18 (ZV.con ht5) S J J flN (eE4 E ?_)
 rintro _ w6 _ Γ' E S ⟨rfl,rfl⟩
 refine wmB J ?_
 obtain ⟨o15,o15h,o15H⟩:=QO H
 refine ZO 6 (fun ρ w'=>∃ (x14:Bool),(x14)=o15∧QV ρ [(13,.bool x14)]∧Ext w w'∧St w' M F []) ?_ ?_
 ·have H:=o15h
  rcases Q3 H with ⟨hb13,H⟩ | ⟨hb13,H⟩
  ·refine QN (cS hb13) (wmS J (QN (cS hb13) (W_v _ (VA Tryz.underlying9 J) J (QN (cS hb13) (wfA Tryz.underlying23 ty3 J (QN (cS hb13) (wlA S 0 ty3 J (QN (cS hb13) ?_))))))))
   obtain ⟨t16,ht17,H⟩:=QO H
   refine ZR fn31 (Q0.con ht17) S J J flN (eE4 E ?_)
   rintro _ w18 _ Γ' E S ⟨rfl,rfl⟩
   refine wpB hb13 J (QK ?_)
   exact ⟨t16,oi H,agP J,E,S.pk []⟩
  ·refine QZ (skT hb13) J (QZ (skT hb13) J (QZ (skT hb13) J (QZ (skT hb13) J (QZ (skT hb13) J (wqB hb13 J (QK ?_))))))
   exact ⟨false,oi H,agP J,E,S.pk []⟩
 rintro ρ w19 ⟨x14,rfl,hρ,E,S⟩
 rw [QB hρ]
 have H:=o15H
 refine waB J (wnQ ?_)
 refine QT ?_
 obtain rfl:=oi H
 exact ⟨_,_,_,rsA (vs:=[_]) J,HM,E,S.pk [],⟨J,J⟩⟩
def Yq (k:Nat) (a0:QI) (a1:Str):Option (Bool) :=
 (Option.bind (ZV k a0) (fun t4=>(Option.bind (α:=Bool) (if t4=true then (Option.bind (Q0 k (a1.length:Int) (0:Int) a0.KeyLen) (fun t16=>some (t16))) else some (false)) (fun x14=>some x14))))
theorem Yq.mono {k a0 a1}: OLe (Yq k a0 a1) (Yq (k+1) a0 a1):=by
 unfold Yq
 have m1:=@ZV.mono
 have m2:=@Q0.mono
 exact mo
theorem Yq.con {k M} {a0:QI} {a1:Str} {r:Bool} (h:Yq k a0 a1=some r): Con Tryz.prog 61 #[.agg (QF a0),vS a1] M [] (fun v M' Γ'=>v=.bool r∧Γ'=[]):=by
 refine cwA Tryz.func61 J Tryz.ntmps61 Tryz.results61 J h ?_
 intro w F rn S hrn E HM H
 unfold Yq at H
 refine wsQ ?_
 refine Yz S (QF a0) J J J (eE2 E ?_)
 intro b1 w2 E S
 refine waB J (wnQ (wsQ (W_v (.agg (QF a0)) (Qi (S.blk 0 J) ty23 J (QG J) J J) J ?_)))
 obtain ⟨t4,ht5,H⟩:=QO H
 refine ZR fn18 (ZV.con ht5) S J J flN (eE4 E ?_)
 rintro _ w6 _ Γ' E S ⟨rfl,rfl⟩
 refine wmB J ?_
 obtain ⟨o15,o15h,o15H⟩:=QO H
 refine ZO 6 (fun ρ w'=>∃ (x14:Bool),(x14)=o15∧QV ρ [(13,.bool x14)]∧Ext w w'∧St w' M F []) ?_ ?_
 ·have H:=o15h
  rcases Q3 H with ⟨hb13,H⟩ | ⟨hb13,H⟩
  ·refine QN (cS hb13) (wmS J (QN (cS hb13) (W_v _ (VA Tryz.underlying9 J) J (QN (cS hb13) (wfA Tryz.underlying23 ty3 J (QN (cS hb13) (wlA S 0 ty3 J (QN (cS hb13) ?_))))))))
   obtain ⟨t16,ht17,H⟩:=QO H
   refine ZR fn31 (Q0.con ht17) S J J flN (eE4 E ?_)
   rintro _ w18 _ Γ' E S ⟨rfl,rfl⟩
   refine wpB hb13 J (QK ?_)
   exact ⟨t16,oi H,agP J,E,S.pk []⟩
  ·refine QZ (skT hb13) J (QZ (skT hb13) J (QZ (skT hb13) J (QZ (skT hb13) J (QZ (skT hb13) J (wqB hb13 J (QK ?_))))))
   exact ⟨false,oi H,agP J,E,S.pk []⟩
 rintro ρ w19 ⟨x14,rfl,hρ,E,S⟩
 rw [QB hρ]
 have H:=o15H
 refine waB J (wnQ ?_)
 refine QT ?_
 obtain rfl:=oi H
 exact ⟨_,_,_,rsA (vs:=[_]) J,HM,E,S.pk [],⟨J,J⟩⟩
def Yg (a0:(List QU)) (a1:Int):Nat→Int→Option ((Int)⊕(Unit))
 | 0,_=>none
 | k+1,x27=>(if (decide (x27<(a0.length:Int)))=true then (if 0≤x27∧x27<(a0.length:Int) then (if (decide ((rd a0 x27).TS≤a1))=true then some (.inl x27) else Yg a0 a1 k (IntKind.i64.wrap (x27+(1:Int)))) else none) else some (.inr ()))
theorem Yg.mono {a0 a1}: ∀ {kl:Nat} {x0},OLe (Yg a0 a1 kl x0) (Yg a0 a1 (kl+1) x0):=by
 intro kl
 induction kl with
 | zero=>intros;exact OLe.none
 | succ kl ih =>
  intros
  rw [Yg.eq_2,Yg.eq_2]
  exact mo
def Ym (k:Nat) (a0:(List QU)) (a1:Int):Option (Int) :=
 (Option.bind (Yg a0 a1 k (0:Int)) (fun o40o=>Sum.elim (fun r'=>some r') (fun _=>some (a0.length:Int)) o40o))
theorem Ym.mono {k a0 a1}: OLe (Ym k a0 a1) (Ym (k+1) a0 a1):=by
 unfold Ym
 have m1:=@Yg.mono
 exact mo
theorem Ym.con {k M A0 c0} {a0:(List QU)} {a1:Int} {r:Int} (h:Ym k a0 a1=some r) (hr0:SlR ZL M (.slice A0 a0.length c0) a0): Con Tryz.prog 81 #[.slice A0 a0.length c0,vI a1] M [] (fun v M' Γ'=>v=vI r∧Γ'=[]):=by
 refine cwA Tryz.func81 J Tryz.ntmps81 Tryz.results81 J h ?_
 intro w F rn S hrn E HM H
 unfold Ym at H
 refine wsQ (waI J (wnQ (QH (wsQ (waI J (wnQ ?_))))))
 obtain ⟨o40,o40h,o40H⟩:=QO H
 refine Zr (fun ρ w'=>.inr ()=o40∧QV ρ [(0,.slice A0 a0.length c0)]∧Ext w w'∧St w' M F []) ?_ ?_
 ·refine Yr (fun n ρ w'=>∃ (x27:Int),Yg a0 a1 n x27=some o40∧QV ρ [(0,.slice A0 a0.length c0),(1,vI a1),(5,vI x27)]∧Ext w w'∧St w' M F []) k ?_ ?_
  ·exact ⟨(0:Int),o40h,agP J,E,S.pk []⟩
  ·intro n
   rintro ρ w41 ⟨x27,H,hρ,E,S⟩
   rw [QB hρ]
   cases n with
   | zero=>cases H
   | succ k =>
    rw [Yg.eq_2] at H
    refine QH (wsQ (wmI J (wmL J (W_v _ (Qm (n:=a0.length) Tryz.underlying86 J) J (wiB J J (wnQ ?_))))))
    rcases Q3 H with ⟨hb42,H⟩ | ⟨hb42,H⟩
    ·refine QC (cB hb42) ?_
     refine QX (tn (QH ?_))
     refine ZW ?_
     refine wsQ (wmL J (wmI J ?_))
     obtain ⟨⟨p43,p44⟩,H⟩:=Z8 H
     obtain ⟨b45,o46,cs47,_,_,ee52,hb48,vs49,hR50,hc51⟩:=SlW.at' hr0 p43 p44
     obtain rfl:vs49=_:=hR50
     refine W_v _ (QS Tryz.underlying86 ty88 (slA ee52) J p43 p44) J (wfA Tryz.underlying88 ty3 J (W_v _ (Z0 (S.frz hb48) ty3 J (hc51 1 _ J)) J (wmI J (wiB J J (wnQ ?_)))))
     rcases Q3 H with ⟨hb53,H⟩ | ⟨hb53,H⟩
     ·refine QC (cB hb53) ?_
      refine wsQ (wmI J (waI J (wnQ ?_)))
      refine QT ?_
      refine br (tr (tr (br (tr (tr (?_))))))
      obtain rfl:=oi H
      have H:=o40H
      replace H:=elimL H
      obtain rfl:=oi H
      exact ⟨_,_,_,rsA (vs:=[_]) J,HM,E,S.pk [],⟨J,J⟩⟩
     refine QA (cB hb53) (QX (bn (tn (QJ (wmI J (wiI J J (waI J (wnQ ?_))))))))
     exact ⟨k,Nat.lt_succ_self k,⟨(IntKind.i64.wrap (x27+(1:Int))),H,agP J,E,S.pk []⟩⟩
    refine QA (cB hb42) ?_
    refine YZ ?_
    refine tx (tx (bsm (?_)))
    refine tn ?_
    exact ⟨oi H,agP J,E,S.pk []⟩
 rintro ρ w54 ⟨rfl,hρ,E,S⟩
 rw [QB hρ]
 have H:=o40H
 replace H:=elimR H
 refine tn ?_
 as_aux_lemma =>
 refine wsQ (wmL J (W_v _ (Qm (n:=a0.length) Tryz.underlying86 J) J (waI J (wnQ ?_))))
 refine QT ?_
 obtain rfl:=oi H
 exact ⟨_,_,_,rsA (vs:=[_]) J,HM,E,S.pk [],⟨J,J⟩⟩
def Yn (k:Nat) (a0:(List QU)) (a1:Int):Option (QU×Bool) :=
 (Option.bind (Ym k a0 a1) (fun t4=>(Option.bind (α:=Bool) (if (t4==(a0.length:Int))=true then some (true) else (if 0≤t4∧t4<(a0.length:Int) then some ((rd a0 t4).Tomb) else none)) (fun x28=>(if x28=true then some ((⟨(0:Int),(0:Int),false,([]:Str)⟩:QU),false) else (if 0≤t4∧t4<(a0.length:Int) then some ((rd a0 t4),true) else none))))))
theorem Yn.mono {k a0 a1}: OLe (Yn k a0 a1) (Yn (k+1) a0 a1):=by
 unfold Yn
 have m1:=@Ym.mono
 exact mo
theorem Yn.con {k M A0 c0} {a0:(List QU)} {a1:Int} {r:QU×Bool} (h:Yn k a0 a1=some r) (hr0:SlR ZL M (.slice A0 a0.length c0) a0): Con Tryz.prog 62 #[.slice A0 a0.length c0,vI a1] M [] (fun v M' Γ'=>v=.tuple #[.agg (Y4 r.1),.bool r.2]∧Γ'=[]):=by
 refine cwA Tryz.func62 J Tryz.ntmps62 Tryz.results62 J h ?_
 intro w F rn S hrn E HM H
 unfold Yn at H
 refine wsQ ?_
 refine YN S cz18 ty88 J J (eE2 E ?_)
 intro b1 w2 E S
 refine waB J (wnQ (wsQ (wmL J (wmI J ?_))))
 obtain ⟨t4,ht5,H⟩:=QO H
 refine ZR fn81 (Ym.con ht5 hr0) S J J flN (eE4 E ?_)
 rintro _ w6 _ Γ' E S ⟨rfl,rfl⟩
 refine waI J (wnQ (QH (wsQ (wmI J (wmL J (W_v _ (Qm (n:=a0.length) Tryz.underlying86 J) J (wiB J J (wmB J ?_))))))))
 obtain ⟨o29,o29h,o29H⟩:=QO H
 refine ZO 6 (fun ρ w'=>∃ (x28:Bool),(x28)=o29∧QV ρ [(0,.slice A0 a0.length c0),(4,pt b1 0),(6,vI t4),(20,.bool x28)]∧Ext w w'∧St w' M F [Blk b1 (.cells cz18 88 (0,0))]) ?_ ?_
 ·have H:=o29h
  rcases Q3 H with ⟨hb27,H⟩ | ⟨hb27,H⟩
  ·refine QZ (skF hb27) J (QZ (skF hb27) J (QZ (skF hb27) J (QZ (skF hb27) J (QZ (skF hb27) J (wpB hb27 J (QK ?_))))))
   exact ⟨true,oi H,agP J,E,S.pk [0]⟩
  ·refine QN (cS hb27) (wmL J (QN (cS hb27) (wmI J (QN (cS hb27) ?_))))
   obtain ⟨⟨p30,p31⟩,H⟩:=Z8 H
   obtain ⟨b32,o33,cs34,_,_,ee39,hb35,vs36,hR37,hc38⟩:=SlW.at' hr0 p30 p31
   obtain rfl:vs36=_:=hR37
   refine W_v _ (QS Tryz.underlying86 ty88 (slA ee39) J p30 p31) J (QN (cS hb27) (wfA Tryz.underlying88 ty4 J (QN (cS hb27) (W_v _ (Z0 (S.frz hb35) ty4 J (hc38 2 _ J)) J (wqB hb27 J (QK ?_))))))
   exact ⟨((rd a0 t4).Tomb),oi H,agP J,E,S.pk [0]⟩
 as_aux_lemma =>
 rintro ρ w40 ⟨x28,rfl,hρ,E,S⟩
 rw [QB hρ]
 have H:=o29H
 refine wnQ ?_
 rcases Q3 H with ⟨hb41,H⟩ | ⟨hb41,H⟩
 ·refine QC (cB hb41) ?_
  refine wsQ (W_v _ (xb2 [(0,1),(1,1),(2,1),(3,1)] cz18 Tryz.underlying88 ty88 J) J ?_)
  refine Qu S 0 J ty88 J J [vI 0,vI 0,.bool false,vS ([]:Str)] J J J cz18 J J (eE1 E ?_)
  intro w42 E S
  refine waB J (wnQ ?_)
  refine QT ?_
  refine tr (?_)
  obtain rfl:=oi H
  exact ⟨_,_,_,fun w1 e1=>Zg (vs:=[.agg cz18,.bool false]) (FA.cons (rcA S e1 0 ty88 J J J) (FA.cons (J) (FA.nil))),HM,E,S.pk [],⟨J,J⟩⟩
 refine QA (cB hb41) (QX (tn (wsQ (wmL J (wmI J ?_)))))
 obtain ⟨⟨p43,p44⟩,H⟩:=Z8 H
 obtain ⟨b45,o46,cs47,_,_,ee52,hb48,vs49,hR50,hc51⟩:=SlW.at' hr0 p43 p44
 obtain rfl:vs49=_:=hR50
 refine W_v _ (QS Tryz.underlying86 ty88 (slA ee52) J p43 p44) J (W_v (.agg (Y4 (rd a0 t4))) (Qi (S.frz hb48) ty88 J (X1 hc51 0 J) J J) J ?_)
 refine Qu S 0 J ty88 J J [vI ((rd a0 t4).Writer),vI ((rd a0 t4).TS),.bool ((rd a0 t4).Tomb),vS ((rd a0 t4).Value)] J J J (Y4 (rd a0 t4)) J J (eE1 E ?_)
 intro w53 E S
 refine waB J (wnQ ?_)
 refine QT ?_
 obtain rfl:=oi H
 exact ⟨_,_,_,fun w1 e1=>Zg (vs:=[.agg (Y4 (rd a0 t4)),.bool true]) (FA.cons (rcA S e1 0 ty88 J J J) (FA.cons (J) (FA.nil))),HM,E,S.pk [],⟨J,J⟩⟩
def Y5 (k:Nat) (a0:(List QU)) (a1:Int):Option (Bool) :=
 (Option.bind (α:=Bool) (if (decide ((a0.length:Int)>(0:Int)))=true then (if 0≤(0:Int)∧(0:Int)<(a0.length:Int) then some ((decide ((rd a0 (0:Int)).TS>a1))) else none) else some (false)) (fun x22=>some x22))
theorem Y5.mono {k a0 a1}: OLe (Y5 k a0 a1) (Y5 (k+1) a0 a1):=by
 unfold Y5
 exact mo
theorem Y5.con {k M A0 c0} {a0:(List QU)} {a1:Int} {r:Bool} (h:Y5 k a0 a1=some r) (hr0:SlR ZL M (.slice A0 a0.length c0) a0): Con Tryz.prog 63 #[.slice A0 a0.length c0,vI a1] M [] (fun v M' Γ'=>v=.bool r∧Γ'=[]):=by
 refine cwA Tryz.func63 J Tryz.ntmps63 Tryz.results63 J h ?_
 intro w F rn S hrn E HM H
 unfold Y5 at H
 refine wsQ (waB J (wnQ (wsQ (wmL J (W_v _ (Qm (n:=a0.length) Tryz.underlying86 J) J (wiB J J (wmB J ?_)))))))
 obtain ⟨o23,o23h,o23H⟩:=QO H
 refine ZO 7 (fun ρ w'=>∃ (x22:Bool),(x22)=o23∧QV ρ [(15,.bool x22)]∧Ext w w'∧St w' M F []) ?_ ?_
 ·have H:=o23h
  rcases Q3 H with ⟨hb21,H⟩ | ⟨hb21,H⟩
  ·refine QN (cS hb21) (wmL J (QN (cS hb21) ?_))
   obtain ⟨⟨p24,p25⟩,H⟩:=Z8 H
   obtain ⟨b26,o27,cs28,_,_,ee33,hb29,vs30,hR31,hc32⟩:=SlW.at' hr0 p24 p25
   obtain rfl:vs30=_:=hR31
   refine W_v _ (QS Tryz.underlying86 ty88 (slA ee33) J p24 p25) J (QN (cS hb21) (wfA Tryz.underlying88 ty3 J (QN (cS hb21) (W_v _ (Z0 (S.frz hb29) ty3 J (hc32 1 _ J)) J (QN (cS hb21) (wmI J (QN (cS hb21) (wiB J J (wpB hb21 J (QK ?_))))))))))
   exact ⟨(decide ((rd a0 (0:Int)).TS>a1)),oi H,agP J,E,S.pk []⟩
  ·refine QZ (skT hb21) J (QZ (skT hb21) J (QZ (skT hb21) J (QZ (skT hb21) J (QZ (skT hb21) J (QZ (skT hb21) J (wqB hb21 J (QK ?_)))))))
   exact ⟨false,oi H,agP J,E,S.pk []⟩
 rintro ρ w34 ⟨x22,rfl,hρ,E,S⟩
 rw [QB hρ]
 have H:=o23H
 refine waB J (wnQ ?_)
 refine QT ?_
 obtain rfl:=oi H
 exact ⟨_,_,_,rsA (vs:=[_]) J,HM,E,S.pk [],⟨J,J⟩⟩
def Z5 (a0:Str) (a1:Str):Nat→Int→Option ((Int)⊕(Unit))
 | 0,_=>none
 | k+1,x51=>(if ((decide (x51<(a0.length:Int)))&&(decide (x51<(a1.length:Int))))=true then (if 0≤x51∧x51<(a0.length:Int) then (if 0≤x51∧x51<(a1.length:Int) then (if (decide ((((a0).getD (x51).toNat 0).toNat:Int)<(((a1).getD (x51).toNat 0).toNat:Int)))=true then some (.inl (-1:Int)) else (if 0≤x51∧x51<(a0.length:Int) then (if 0≤x51∧x51<(a1.length:Int) then (if (decide ((((a0).getD (x51).toNat 0).toNat:Int)>(((a1).getD (x51).toNat 0).toNat:Int)))=true then some (.inl (1:Int)) else Z5 a0 a1 k (IntKind.i64.wrap (x51+(1:Int)))) else none) else none)) else none) else none) else some (.inr ()))
theorem Z5.mono {a0 a1}: ∀ {kl:Nat} {x0},OLe (Z5 a0 a1 kl x0) (Z5 a0 a1 (kl+1) x0):=by
 intro kl
 induction kl with
 | zero=>intros;exact OLe.none
 | succ kl ih =>
  intros
  rw [Z5.eq_2,Z5.eq_2]
  exact mo
def Zx (k:Nat) (a0:Str) (a1:Str):Option (Int) :=
 (Option.bind (Z5 a0 a1 k (0:Int)) (fun o76o=>Sum.elim (fun r'=>some r') (fun _=>(if (decide ((a0.length:Int)<(a1.length:Int)))=true then some (-1:Int) else (if (decide ((a0.length:Int)>(a1.length:Int)))=true then some (1:Int) else some (0:Int)))) o76o))
theorem Zx.mono {k a0 a1}: OLe (Zx k a0 a1) (Zx (k+1) a0 a1):=by
 unfold Zx
 have m1:=@Z5.mono
 exact mo
theorem Zx.con {k M} {a0:Str} {a1:Str} {r:Int} (h:Zx k a0 a1=some r): Con Tryz.prog 65 #[vS a0,vS a1] M [] (fun v M' Γ'=>v=vI r∧Γ'=[]):=by
 refine cwA Tryz.func65 J Tryz.ntmps65 Tryz.results65 J h ?_
 intro w F rn S hrn E HM H
 unfold Zx at H
 refine wsQ (waI J (wnQ (QH (wsQ (waI J (wnQ ?_))))))
 obtain ⟨o76,o76h,o76H⟩:=QO H
 refine Zr (fun ρ w'=>.inr ()=o76∧QV ρ [(0,vS a0),(1,vS a1)]∧Ext w w'∧St w' M F []) ?_ ?_
 ·refine Yr (fun n ρ w'=>∃ (x51:Int),Z5 a0 a1 n x51=some o76∧QV ρ [(0,vS a0),(1,vS a1),(5,vI x51)]∧Ext w w'∧St w' M F []) k ?_ ?_
  ·exact ⟨(0:Int),o76h,agP J,E,S.pk []⟩
  ·intro n
   rintro ρ w77 ⟨x51,H,hρ,E,S⟩
   rw [QB hρ]
   cases n with
   | zero=>cases H
   | succ k =>
    rw [Z5.eq_2] at H
    refine QH (wsQ (wmI J (wmS J (W_v _ (VA Tryz.underlying9 J) J (wiB J J (wmB J ?_))))))
    refine ZO 5 (fun ρ w'=>QV ρ [(0,vS a0),(1,vS a1),(5,vI x51),(15,.bool ((decide (x51<(a0.length:Int)))&&(decide (x51<(a1.length:Int)))))]∧w77=w') ?_ ?_
    ·rcases Qy (decide (x51<(a0.length:Int))) with hb78 | hb78
     ·refine QZ (skT hb78) J (QZ (skT hb78) J (QZ (skT hb78) J (QZ (skT hb78) J (wqB hb78 J (QK ?_)))))
      exact ⟨⟨J,J,J,(flB hb78),trivial⟩,rfl⟩
     ·refine QN (cS hb78) (wmI J (QN (cS hb78) (wmS J (QN (cS hb78) (W_v _ (VA Tryz.underlying9 J) J (QN (cS hb78) (wiB J J (wpB hb78 J (QK ?_)))))))))
      exact ⟨⟨J,J,J,(flB hb78),trivial⟩,rfl⟩
    as_aux_lemma =>
    rintro ρ _ ⟨hρ,rfl⟩
    rw [QB hρ]
    refine wnQ ?_
    rcases Q3 H with ⟨hb79,H⟩ | ⟨hb79,H⟩
    ·refine QC (cB hb79) ?_
     refine QX (tn (QH ?_))
     refine ZW ?_
     refine QH (QH ?_)
     refine rgA S [] [] 7 mixed J (eE1 E ?_)
     intro w84 E S D1
     refine tz0 0 J D1 (xmS J) (tz0 1 J D1 (xmI J) ?_)
     obtain ⟨⟨p86,p87⟩,H⟩:=Z8 H
     refine Wt 2 J J J (vU (((a0).getD (x51).toNat 0).toNat:Int)) J (fun w' h'=>V5 Tryz.underlying9 J J p86 p87) D1 (tz0 3 J D1 (xmS J) (tz0 4 J D1 (xmI J) ?_))
     obtain ⟨⟨p88,p89⟩,H⟩:=Z8 H
     refine Wt 5 J J J (vU (((a1).getD (x51).toNat 0).toNat:Int)) J (fun w' h'=>V5 Tryz.underlying9 J J p88 p89) D1 (tz0 6 J D1 (xiB J J) ?_)
     refine Wz ?_
     refine tn ?_
     rcases Q3 H with ⟨hb90,H⟩ | ⟨hb90,H⟩
     ·refine QC (cB hb90) ?_
      refine wsQ (waI J (wnQ ?_))
      refine QT ?_
      refine tr (br (tr (tr (br (tr (tr (?_)))))))
      obtain rfl:=oi H
      have H:=o76H
      replace H:=elimL H
      obtain rfl:=oi H
      exact ⟨_,_,_,rsA (vs:=[_]) J,HM,E,S.pk [],⟨J,J⟩⟩
     refine QA (cB hb90) (QX (tn (QH ?_)))
     refine rgA S [] [] 7 mixed J (eE1 E ?_)
     intro w95 E S D2
     refine tz0 0 J D2 (xmS J) (tz0 1 J D2 (xmI J) ?_)
     obtain ⟨⟨p97,p98⟩,H⟩:=Z8 H
     refine Wt 2 J J J (vU (((a0).getD (x51).toNat 0).toNat:Int)) J (fun w' h'=>V5 Tryz.underlying9 J J p97 p98) D2 (tz0 3 J D2 (xmS J) (tz0 4 J D2 (xmI J) ?_))
     obtain ⟨⟨p99,p100⟩,H⟩:=Z8 H
     refine Wt 5 J J J (vU (((a1).getD (x51).toNat 0).toNat:Int)) J (fun w' h'=>V5 Tryz.underlying9 J J p99 p100) D2 (tz0 6 J D2 (xiB J J) ?_)
     refine Wz ?_
     refine tn ?_
     rcases Q3 H with ⟨hb101,H⟩ | ⟨hb101,H⟩
     ·refine QC (cB hb101) ?_
      refine wsQ (waI J (wnQ ?_))
      refine QT ?_
      refine br (tr (tr (br (tr (tr (?_))))))
      obtain rfl:=oi H
      have H:=o76H
      replace H:=elimL H
      obtain rfl:=oi H
      exact ⟨_,_,_,rsA (vs:=[_]) J,HM,E,S.pk [],⟨J,J⟩⟩
     refine QA (cB hb101) (QX (bn (tn (QJ (wmI J (wiI J J (waI J (wnQ ?_))))))))
     exact ⟨k,Nat.lt_succ_self k,⟨(IntKind.i64.wrap (x51+(1:Int))),H,agP J,E,S.pk []⟩⟩
    refine QA (cB hb79) ?_
    refine YZ ?_
    refine tx (tx (bsm (?_)))
    refine tn ?_
    exact ⟨oi H,agP J,E,S.pk []⟩
 rintro ρ w102 ⟨rfl,hρ,E,S⟩
 rw [QB hρ]
 have H:=o76H
 replace H:=elimR H
 refine tn ?_
 as_aux_lemma =>
 refine QH (wsQ (wmS J (W_v _ (VA Tryz.underlying9 J) J (wmS J (W_v _ (VA Tryz.underlying9 J) J (wiB J J (wnQ ?_)))))))
 rcases Q3 H with ⟨hb103,H⟩ | ⟨hb103,H⟩
 ·refine QC (cB hb103) ?_
  refine wsQ (waI J (wnQ ?_))
  refine QT ?_
  refine tr (?_)
  obtain rfl:=oi H
  exact ⟨_,_,_,rsA (vs:=[_]) J,HM,E,S.pk [],⟨J,J⟩⟩
 refine QA (cB hb103) (QX (tn (QH (wsQ (wmS J (W_v _ (VA Tryz.underlying9 J) J (wmS J (W_v _ (VA Tryz.underlying9 J) J (wiB J J (wnQ ?_))))))))))
 rcases Q3 H with ⟨hb104,H⟩ | ⟨hb104,H⟩
 ·refine QC (cB hb104) ?_
  refine wsQ (waI J (wnQ ?_))
  refine QT ?_
  refine tr (?_)
  obtain rfl:=oi H
  exact ⟨_,_,_,rsA (vs:=[_]) J,HM,E,S.pk [],⟨J,J⟩⟩
 refine QA (cB hb104) (QX (tn ?_))
 as_aux_lemma =>
 refine wsQ (waI J (wnQ ?_))
 refine QT ?_
 obtain rfl:=oi H
 exact ⟨_,_,_,rsA (vs:=[_]) J,HM,E,S.pk [],⟨J,J⟩⟩
def Yw (k:Nat) (a0:Str) (a1:Str) (a2:Str):Option (Bool) :=
 (Option.bind (Zx k a1 a0) (fun t1=>(Option.bind (α:=Bool) (if (decide (t1≤(0:Int)))=true then (Option.bind (α:=Bool) (if (sbin .eql a2 ([]:Str))=true then some (true) else (Option.bind (Zx k a0 a2) (fun t42=>some ((decide (t42<(0:Int))))))) (fun x40=>some (x40))) else some (false)) (fun x31=>some x31))))
theorem Yw.mono {k a0 a1 a2}: OLe (Yw k a0 a1 a2) (Yw (k+1) a0 a1 a2):=by
 unfold Yw
 have m1:=@Zx.mono
 exact mo
theorem Yw.con {k M} {a0:Str} {a1:Str} {a2:Str} {r:Bool} (h:Yw k a0 a1 a2=some r): Con Tryz.prog 46 #[vS a0,vS a1,vS a2] M [] (fun v M' Γ'=>v=.bool r∧Γ'=[]):=by
 refine cwA Tryz.func46 J Tryz.ntmps46 Tryz.results46 J h ?_
 intro w F rn S hrn E HM H
 unfold Yw at H
 refine wsQ (waB J (wnQ (wsQ (wmS J (wmS J ?_)))))
 obtain ⟨t1,ht2,H⟩:=QO H
 refine ZR fn65 (Zx.con ht2) S J J flN (eE4 E ?_)
 rintro _ w3 _ Γ' E S ⟨rfl,rfl⟩
 refine wiB J J (wmB J ?_)
 obtain ⟨o32,o32h,o32H⟩:=QO H
 refine ZO 9 (fun ρ w'=>∃ (x31:Bool),(x31)=o32∧QV ρ [(20,.bool x31)]∧Ext w w'∧St w' M F []) ?_ ?_
 ·as_aux_lemma =>
   have H:=o32h
   rcases Q3 H with ⟨hb30,H⟩ | ⟨hb30,H⟩
   ·refine QN (cS hb30) (wmS J (QN (cS hb30) (W_v (.bool (sbin .eql a2 ([]:Str))) (UV J J J) J (QN (cS hb30) (wmB J ?_)))))
    obtain ⟨o41,o41h,o41H⟩:=QO H
    refine ZO 5 (fun ρ w'=>∃ (x40:Bool),(x40)=o41∧QV ρ [(11,.bool (decide (t1≤(0:Int)))),(19,.bool x40)]∧Ext w w'∧St w' M F []) ?_ ?_
    ·have H:=o41h
     rcases Q3 H with ⟨hb39,H⟩ | ⟨hb39,H⟩
     ·refine QZ (skF hb39) J (QZ (skF hb39) J (QZ (skF hb39) J (QZ (skF hb39) J (QN (cS hb30) (wpB hb39 J (QK ?_))))))
      exact ⟨true,oi H,agP J,E,S.pk []⟩
     ·refine QN (cS hb39) (wmS J (QN (cS hb39) (wmS J (QN (cS hb39) ?_))))
      obtain ⟨t42,ht43,H⟩:=QO H
      refine ZR fn65 (Zx.con ht43) S J J flN (eE4 E ?_)
      rintro _ w44 _ Γ' E S ⟨rfl,rfl⟩
      refine QN (cS hb39) (wiB J J (QN (cS hb30) (wqB hb39 J (QK ?_))))
      exact ⟨(decide (t42<(0:Int))),oi H,agP J,E,S.pk []⟩
    rintro ρ w45 ⟨x40,rfl,hρ,E,S⟩
    rw [QB hρ]
    have H:=o41H
    refine wpB hb30 J (QK ?_)
    exact ⟨x40,oi H,agP J,E,S.pk []⟩
   ·refine QZ (skT hb30) J (QZ (skT hb30) J (QZ (skT hb30) J (QZ (J) J (QZ (J) J (QZ (J) J (QZ (J) J (QZ (skT hb30) J (wqB hb30 J (QK ?_)))))))))
    exact ⟨false,oi H,agP J,E,S.pk []⟩
 rintro ρ w46 ⟨x31,rfl,hρ,E,S⟩
 rw [QB hρ]
 have H:=o32H
 refine waB J (wnQ ?_)
 refine QT ?_
 obtain rfl:=oi H
 exact ⟨_,_,_,rsA (vs:=[_]) J,HM,E,S.pk [],⟨J,J⟩⟩
def YH (a0:(List QU)) (t1:Int):Nat→List QU→Int→Option ((List QU))
 | 0,_,_=>none
 | k+1,x462,x466=>(if ((decide (x466<(a0.length:Int)))&&(decide (x466≤t1)))=true then (Option.bind (α:=List QU) (Option.bind (α:=Bool) (if (decide (x466<t1))=true then some (true) else (if 0≤x466∧x466<(a0.length:Int) then some ((!((rd a0 x466).Tomb))) else none)) (fun x828=>(Option.bind (α:=List QU) (if x828=true then (if 0≤x466∧x466<(a0.length:Int) then (if x462.length+([(rd a0 x466)]:List QU).length≤3518437208883 then some ((x462++([(rd a0 x466)]:List QU))) else none) else none) else some (x462)) (fun x885=>some (x885))))) (fun x802=>YH a0 t1 k x802 (IntKind.i64.wrap (x466+(1:Int))))) else some (x462))
theorem YH.mono {a0 t1}: ∀ {kl:Nat} {x0 x1},OLe (YH a0 t1 kl x0 x1) (YH a0 t1 (kl+1) x0 x1):=by
 intro kl
 induction kl with
 | zero=>intros;exact OLe.none
 | succ kl ih =>
  intros
  rw [YH.eq_2,YH.eq_2]
  exact mo
def XP (k:Nat) (a0:(List QU)) (a1:Int):Option ((List QU)) :=
 (Option.bind (Ym k a0 a1) (fun t1=>(Option.bind (YH a0 t1 k ([]:List QU) (0:Int)) (fun x687=>some x687))))
theorem XP.mono {k a0 a1}: OLe (XP k a0 a1) (XP (k+1) a0 a1):=by
 unfold XP
 have m1:=@YH.mono
 have m2:=@Ym.mono
 exact mo
theorem XP.con {k M A0 c0} {a0:(List QU)} {a1:Int} {r:(List QU)} (h:XP k a0 a1=some r) (hr0:SlR ZL M (.slice A0 a0.length c0) a0): Con Tryz.prog 66 #[.slice A0 a0.length c0,vI a1] M [] (fun v M' Γ'=>∃ (A0:Option Addr) (c0:Nat),v=.slice A0 r.length c0∧Γ'=[Rw ZL 88 A0 c0 r]):=by
 refine cwA Tryz.func66 J Tryz.ntmps66 Tryz.results66 J h ?_
 intro w F rn S hrn E HM H
 unfold XP at H
 refine wsQ (waL J (wnQ (wsQ (wmL J (wmI J ?_)))))
 obtain ⟨t1,ht2,H⟩:=QO H
 refine ZR fn81 (Ym.con ht2 hr0) S J J flN (eE4 E ?_)
 rintro _ w3 _ Γ' E S ⟨rfl,rfl⟩
 refine waI J (wnQ (wsQ (waL J (wnQ (QH (wsQ (waI J (wnQ ?_))))))))
 obtain ⟨o691,o691h,o691H⟩:=QO H
 refine Zr (fun ρ w'=>∃ (x687:List QU) (A688:Option Addr) (c689:Nat),(x687)=o691∧QV ρ [(6,.slice A688 x687.length c689)]∧Ext w w'∧St w' M F [Rw ZL 88 A688 c689 x687]) ?_ ?_
 ·refine Yr (fun n ρ w'=>∃ (x462:List QU) (x466:Int) (A463:Option Addr) (c464:Nat),YH a0 t1 n x462 x466=some o691∧QV ρ [(0,.slice A0 a0.length c0),(5,vI t1),(6,.slice A463 x462.length c464),(7,vI x466)]∧Ext w w'∧St w' M F [Rw ZL 88 A463 c464 x462]) k ?_ ?_
  ·replace S:=S.row_nil ZL 88
   exact ⟨([]:List QU),(0:Int),none,0,o691h,agP J,E,S.pk [0]⟩
  ·intro n
   rintro ρ w693 ⟨x462,x466,A463,c464,H,hρ,E,S⟩
   rw [QB hρ]
   cases n with
   | zero=>cases H
   | succ k =>
    rw [YH.eq_2] at H
    refine QH (wsQ (wmI J (wmL J (W_v _ (Qm (n:=a0.length) Tryz.underlying86 J) J (wiB J J (wmB J ?_))))))
    refine ZO 4 (fun ρ w'=>QV ρ [(0,.slice A0 a0.length c0),(5,vI t1),(6,.slice A463 x462.length c464),(7,vI x466),(19,.bool ((decide (x466<(a0.length:Int)))&&(decide (x466≤t1))))]∧w693=w') ?_ ?_
    ·rcases Qy (decide (x466<(a0.length:Int))) with hb694 | hb694
     ·refine QZ (skT hb694) J (QZ (skT hb694) J (QZ (skT hb694) J (wqB hb694 J (QK ?_))))
      exact ⟨⟨J,J,J,J,(flB hb694),trivial⟩,rfl⟩
     ·refine QN (cS hb694) (wmI J (QN (cS hb694) (wmI J (QN (cS hb694) (wiB J J (wpB hb694 J (QK ?_)))))))
      exact ⟨⟨J,J,J,J,(flB hb694),trivial⟩,rfl⟩
    as_aux_lemma =>
    rintro ρ _ ⟨hρ,rfl⟩
    rw [QB hρ]
    refine wnQ ?_
    rcases Q3 H with ⟨hb695,H⟩ | ⟨hb695,H⟩
    ·refine QC (cB hb695) ?_
     refine QX (tn (QH ?_))
     obtain ⟨o806,o806h,o806H⟩:=QO H
     refine Yc (fun ρ w'=>∃ (x802:List QU) (A803:Option Addr) (c804:Nat),(x802)=o806∧QV ρ [(0,.slice A0 a0.length c0),(5,vI t1),(6,.slice A803 x802.length c804),(7,vI x466)]∧Ext w w'∧St w' M F [Rw ZL 88 A803 c804 x802]) ?_ ?_
     ·as_aux_lemma =>
       clear o806H
       have H:=o806h
       refine ZW ?_
       refine wsQ (wmI J (wmI J (wiB J J (wmB J ?_))))
       obtain ⟨o829,o829h,o829H⟩:=QO H
       refine ZO 7 (fun ρ w'=>∃ (x828:Bool),(x828)=o829∧QV ρ [(0,.slice A0 a0.length c0),(5,vI t1),(6,.slice A463 x462.length c464),(7,vI x466),(32,.bool x828)]∧Ext w w'∧St w' M F [Rw ZL 88 A463 c464 x462]) ?_ ?_
       ·have H:=o829h
        rcases Q3 H with ⟨hb827,H⟩ | ⟨hb827,H⟩
        ·refine QZ (skF hb827) J (QZ (skF hb827) J (QZ (skF hb827) J (QZ (skF hb827) J (QZ (skF hb827) J (QZ (skF hb827) J (wpB hb827 J (QK ?_)))))))
         exact ⟨true,oi H,agP J,E,S.pk [0]⟩
        ·refine QN (cS hb827) (wmL J (QN (cS hb827) (wmI J (QN (cS hb827) ?_))))
         obtain ⟨⟨p830,p831⟩,H⟩:=Z8 H
         obtain ⟨b832,o833,cs834,_,_,ee839,hb835,vs836,hR837,hc838⟩:=SlW.at' hr0 p830 p831
         obtain rfl:vs836=_:=hR837
         refine W_v _ (QS Tryz.underlying86 ty88 (slA ee839) J p830 p831) J (QN (cS hb827) (wfA Tryz.underlying88 ty4 J (QN (cS hb827) (W_v _ (Z0 (S.frz hb835) ty4 J (hc838 2 _ J)) J (QN (cS hb827) (W_v _ (Xr (b:=((rd a0 x466).Tomb)) J) J (wqB hb827 J (QK ?_))))))))
         exact ⟨(!((rd a0 x466).Tomb)),oi H,agP J,E,S.pk [0]⟩
       as_aux_lemma =>
       rintro ρ w840 ⟨x828,rfl,hρ,E,S⟩
       rw [QB hρ]
       have H:=o829H
       refine wnQ ?_
       obtain ⟨o889,o889h,o889H⟩:=QO H
       refine Yc (fun ρ w'=>∃ (x885:List QU) (A886:Option Addr) (c887:Nat),(x885)=o889∧QV ρ [(0,.slice A0 a0.length c0),(5,vI t1),(6,.slice A886 x885.length c887),(7,vI x466)]∧Ext w w'∧St w' M F [Rw ZL 88 A886 c887 x885]) ?_ ?_
       ·clear o889H
        have H:=o889h
        rcases Q3 H with ⟨hb890,H⟩ | ⟨hb890,H⟩
        ·refine QC (cB hb890) ?_
         refine QJ (wmL J (wmL J (wmI J ?_)))
         obtain ⟨⟨p891,p892⟩,H⟩:=Z8 H
         obtain ⟨b893,o894,cs895,_,_,ee900,hb896,vs897,hR898,hc899⟩:=SlW.at' hr0 p891 p892
         obtain rfl:vs897=_:=hR898
         refine W_v _ (QS Tryz.underlying86 ty88 (slA ee900) J p891 p892) J (W_v (.agg (Y4 (rd a0 x466))) (Qi (S.frz hb896) ty88 J (X1 hc899 0 J) J J) J ?_)
         refine Xl S (Y4 (rd a0 x466)) Tryz.underlying86 ty88 J J cz18 (by as_aux_lemma=>kernel_rfl) (by as_aux_lemma=>kernel_rfl) J (eE2 E ?_)
         intro b901 w902 E S
         replace S:=S.blk_row (r:=ZL) (l:=([(rd a0 x466)]:List QU)) 0 J 1 (Nat.le_refl 1) J (Cells.cons (vs:=[vI ((rd a0 x466).Writer),vI ((rd a0 x466).TS),.bool ((rd a0 x466).Tomb),vS ((rd a0 x466).Value)]) (J) Cells.nil)
         obtain ⟨p904,H⟩:=Z8 H
         obtain ⟨src905,hs906,hC907⟩:=XJ (P:=Tryz.prog) (ρ:=ZL) (l:=([(rd a0 x466)]:List QU)) (S.row_read 0 J) (by decide)
         refine X0 S 1 J J J Tryz.underlying86 (.inl Tryz.underlying86) ty88 J (by decide) (by decide) hs906 hC907 J (by omega) J (eE2 E ?_)
         intro v908 w909 E S
         obtain ⟨A910,c911,rfl,_⟩:=(S.row_read 1 J).form
         refine waL J (wnQ ?_)
         exact ⟨(x462++([(rd a0 x466)]:List QU)),A910,c911,oi H,agP J,E,S.pk [1]⟩
        refine QA (cB hb890) (QX (tn ?_))
        exact ⟨x462,A463,c464,oi H,agP J,E,S.pk [0]⟩
       rintro ρ w912 ⟨x885,A886,c887,rfl,hρ,E,S⟩
       rw [QB hρ]
       have H:=o889H
       refine bn (tn ?_)
       exact ⟨x885,A886,c887,oi H,agP J,E,S.pk [0]⟩
     rintro ρ w913 ⟨x802,A803,c804,rfl,hρ,E,S⟩
     rw [QB hρ]
     have H:=o806H
     refine tn (QJ (wmI J (wiI J J (waI J (wnQ ?_)))))
     exact ⟨k,Nat.lt_succ_self k,⟨x802,(IntKind.i64.wrap (x466+(1:Int))),A803,c804,H,agP J,E,S.pk [0]⟩⟩
    refine QA (cB hb695) ?_
    refine YZ ?_
    refine tx (tx (bsm (?_)))
    refine tn ?_
    exact ⟨x462,A463,c464,oi H,agP J,E,S.pk [0]⟩
 rintro ρ w914 ⟨x687,A688,c689,rfl,hρ,E,S⟩
 rw [QB hρ]
 have H:=o691H
 refine tn ?_
 as_aux_lemma =>
 refine wsQ (wmL J (waL J (wnQ ?_)))
 refine QT ?_
 obtain rfl:=oi H
 exact ⟨_,_,_,rsA (vs:=[_]) J,HM,E,S.pk [0],⟨A688,c689,J,J⟩⟩
def Yv (a1:(List (List QY))):Nat→Int→Option ((Bool)⊕(Unit))
 | 0,_=>none
 | k+1,x43=>(if (decide (x43<(a1.length:Int)))=true then (if 0≤x43∧x43<(a1.length:Int) then (if (decide (((rd a1 x43).length:Int)>(64:Int)))=true then some (.inl false) else Yv a1 k (IntKind.i64.wrap (x43+(1:Int)))) else none) else some (.inr ()))
theorem Yv.mono {a1}: ∀ {kl:Nat} {x0},OLe (Yv a1 kl x0) (Yv a1 (kl+1) x0):=by
 intro kl
 induction kl with
 | zero=>intros;exact OLe.none
 | succ kl ih =>
  intros
  rw [Yv.eq_2,Yv.eq_2]
  exact mo
def XW (k:Nat) (a0:QI) (a1:(List (List QY))):Option (Bool) :=
 (Option.bind (ZV k a0) (fun t4=>(if ((!t4)||(decide ((a1.length:Int)>a0.Tasks)))=true then some false else (Option.bind (Yv a1 k (0:Int)) (fun o60o=>Sum.elim (fun r'=>some r') (fun _=>some true) o60o)))))
theorem XW.mono {k a0 a1}: OLe (XW k a0 a1) (XW (k+1) a0 a1):=by
 unfold XW
 have m1:=@ZV.mono
 have m2:=@Yv.mono
 exact mo
theorem XW.con {k M} {a0:QI} {A1 c1} {a1:(List (List QY))} {r:Bool} (h:XW k a0 a1=some r) (hr1:SlR (rSl Yk) M (.slice A1 a1.length c1) a1): Con Tryz.prog 38 #[.agg (QF a0),.slice A1 a1.length c1] M [] (fun v M' Γ'=>v=.bool r∧Γ'=[]):=by
 refine cwA Tryz.func38 J Tryz.ntmps38 Tryz.results38 J h ?_
 intro w F rn S hrn E HM H
 unfold XW at H
 refine wsQ ?_
 refine Yz S (QF a0) J J J (eE2 E ?_)
 intro b1 w2 E S
 refine waB J (wnQ (QH (wsQ (W_v (.agg (QF a0)) (Qi (S.blk 0 J) ty23 J (QG J) J J) J ?_))))
 obtain ⟨t4,ht5,H⟩:=QO H
 refine ZR fn18 (ZV.con ht5) S J J flN (eE4 E ?_)
 rintro _ w6 _ Γ' E S ⟨rfl,rfl⟩
 refine W_v _ (Xr (b:=t4) J) J (wmB J ?_)
 refine ZO 6 (fun ρ w'=>QV ρ [(1,.slice A1 a1.length c1),(15,.bool ((!t4)||(decide ((a1.length:Int)>a0.Tasks))))]∧w6=w') ?_ ?_
 ·rcases Qy (!t4) with hb7 | hb7
  ·refine QN (cS hb7) (wmL J (QN (cS hb7) (W_v _ (Qm (n:=a1.length) Tryz.underlying24 J) J (QN (cS hb7) (wfA Tryz.underlying23 ty3 J (QN (cS hb7) (wlA S 0 ty3 J (QN (cS hb7) (wiB J J (wqB hb7 J (QK ?_)))))))))))
   exact ⟨⟨J,(flB hb7),trivial⟩,rfl⟩
  ·refine QZ (skF hb7) J (QZ (skF hb7) J (QZ (skF hb7) J (QZ (skF hb7) J (QZ (skF hb7) J (wpB hb7 J (QK ?_))))))
   exact ⟨⟨J,(flB hb7),trivial⟩,rfl⟩
 as_aux_lemma =>
 rintro ρ _ ⟨hρ,rfl⟩
 rw [QB hρ]
 refine wnQ ?_
 rcases Q3 H with ⟨hb8,H⟩ | ⟨hb8,H⟩
 ·refine QC (cB hb8) ?_
  refine wsQ (waB J (wnQ ?_))
  refine QT ?_
  refine tr (?_)
  obtain rfl:=oi H
  exact ⟨_,_,_,rsA (vs:=[_]) J,HM,E,S.pk [],⟨J,J⟩⟩
 refine QA (cB hb8) (QX (tn (QH (wsQ (waI J (wnQ ?_))))))
 obtain ⟨o60,o60h,o60H⟩:=QO H
 refine Zr (fun ρ w'=>.inr ()=o60∧QV ρ []∧Ext w w'∧St w' M F []) ?_ ?_
 ·refine Yr (fun n ρ w'=>∃ (x43:Int),Yv a1 n x43=some o60∧QV ρ [(1,.slice A1 a1.length c1),(5,vI x43)]∧Ext w w'∧St w' M F []) k ?_ ?_
  ·exact ⟨(0:Int),o60h,agP J,E,S.pk []⟩
  ·intro n
   rintro ρ w61 ⟨x43,H,hρ,E,S⟩
   rw [QB hρ]
   cases n with
   | zero=>cases H
   | succ k =>
    rw [Yv.eq_2] at H
    refine QH (wsQ (wmI J (wmL J (W_v _ (Qm (n:=a1.length) Tryz.underlying24 J) J (wiB J J (wnQ ?_))))))
    rcases Q3 H with ⟨hb62,H⟩ | ⟨hb62,H⟩
    ·refine QC (cB hb62) ?_
     refine QX (tn (QH ?_))
     refine ZW ?_
     refine wsQ (wmL J (wmI J ?_))
     obtain ⟨⟨p63,p64⟩,H⟩:=Z8 H
     obtain ⟨b65,o66,cs67,_,_,ee72,hb68,vs69,hR70,hc71⟩:=SlW.at' hr1 p63 p64
     obtain ⟨v76,hs75,rfl⟩:=hR70
     obtain ⟨A73,c74,rfl,_⟩:=hs75.form
     refine W_v _ (QS Tryz.underlying24 ty41 (slA ee72) J p63 p64) J (W_v _ (Z0 (S.frz hb68) ty41 J (hc71 0 _ J)) J (W_v _ (Qm (n:=(rd a1 x43).length) Tryz.underlying41 J) J (wiB J J (wnQ ?_))))
     rcases Q3 H with ⟨hb77,H⟩ | ⟨hb77,H⟩
     ·refine QC (cB hb77) ?_
      refine wsQ (waB J (wnQ ?_))
      refine QT ?_
      refine br (tr (tr (br (tr (tr (?_))))))
      obtain rfl:=oi H
      have H:=o60H
      replace H:=elimL H
      obtain rfl:=oi H
      exact ⟨_,_,_,rsA (vs:=[_]) J,HM,E,S.pk [],⟨J,J⟩⟩
     refine QA (cB hb77) (QX (bn (tn (QJ (wmI J (wiI J J (waI J (wnQ ?_))))))))
     exact ⟨k,Nat.lt_succ_self k,⟨(IntKind.i64.wrap (x43+(1:Int))),H,agP J,E,S.pk []⟩⟩
    refine QA (cB hb62) ?_
    refine YZ ?_
    refine tx (tx (bsm (?_)))
    refine tn ?_
    exact ⟨oi H,trivial,E,S.pk []⟩
 rintro ρ w78 ⟨rfl,hρ,E,S⟩
 rw [QB hρ]
 have H:=o60H
 replace H:=elimR H
 refine tn ?_
 as_aux_lemma =>
 refine wsQ (waB J (wnQ ?_))
 refine QT ?_
 obtain rfl:=oi H
 exact ⟨_,_,_,rsA (vs:=[_]) J,HM,E,S.pk [],⟨J,J⟩⟩
def Yp (a0:(List QL)) (a1:Int):Nat→List QL→Int→Option ((List QL))
 | 0,_,_=>none
 | k+1,x425,x429=>(if (decide (x429<(a0.length:Int)))=true then (Option.bind (α:=List QL) (if 0≤x429∧x429<(a0.length:Int) then (Option.bind (α:=List QL) (if ((rd a0 x429).Task==a1)=true then (if 0≤x429∧x429<(a0.length:Int) then (if x425.length+([(rd a0 x429)]:List QL).length≤1759218604441 then some ((x425++([(rd a0 x429)]:List QL))) else none) else none) else some (x425)) (fun x810=>some (x810))) else none) (fun x739=>Yp a0 a1 k x739 (IntKind.i64.wrap (x429+(1:Int))))) else some (x425))
theorem Yp.mono {a0 a1}: ∀ {kl:Nat} {x0 x1},OLe (Yp a0 a1 kl x0 x1) (Yp a0 a1 (kl+1) x0 x1):=by
 intro kl
 induction kl with
 | zero=>intros;exact OLe.none
 | succ kl ih =>
  intros
  rw [Yp.eq_2,Yp.eq_2]
  exact mo
def Xc (k:Nat) (a0:(List QL)) (a1:Int):Option ((List QL)) :=
 (Option.bind (Yp a0 a1 k ([]:List QL) (0:Int)) (fun x633=>some x633))
theorem Xc.mono {k a0 a1}: OLe (Xc k a0 a1) (Xc (k+1) a0 a1):=by
 unfold Xc
 have m1:=@Yp.mono
 exact mo
theorem Xc.con {k M A0 c0} {a0:(List QL)} {a1:Int} {r:(List QL)} (h:Xc k a0 a1=some r) (hr0:SlR Qs M (.slice A0 a0.length c0) a0): Con Tryz.prog 79 #[.slice A0 a0.length c0,vI a1] M [] (fun v M' Γ'=>∃ (A0:Option Addr) (c0:Nat),v=.slice A0 r.length c0∧Γ'=[Rw Qs 40 A0 c0 r]):=by
 refine cwA Tryz.func79 J Tryz.ntmps79 Tryz.results79 J h ?_
 intro w F rn S hrn E HM H
 unfold Xc at H
 refine wsQ (waL J (wnQ (wsQ (waL J (wnQ (QH (wsQ (waI J (wnQ ?_)))))))))
 obtain ⟨o637,o637h,o637H⟩:=QO H
 refine Zr (fun ρ w'=>∃ (x633:List QL) (A634:Option Addr) (c635:Nat),(x633)=o637∧QV ρ [(5,.slice A634 x633.length c635)]∧Ext w w'∧St w' M F [Rw Qs 40 A634 c635 x633]) ?_ ?_
 ·refine Yr (fun n ρ w'=>∃ (x425:List QL) (x429:Int) (A426:Option Addr) (c427:Nat),Yp a0 a1 n x425 x429=some o637∧QV ρ [(0,.slice A0 a0.length c0),(1,vI a1),(5,.slice A426 x425.length c427),(6,vI x429)]∧Ext w w'∧St w' M F [Rw Qs 40 A426 c427 x425]) k ?_ ?_
  ·replace S:=S.row_nil Qs 40
   exact ⟨([]:List QL),(0:Int),none,0,o637h,agP J,E,S.pk [0]⟩
  ·intro n
   rintro ρ w639 ⟨x425,x429,A426,c427,H,hρ,E,S⟩
   rw [QB hρ]
   cases n with
   | zero=>cases H
   | succ k =>
    rw [Yp.eq_2] at H
    refine QH (wsQ (wmI J (wmL J (W_v _ (Qm (n:=a0.length) Tryz.underlying25 J) J (wiB J J (wnQ ?_))))))
    rcases Q3 H with ⟨hb640,H⟩ | ⟨hb640,H⟩
    ·refine QC (cB hb640) ?_
     refine QX (tn (QH ?_))
     obtain ⟨o743,o743h,o743H⟩:=QO H
     refine Yc (fun ρ w'=>∃ (x739:List QL) (A740:Option Addr) (c741:Nat),(x739)=o743∧QV ρ [(0,.slice A0 a0.length c0),(1,vI a1),(5,.slice A740 x739.length c741),(6,vI x429)]∧Ext w w'∧St w' M F [Rw Qs 40 A740 c741 x739]) ?_ ?_
     ·as_aux_lemma =>
       clear o743H
       have H:=o743h
       refine ZW ?_
       refine wsQ (wmL J (wmI J ?_))
       obtain ⟨⟨p744,p745⟩,H⟩:=Z8 H
       obtain ⟨b746,o747,cs748,_,_,ee753,hb749,vs750,hR751,hc752⟩:=SlW.at' hr0 p744 p745
       obtain ⟨v757,hs756,rfl⟩:=hR751
       obtain ⟨A754,c755,rfl,_⟩:=hs756.form
       refine W_v _ (QS Tryz.underlying25 ty40 (slA ee753) J p744 p745) J (wfA Tryz.underlying40 ty3 J (W_v _ (Z0 (S.frz hb749) ty3 J (hc752 1 _ J)) J (wmI J (wiB J J (wnQ ?_)))))
       obtain ⟨o814,o814h,o814H⟩:=QO H
       refine Yc (fun ρ w'=>∃ (x810:List QL) (A811:Option Addr) (c812:Nat),(x810)=o814∧QV ρ [(0,.slice A0 a0.length c0),(1,vI a1),(5,.slice A811 x810.length c812),(6,vI x429)]∧Ext w w'∧St w' M F [Rw Qs 40 A811 c812 x810]) ?_ ?_
       ·clear o814H
        have H:=o814h
        rcases Q3 H with ⟨hb815,H⟩ | ⟨hb815,H⟩
        ·refine QC (cB hb815) ?_
         refine QJ (wmL J (wmL J (wmI J ?_)))
         obtain ⟨⟨p816,p817⟩,H⟩:=Z8 H
         obtain ⟨b818,o819,cs820,_,_,ee825,hb821,vs822,hR823,hc824⟩:=SlW.at' hr0 p816 p817
         obtain ⟨v829,hs828,rfl⟩:=hR823
         obtain ⟨A826,c827,rfl,_⟩:=hs828.form
         refine W_v _ (QS Tryz.underlying25 ty40 (slA ee825) J p816 p817) J (W_v (.agg #[vU ((rd a0 x429).What),vI ((rd a0 x429).Task),vI ((rd a0 x429).Call),vI ((rd a0 x429).Answer.Err),.bool ((rd a0 x429).Answer.Found),vS ((rd a0 x429).Answer.Value),.slice A826 ((rd a0 x429).Answer.Pairs).length c827]) (Qi (S.frz hb821) ty40 J (X1 hc824 0 J) J J) J ?_)
         refine Xl S #[vU ((rd a0 x429).What),vI ((rd a0 x429).Task),vI ((rd a0 x429).Call),vI ((rd a0 x429).Answer.Err),.bool ((rd a0 x429).Answer.Found),vS ((rd a0 x429).Answer.Value),.slice A826 ((rd a0 x429).Answer.Pairs).length c827] Tryz.underlying25 ty40 J J cz6 (by as_aux_lemma=>kernel_rfl) (by as_aux_lemma=>kernel_rfl) J (eE2 E ?_)
         intro b830 w831 E S
         replace S:=S.blk_row (r:=Qs) (l:=([(rd a0 x429)]:List QL)) 0 J 1 (Nat.le_refl 1) J (Cells.cons (vs:=[vU ((rd a0 x429).What),vI ((rd a0 x429).Task),vI ((rd a0 x429).Call),vI ((rd a0 x429).Answer.Err),.bool ((rd a0 x429).Answer.Found),vS ((rd a0 x429).Answer.Value),.slice A826 ((rd a0 x429).Answer.Pairs).length c827]) (⟨_,hs828,J⟩) Cells.nil)
         obtain ⟨p833,H⟩:=Z8 H
         obtain ⟨src834,hs835,hC836⟩:=XJ (P:=Tryz.prog) (ρ:=Qs) (l:=([(rd a0 x429)]:List QL)) (S.row_read 0 J) (by decide)
         refine X0 S 1 J J J Tryz.underlying25 (.inl Tryz.underlying25) ty40 J (by decide) (by decide) hs835 hC836 J (by omega) J (eE2 E ?_)
         intro v837 w838 E S
         obtain ⟨A839,c840,rfl,_⟩:=(S.row_read 1 J).form
         refine waL J (wnQ ?_)
         exact ⟨(x425++([(rd a0 x429)]:List QL)),A839,c840,oi H,agP J,E,S.pk [1]⟩
        refine QA (cB hb815) (QX (tn ?_))
        exact ⟨x425,A426,c427,oi H,agP J,E,S.pk [0]⟩
       rintro ρ w841 ⟨x810,A811,c812,rfl,hρ,E,S⟩
       rw [QB hρ]
       have H:=o814H
       refine bn (tn ?_)
       exact ⟨x810,A811,c812,oi H,agP J,E,S.pk [0]⟩
     rintro ρ w842 ⟨x739,A740,c741,rfl,hρ,E,S⟩
     rw [QB hρ]
     have H:=o743H
     refine tn (QJ (wmI J (wiI J J (waI J (wnQ ?_)))))
     exact ⟨k,Nat.lt_succ_self k,⟨x739,(IntKind.i64.wrap (x429+(1:Int))),A740,c741,H,agP J,E,S.pk [0]⟩⟩
    refine QA (cB hb640) ?_
    refine YZ ?_
    refine tx (tx (bsm (?_)))
    refine tn ?_
    exact ⟨x425,A426,c427,oi H,agP J,E,S.pk [0]⟩
 rintro ρ w843 ⟨x633,A634,c635,rfl,hρ,E,S⟩
 rw [QB hρ]
 have H:=o637H
 refine tn ?_
 as_aux_lemma =>
 refine wsQ (wmL J (waL J (wnQ ?_)))
 refine QT ?_
 obtain rfl:=oi H
 exact ⟨_,_,_,rsA (vs:=[_]) J,HM,E,S.pk [0],⟨A634,c635,J,J⟩⟩
def Z4 (a0:Ql) (a1:Ql):Nat→Int→Option ((Bool)⊕(Unit))
 | 0,_=>none
 | k+1,x101=>(if (decide (x101<(a0.Pairs.length:Int)))=true then (if 0≤x101∧x101<(a0.Pairs.length:Int) then (if 0≤x101∧x101<(a1.Pairs.length:Int) then (if (!(((rd a0.Pairs x101).Key==(rd a1.Pairs x101).Key)&&((rd a0.Pairs x101).Value==(rd a1.Pairs x101).Value)))=true then some (.inl false) else Z4 a0 a1 k (IntKind.i64.wrap (x101+(1:Int)))) else none) else none) else some (.inr ()))
theorem Z4.mono {a0 a1}: ∀ {kl:Nat} {x0},OLe (Z4 a0 a1 kl x0) (Z4 a0 a1 (kl+1) x0):=by
 intro kl
 induction kl with
 | zero=>intros;exact OLe.none
 | succ kl ih =>
  intros
  rw [Z4.eq_2,Z4.eq_2]
  exact mo
def Yh (k:Nat) (a0:Ql) (a1:Ql):Option (Bool) :=
 (if ((((a0.Err != a1.Err)||(!(a0.Found==a1.Found)))||(sbin .neq a0.Value a1.Value))||((a0.Pairs.length:Int) != (a1.Pairs.length:Int)))=true then some false else (Option.bind (Z4 a0 a1 k (0:Int)) (fun o146o=>Sum.elim (fun r'=>some r') (fun _=>some true) o146o)))
theorem Yh.mono {k a0 a1}: OLe (Yh k a0 a1) (Yh (k+1) a0 a1):=by
 unfold Yh
 have m1:=@Z4.mono
 exact mo
theorem Yh.con {k M A0_0 c0_0} {a0:Ql} {A1_0 c1_0} {a1:Ql} {r:Bool} (h:Yh k a0 a1=some r) (hr0_0:SlR Qq M (.slice A0_0 a0.Pairs.length c0_0) a0.Pairs) (hr1_0:SlR Qq M (.slice A1_0 a1.Pairs.length c1_0) a1.Pairs): Con Tryz.prog 80 #[.agg #[vI a0.Err,.bool a0.Found,vS a0.Value,.slice A0_0 a0.Pairs.length c0_0],.agg #[vI a1.Err,.bool a1.Found,vS a1.Value,.slice A1_0 a1.Pairs.length c1_0]] M [] (fun v M' Γ'=>v=.bool r∧Γ'=[]):=by
 refine cwA Tryz.func80 J Tryz.ntmps80 Tryz.results80 J h ?_
 intro w F rn S hrn E HM H
 unfold Yh at H
 refine wsQ ?_
 refine Yz S #[vI a0.Err,.bool a0.Found,vS a0.Value,.slice A0_0 a0.Pairs.length c0_0] J J J (eE2 E ?_)
 intro b1 w2 E S
 refine Yz S #[vI a1.Err,.bool a1.Found,vS a1.Value,.slice A1_0 a1.Pairs.length c1_0] J J J (eE2 E ?_)
 intro b4 w5 E S
 refine waB J (wnQ (QH (wsQ (wfA Tryz.underlying38 ty30 J (wlA S 1 ty30 J (wfA Tryz.underlying38 ty30 J (wlA S 0 ty30 J (wiB J J (wmB J ?_)))))))))
 refine ZO 6 (fun ρ w'=>QV ρ [(2,pt b1 0),(3,pt b4 0),(17,.bool ((a0.Err != a1.Err)||(!(a0.Found==a1.Found))))]∧w5=w') ?_ ?_
 ·rcases Qy (a0.Err != a1.Err) with hb7 | hb7
  ·refine QN (cS hb7) (wfA Tryz.underlying38 ty4 J (QN (cS hb7) (wlA S 1 ty4 J (QN (cS hb7) (wfA Tryz.underlying38 ty4 J (QN (cS hb7) (wlA S 0 ty4 J (QN (cS hb7) (W_v (.bool (!(a0.Found==a1.Found))) (x_bne Tryz.underlying4 J J) J (wqB hb7 J (QK ?_)))))))))))
   exact ⟨⟨J,J,(flB hb7),trivial⟩,rfl⟩
  ·refine QZ (skF hb7) J (QZ (skF hb7) J (QZ (skF hb7) J (QZ (skF hb7) J (QZ (skF hb7) J (wpB hb7 J (QK ?_))))))
   exact ⟨⟨J,J,(flB hb7),trivial⟩,rfl⟩
 as_aux_lemma =>
 rintro ρ _ ⟨hρ,rfl⟩
 rw [QB hρ]
 refine wmB J ?_
 refine ZO 6 (fun ρ w'=>QV ρ [(2,pt b1 0),(3,pt b4 0),(24,.bool (((a0.Err != a1.Err)||(!(a0.Found==a1.Found)))||(sbin .neq a0.Value a1.Value)))]∧w5=w') ?_ ?_
 ·rcases Qy ((a0.Err != a1.Err)||(!(a0.Found==a1.Found))) with hb8 | hb8
  ·refine QN (cS hb8) (wfA Tryz.underlying38 ty9 J (QN (cS hb8) (wlA S 1 ty9 J (QN (cS hb8) (wfA Tryz.underlying38 ty9 J (QN (cS hb8) (wlA S 0 ty9 J (QN (cS hb8) (W_v (.bool (sbin .neq a0.Value a1.Value)) (UV J J J) J (wqB hb8 J (QK ?_)))))))))))
   exact ⟨⟨J,J,(flB hb8),trivial⟩,rfl⟩
  ·refine QZ (skF hb8) J (QZ (skF hb8) J (QZ (skF hb8) J (QZ (skF hb8) J (QZ (skF hb8) J (wpB hb8 J (QK ?_))))))
   exact ⟨⟨J,J,(flB hb8),trivial⟩,rfl⟩
 as_aux_lemma =>
 rintro ρ _ ⟨hρ,rfl⟩
 rw [QB hρ]
 refine wmB J ?_
 refine ZO 8 (fun ρ w'=>QV ρ [(2,pt b1 0),(3,pt b4 0),(33,.bool ((((a0.Err != a1.Err)||(!(a0.Found==a1.Found)))||(sbin .neq a0.Value a1.Value))||((a0.Pairs.length:Int) != (a1.Pairs.length:Int))))]∧w5=w') ?_ ?_
 ·rcases Qy (((a0.Err != a1.Err)||(!(a0.Found==a1.Found)))||(sbin .neq a0.Value a1.Value)) with hb9 | hb9
  ·refine QN (cS hb9) (wfA Tryz.underlying38 ty36 J (QN (cS hb9) (wlA S 1 ty36 J (QN (cS hb9) (W_v _ (Qm (n:=a0.Pairs.length) Tryz.underlying36 J) J (QN (cS hb9) (wfA Tryz.underlying38 ty36 J (QN (cS hb9) (wlA S 0 ty36 J (QN (cS hb9) (W_v _ (Qm (n:=a1.Pairs.length) Tryz.underlying36 J) J (QN (cS hb9) (wiB J J (wqB hb9 J (QK ?_)))))))))))))))
   exact ⟨⟨J,J,(flB hb9),trivial⟩,rfl⟩
  ·refine QZ (skF hb9) J (QZ (skF hb9) J (QZ (skF hb9) J (QZ (skF hb9) J (QZ (skF hb9) J (QZ (skF hb9) J (QZ (skF hb9) J (wpB hb9 J (QK ?_))))))))
   exact ⟨⟨J,J,(flB hb9),trivial⟩,rfl⟩
 as_aux_lemma =>
 rintro ρ _ ⟨hρ,rfl⟩
 rw [QB hρ]
 refine wnQ ?_
 rcases Q3 H with ⟨hb10,H⟩ | ⟨hb10,H⟩
 ·refine QC (cB hb10) ?_
  refine wsQ (waB J (wnQ ?_))
  refine QT ?_
  refine tr (?_)
  obtain rfl:=oi H
  exact ⟨_,_,_,rsA (vs:=[_]) J,HM,E,S.pk [],⟨J,J⟩⟩
 refine QA (cB hb10) (QX (tn (QH (wsQ (waI J (wnQ ?_))))))
 obtain ⟨o146,o146h,o146H⟩:=QO H
 refine Zr (fun ρ w'=>.inr ()=o146∧QV ρ []∧Ext w w'∧St w' M F []) ?_ ?_
 ·refine Yr (fun n ρ w'=>∃ (x101:Int),Z4 a0 a1 n x101=some o146∧QV ρ [(2,pt b1 0),(3,pt b4 0),(5,vI x101)]∧Ext w w'∧St w' M F [B38 b4 a1 A1_0 c1_0,B38 b1 a0 A0_0 c0_0]) k ?_ ?_
  ·exact ⟨(0:Int),o146h,agP J,E,S.pk [0,1]⟩
  ·intro n
   rintro ρ w147 ⟨x101,H,hρ,E,S⟩
   rw [QB hρ]
   cases n with
   | zero=>cases H
   | succ k =>
    rw [Z4.eq_2] at H
    refine QH (wsQ (wmI J (wfA Tryz.underlying38 ty36 J (wlA S 1 ty36 J (W_v _ (Qm (n:=a0.Pairs.length) Tryz.underlying36 J) J (wiB J J (wnQ ?_)))))))
    rcases Q3 H with ⟨hb148,H⟩ | ⟨hb148,H⟩
    ·refine QC (cB hb148) ?_
     refine QX (tn (QH ?_))
     refine ZW ?_
     refine QH ?_
     refine rgA S [0,1] [_,_] 11 mixed J (eE1 E ?_)
     intro w169 E S D1
     refine tz0 0 J D1 (xfA Tryz.underlying38 ty36 J) (tz1 1 J D1 (fun w' h'=>xlA h' 1 ty36 J) (tz0 2 J D1 (xmI J) ?_))
     obtain ⟨⟨p171,p172⟩,H⟩:=Z8 H
     obtain ⟨b173,o174,cs175,_,_,ee180,hb176,vs177,hR178,hc179⟩:=SlW.at' hr0_0 p171 p172
     obtain rfl:vs177=_:=hR178
     refine tz0 3 J D1 (QS Tryz.underlying36 ty119 (slA ee180) J p171 p172) (Wt 4 J J J (.agg #[vS ((rd a0.Pairs x101).Key),vS ((rd a0.Pairs x101).Value)]) J (fun w' h'=>Qi (Yj h' hb176) ty119 J (X1 hc179 0 J) J J) D1 (tz0 5 J D1 (xfA Tryz.underlying38 ty36 J) (tz1 6 J D1 (fun w' h'=>xlA h' 0 ty36 J) (tz0 7 J D1 (xmI J) ?_))))
     obtain ⟨⟨p181,p182⟩,H⟩:=Z8 H
     obtain ⟨b183,o184,cs185,_,_,ee190,hb186,vs187,hR188,hc189⟩:=SlW.at' hr1_0 p181 p182
     obtain rfl:vs187=_:=hR188
     refine tz0 8 J D1 (QS Tryz.underlying36 ty119 (slA ee190) J p181 p182) (Wt 9 J J J (.agg #[vS ((rd a1.Pairs x101).Key),vS ((rd a1.Pairs x101).Value)]) J (fun w' h'=>Qi (Yj h' hb186) ty119 J (X1 hc189 0 J) J J) D1 (Wt 10 J J J (.bool (!(((rd a0.Pairs x101).Key==(rd a1.Pairs x101).Key)&&((rd a0.Pairs x101).Value==(rd a1.Pairs x101).Value)))) J (fun w' h'=>Jy (en119 _ _ _ _) J (eq119 _ ((rd a0.Pairs x101).Key) ((rd a0.Pairs x101).Value) ((rd a1.Pairs x101).Key) ((rd a1.Pairs x101).Value))) D1 ?_))
     refine Wz ?_
     refine tn ?_
     rcases Q3 H with ⟨hb191,H⟩ | ⟨hb191,H⟩
     ·refine QC (cB hb191) ?_
      refine wsQ (waB J (wnQ ?_))
      refine QT ?_
      refine br (tr (tr (br (tr (tr (?_))))))
      obtain rfl:=oi H
      have H:=o146H
      replace H:=elimL H
      obtain rfl:=oi H
      exact ⟨_,_,_,rsA (vs:=[_]) J,HM,E,S.pk [],⟨J,J⟩⟩
     refine QA (cB hb191) (QX (bn (tn (QJ (wmI J (wiI J J (waI J (wnQ ?_))))))))
     exact ⟨k,Nat.lt_succ_self k,⟨(IntKind.i64.wrap (x101+(1:Int))),H,agP J,E,S.pk [0,1]⟩⟩
    refine QA (cB hb148) ?_
    refine YZ ?_
    refine tx (tx (bsm (?_)))
    refine tn ?_
    exact ⟨oi H,trivial,E,S.pk []⟩
 rintro ρ w192 ⟨rfl,hρ,E,S⟩
 rw [QB hρ]
 have H:=o146H
 replace H:=elimR H
 refine tn ?_
 as_aux_lemma =>
 refine wsQ (waB J (wnQ ?_))
 refine QT ?_
 obtain rfl:=oi H
 exact ⟨_,_,_,rsA (vs:=[_]) J,HM,E,S.pk [],⟨J,J⟩⟩
def YJ (t2832:(List QL)):Nat→Int→Option ((Bool)⊕(Unit))
 | 0,_=>none
 | k+1,x3304=>(if (decide (x3304<(t2832.length:Int)))=true then (if 0≤x3304∧x3304<(t2832.length:Int) then (Option.bind (α:=Bool) (if ((IntKind.i64.wrap ((rd t2832 x3304).What)) != (IntKind.i64.wrap ((1:Int)+(Int.tmod x3304 (3:Int)))))=true then some (true) else (if 0≤x3304∧x3304<(t2832.length:Int) then some (((rd t2832 x3304).Call != (IntKind.i64.wrap (Int.tdiv x3304 (3:Int))))) else none)) (fun x3582=>(Option.bind (α:=Bool) (if x3582=true then some (true) else (Option.bind (α:=Bool) (if ((Int.tmod x3304 (3:Int)) != (2:Int))=true then (if 0≤x3304∧x3304<(t2832.length:Int) then (Option.bind (Yh k ((rd t2832 x3304).Answer) cz7) (fun t3763=>some ((!t3763)))) else none) else some (false)) (fun x3747=>some (x3747)))) (fun x3710=>(if x3710=true then some (.inl false) else YJ t2832 k (IntKind.i64.wrap (x3304+(1:Int)))))))) else none) else some (.inr ()))
theorem YJ.mono {t2832}: ∀ {kl:Nat} {x0},OLe (YJ t2832 kl x0) (YJ t2832 (kl+1) x0):=by
 intro kl
 induction kl with
 | zero=>intros;exact OLe.none
 | succ kl ih =>
  intros
  rw [YJ.eq_2,YJ.eq_2]
  have m1:=@Yh.mono
  exact mo
def YK (a0:Int) (a1:(List QL)):Nat→Int→Int→Option ((Bool)⊕(Int))
 | 0,_,_=>none
 | k+1,x1885,x1886=>(if (decide (x1886<a0))=true then (Option.bind (Xc k a1 x1886) (fun t2832=>(Option.bind (YJ t2832 k (0:Int)) (fun o3536o=>Sum.elim (fun r'=>some (.inl r')) (fun _=>YK a0 a1 k (IntKind.i64.wrap (x1885+(t2832.length:Int))) (IntKind.i64.wrap (x1886+(1:Int)))) o3536o)))) else some (.inr (x1885)))
theorem YK.mono {a0 a1}: ∀ {kl:Nat} {x0 x1},OLe (YK a0 a1 kl x0 x1) (YK a0 a1 (kl+1) x0 x1):=by
 intro kl
 induction kl with
 | zero=>intros;exact OLe.none
 | succ kl ih =>
  intros
  rw [YK.eq_2,YK.eq_2]
  have m1:=@YJ.mono
  have m2:=@Xc.mono
  exact mo
def XD (k:Nat) (a0:Int) (a1:(List QL)):Option (Bool) :=
 (if ((decide (a0<(1:Int)))||(decide (a0>(6:Int))))=true then some false else (Option.bind (YK a0 a1 k (0:Int) (0:Int)) (fun o2827o=>Sum.elim (fun r'=>some r') (fun x2826=>some (x2826==(a1.length:Int))) o2827o)))
theorem XD.mono {k a0 a1}: OLe (XD k a0 a1) (XD (k+1) a0 a1):=by
 unfold XD
 have m1:=@YK.mono
 exact mo
theorem XD.con {k M} {a0:Int} {A1 c1} {a1:(List QL)} {r:Bool} (h:XD k a0 a1=some r) (hr1:SlR Qs M (.slice A1 a1.length c1) a1): Con Tryz.prog 58 #[vI a0,.slice A1 a1.length c1] M [] (fun v M' Γ'=>v=.bool r∧Γ'=[]):=by
 refine cwA Tryz.func58 J Tryz.ntmps58 Tryz.results58 J h ?_
 intro w F rn S hrn E HM H
 unfold XD at H
 refine wsQ (waB J (wnQ (QH (wsQ (wmI J (wiB J J (wmB J ?_)))))))
 refine ZO 3 (fun ρ w'=>QV ρ [(0,vI a0),(1,.slice A1 a1.length c1),(14,.bool ((decide (a0<(1:Int)))||(decide (a0>(6:Int)))))]∧w=w') ?_ ?_
 ·rcases Qy (decide (a0<(1:Int))) with hb1 | hb1
  ·refine QN (cS hb1) (wmI J (QN (cS hb1) (wiB J J (wqB hb1 J (QK ?_)))))
   exact ⟨⟨J,J,(flB hb1),trivial⟩,rfl⟩
  ·refine QZ (skF hb1) J (QZ (skF hb1) J (wpB hb1 J (QK ?_)))
   exact ⟨⟨J,J,(flB hb1),trivial⟩,rfl⟩
 as_aux_lemma =>
 rintro ρ _ ⟨hρ,rfl⟩
 rw [QB hρ]
 refine wnQ ?_
 rcases Q3 H with ⟨hb2,H⟩ | ⟨hb2,H⟩
 ·refine QC (cB hb2) ?_
  refine wsQ (waB J (wnQ ?_))
  refine QT ?_
  refine tr (?_)
  obtain rfl:=oi H
  exact ⟨_,_,_,rsA (vs:=[_]) J,HM,E,S.pk [],⟨J,J⟩⟩
 refine QA (cB hb2) (QX (tn (wsQ (waI J (wnQ (QH (wsQ (waI J (wnQ ?_)))))))))
 obtain ⟨o2827,o2827h,o2827H⟩:=QO H
 refine Zr (fun ρ w'=>∃ (x2826:Int) (Mj:Hp),.inr (x2826)=o2827∧QV ρ [(1,.slice A1 a1.length c1),(5,vI x2826)]∧M.le Mj∧Ext w w'∧St w' Mj F []) ?_ ?_
 ·refine Yr (fun n ρ w'=>∃ (x1885:Int) (x1886:Int) (Mj:Hp),YK a0 a1 n x1885 x1886=some o2827∧QV ρ [(0,vI a0),(1,.slice A1 a1.length c1),(5,vI x1885),(6,vI x1886)]∧M.le Mj∧Ext w w'∧St w' Mj F []) k ?_ ?_
  ·exact ⟨(0:Int),(0:Int),M,o2827h,agP J,(Hp.le_refl M),E,S.pk []⟩
  ·intro n
   rintro ρ w2828 ⟨x1885,x1886,M2829,H,hρ,hM2830,E,S⟩
   rw [QB hρ]
   replace HM:=Hp.le_trans HM hM2830
   replace hr1:=SlR.mono hr1 hM2830
   cases n with
   | zero=>cases H
   | succ k =>
    rw [YK.eq_2] at H
    refine QH (wsQ (wmI J (wmI J (wiB J J (wnQ ?_)))))
    rcases Q3 H with ⟨hb2831,H⟩ | ⟨hb2831,H⟩
    ·refine QC (cB hb2831) ?_
     refine QX (tn (QH ?_))
     refine ZW ?_
     refine wsQ (wmL J (wmI J ?_))
     obtain ⟨t2832,ht2833,H⟩:=QO H
     refine Y2 fn79 (Xc.con ht2833 hr1) (Γ1:=[]) (Γ2:=[]) S J J ?_
     rintro _ w2837 M2838 Γ' hM2839 E' S ⟨A2834,c2835,rfl,rfl⟩
     replace HM:=Hp.le_trans HM hM2839
     replace hM2830:=Hp.le_trans hM2830 hM2839
     replace E:=E.trans E'
     refine waL J (wnQ (wsQ (wmI J (wmL J (W_v _ (Qm (n:=t2832.length) Tryz.underlying25 J) J (wiI J J (waI J (wnQ (wsQ (waI J (QK ?_)))))))))))
     refine tn ?_
     obtain ⟨o3536,o3536h,o3536H⟩:=QO H
     refine Zr (fun ρ w'=>.inr ()=o3536∧QV ρ [(0,vI a0),(1,.slice A1 a1.length c1),(5,vI (IntKind.i64.wrap (x1885+(t2832.length:Int)))),(6,vI x1886)]∧Ext w w'∧St w' M2838 F []) ?_ ?_
     ·refine Yr (fun n ρ w'=>∃ (x3304:Int),YJ t2832 n x3304=some o3536∧QV ρ [(0,vI a0),(1,.slice A1 a1.length c1),(5,vI (IntKind.i64.wrap (x1885+(t2832.length:Int)))),(6,vI x1886),(7,.slice A2834 t2832.length c2835),(8,vI x3304)]∧Ext w w'∧St w' M2838 F [Rw Qs 40 A2834 c2835 t2832]) k ?_ ?_
      ·exact ⟨(0:Int),o3536h,agP J,E,S.pk [0]⟩
      ·intro n
       rintro ρ w3537 ⟨x3304,H,hρ,E,S⟩
       rw [QB hρ]
       cases n with
       | zero=>cases H
       | succ k =>
        rw [YJ.eq_2] at H
        refine QH (wsQ (wmI J (wmL J (W_v _ (Qm (n:=t2832.length) Tryz.underlying25 J) J (wiB J J (wnQ ?_))))))
        rcases Q3 H with ⟨hb3538,H⟩ | ⟨hb3538,H⟩
        ·refine QC (cB hb3538) ?_
         refine QX (tn (QH ?_))
         refine ZW ?_
         refine wsQ (wmL J (wmI J ?_))
         obtain ⟨⟨p3539,p3540⟩,H⟩:=Z8 H
         obtain ⟨b3541,o3542,cs3543,_,_,ee3548,hb3544,vs3545,hR3546,hc3547⟩:=SlW.at' (S.row_read 0 J) p3539 p3540
         obtain ⟨v3552,hs3551,rfl⟩:=hR3546
         obtain ⟨A3549,c3550,rfl,_⟩:=hs3551.form
         refine W_v _ (QS Tryz.underlying25 ty40 (slA ee3548) J p3539 p3540) J (wfA Tryz.underlying40 ty5 J (W_v _ (Z0 (Hp.of_get hb3544) ty5 J (hc3547 0 _ J)) J (W_v (vI (IntKind.i64.wrap ((rd t2832 x3304).What))) (Kt Tryz.underlying5 Tryz.underlying3 J) J (wmI J (W_v (vI (Int.tmod x3304 (3:Int))) (x_rem J J (by decide)) J (wiI J J (wiB J J (wmB J ?_))))))))
         obtain ⟨o3583,o3583h,o3583H⟩:=QO H
         refine ZO 9 (fun ρ w'=>∃ (x3582:Bool),(x3582)=o3583∧QV ρ [(0,vI a0),(1,.slice A1 a1.length c1),(5,vI (IntKind.i64.wrap (x1885+(t2832.length:Int)))),(6,vI x1886),(7,.slice A2834 t2832.length c2835),(8,vI x3304),(52,.bool x3582)]∧Ext w w'∧St w' M2838 F [Rw Qs 40 A2834 c2835 t2832]) ?_ ?_
         ·have H:=o3583h
          rcases Q3 H with ⟨hb3581,H⟩ | ⟨hb3581,H⟩
          ·refine QZ (skF hb3581) J (QZ (skF hb3581) J (QZ (skF hb3581) J (QZ (skF hb3581) J (QZ (skF hb3581) J (QZ (skF hb3581) J (QZ (skF hb3581) J (QZ (skF hb3581) J (wpB hb3581 J (QK ?_)))))))))
           exact ⟨true,oi H,agP J,E,S.pk [0]⟩
          ·refine QN (cS hb3581) (wmL J (QN (cS hb3581) (wmI J (QN (cS hb3581) ?_))))
           obtain ⟨⟨p3584,p3585⟩,H⟩:=Z8 H
           obtain ⟨b3586,o3587,cs3588,_,_,ee3593,hb3589,vs3590,hR3591,hc3592⟩:=SlW.at' (S.row_read 0 J) p3584 p3585
           obtain ⟨v3597,hs3596,rfl⟩:=hR3591
           obtain ⟨A3594,c3595,rfl,_⟩:=hs3596.form
           refine W_v _ (QS Tryz.underlying25 ty40 (slA ee3593) J p3584 p3585) J (QN (cS hb3581) (wfA Tryz.underlying40 ty3 J (QN (cS hb3581) (W_v _ (Z0 (Hp.of_get hb3589) ty3 J (hc3592 2 _ J)) J (QN (cS hb3581) (wmI J (QN (cS hb3581) (W_v (vI (IntKind.i64.wrap (Int.tdiv x3304 (3:Int)))) (QAL J J (by decide)) J (QN (cS hb3581) (wiB J J (wqB hb3581 J (QK ?_))))))))))))
           exact ⟨((rd t2832 x3304).Call != (IntKind.i64.wrap (Int.tdiv x3304 (3:Int)))),oi H,agP J,E,S.pk [0]⟩
         as_aux_lemma =>
         rintro ρ w3598 ⟨x3582,rfl,hρ,E,S⟩
         rw [QB hρ]
         have H:=o3583H
         refine wmB J ?_
         obtain ⟨o3711,o3711h,o3711H⟩:=QO H
         refine ZO 14 (fun ρ w'=>∃ (x3710:Bool),(x3710)=o3711∧QV ρ [(0,vI a0),(1,.slice A1 a1.length c1),(5,vI (IntKind.i64.wrap (x1885+(t2832.length:Int)))),(6,vI x1886),(7,.slice A2834 t2832.length c2835),(8,vI x3304),(67,.bool x3710)]∧Ext w w'∧St w' M2838 F [Rw Qs 40 A2834 c2835 t2832]) ?_ ?_
         ·as_aux_lemma =>
           have H:=o3711h
           rcases Q3 H with ⟨hb3709,H⟩ | ⟨hb3709,H⟩
           ·refine QZ (skF hb3709) J (QZ (skF hb3709) J (QZ (skF hb3709) J (QZ (skF hb3709) J (QZ (J) J (QZ (J) J (QZ (J) J (QZ (J) J (QZ (J) J (QZ (J) J (QZ (J) J (QZ (J) J (QZ (skF hb3709) J (wpB hb3709 J (QK ?_))))))))))))))
            exact ⟨true,oi H,agP J,E,S.pk [0]⟩
           ·refine QN (cS hb3709) (wmI J (QN (cS hb3709) (W_v (vI (Int.tmod x3304 (3:Int))) (x_rem J J (by decide)) J (QN (cS hb3709) (wiB J J (QN (cS hb3709) (wmB J ?_)))))))
            obtain ⟨o3748,o3748h,o3748H⟩:=QO H
            refine ZO 9 (fun ρ w'=>∃ (x3747:Bool),(x3747)=o3748∧QV ρ [(0,vI a0),(1,.slice A1 a1.length c1),(5,vI (IntKind.i64.wrap (x1885+(t2832.length:Int)))),(6,vI x1886),(7,.slice A2834 t2832.length c2835),(8,vI x3304),(53,.bool x3582),(54,vI x3304),(55,vI (Int.tmod x3304 (3:Int))),(56,.bool ((Int.tmod x3304 (3:Int)) != (2:Int))),(57,.bool ((Int.tmod x3304 (3:Int)) != (2:Int))),(66,.bool x3747)]∧Ext w w'∧St w' M2838 F [Rw Qs 40 A2834 c2835 t2832]) ?_ ?_
            ·as_aux_lemma =>
              have H:=o3748h
              rcases Q3 H with ⟨hb3746,H⟩ | ⟨hb3746,H⟩
              ·refine QN (cS hb3746) (wmL J (QN (cS hb3746) (wmI J (QN (cS hb3746) ?_))))
               obtain ⟨⟨p3749,p3750⟩,H⟩:=Z8 H
               obtain ⟨b3751,o3752,cs3753,_,_,ee3758,hb3754,vs3755,hR3756,hc3757⟩:=SlW.at' (S.row_read 0 J) p3749 p3750
               obtain ⟨v3762,hs3761,rfl⟩:=hR3756
               obtain ⟨A3759,c3760,rfl,_⟩:=hs3761.form
               refine W_v _ (QS Tryz.underlying25 ty40 (slA ee3758) J p3749 p3750) J (QN (cS hb3746) (wfA Tryz.underlying40 ty38 J (QN (cS hb3746) (W_v (.agg #[vI ((rd t2832 x3304).Answer.Err),.bool ((rd t2832 x3304).Answer.Found),vS ((rd t2832 x3304).Answer.Value),.slice A3759 ((rd t2832 x3304).Answer.Pairs).length c3760]) (Qi (Hp.of_get hb3754) ty38 J (X1 hc3757 3 J) J J) J (QN (cS hb3746) (W_v _ (xb2 [(0,1),(1,1),(2,1),(3,1)] cz16 Tryz.underlying38 ty38 J) J (QN (cS hb3746) ?_)))))))
               obtain ⟨t3763,ht3764,H⟩:=QO H
               refine ZR fn80 (Yh.con ht3764 hs3761 (SlW.nil _ _)) S J J flN (eE4 E ?_)
               rintro _ w3765 _ Γ' E S ⟨rfl,rfl⟩
               refine QN (cS hb3746) (W_v _ (Xr (b:=t3763) J) J (QN (cS hb3709) (wpB hb3746 J (QK ?_))))
               exact ⟨(!t3763),oi H,agP J,E,S.pk [0]⟩
              ·refine QZ (skT hb3746) J (QZ (skT hb3746) J (QZ (skT hb3746) J (QZ (skT hb3746) J (QZ (skT hb3746) J (QZ (skT hb3746) J (QZ (skT hb3746) J (QZ (skT hb3746) J (QN (cS hb3709) (wqB hb3746 J (QK ?_))))))))))
               exact ⟨false,oi H,agP J,E,S.pk [0]⟩
            rintro ρ w3766 ⟨x3747,rfl,hρ,E,S⟩
            rw [QB hρ]
            have H:=o3748H
            refine wqB hb3709 J (QK ?_)
            exact ⟨x3747,oi H,agP J,E,S.pk [0]⟩
         rintro ρ w3767 ⟨x3710,rfl,hρ,E,S⟩
         rw [QB hρ]
         have H:=o3711H
         refine wnQ ?_
         rcases Q3 H with ⟨hb3768,H⟩ | ⟨hb3768,H⟩
         ·refine QC (cB hb3768) ?_
          refine wsQ (waB J (wnQ ?_))
          refine QT ?_
          refine br (tr (tr (br (tr (br (tr (tr (br (tr (tr (?_)))))))))))
          obtain rfl:=oi H
          have H:=o3536H
          replace H:=elimL H
          obtain rfl:=oi H
          have H:=o2827H
          replace H:=elimL H
          obtain rfl:=oi H
          exact ⟨_,_,_,rsA (vs:=[_]) J,HM,E,S.pk [],⟨J,J⟩⟩
         refine QA (cB hb3768) (QX (bn (tn (QJ (wmI J (wiI J J (waI J (wnQ ?_))))))))
         exact ⟨k,Nat.lt_succ_self k,⟨(IntKind.i64.wrap (x3304+(1:Int))),H,agP J,E,S.pk [0]⟩⟩
        refine QA (cB hb3538) ?_
        refine YZ ?_
        refine tx (tx (bsm (?_)))
        refine tn ?_
        exact ⟨oi H,agP J,E,S.pk []⟩
     rintro ρ w3769 ⟨rfl,hρ,E,S⟩
     rw [QB hρ]
     have H:=o3536H
     replace H:=elimR H
     refine bn (tn (QJ (wmI J (wiI J J (waI J (wnQ ?_))))))
     exact ⟨k,Nat.lt_succ_self k,⟨(IntKind.i64.wrap (x1885+(t2832.length:Int))),(IntKind.i64.wrap (x1886+(1:Int))),M2838,H,agP J,hM2830,E,S.pk []⟩⟩
    refine QA (cB hb2831) ?_
    refine YZ ?_
    refine tx (tx (bsm (?_)))
    refine tn ?_
    exact ⟨x1885,M2829,oi H,agP J,hM2830,E,S.pk []⟩
 rintro ρ w3770 ⟨x2826,M3771,rfl,hρ,hM3772,E,S⟩
 rw [QB hρ]
 replace HM:=Hp.le_trans HM hM3772
 have H:=o2827H
 replace H:=elimR H
 refine tn ?_
 as_aux_lemma =>
 refine wsQ (wmI J (wmL J (W_v _ (Qm (n:=a1.length) Tryz.underlying25 J) J (wiB J J (waB J (wnQ ?_))))))
 refine QT ?_
 obtain rfl:=oi H
 exact ⟨_,_,_,rsA (vs:=[_]) J,HM,E,S.pk [],⟨J,J⟩⟩
def Yo (a1:(List (List QY))) (a2:(List QL)):Nat→Int→Option ((Bool)⊕(Unit))
 | 0,_=>none
 | k+1,x426=>(if (decide (x426<(a2.length:Int)))=true then (if 0≤x426∧x426<(a2.length:Int) then (Option.bind (α:=Bool) (if (decide ((rd a2 x426).Task≥(a1.length:Int)))=true then some (true) else (if 0≤x426∧x426<(a2.length:Int) then (if 0≤x426∧x426<(a2.length:Int) then (if 0≤(rd a2 x426).Task∧(rd a2 x426).Task<(a1.length:Int) then some ((decide ((rd a2 x426).Call≥((rd a1 ((rd a2 x426).Task)).length:Int)))) else none) else none) else none)) (fun x799=>(if x799=true then some (.inl false) else Yo a1 a2 k (IntKind.i64.wrap (x426+(1:Int)))))) else none) else some (.inr ()))
theorem Yo.mono {a1 a2}: ∀ {kl:Nat} {x0},OLe (Yo a1 a2 kl x0) (Yo a1 a2 (kl+1) x0):=by
 intro kl
 induction kl with
 | zero=>intros;exact OLe.none
 | succ kl ih =>
  intros
  rw [Yo.eq_2,Yo.eq_2]
  exact mo
def Xb (k:Nat) (a0:QI) (a1:(List (List QY))) (a2:(List QL)):Option (Bool) :=
 (Option.bind (XD k a0.Tasks a2) (fun t4=>(if (!t4)=true then some false else (Option.bind (Yo a1 a2 k (0:Int)) (fun o635o=>Sum.elim (fun r'=>some r') (fun _=>some true) o635o)))))
theorem Xb.mono {k a0 a1 a2}: OLe (Xb k a0 a1 a2) (Xb (k+1) a0 a1 a2):=by
 unfold Xb
 have m1:=@XD.mono
 have m2:=@Yo.mono
 exact mo
theorem Xb.con {k M} {a0:QI} {A1 c1} {a1:(List (List QY))} {A2 c2} {a2:(List QL)} {r:Bool} (h:Xb k a0 a1 a2=some r) (hr1:SlR (rSl Yk) M (.slice A1 a1.length c1) a1) (hr2:SlR Qs M (.slice A2 a2.length c2) a2): Con Tryz.prog 39 #[.agg (QF a0),.slice A1 a1.length c1,.slice A2 a2.length c2] M [] (fun v M' Γ'=>v=.bool r∧Γ'=[]):=by
 refine cwA Tryz.func39 J Tryz.ntmps39 Tryz.results39 J h ?_
 intro w F rn S hrn E HM H
 unfold Xb at H
 refine wsQ ?_
 refine Yz S (QF a0) J J J (eE2 E ?_)
 intro b1 w2 E S
 refine waB J (wnQ (QH (wsQ (wfA Tryz.underlying23 ty3 J (wlA S 0 ty3 J (wmL J ?_))))))
 obtain ⟨t4,ht5,H⟩:=QO H
 refine ZR fn58 (XD.con ht5 hr2) S J J flN (eE4 E ?_)
 rintro _ w6 _ Γ' E S ⟨rfl,rfl⟩
 refine W_v _ (Xr (b:=t4) J) J (wnQ ?_)
 rcases Q3 H with ⟨hb7,H⟩ | ⟨hb7,H⟩
 ·refine QC (cB hb7) ?_
  refine wsQ (waB J (wnQ ?_))
  refine QT ?_
  refine tr (?_)
  obtain rfl:=oi H
  exact ⟨_,_,_,rsA (vs:=[_]) J,HM,E,S.pk [],⟨J,J⟩⟩
 refine QA (cB hb7) (QX (tn (QH (wsQ (waI J (wnQ ?_))))))
 obtain ⟨o635,o635h,o635H⟩:=QO H
 refine Zr (fun ρ w'=>.inr ()=o635∧QV ρ []∧Ext w w'∧St w' M F []) ?_ ?_
 ·refine Yr (fun n ρ w'=>∃ (x426:Int),Yo a1 a2 n x426=some o635∧QV ρ [(1,.slice A1 a1.length c1),(2,.slice A2 a2.length c2),(7,vI x426)]∧Ext w w'∧St w' M F []) k ?_ ?_
  ·exact ⟨(0:Int),o635h,agP J,E,S.pk []⟩
  ·intro n
   rintro ρ w636 ⟨x426,H,hρ,E,S⟩
   rw [QB hρ]
   cases n with
   | zero=>cases H
   | succ k =>
    rw [Yo.eq_2] at H
    refine QH (wsQ (wmI J (wmL J (W_v _ (Qm (n:=a2.length) Tryz.underlying25 J) J (wiB J J (wnQ ?_))))))
    rcases Q3 H with ⟨hb637,H⟩ | ⟨hb637,H⟩
    ·refine QC (cB hb637) ?_
     refine QX (tn (QH ?_))
     refine ZW ?_
     refine QH ?_
     refine rgA S [] [] 25 mixed J (eE1 E ?_)
     intro w740 E S D1
     refine tz0 0 J D1 (xmL J) (tz0 1 J D1 (xmI J) ?_)
     obtain ⟨⟨p742,p743⟩,H⟩:=Z8 H
     obtain ⟨b744,o745,cs746,_,_,ee751,hb747,vs748,hR749,hc750⟩:=SlW.at' hr2 p742 p743
     obtain ⟨v755,hs754,rfl⟩:=hR749
     obtain ⟨A752,c753,rfl,_⟩:=hs754.form
     refine tz0 2 J D1 (QS Tryz.underlying25 ty40 (slA ee751) J p742 p743) (tz0 3 J D1 (xfA Tryz.underlying40 ty3 J) (tz1 4 J D1 (fun w' h'=>Z0 (Yj h' hb747) ty3 J (hc750 1 _ J)) (tz0 5 J D1 (xmL J) (tz0 6 J D1 (Qm (n:=a1.length) Tryz.underlying24 J) (tz0 7 J D1 (xiB J J) (tz0 8 J D1 (xmB J) ?_))))))
     obtain ⟨o800,o800h,o800H⟩:=QO H
     refine YB (fun ρ w'=>∃ (x799:Bool),(x799)=o800∧QV ρ [(1,.slice A1 a1.length c1),(2,.slice A2 a2.length c2),(7,vI x426),(43,.bool x799)]∧Ext w w'∧St w' M F []) 0 (Ls 25 [0,1,2,3,4,5,6,7,8,9,10,11,12,13,14,15,16,17,18,19,20,21,22,23,24]) ?_ ?_
     rotate_left
     ·intro hrest
      have H:=o800h
      rcases Q3 H with ⟨hb798,H⟩ | ⟨hb798,H⟩
      ·refine tz4 9 J (skF hb798) D1 (tz4 10 J (skF hb798) D1 (tz4 11 J (skF hb798) D1 (tz4 12 J (skF hb798) D1 (tz4 13 J (skF hb798) D1 (tz4 14 J (skF hb798) D1 (tz4 15 J (skF hb798) D1 (tz4 16 J (skF hb798) D1 (tz4 17 J (skF hb798) D1 (tz4 18 J (skF hb798) D1 (tz4 19 J (skF hb798) D1 (tz4 20 J (skF hb798) D1 (tz4 21 J (skF hb798) D1 (tz4 22 J (skF hb798) D1 (tz4 23 J (skF hb798) D1 (tz0 24 J D1 (xpB hb798 J) ?_)))))))))))))))
       exact hrest _ _ ⟨true,oi H,agP J,E,S.pk []⟩
      ·refine tz2 9 J (cS hb798) D1 (xmL J) (tz2 10 J (cS hb798) D1 (xmI J) ?_)
       obtain ⟨⟨p801,p802⟩,H⟩:=Z8 H
       obtain ⟨b803,o804,cs805,_,_,ee810,hb806,vs807,hR808,hc809⟩:=SlW.at' hr2 p801 p802
       obtain ⟨v814,hs813,rfl⟩:=hR808
       obtain ⟨A811,c812,rfl,_⟩:=hs813.form
       refine tz2 11 J (cS hb798) D1 (QS Tryz.underlying25 ty40 (slA ee810) J p801 p802) (tz2 12 J (cS hb798) D1 (xfA Tryz.underlying40 ty3 J) (tz3 13 J (cS hb798) D1 (fun w' h'=>Z0 (Yj h' hb806) ty3 J (hc809 2 _ J)) (tz2 14 J (cS hb798) D1 (xmL J) (tz2 15 J (cS hb798) D1 (xmL J) (tz2 16 J (cS hb798) D1 (xmI J) ?_)))))
       obtain ⟨⟨p815,p816⟩,H⟩:=Z8 H
       obtain ⟨b817,o818,cs819,_,_,ee824,hb820,vs821,hR822,hc823⟩:=SlW.at' hr2 p815 p816
       obtain ⟨v828,hs827,rfl⟩:=hR822
       obtain ⟨A825,c826,rfl,_⟩:=hs827.form
       refine tz2 17 J (cS hb798) D1 (QS Tryz.underlying25 ty40 (slA ee824) J p815 p816) (tz2 18 J (cS hb798) D1 (xfA Tryz.underlying40 ty3 J) (tz3 19 J (cS hb798) D1 (fun w' h'=>Z0 (Yj h' hb820) ty3 J (hc823 1 _ J)) ?_))
       obtain ⟨⟨p829,p830⟩,H⟩:=Z8 H
       obtain ⟨b831,o832,cs833,_,_,ee838,hb834,vs835,hR836,hc837⟩:=SlW.at' hr1 p829 p830
       obtain ⟨v842,hs841,rfl⟩:=hR836
       obtain ⟨A839,c840,rfl,_⟩:=hs841.form
       refine tz2 20 J (cS hb798) D1 (QS Tryz.underlying24 ty41 (slA ee838) J p829 p830) (tz3 21 J (cS hb798) D1 (fun w' h'=>Z0 (Yj h' hb834) ty41 J (hc837 0 _ J)) (tz2 22 J (cS hb798) D1 (Qm (n:=(rd a1 ((rd a2 x426).Task)).length) Tryz.underlying41 J) (tz2 23 J (cS hb798) D1 (xiB J J) (tz0 24 J D1 (xqB hb798 J) ?_))))
       exact hrest _ _ ⟨(decide ((rd a2 x426).Call≥((rd a1 ((rd a2 x426).Task)).length:Int))),oi H,agP J,E,S.pk []⟩
     rintro ρ w843 ⟨x799,rfl,hρ,E,S⟩
     rw [QB hρ]
     have H:=o800H
     refine Wz ?_
     refine tn ?_
     rcases Q3 H with ⟨hb844,H⟩ | ⟨hb844,H⟩
     ·refine QC (cB hb844) ?_
      refine wsQ (waB J (wnQ ?_))
      refine QT ?_
      refine br (tr (tr (br (tr (tr (?_))))))
      obtain rfl:=oi H
      have H:=o635H
      replace H:=elimL H
      obtain rfl:=oi H
      exact ⟨_,_,_,rsA (vs:=[_]) J,HM,E,S.pk [],⟨J,J⟩⟩
     refine QA (cB hb844) (QX (bn (tn (QJ (wmI J (wiI J J (waI J (wnQ ?_))))))))
     exact ⟨k,Nat.lt_succ_self k,⟨(IntKind.i64.wrap (x426+(1:Int))),H,agP J,E,S.pk []⟩⟩
    refine QA (cB hb637) ?_
    refine YZ ?_
    refine tx (tx (bsm (?_)))
    refine tn ?_
    exact ⟨oi H,trivial,E,S.pk []⟩
 rintro ρ w845 ⟨rfl,hρ,E,S⟩
 rw [QB hρ]
 have H:=o635H
 replace H:=elimR H
 refine tn ?_
 as_aux_lemma =>
 refine wsQ (waB J (wnQ ?_))
 refine QT ?_
 obtain rfl:=oi H
 exact ⟨_,_,_,rsA (vs:=[_]) J,HM,E,S.pk [],⟨J,J⟩⟩
def Zk (k:Nat) (a0:QI):Option ((Unit)⊕(QE)) :=
 (Option.bind (ZV k a0) (fun t4=>(if (!t4)=true then some (Sum.inl ()) else some (Sum.inr (⟨⟨a0.Tasks,a0.Active,a0.Keys,a0.Depth,a0.TS,a0.KeyLen,a0.ValLen,a0.Fan⟩,([]:List Qf),([]:List Qk),(0:Int),(0:Int)⟩:QE)))))
theorem Zk.mono {k a0}: OLe (Zk k a0) (Zk (k+1) a0):=by
 unfold Zk
 have m1:=@ZV.mono
 exact mo
theorem Zk.con {k M} {a0:QI} {r:(Unit)⊕(QE)} (h:Zk k a0=some r): Con Tryz.prog 29 #[.agg (QF a0)] M [] (fun v M' Γ'=>(Sum.elim (fun x=>v=.tuple cz21∧Γ'=[]) (fun x=>∃ (bq1:Nat) (Aq3:Option Addr) (cq4:Nat) (Aq6:Option Addr) (cq7:Nat),v=.tuple #[pt bq1 0,vI 0]∧Γ'=[B69 bq1 x Aq3 cq4 Aq6 cq7,Rw QD 112 Aq3 cq4 x.T,Rw Qa 110 Aq6 cq7 x.L])) r):=by
 refine cwA Tryz.func29 J Tryz.ntmps29 Tryz.results29 J h ?_
 intro w F rn S hrn E HM H
 unfold Zk at H
 refine wsQ ?_
 refine Yz S (QF a0) J J J (eE2 E ?_)
 intro b1 w2 E S
 refine W_v (.pointer none) (Zm J) J (waI J (wnQ (QH (wsQ (W_v (.agg (QF a0)) (Qi (S.blk 0 J) ty23 J (QG J) J J) J ?_)))))
 obtain ⟨t4,ht5,H⟩:=QO H
 refine ZR fn18 (ZV.con ht5) S J J flN (eE4 E ?_)
 rintro _ w6 _ Γ' E S ⟨rfl,rfl⟩
 refine W_v _ (Xr (b:=t4) J) J (wnQ ?_)
 rcases Q3 H with ⟨hb7,H⟩ | ⟨hb7,H⟩
 ·refine QC (cB hb7) ?_
  refine wsQ (W_v (.pointer none) (Zm J) J (waI J (wnQ ?_)))
  refine QT ?_
  refine tr (?_)
  obtain rfl:=oi H
  exact ⟨_,_,_,rsA (vs:=[_,_]) J,HM,E,S.pk [],⟨J,J⟩⟩
 refine QA (cB hb7) (QX (tn (wsQ (W_v (.agg (QF a0)) (Qi (S.blk 0 J) ty23 J (QG J) J J) J (W_v _ (xb2 [(0,8),(8,1),(9,1),(10,1),(11,1)] #[vI a0.Tasks,vI a0.Active,vI a0.Keys,vI a0.Depth,vI a0.TS,vI a0.KeyLen,vI a0.ValLen,vI a0.Fan,.slice none 0 0,.slice none 0 0,vI 0,vI 0] Tryz.underlying69 ty69 J) J ?_)))))
 refine Yz S #[vI a0.Tasks,vI a0.Active,vI a0.Keys,vI a0.Depth,vI a0.TS,vI a0.KeyLen,vI a0.ValLen,vI a0.Fan,.slice none 0 0,.slice none 0 0,vI 0,vI 0] J J J (eE2 E ?_)
 intro b8 w9 E S
 refine waP J (waI J (wnQ ?_))
 refine QT ?_
 obtain rfl:=oi H
 replace S:=S.row_nil QD 112
 replace S:=S.row_nil Qa 110
 exact ⟨_,_,_,rsA (vs:=[_,_]) J,HM,E,S.pk [2,1,0],⟨b8,none,0,none,0,J,J⟩⟩
def YM (k:Nat) (a1:Int) (a2:QY):Option (Int) :=
 (Option.bind (α:=Unit) (if (decide (a1<(0:Int)))=true then some () else none) (fun _=>some (1:Int)))
theorem YM.mono {k a1 a2}: OLe (YM k a1 a2) (YM (k+1) a1 a2):=by
 unfold YM
 exact mo
theorem YM.con {k M} {a1:Int} {a2:QY} {r:Int} (h:YM k a1 a2=some r): Con Tryz.prog 40 #[.pointer none,vI a1,.agg (Qo a2)] M [] (fun v M' Γ'=>v=vI r∧Γ'=[]):=by
 refine cwA Tryz.func40 J Tryz.ntmps40 Tryz.results40 J h ?_
 intro w F rn S hrn E HM H
 unfold YM at H
 refine wsQ ?_
 refine Yz S (Qo a2) J J J (eE2 E ?_)
 intro b1 w2 E S
 refine waI J (wnQ (QH (wsQ (wmI J (wiB J J (wmB J ?_))))))
 obtain ⟨o5,o5h,o5H⟩:=QO H
 refine ZO 8 (fun ρ w'=>()=o5∧QV ρ [(0,.pointer none),(1,vI a1),(5,pt b1 0),(21,.bool true)]∧Ext w w'∧St w' M F [B43 b1 a2]) ?_ ?_
 ·have H:=o5h
  rcases Q3 H with ⟨hb4,H⟩ | ⟨hb4,H⟩
  ·refine QZ (skF hb4) J (QZ (skF hb4) J (QZ (skF hb4) J (QZ (skF hb4) J (QZ (skF hb4) J (QZ (skF hb4) J (QZ (skF hb4) J (wpB hb4 J (QK ?_))))))))
   exact ⟨oi H,agP J,E,S.pk [0]⟩
  ·refine QN (cS hb4) (wmI J (QN (cS hb4) (W_v (.pointer none) (YW J) J (QN (cS hb4) ?_))))
   cases H
 as_aux_lemma =>
 rintro ρ w6 ⟨rfl,hρ,E,S⟩
 rw [QB hρ]
 have H:=o5H
 refine wmB J (QZ (J) J (QZ (J) J (QZ (J) J (wpB J J (wmB J (QZ (J) J (QZ (J) J (QZ (J) J (wpB J J (wmB J (QZ (J) J (QZ (J) J (QZ (J) J (QZ (J) J (QZ (J) J ?_)))))))))))))))
 refine QZ (J) J (QZ (J) J (QZ (J) J (QZ (J) J (QZ (J) J (QZ (J) J (QZ (J) J (QZ (J) J (wpB J J (wnQ (QC J (wsQ (waI J (QK ?_)))))))))))))
 refine tn ?_
 refine QT ?_
 refine tr (?_)
 obtain rfl:=oi H
 exact ⟨_,_,_,rsA (vs:=[_]) J,HM,E,S.pk [],⟨J,J⟩⟩
def Y3 (k:Nat) (a1:Int) (a2:QY):Option (Ql) :=
 (Option.bind (YM k a1 a2) (fun t7=>(if (t7 != (0:Int))=true then some (⟨t7,false,([]:Str),([]:List Qp)⟩:Ql) else none)))
theorem Y3.mono {k a1 a2}: OLe (Y3 k a1 a2) (Y3 (k+1) a1 a2):=by
 unfold Y3
 have m1:=@YM.mono
 exact mo
theorem Y3.con {k M} {a1:Int} {a2:QY} {r:Ql} (h:Y3 k a1 a2=some r): Con Tryz.prog 30 #[.pointer none,vI a1,.agg (Qo a2)] M [] (fun v M' Γ'=>∃ (Aq1:Option Addr) (cq2:Nat),v=.agg #[vI r.Err,.bool r.Found,vS r.Value,.slice Aq1 r.Pairs.length cq2]∧Γ'=[Rw Qq 119 Aq1 cq2 r.Pairs]):=by
 refine cwA Tryz.func30 J Tryz.ntmps30 Tryz.results30 J h ?_
 intro w F rn S hrn E HM H
 unfold Y3 at H
 refine wsQ ?_
 refine Yz S (Qo a2) J J J (eE2 E ?_)
 intro b1 w2 E S
 refine YN S cz16 ty38 J J (eE2 E ?_)
 intro b4 w5 E S
 refine wnQ (wsQ (W_v (.pointer none) (YW J) J (wmI J (W_v (.agg (Qo a2)) (Qi (S.blk 1 J) ty43 J (QG J) J J) J ?_))))
 obtain ⟨t7,ht8,H⟩:=QO H
 refine Zy fn40 (YM.con ht8) (Γ1:=[]) (Γ2:=[_,_]) S J J flN (eE4 E ?_)
 rintro _ w9 _ Γ' E S ⟨rfl,rfl⟩
 replace S:St w9 M F [_,_]:=S
 refine waI J (wnQ (QH (wsQ (wmI J (wiB J J (wnQ ?_))))))
 rcases Q3 H with ⟨hb12,H⟩ | ⟨hb12,H⟩
 ·refine QC (cB hb12) ?_
  refine wsQ (wmI J (W_v _ (xb2 [(0,1),(1,1),(2,1),(3,1)] #[vI t7,.bool false,vS ([]:Str),.slice none 0 0] Tryz.underlying38 ty38 J) J ?_))
  refine Qu S 0 J ty38 J J [vI t7,.bool false,vS ([]:Str),.slice none 0 0] J J J #[vI t7,.bool false,vS ([]:Str),.slice none 0 0] J J (eE1 E ?_)
  intro w13 E S
  refine wnQ ?_
  refine QT ?_
  refine tr (?_)
  obtain rfl:=oi H
  replace S:=S.row_nil Qq 119
  exact ⟨_,_,_,fun w1 e1=>Zg (vs:=[.agg #[vI t7,.bool false,vS ([]:Str),.slice none ([]:List Qp).length 0]]) (FA.cons (rcA S e1 1 ty38 J J J) (FA.nil)),HM,E,S.pk [0],⟨none,0,J,J⟩⟩
 refine QA (cB hb12) (QX (tn ?_))
 as_aux_lemma =>
 refine wsQ (W_v (.pointer none) (YW J) J (wmI J (wfA Tryz.underlying43 ty3 J (wlA S 1 ty3 J ?_))))
 cases H
def ZT (a0:QE) (a1:Qk):Nat→List Qk→Bool→Int→Option ((List Qk×Bool))
 | 0,_,_,_=>none
 | k+1,x697,x701,x702=>(if (decide (x702<(a0.L.length:Int)))=true then (Option.bind (α:=List Qk×Bool) (if 0≤x702∧x702<(a0.L.length:Int) then (Option.bind (Zx k ((rd a0.L x702).Key) a1.Key) (fun t1251=>(Option.bind (α:=List Qk×Bool) (if ((decide (t1251≥(0:Int)))&&(!x701))=true then (if x697.length+([a1]:List Qk).length≤1599289640401 then some ((x697++([a1]:List Qk)),true) else none) else some (x697,x701)) (fun ⟨x1279,x1283⟩=>(Option.bind (α:=List Qk) (if (t1251 != (0:Int))=true then (if 0≤x702∧x702<(a0.L.length:Int) then (if x1279.length+([(rd a0.L x702)]:List Qk).length≤1599289640401 then some ((x1279++([(rd a0.L x702)]:List Qk))) else none) else none) else some (x1279)) (fun x1350=>some (x1350,x1283))))))) else none) (fun ⟨x1212,x1216⟩=>ZT a0 a1 k x1212 x1216 (IntKind.i64.wrap (x702+(1:Int))))) else some (x697,x701))
theorem ZT.mono {a0 a1}: ∀ {kl:Nat} {x0 x1 x2},OLe (ZT a0 a1 kl x0 x1 x2) (ZT a0 a1 (kl+1) x0 x1 x2):=by
 intro kl
 induction kl with
 | zero=>intros;exact OLe.none
 | succ kl ih =>
  intros
  rw [ZT.eq_2,ZT.eq_2]
  have m1:=@Zx.mono
  exact mo
def Qr (k:Nat) (a0:QE) (a1:Qk):Option (QE) :=
 (Option.bind (ZT a0 a1 k ([]:List Qk) (((a1.L.length:Int)==(0:Int))&&(!a1.Has)) (0:Int)) (fun ⟨x1039,x1043⟩=>(Option.bind (α:=List Qk) (if (!x1043)=true then (if x1039.length+([a1]:List Qk).length≤1599289640401 then some ((x1039++([a1]:List Qk))) else none) else some (x1039)) (fun x1408=>some (⟨⟨a0.C.Tasks,a0.C.Active,a0.C.Keys,a0.C.Depth,a0.C.TS,a0.C.KeyLen,a0.C.ValLen,a0.C.Fan⟩,a0.T,x1408,a0.Time,a0.Low⟩:QE)))))
theorem Qr.mono {k a0 a1}: OLe (Qr k a0 a1) (Qr (k+1) a0 a1):=by
 unfold Qr
 have m1:=@ZT.mono
 exact mo
theorem Qr.con {k M A0_8 c0_8 A0_9 c0_9} {a0:QE} {A1_0 c1_0} {a1:Qk} {bo0} {r:QE} (h:Qr k a0 a1=some r) (hr0_9:SlR Qa M (.slice A0_9 a0.L.length c0_9) a0.L) (hr1_0:SlR ZL M (.slice A1_0 a1.L.length c1_0) a1.L): Con Tryz.prog 64 #[pt bo0 0,.agg #[vS a1.Key,.slice A1_0 a1.L.length c1_0,.bool a1.Has,vI a1.I.Writer,vI a1.I.TS,.bool a1.I.Tomb,vS a1.I.Value]] M [B69 bo0 a0 A0_8 c0_8 A0_9 c0_9,Rw QD 112 A0_8 c0_8 a0.T] (fun v M' Γ'=>∃ (Aq1:Option Addr) (cq2:Nat) (Aq4:Option Addr) (cq5:Nat),v=.tuple #[]∧Γ'=[B69 bo0 r Aq1 cq2 Aq4 cq5,Rw QD 112 Aq1 cq2 r.T,Rw Qa 110 Aq4 cq5 r.L]):=by
 refine cwA Tryz.func64 J Tryz.ntmps64 Tryz.results64 J h ?_
 intro w F rn S hrn E HM H
 unfold Qr at H
 refine wsQ ?_
 refine Yz S #[vS a1.Key,.slice A1_0 a1.L.length c1_0,.bool a1.Has,vI a1.I.Writer,vI a1.I.TS,.bool a1.I.Tomb,vS a1.I.Value] J J J (eE2 E ?_)
 intro b1 w2 E S
 refine wnQ (wsQ (waL J (wnQ (wsQ (wfA Tryz.underlying110 ty86 J (wlA S 0 ty86 J (W_v _ (Qm (n:=a1.L.length) Tryz.underlying86 J) J (wiB J J (wmB J ?_)))))))))
 refine ZO 4 (fun ρ w'=>QV ρ [(0,pt bo0 0),(3,pt b1 0),(4,.slice none 0 0),(16,.bool (((a1.L.length:Int)==(0:Int))&&(!a1.Has)))]∧w2=w') ?_ ?_
 ·rcases Qy ((a1.L.length:Int)==(0:Int)) with hb4 | hb4
  ·refine QZ (skT hb4) J (QZ (skT hb4) J (QZ (skT hb4) J (wqB hb4 J (QK ?_))))
   exact ⟨⟨J,J,J,(flB hb4),trivial⟩,rfl⟩
  ·refine QN (cS hb4) (wfA Tryz.underlying110 ty4 J (QN (cS hb4) (wlA S 0 ty4 J (QN (cS hb4) (W_v _ (Xr (b:=a1.Has) J) J (wpB hb4 J (QK ?_)))))))
   exact ⟨⟨J,J,J,(flB hb4),trivial⟩,rfl⟩
 as_aux_lemma =>
 rintro ρ _ ⟨hρ,rfl⟩
 rw [QB hρ]
 refine waB J (wnQ (QH (wsQ (waI J (wnQ ?_)))))
 obtain ⟨o1044,o1044h,o1044H⟩:=QO H
 refine Zr (fun ρ w'=>∃ (x1039:List Qk) (x1043:Bool) (A1040:Option Addr) (c1041:Nat),(x1039,x1043)=o1044∧QV ρ [(0,pt bo0 0),(3,pt b1 0),(4,.slice A1040 x1039.length c1041),(5,.bool x1043)]∧Ext w w'∧St w' M F [Rw Qa 110 A1040 c1041 x1039,B110 b1 a1 A1_0 c1_0,B69 bo0 a0 A0_8 c0_8 A0_9 c0_9,Rw QD 112 A0_8 c0_8 a0.T]) ?_ ?_
 ·refine Yr (fun n ρ w'=>∃ (x697:List Qk) (x701:Bool) (x702:Int) (A698:Option Addr) (c699:Nat),ZT a0 a1 n x697 x701 x702=some o1044∧QV ρ [(0,pt bo0 0),(3,pt b1 0),(4,.slice A698 x697.length c699),(5,.bool x701),(6,vI x702)]∧Ext w w'∧St w' M F [Rw Qa 110 A698 c699 x697,B110 b1 a1 A1_0 c1_0,B69 bo0 a0 A0_8 c0_8 A0_9 c0_9,Rw QD 112 A0_8 c0_8 a0.T]) k ?_ ?_
  ·replace S:=S.row_nil Qa 110
   exact ⟨([]:List Qk),(((a1.L.length:Int)==(0:Int))&&(!a1.Has)),(0:Int),none,0,o1044h,agP J,E,S.pk [0,1,2,3]⟩
  ·intro n
   rintro ρ w1046 ⟨x697,x701,x702,A698,c699,H,hρ,E,S⟩
   rw [QB hρ]
   cases n with
   | zero=>cases H
   | succ k =>
    rw [ZT.eq_2] at H
    refine QH (wsQ (wmI J (wmP J (W_v _ (Qb J) J (wfA Tryz.underlying69 ty67 J (wlA S 2 ty67 J (W_v _ (Qm (n:=a0.L.length) Tryz.underlying67 J) J (wiB J J (wnQ ?_)))))))))
    rcases Q3 H with ⟨hb1047,H⟩ | ⟨hb1047,H⟩
    ·refine QC (cB hb1047) ?_
     refine QX (tn (QH ?_))
     obtain ⟨o1217,o1217h,o1217H⟩:=QO H
     refine Yc (fun ρ w'=>∃ (x1212:List Qk) (x1216:Bool) (A1213:Option Addr) (c1214:Nat),(x1212,x1216)=o1217∧QV ρ [(0,pt bo0 0),(3,pt b1 0),(4,.slice A1213 x1212.length c1214),(5,.bool x1216),(6,vI x702)]∧Ext w w'∧St w' M F [Rw Qa 110 A1213 c1214 x1212,B110 b1 a1 A1_0 c1_0,B69 bo0 a0 A0_8 c0_8 A0_9 c0_9,Rw QD 112 A0_8 c0_8 a0.T]) ?_ ?_
     ·as_aux_lemma =>
       clear o1217H
       have H:=o1217h
       refine ZW ?_
       refine QH ?_
       refine rgA S [0,1,2,3] [_,_,_,_] 12 mixed J (eE1 E ?_)
       intro w1235 E S D1
       refine tz0 0 J D1 (xmP J) (tz0 1 J D1 (Qb J) (tz0 2 J D1 (xfA Tryz.underlying69 ty67 J) (tz1 3 J D1 (fun w' h'=>xlA h' 2 ty67 J) (tz0 4 J D1 (xmI J) ?_))))
       obtain ⟨⟨p1237,p1238⟩,H⟩:=Z8 H
       obtain ⟨b1239,o1240,cs1241,_,_,ee1246,hb1242,vs1243,hR1244,hc1245⟩:=SlW.at' hr0_9 p1237 p1238
       obtain ⟨v1250,hs1249,rfl⟩:=hR1244
       obtain ⟨A1247,c1248,rfl,_⟩:=hs1249.form
       refine tz0 5 J D1 (QS Tryz.underlying67 ty110 (slA ee1246) J p1237 p1238) (tz0 6 J D1 (xfA Tryz.underlying110 ty9 J) (tz1 7 J D1 (fun w' h'=>Z0 (Yj h' hb1242) ty9 J (hc1245 0 _ J)) (tz0 8 J D1 (xfA Tryz.underlying110 ty9 J) (tz1 9 J D1 (fun w' h'=>xlA h' 1 ty9 J) ?_))))
       refine Wo 10 J ?_
       obtain ⟨t1251,ht1252,H⟩:=QO H
       refine ZR fn65 (Zx.con ht1252) S J J flN (eE4 E ?_)
       rintro _ w1253 _ Γ' E S ⟨rfl,rfl⟩
       refine QK (Yl ⟨.inr ⟨M,Hp.le_refl M,(S.pk [0,1,2,3])⟩,?_⟩)
       refine tz0 11 J (⟨M,Hp.le_refl M,(S.pk [0,1,2,3])⟩) (xaI J) ?_
       refine Wz ?_
       refine tn (QH (wsQ (wmI J (wiB J J (wmB J ?_)))))
       refine ZO 3 (fun ρ w'=>QV ρ [(0,pt bo0 0),(3,pt b1 0),(4,.slice A698 x697.length c699),(5,.bool x701),(6,vI x702),(7,vI t1251),(42,.bool ((decide (t1251≥(0:Int)))&&(!x701)))]∧w1253=w') ?_ ?_
       ·rcases Qy (decide (t1251≥(0:Int))) with hb1254 | hb1254
        ·refine QZ (skT hb1254) J (QZ (skT hb1254) J (wqB hb1254 J (QK ?_)))
         exact ⟨⟨J,J,J,J,J,J,(flB hb1254),trivial⟩,rfl⟩
        ·refine QN (cS hb1254) (wmB J (QN (cS hb1254) (W_v _ (Xr (b:=x701) J) J (wpB hb1254 J (QK ?_)))))
         exact ⟨⟨J,J,J,J,J,J,(flB hb1254),trivial⟩,rfl⟩
       as_aux_lemma =>
       rintro ρ _ ⟨hρ,rfl⟩
       rw [QB hρ]
       refine wnQ ?_
       obtain ⟨o1284,o1284h,o1284H⟩:=QO H
       refine Yc (fun ρ w'=>∃ (x1279:List Qk) (x1283:Bool) (A1280:Option Addr) (c1281:Nat),(x1279,x1283)=o1284∧QV ρ [(0,pt bo0 0),(3,pt b1 0),(4,.slice A1280 x1279.length c1281),(5,.bool x1283),(6,vI x702),(7,vI t1251)]∧Ext w w'∧St w' M F [Rw Qa 110 A1280 c1281 x1279,B110 b1 a1 A1_0 c1_0,B69 bo0 a0 A0_8 c0_8 A0_9 c0_9,Rw QD 112 A0_8 c0_8 a0.T]) ?_ ?_
       ·clear o1284H
        have H:=o1284h
        rcases Q3 H with ⟨hb1285,H⟩ | ⟨hb1285,H⟩
        ·refine QC (cB hb1285) ?_
         refine wsQ (wmL J (W_v (.agg #[vS a1.Key,.slice A1_0 a1.L.length c1_0,.bool a1.Has,vI a1.I.Writer,vI a1.I.TS,.bool a1.I.Tomb,vS a1.I.Value]) (Qi (S.blk 1 J) ty110 J (QG J) J J) J ?_))
         refine Xl S #[vS a1.Key,.slice A1_0 a1.L.length c1_0,.bool a1.Has,vI a1.I.Writer,vI a1.I.TS,.bool a1.I.Tomb,vS a1.I.Value] Tryz.underlying67 ty110 J J cz3 (by as_aux_lemma=>kernel_rfl) (by as_aux_lemma=>kernel_rfl) J (eE2 E ?_)
         intro b1286 w1287 E S
         replace S:=S.blk_row (r:=Qa) (l:=([a1]:List Qk)) 0 J 1 (Nat.le_refl 1) J (Cells.cons (vs:=[vS a1.Key,.slice A1_0 a1.L.length c1_0,.bool a1.Has,vI a1.I.Writer,vI a1.I.TS,.bool a1.I.Tomb,vS a1.I.Value]) (⟨_,hr1_0,J⟩) Cells.nil)
         obtain ⟨p1289,H⟩:=Z8 H
         obtain ⟨src1290,hs1291,hC1292⟩:=XJ (P:=Tryz.prog) (ρ:=Qa) (l:=([a1]:List Qk)) (S.row_read 0 J) (by decide)
         refine X0 S 1 J J J Tryz.underlying67 (.inl Tryz.underlying67) ty110 J (by decide) (by decide) hs1291 hC1292 J (by omega) J (eE2 E ?_)
         intro v1293 w1294 E S
         obtain ⟨A1295,c1296,rfl,_⟩:=(S.row_read 1 J).form
         refine waL J (wnQ (QJ (waB J (wnQ ?_))))
         exact ⟨(x697++([a1]:List Qk)),true,A1295,c1296,oi H,agP J,E,S.pk [1,2,3,4]⟩
        refine QA (cB hb1285) (QX (tn ?_))
        exact ⟨x697,x701,A698,c699,oi H,agP J,E,S.pk [0,1,2,3]⟩
       as_aux_lemma =>
       rintro ρ w1297 ⟨x1279,x1283,A1280,c1281,rfl,hρ,E,S⟩
       rw [QB hρ]
       have H:=o1284H
       refine tn (wsQ (wmI J (wiB J J (wnQ ?_))))
       obtain ⟨o1354,o1354h,o1354H⟩:=QO H
       refine Yc (fun ρ w'=>∃ (x1350:List Qk) (A1351:Option Addr) (c1352:Nat),(x1350)=o1354∧QV ρ [(0,pt bo0 0),(3,pt b1 0),(4,.slice A1351 x1350.length c1352),(5,.bool x1283),(6,vI x702)]∧Ext w w'∧St w' M F [Rw Qa 110 A1351 c1352 x1350,B110 b1 a1 A1_0 c1_0,B69 bo0 a0 A0_8 c0_8 A0_9 c0_9,Rw QD 112 A0_8 c0_8 a0.T]) ?_ ?_
       ·clear o1354H
        have H:=o1354h
        rcases Q3 H with ⟨hb1355,H⟩ | ⟨hb1355,H⟩
        ·refine QC (cB hb1355) ?_
         refine QJ (wmL J (wmP J (W_v _ (Qb J) J (wfA Tryz.underlying69 ty67 J (wlA S 2 ty67 J (wmI J ?_))))))
         obtain ⟨⟨p1356,p1357⟩,H⟩:=Z8 H
         obtain ⟨b1358,o1359,cs1360,_,_,ee1365,hb1361,vs1362,hR1363,hc1364⟩:=SlW.at' hr0_9 p1356 p1357
         obtain ⟨v1369,hs1368,rfl⟩:=hR1363
         obtain ⟨A1366,c1367,rfl,_⟩:=hs1368.form
         refine W_v _ (QS Tryz.underlying67 ty110 (slA ee1365) J p1356 p1357) J (W_v (.agg #[vS ((rd a0.L x702).Key),.slice A1366 ((rd a0.L x702).L).length c1367,.bool ((rd a0.L x702).Has),vI ((rd a0.L x702).I.Writer),vI ((rd a0.L x702).I.TS),.bool ((rd a0.L x702).I.Tomb),vS ((rd a0.L x702).I.Value)]) (Qi (S.frz hb1361) ty110 J (X1 hc1364 0 J) J J) J ?_)
         refine Xl S #[vS ((rd a0.L x702).Key),.slice A1366 ((rd a0.L x702).L).length c1367,.bool ((rd a0.L x702).Has),vI ((rd a0.L x702).I.Writer),vI ((rd a0.L x702).I.TS),.bool ((rd a0.L x702).I.Tomb),vS ((rd a0.L x702).I.Value)] Tryz.underlying67 ty110 J J cz3 (by as_aux_lemma=>kernel_rfl) (by as_aux_lemma=>kernel_rfl) J (eE2 E ?_)
         intro b1370 w1371 E S
         replace S:=S.blk_row (r:=Qa) (l:=([(rd a0.L x702)]:List Qk)) 0 J 1 (Nat.le_refl 1) J (Cells.cons (vs:=[vS ((rd a0.L x702).Key),.slice A1366 ((rd a0.L x702).L).length c1367,.bool ((rd a0.L x702).Has),vI ((rd a0.L x702).I.Writer),vI ((rd a0.L x702).I.TS),.bool ((rd a0.L x702).I.Tomb),vS ((rd a0.L x702).I.Value)]) (⟨_,hs1368,J⟩) Cells.nil)
         obtain ⟨p1373,H⟩:=Z8 H
         obtain ⟨src1374,hs1375,hC1376⟩:=XJ (P:=Tryz.prog) (ρ:=Qa) (l:=([(rd a0.L x702)]:List Qk)) (S.row_read 0 J) (by decide)
         refine X0 S 1 J J J Tryz.underlying67 (.inl Tryz.underlying67) ty110 J (by decide) (by decide) hs1375 hC1376 J (by omega) J (eE2 E ?_)
         intro v1377 w1378 E S
         obtain ⟨A1379,c1380,rfl,_⟩:=(S.row_read 1 J).form
         refine waL J (wnQ ?_)
         exact ⟨(x1279++([(rd a0.L x702)]:List Qk)),A1379,c1380,oi H,agP J,E,S.pk [1,2,3,4]⟩
        refine QA (cB hb1355) (QX (tn ?_))
        exact ⟨x1279,A1280,c1281,oi H,agP J,E,S.pk [0,1,2,3]⟩
       rintro ρ w1381 ⟨x1350,A1351,c1352,rfl,hρ,E,S⟩
       rw [QB hρ]
       have H:=o1354H
       refine bn (tn ?_)
       exact ⟨x1350,x1283,A1351,c1352,oi H,agP J,E,S.pk [0,1,2,3]⟩
     rintro ρ w1382 ⟨x1212,x1216,A1213,c1214,rfl,hρ,E,S⟩
     rw [QB hρ]
     have H:=o1217H
     refine tn (QJ (wmI J (wiI J J (waI J (wnQ ?_)))))
     exact ⟨k,Nat.lt_succ_self k,⟨x1212,x1216,(IntKind.i64.wrap (x702+(1:Int))),A1213,c1214,H,agP J,E,S.pk [0,1,2,3]⟩⟩
    refine QA (cB hb1047) ?_
    refine YZ ?_
    refine tx (tx (bsm (?_)))
    refine tn ?_
    exact ⟨x697,x701,A698,c699,oi H,agP J,E,S.pk [0,1,2,3]⟩
 rintro ρ w1383 ⟨x1039,x1043,A1040,c1041,rfl,hρ,E,S⟩
 rw [QB hρ]
 have H:=o1044H
 refine tn ?_
 as_aux_lemma =>
 refine QH (wsQ (wmB J (W_v _ (Xr (b:=x1043) J) J (wnQ ?_))))
 obtain ⟨o1412,o1412h,o1412H⟩:=QO H
 refine Yc (fun ρ w'=>∃ (x1408:List Qk) (A1409:Option Addr) (c1410:Nat),(x1408)=o1412∧QV ρ [(0,pt bo0 0),(4,.slice A1409 x1408.length c1410)]∧Ext w w'∧St w' M F [Rw Qa 110 A1409 c1410 x1408,B69 bo0 a0 A0_8 c0_8 A0_9 c0_9,Rw QD 112 A0_8 c0_8 a0.T]) ?_ ?_
 ·clear o1412H
  have H:=o1412h
  rcases Q3 H with ⟨hb1413,H⟩ | ⟨hb1413,H⟩
  ·refine QC (cB hb1413) ?_
   refine QJ (wmL J (W_v (.agg #[vS a1.Key,.slice A1_0 a1.L.length c1_0,.bool a1.Has,vI a1.I.Writer,vI a1.I.TS,.bool a1.I.Tomb,vS a1.I.Value]) (Qi (S.blk 1 J) ty110 J (QG J) J J) J ?_))
   refine Xl S #[vS a1.Key,.slice A1_0 a1.L.length c1_0,.bool a1.Has,vI a1.I.Writer,vI a1.I.TS,.bool a1.I.Tomb,vS a1.I.Value] Tryz.underlying67 ty110 J J cz3 (by as_aux_lemma=>kernel_rfl) (by as_aux_lemma=>kernel_rfl) J (eE2 E ?_)
   intro b1414 w1415 E S
   replace S:=S.blk_row (r:=Qa) (l:=([a1]:List Qk)) 0 J 1 (Nat.le_refl 1) J (Cells.cons (vs:=[vS a1.Key,.slice A1_0 a1.L.length c1_0,.bool a1.Has,vI a1.I.Writer,vI a1.I.TS,.bool a1.I.Tomb,vS a1.I.Value]) (⟨_,hr1_0,J⟩) Cells.nil)
   obtain ⟨p1417,H⟩:=Z8 H
   obtain ⟨src1418,hs1419,hC1420⟩:=XJ (P:=Tryz.prog) (ρ:=Qa) (l:=([a1]:List Qk)) (S.row_read 0 J) (by decide)
   refine X0 S 1 J J J Tryz.underlying67 (.inl Tryz.underlying67) ty110 J (by decide) (by decide) hs1419 hC1420 J (by omega) J (eE2 E ?_)
   intro v1421 w1422 E S
   obtain ⟨A1423,c1424,rfl,_⟩:=(S.row_read 1 J).form
   refine waL J (wnQ ?_)
   exact ⟨(x1039++([a1]:List Qk)),A1423,c1424,oi H,agP J,E,S.pk [1,3,4]⟩
  refine QA (cB hb1413) (QX (tn ?_))
  exact ⟨x1039,A1040,c1041,oi H,agP J,E,S.pk [0,2,3]⟩
 rintro ρ w1425 ⟨x1408,A1409,c1410,rfl,hρ,E,S⟩
 rw [QB hρ]
 have H:=o1412H
 refine tn (QJ (wmP J (wmL J (W_v _ (Qb J) J (wfA Tryz.underlying69 ty67 J ?_)))))
 refine Qu S 1 J ty67 J J [.slice A1409 x1408.length c1410] J J J #[vI a0.C.Tasks,vI a0.C.Active,vI a0.C.Keys,vI a0.C.Depth,vI a0.C.TS,vI a0.C.KeyLen,vI a0.C.ValLen,vI a0.C.Fan,.slice A0_8 a0.T.length c0_8,.slice A1409 x1408.length c1410,vI a0.Time,vI a0.Low] J J (eE1 E ?_)
 intro w1426 E S
 refine QK ?_
 obtain rfl:=oi H
 exact ⟨_,_,_,rsA (vs:=[]) J,HM,E,S.pk [1,2,0],⟨A0_8,c0_8,A1409,c1410,J,J⟩⟩
end Go.Proofs.YtkknoimjgifhlaaGreatDoor
