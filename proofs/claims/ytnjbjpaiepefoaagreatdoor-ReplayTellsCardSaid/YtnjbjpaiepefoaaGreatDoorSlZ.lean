import Derived.Test.YtnjbjpaiepefoaaGreatDoorSlW
namespace Go.Proofs.YtnjbjpaiepefoaaGreatDoor
open Go
set_option linter.unusedVariables false
set_option linter.unusedSimpArgs false
set_option linter.unusedSectionVars false
section
variable {rn:Rd} {P:Program} {N d:Nat} {ops:Array Oper} {Q:Post} {rest:List Oper} {K:Rho→World→Prop} {St_:World→Prop} {L fuel:Nat} {listed:Array Bool} {ρ:Rho} {w:World} {x y z:Operand} {v:Value} {t e T ty:TypeId} {ps:String} {af:Array Edge} {dst:Option Tmp} {g:Option (Nat×Bool)}
theorem xmI {k:IntKind} {n:Int} (h:evR ρ x=.int k n):(execOp (evR ρ) ⟨dst,.move x,T,ps,af,g⟩).run P w=.ok (.value (.int k n)) w:=XF h
theorem wmI {k:IntKind} {n:Int} (h:(evR ρ x,Nat.blt d N)=(.int k n,true)) (c:Wl rn P N ops Q rest (upd ρ d (.int k n)) w):Wl rn P N ops Q (⟨some d,.move x,T,ps,af,none⟩::rest) ρ w:=W_v _ (XF (congrArg Prod.fst h)) (congrArg Prod.snd h) c
theorem xaI {k:IntKind} {n:Int} (h:evR ρ x=.int k n):(execOp (evR ρ) ⟨dst,.assign x,T,ps,af,g⟩).run P w=.ok (.value (.int k n)) w:=YW h
theorem waI {k:IntKind} {n:Int} (h:(evR ρ x,Nat.blt d N)=(.int k n,true)) (c:Wl rn P N ops Q rest (upd ρ d (.int k n)) w):Wl rn P N ops Q (⟨some d,.assign x,T,ps,af,none⟩::rest) ρ w:=W_v _ (YW (congrArg Prod.fst h)) (congrArg Prod.snd h) c
theorem xmB {b:Bool} (h:evR ρ x=.bool b):(execOp (evR ρ) ⟨dst,.move x,T,ps,af,g⟩).run P w=.ok (.value (.bool b)) w:=XF h
theorem wmB {b:Bool} (h:(evR ρ x,Nat.blt d N)=(.bool b,true)) (c:Wl rn P N ops Q rest (upd ρ d (.bool b)) w):Wl rn P N ops Q (⟨some d,.move x,T,ps,af,none⟩::rest) ρ w:=W_v _ (XF (congrArg Prod.fst h)) (congrArg Prod.snd h) c
theorem xaB {b:Bool} (h:evR ρ x=.bool b):(execOp (evR ρ) ⟨dst,.assign x,T,ps,af,g⟩).run P w=.ok (.value (.bool b)) w:=YW h
theorem waB {b:Bool} (h:(evR ρ x,Nat.blt d N)=(.bool b,true)) (c:Wl rn P N ops Q rest (upd ρ d (.bool b)) w):Wl rn P N ops Q (⟨some d,.assign x,T,ps,af,none⟩::rest) ρ w:=W_v _ (YW (congrArg Prod.fst h)) (congrArg Prod.snd h) c
theorem xpB {B:Bool} {b':Bool} (hb:B=true) (h:(evR ρ z,evR ρ x)=(.bool B,.bool b')):(execOp (evR ρ) ⟨dst,.pick z x y,T,ps,af,g⟩).run P w=.ok (.value (.bool b')) w:=by subst hb;exact qi (congrArg Prod.fst h) (congrArg Prod.snd h)
theorem wpB {B:Bool} {b':Bool} (hb:B=true) (h:(evR ρ z,evR ρ x,Nat.blt d N)=(.bool B,.bool b',true)) (c:Wl rn P N ops Q rest (upd ρ d (.bool b')) w):Wl rn P N ops Q (⟨some d,.pick z x y,T,ps,af,none⟩::rest) ρ w:=W_v _ (xpB hb (Prod.mk.injEq .. ▸ ⟨congrArg Prod.fst h,congrArg (·.2.1) h⟩:(evR ρ z,evR ρ x)=(.bool B,.bool b'))) (congrArg (·.2.2) h) c
theorem xqB {B:Bool} {b':Bool} (hb:B=false) (h:(evR ρ z,evR ρ y)=(.bool B,.bool b')):(execOp (evR ρ) ⟨dst,.pick z x y,T,ps,af,g⟩).run P w=.ok (.value (.bool b')) w:=by subst hb;exact qi (congrArg Prod.fst h) (congrArg Prod.snd h)
theorem wqB {B:Bool} {b':Bool} (hb:B=false) (h:(evR ρ z,evR ρ y,Nat.blt d N)=(.bool B,.bool b',true)) (c:Wl rn P N ops Q rest (upd ρ d (.bool b')) w):Wl rn P N ops Q (⟨some d,.pick z x y,T,ps,af,none⟩::rest) ρ w:=W_v _ (xqB hb (Prod.mk.injEq .. ▸ ⟨congrArg Prod.fst h,congrArg (·.2.1) h⟩:(evR ρ z,evR ρ y)=(.bool B,.bool b'))) (congrArg (·.2.2) h) c
theorem xmP {b o:Nat} (h:evR ρ x=.pointer (some ⟨b,o,none⟩)):(execOp (evR ρ) ⟨dst,.move x,T,ps,af,g⟩).run P w=.ok (.value (.pointer (some ⟨b,o,none⟩))) w:=XF h
theorem wmP {b o:Nat} (h:(evR ρ x,Nat.blt d N)=(.pointer (some ⟨b,o,none⟩),true)) (c:Wl rn P N ops Q rest (upd ρ d (.pointer (some ⟨b,o,none⟩))) w):Wl rn P N ops Q (⟨some d,.move x,T,ps,af,none⟩::rest) ρ w:=W_v _ (XF (congrArg Prod.fst h)) (congrArg Prod.snd h) c
theorem xaP {b o:Nat} (h:evR ρ x=.pointer (some ⟨b,o,none⟩)):(execOp (evR ρ) ⟨dst,.assign x,T,ps,af,g⟩).run P w=.ok (.value (.pointer (some ⟨b,o,none⟩))) w:=YW h
theorem waP {b o:Nat} (h:(evR ρ x,Nat.blt d N)=(.pointer (some ⟨b,o,none⟩),true)) (c:Wl rn P N ops Q rest (upd ρ d (.pointer (some ⟨b,o,none⟩))) w):Wl rn P N ops Q (⟨some d,.assign x,T,ps,af,none⟩::rest) ρ w:=W_v _ (YW (congrArg Prod.fst h)) (congrArg Prod.snd h) c
theorem xmS {s:Str} (h:evR ρ x=.string (bs s)):(execOp (evR ρ) ⟨dst,.move x,T,ps,af,g⟩).run P w=.ok (.value (.string (bs s))) w:=XF h
theorem wmS {s:Str} (h:(evR ρ x,Nat.blt d N)=(.string (bs s),true)) (c:Wl rn P N ops Q rest (upd ρ d (.string (bs s))) w):Wl rn P N ops Q (⟨some d,.move x,T,ps,af,none⟩::rest) ρ w:=W_v _ (XF (congrArg Prod.fst h)) (congrArg Prod.snd h) c
theorem xaS {s:Str} (h:evR ρ x=.string (bs s)):(execOp (evR ρ) ⟨dst,.assign x,T,ps,af,g⟩).run P w=.ok (.value (.string (bs s))) w:=YW h
theorem waS {s:Str} (h:(evR ρ x,Nat.blt d N)=(.string (bs s),true)) (c:Wl rn P N ops Q rest (upd ρ d (.string (bs s))) w):Wl rn P N ops Q (⟨some d,.assign x,T,ps,af,none⟩::rest) ρ w:=W_v _ (YW (congrArg Prod.fst h)) (congrArg Prod.snd h) c
theorem xmL {A:Option Addr} {n q:Nat} (h:evR ρ x=.slice A n q):(execOp (evR ρ) ⟨dst,.move x,T,ps,af,g⟩).run P w=.ok (.value (.slice A n q)) w:=XF h
theorem wmL {A:Option Addr} {n q:Nat} (h:(evR ρ x,Nat.blt d N)=(.slice A n q,true)) (c:Wl rn P N ops Q rest (upd ρ d (.slice A n q)) w):Wl rn P N ops Q (⟨some d,.move x,T,ps,af,none⟩::rest) ρ w:=W_v _ (XF (congrArg Prod.fst h)) (congrArg Prod.snd h) c
theorem xaL {A:Option Addr} {n q:Nat} (h:evR ρ x=.slice A n q):(execOp (evR ρ) ⟨dst,.assign x,T,ps,af,g⟩).run P w=.ok (.value (.slice A n q)) w:=YW h
theorem waL {A:Option Addr} {n q:Nat} (h:(evR ρ x,Nat.blt d N)=(.slice A n q,true)) (c:Wl rn P N ops Q rest (upd ρ d (.slice A n q)) w):Wl rn P N ops Q (⟨some d,.assign x,T,ps,af,none⟩::rest) ρ w:=W_v _ (YW (congrArg Prod.fst h)) (congrArg Prod.snd h) c
theorem wmM {m:Option Addr} (h:(evR ρ x,Nat.blt d N)=(.map (mb m),true)) (c:Wl rn P N ops Q rest (upd ρ d (.map (mb m))) w):Wl rn P N ops Q (⟨some d,.move x,T,ps,af,none⟩::rest) ρ w:=W_v _ (XF (congrArg Prod.fst h)) (congrArg Prod.snd h) c
theorem waM {m:Option Addr} (h:(evR ρ x,Nat.blt d N)=(.map (mb m),true)) (c:Wl rn P N ops Q rest (upd ρ d (.map (mb m))) w):Wl rn P N ops Q (⟨some d,.assign x,T,ps,af,none⟩::rest) ρ w:=W_v _ (YW (congrArg Prod.fst h)) (congrArg Prod.snd h) c
theorem xmT {cs:Array Value} (h:evR ρ x=.tuple cs):(execOp (evR ρ) ⟨dst,.move x,T,ps,af,g⟩).run P w=.ok (.value (.tuple cs)) w:=XF h
theorem wmT {cs:Array Value} (h:(evR ρ x,Nat.blt d N)=(.tuple cs,true)) (c:Wl rn P N ops Q rest (upd ρ d (.tuple cs)) w):Wl rn P N ops Q (⟨some d,.move x,T,ps,af,none⟩::rest) ρ w:=W_v _ (XF (congrArg Prod.fst h)) (congrArg Prod.snd h) c
theorem xiI {op:BinOp} {t':TypeId} {k:IntKind} {a b:Int} {k':IntKind} {n:Int} (h:(evR ρ x,evR ρ y,isI op)=(.int k a,.int k b,true)) (B:ibin op k a b=.int k' n):(execOp (evR ρ) ⟨dst,.binOp op t x y t',T,ps,af,g⟩).run P w=.ok (.value (.int k' n)) w:=V3 (congrArg Prod.fst h) (congrArg (·.2.1) h) (congrArg (·.2.2) h) B
theorem wiI {op:BinOp} {t':TypeId} {k:IntKind} {a b:Int} {k':IntKind} {n:Int} (h:(evR ρ x,evR ρ y,isI op,Nat.blt d N)=(.int k a,.int k b,true,true)) (B:ibin op k a b=.int k' n) (c:Wl rn P N ops Q rest (upd ρ d (.int k' n)) w):Wl rn P N ops Q (⟨some d,.binOp op t x y t',T,ps,af,none⟩::rest) ρ w:=W_v _ (V3 (congrArg Prod.fst h) (congrArg (·.2.1) h) (congrArg (·.2.2.1) h) B) (congrArg (·.2.2.2) h) c
theorem xiB {op:BinOp} {t':TypeId} {k:IntKind} {a b:Int} {r:Bool} (h:(evR ρ x,evR ρ y,isI op)=(.int k a,.int k b,true)) (B:ibin op k a b=.bool r):(execOp (evR ρ) ⟨dst,.binOp op t x y t',T,ps,af,g⟩).run P w=.ok (.value (.bool r)) w:=V3 (congrArg Prod.fst h) (congrArg (·.2.1) h) (congrArg (·.2.2) h) B
theorem wiB {op:BinOp} {t':TypeId} {k:IntKind} {a b:Int} {r:Bool} (h:(evR ρ x,evR ρ y,isI op,Nat.blt d N)=(.int k a,.int k b,true,true)) (B:ibin op k a b=.bool r) (c:Wl rn P N ops Q rest (upd ρ d (.bool r)) w):Wl rn P N ops Q (⟨some d,.binOp op t x y t',T,ps,af,none⟩::rest) ρ w:=W_v _ (V3 (congrArg Prod.fst h) (congrArg (·.2.1) h) (congrArg (·.2.2.1) h) B) (congrArg (·.2.2.2) h) c
theorem wfA {s f b o n:Nat} {fs:Array Field} {nm tag pk:String} {fty off bo:Nat} {emb:Bool} {agg:Bool} {zv:Value} {bytes:Nat} (hu:P.underlying s=some (.struct fs)) (Ty:IsTy P fty agg zv (n+1) bytes) (h:(fs.toList[f]?,evR ρ x,Nat.blt d N)=(some ⟨nm,fty,off,emb,tag,pk,bo⟩,.pointer (some ⟨b,o,none⟩),true)) (c:Wl rn P N ops Q rest (upd ρ d (.pointer (some ⟨b,o+off,none⟩))) w):Wl rn P N ops Q (⟨some d,.fieldAddr s x f,T,ps,af,none⟩::rest) ρ w:=W_v _ (VF hu (Array.getElem?_toList .. ▸ congrArg Prod.fst h) Ty (congrArg (·.2.1) h) rfl) (congrArg (·.2.2) h) c
theorem wlA {M F:Hp} {Γ:List Asr} {b o bt:Nat} {fr:Nat×Nat} {cs:Array Value} {zv:Value} {bytes:Nat} (S:St w M F Γ) (i:Nat) (Ty:IsTy P ty false zv 1 bytes) (h:(Γ[i]?,evR ρ x,cs.toList[o]?,Nat.blt d N)=(some (Blk b (.cells cs bt fr)),.pointer (some ⟨b,o,none⟩),some v,true)) (c:Wl rn P N ops Q rest (upd ρ d (v)) w):Wl rn P N ops Q (⟨some d,.load ty x,T,ps,af,none⟩::rest) ρ w:=W_v _ (YU (S.blk i (congrArg Prod.fst h)) Ty (congrArg (·.2.1) h) (Array.getElem?_toList .. ▸ congrArg (·.2.2.1) h)) (congrArg (·.2.2.2) h) c
theorem tz0 (i:Nat) {op:Op} (hi:(ops[i]?,Nat.blt d N)=(some ⟨some d,op,T,ps,af,none⟩,true)) (D:St_ w) (hy:∀ {w':World},(execOp (evR ρ) ⟨some d,op,T,ps,af,none⟩).run P w'=.ok (.value v) w') (c:Wa rn P N ops K St_ L fuel (listed.setIfInBounds i true) (upd ρ d v) w) (hk:takeOK ops listed L i=true:=by as_aux_lemma=>kernel_rfl):Wa rn P N ops K St_ L (fuel+1) listed ρ w:=K4 (congrArg Prod.fst hi) hk rfl (congrArg Prod.snd hi) v rfl (fun _ _=>hy) D c
theorem tz1 (i:Nat) {op:Op} (hi:(ops[i]?,Nat.blt d N)=(some ⟨some d,op,T,ps,af,none⟩,true)) (D:St_ w) (hy:∀ w',St_ w'→(execOp (evR ρ) ⟨some d,op,T,ps,af,none⟩).run P w'=.ok (.value v) w') (c:Wa rn P N ops K St_ L fuel (listed.setIfInBounds i true) (upd ρ d v) w) (hk:takeOK ops listed L i=true:=by as_aux_lemma=>kernel_rfl):Wa rn P N ops K St_ L (fuel+1) listed ρ w:=K4 (congrArg Prod.fst hi) hk rfl (congrArg Prod.snd hi) v rfl hy D c
theorem tz2 (i:Nat) {j:Nat} {b:Bool} {op:Op} (hi:(ops[i]?,Nat.blt d N)=(some ⟨some d,op,T,ps,af,some (j,b)⟩,true)) (hj:yR ops ρ j=some b) (D:St_ w) (hy:∀ {w':World},(execOp (evR ρ) ⟨some d,op,T,ps,af,some (j,b)⟩).run P w'=.ok (.value v) w') (c:Wa rn P N ops K St_ L fuel (listed.setIfInBounds i true) (upd ρ d v) w) (hk:takeOK ops listed L i=true:=by as_aux_lemma=>kernel_rfl):Wa rn P N ops K St_ L (fuel+1) listed ρ w:=KM (congrArg Prod.fst hi) hk rfl (congrArg Prod.snd hi) v rfl hj (fun _ _=>hy) D c
theorem tz3 (i:Nat) {j:Nat} {b:Bool} {op:Op} (hi:(ops[i]?,Nat.blt d N)=(some ⟨some d,op,T,ps,af,some (j,b)⟩,true)) (hj:yR ops ρ j=some b) (D:St_ w) (hy:∀ w',St_ w'→(execOp (evR ρ) ⟨some d,op,T,ps,af,some (j,b)⟩).run P w'=.ok (.value v) w') (c:Wa rn P N ops K St_ L fuel (listed.setIfInBounds i true) (upd ρ d v) w) (hk:takeOK ops listed L i=true:=by as_aux_lemma=>kernel_rfl):Wa rn P N ops K St_ L (fuel+1) listed ρ w:=KM (congrArg Prod.fst hi) hk rfl (congrArg Prod.snd hi) v rfl hj hy D c
theorem tz4 (i:Nat) {j:Nat} {b:Bool} {op:Op} (hi:(ops[i]?,Nat.blt d N)=(some ⟨some d,op,T,ps,af,some (j,b)⟩,true)) (hj:(yR ops ρ j==some b)=false) (D:St_ w) (c:Wa rn P N ops K St_ L fuel (listed.setIfInBounds i true) (upd ρ d undef) w) (hk:takeOK ops listed L i=true:=by as_aux_lemma=>kernel_rfl):Wa rn P N ops K St_ L (fuel+1) listed ρ w:=QBr (congrArg Prod.fst hi) hk rfl (congrArg Prod.snd hi) rfl hj D c
theorem xfA {s f b o n:Nat} {fs:Array Field} {nm tag pk:String} {fty off bo:Nat} {emb:Bool} {agg:Bool} {zv:Value} {bytes:Nat} (hu:P.underlying s=some (.struct fs)) (Ty:IsTy P fty agg zv (n+1) bytes) (h:(fs.toList[f]?,evR ρ x)=(some ⟨nm,fty,off,emb,tag,pk,bo⟩,.pointer (some ⟨b,o,none⟩))):(execOp (evR ρ) ⟨dst,.fieldAddr s x f,T,ps,af,g⟩).run P w=.ok (.value (.pointer (some ⟨b,o+off,none⟩))) w:=VF hu (Array.getElem?_toList .. ▸ congrArg Prod.fst h) Ty (congrArg Prod.snd h) rfl
theorem xlA {M F:Hp} {Γ:List Asr} {b o bt:Nat} {fr:Nat×Nat} {cs:Array Value} {zv:Value} {bytes:Nat} (D:∃ B,M.le B∧St w B F Γ) (i:Nat) (Ty:IsTy P ty false zv 1 bytes) (h:(Γ[i]?,evR ρ x,cs.toList[o]?)=(some (Blk b (.cells cs bt fr)),.pointer (some ⟨b,o,none⟩),some v)):(execOp (evR ρ) ⟨dst,.load ty x,T,ps,af,g⟩).run P w=.ok (.value (v)) w:=YU (Yq D i (congrArg Prod.fst h)) Ty (congrArg (·.2.1) h) (Array.getElem?_toList .. ▸ congrArg (·.2.2) h)
theorem wsQ {l:List Oper} {y':Code} (h:Wl rn P N l.toArray (thenR (fun ρ w=>Wp rn P N y' Q ρ w) Q) l ρ w) {rid:Nat}:Wp rn P N (.seq (.region rid l.toArray false) y') Q ρ w:=QJ (QO h)
theorem wnQ {next:Rho→World→Prop} (h:next ρ w):Wl rn P N ops (thenR next Q) [] ρ w:=QH (tn h)
theorem cwA {f:FuncId} {fn:Func} {cc:Code} {rs:Array ResultVar} {as:Array Value} {M:Hp} {Γ:List Asr} {Φ:Value→Hp→List Asr→Prop} {H:Prop} (hf:P.funcs[f]?=some fn) (hb:fn.body=some cc) (hN:fn.ntmps=N) (hrs:fn.results=rs) (ha:Nat.ble as.size N=true) (hH:H) (h:∀ w F r,St w M F Γ→r.lp=none→Ext w w→M.le M→H→Wp r P N cc (endR P rs w M F Φ) (rho0 as) w):Con P f as M Γ Φ:=VY hf hb hN hrs ha fun w F r S hr=>h w F r S hr (Ext.refl w) (Hp.le_refl M) hH
theorem flB {b c:Bool} {p:Prop} (hb:b=c) (h:b=c→p:=by intro h0;first | rfl | (rw [h0];rfl) | (simp only [h0];rfl)):p:=h hb
theorem eE1 {α0:Type _} {G w1:World} {t:α0→World} {R:α0→Prop} (E:Ext G w1) (h:∀ B,Ext G (t B)→R B):∀ B,Ext w1 (t B)→R B:=fun B H=>h B (E.trans H)
theorem eE2 {α0 α1:Type _} {H w1:World} {t:α0→α1→World} {R:α0→α1→Prop} (E:Ext H w1) (h:∀ B G,Ext H (t B G)→R B G):∀ B G,Ext w1 (t B G)→R B G:=fun B G O=>h B G (E.trans O)
theorem eE4 {α0 α1 α2 α3:Type _} {U w1:World} {t:α0→α1→α2→α3→World} {R:α0→α1→α2→α3→Prop} (E:Ext U w1) (h:∀ B G H O,Ext U (t B G H O)→R B G H O):∀ B G H O,Ext w1 (t B G H O)→R B G H O:=fun B G H O V=>h B G H O (E.trans V)
theorem rgA {M F:Hp} {Γ:List Asr} {id:Nat} (S:St w M F Γ) (l:List Nat) (B:List Asr) (L:Nat) (hm:P.follows .mixedOrders=true) (hΓ:l.filterMap (Γ[·]?)=B) (h:∀ w1,Ext w w1→St w1 M F Γ→(∃ G,M.le G∧St w1 G F B)→Wa rn P N ops (fun ρ w=>Q .normal ρ w) (fun w'=>∃ G,M.le G∧St w' G F B) L ops.size (Array.replicate ops.size false) ρ w1) (hn:l.Nodup:=by decide):Wp rn P N (.region id ops true) Q ρ w:=U3 hm fun w1 hw E=>h w1 E (S.heap hw) ⟨M,Hp.le_refl _,hΓ ▸ (S.heap hw).pk l hn⟩
theorem rsA {l:List ResultVar} {vs:List Value} {w':World} (h:l.map (fun a=>match a with | .tmp t=>some (ρ t) | _=>none)=vs.map some):∀ w1,Hp.of w1=Hp.of w'→(resR l.toArray ρ).run P w1=.ok (tupOf vs) w1:=fun w1 _=>Zk (by
 induction l generalizing vs with
 | nil=>cases vs with
  | nil=>exact FA.nil
  | cons _ _=>cases h
 | cons a l ih =>
  cases vs with
  | nil=>cases h
  | cons v vs =>
   cases a with
   | tmp t=>exact FA.cons (Option.some.inj (List.cons.inj h).1) (ih (List.cons.inj h).2)
   | cell _ _=>cases (List.cons.inj h).1)
abbrev Rw {α:Type} (r:Rep α) (t:Nat) (A:Option Addr) (c:Nat) (l:List α):Asr:=Row r t (.slice A l.length c) l
abbrev MpI:Option Addr→List (Int×Int)→Asr:=Y3 (Value.int .i64) (Value.int .i64)
abbrev MpV:Option Addr→List (Str×Value)→Asr:=Y3 encS (fun v:Value=>v)
theorem rcA {M F:Hp} {Γ:List Asr} {w1:World} {b bt o n bytes:Nat} {fr:Nat×Nat} {cs vs:Array Value} {zv:Value} {a:Nat} (S:St w M F Γ) (B:Hp.of w1=Hp.of w) (i:Nat) (Ty:IsTy P ty true zv n bytes) (h:(Γ[i]?,ρ a)=(some (Blk b (.cells cs bt fr)),.pointer (some ⟨b,o,none⟩))) (hc:cs.extract o (o+vs.size)=vs) (hn:vs.size=n) (h0:0<n:=by decide):∃ ad,ρ a=.pointer (some ad)∧(loadVar ty ad).run P w1=.ok (.agg vs) w1:=⟨_,congrArg Prod.snd h,Uj Ty ((S.of_eq B).blk i (congrArg Prod.fst h)) (QI hc) hn h0⟩
theorem flN {R:Value→Hp→List Asr→Prop}:∀ v M' B,(R v M' B∧B=[])→FlatG B:=fun _ _ _ h=>h.2 ▸ Z9
theorem xb2 {parts:List (Nat×Operand)} {fs:Array Field} {ps':List (Nat×Value)} {agg:Bool} {zv:Value} {n bytes:Nat} (pl:List (Nat×Nat)) (cs:Array Value) (hu:P.underlying t=some (.struct fs)) (Ty:IsTy P t agg zv n bytes) (hp:parts.map (fun (i,x)=>(i,evR ρ x))=ps') (hm:placesOf P fs.toList=some pl:=by as_aux_lemma=>kernel_rfl) (hf:Instr.fill (pl.toArray[·]?) zv.cells ps'=some cs:=by as_aux_lemma=>kernel_rfl):(execOp (evR ρ) ⟨dst,.build t parts.toArray,T,ps,af,g⟩).run P w=.ok (.value (.agg cs)) w:=QBD cs hu Ty hm hp hf
theorem agP {l:List (Nat×Value)} (h:l.map (fun p=>ρ p.1)=l.map (·.2)):QX ρ l:=by
 induction l with
 | nil=>trivial
 | cons a l ih=>exact ⟨(List.cons.inj h).1,ih (List.cons.inj h).2⟩
end
end Go.Proofs.YtnjbjpaiepefoaaGreatDoor
