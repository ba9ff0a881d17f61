import Derived.Test.YtnjbjpaiepefoaaGreatDoorSlL
namespace Go.Proofs.YtnjbjpaiepefoaaGreatDoor
open Go
open Go.ChangeMaps (setBlock)
set_option linter.unusedVariables false
set_option linter.unusedSimpArgs false
set_option linter.unusedSectionVars false
theorem UZ {κ:Type} [DecidableEq κ] {k:κ}:∀ {l:List κ} {p:Nat} (i:Nat),l.Nodup→l[p]?=some k→findAt k l i=some (i+p)
  | [],p,i,_,h=>by simp at h
  | a::l,0,i,_,h=>by
    simp at h;subst h;simp [findAt]
  | a::l,p+1,i,hn,h=>by
    have B:l[p]?=some k:=by simpa using h
    have hne:a≠k:=fun e=>by
      subst e;exact (List.nodup_cons.1 hn).1 (List.mem_of_getElem? B)
    simp only [findAt,if_neg hne];rw [UZ (i+1) (List.nodup_cons.1 hn).2 B]
    congr 1;omega
theorem J9 {κ ν:Type} {l:List (κ×ν)} {p:Nat}:(l.map (·.1))[p]?=(l[p]?).map (·.1):=List.getElem?_map
theorem Kw {κ ν:Type} [DecidableEq κ] {l:List (κ×ν)} {p:Nat} {x:κ×ν} (hn:(l.map (·.1)).Nodup) (h:l[p]?=some x):mget l x.1=some x.2:=by
  unfold mget;rw [UZ 0 hn (by rw [J9,h];rfl),Nat.zero_add,Option.bind_some,h];rfl
theorem JT {κ ν:Type} [DecidableEq κ] {l:List (κ×ν)} {k:κ} (v:ν) (hk:k∈l.map (·.1)):(mput l k v).map (·.1)=l.map (·.1):=by
  unfold mput
  cases h:findAt k (l.map (·.1)) 0 with
  | none =>
    obtain ⟨p,hp⟩:=List.mem_iff_getElem?.1 hk
    exfalso
    have:∀ (l:List κ) (p i:Nat),l[p]?=some k→findAt k l i≠none:=by
      intro l
      induction l with
      | nil=>intro p i h;simp at h
      | cons a l ih =>
        intro p i h;unfold findAt
        split
        · simp
        · next hne =>
          cases p with
          | zero=>simp at h;exact absurd h hne
          | succ p=>exact ih p _ (by simpa using h)
    exact this _ _ _ hp h
  | some j =>
    obtain ⟨_,_,B⟩:=UA h;simp only [Nat.sub_zero] at B
    apply List.ext_getElem?
    intro m;rw [List.getElem?_map,List.getElem?_set]
    by_cases e:j=m
    · subst e;have hl:j<l.length:=by simpa using (List.getElem?_eq_some_iff.1 B).1
      rw [B];simp [hl]
    · simp [e]
def RangeM {κ ν:Type} (enc:κ→Value) (encv:ν→Value) (A:Option Addr) (bi:Nat) (l:List (κ×ν)) (todo:List κ) (last:Option κ):Asr :=
  ⟨fun _ h=>∃ (b:Nat) (es:Array MapEntry) (clock:Nat) (seen:List Nat),A=some ⟨b,0,none⟩∧bi≠b∧h b=some (.map es clock)∧h bi=some (.mapIter (some b) clock seen.toArray clock)∧es.toList.map (fun e=>(e.key,e.val))=l.map (fun p=>(enc p.1,encv p.2)) ∧
    (es.toList.map fun e:MapEntry=>e.born).Pairwise (fun a b:Nat=>a<b)∧(∀ n∈es.toList.map (fun e:MapEntry=>e.born),n<clock) ∧
    todo.Nodup∧(l.map fun x:κ×ν=>x.1).Nodup∧(∀ k∈todo,k∈l.map fun x:κ×ν=>x.1)∧(∀ (p:Nat) (k:κ),(l.map fun x:κ×ν=>x.1)[p]?=some k→(bornAt es p∈seen↔k ∉ todo)) ∧
    (∀ k,last=some k→∃ (p:Nat) (B:List Nat),(l.map fun x:κ×ν=>x.1)[p]?=some k∧seen=B++[bornAt es p]),fun _ h=>h⟩
section
variable {P:Program} {w:World} {M F:Hp} {Γ:List Asr} {κ ν:Type} [DecidableEq κ] {enc:κ→Value} {encv:ν→Value} {l:List (κ×ν)} {A:Option Addr} {bi:Nat} {todo:List κ} {last:Option κ} {t kt vt T:TypeId}
theorem Jw {α:Type} {l:List α} {i:Nat} {a:α} (h:l[i]?=some a):l.set i a=l:=by
  apply List.ext_getElem?
  intro j;rw [List.getElem?_set]
  split
  · next e=>subst e;rw [h];have:=(List.getElem?_eq_some_iff.1 h).1;simp [this]
  · rfl
theorem St.rangeM_facts (S:St w M F Γ) (i:Nat) (hi:Γ[i]?=some (RangeM enc encv A bi l todo last)):todo.Nodup∧(l.map (·.1)).Nodup∧∀ k∈todo,k∈l.map (·.1):=by
  obtain ⟨O,⟨b,es,clock,seen,U,hne,H,K,hm,hp,hc,B,E,G,V,_⟩,hle,hch⟩:=S.change i hi;exact ⟨B,E,G⟩
theorem qp (S:St w M F Γ) (i:Nat) (hi:Γ[i]?=some (Y3 enc encv A l)) (hu:P.underlying t=some (.map kt vt)) (hn:(l.map (·.1)).Nodup):∃ bi w',(Instr.range t (.map (mb A))).run P w=.ok (.pointer (some ⟨bi,0,none⟩)) w'∧Ext w w'∧St w' M F (Γ.set i (RangeM enc encv A bi l (l.map (·.1)) none)):=by
  obtain ⟨E,⟨b,rfl,es,clock,B,hm,hp,hc⟩,hle,hch⟩:=S.change i hi;have hb:w.heap[b]?=some (.map es clock):=Hp.of_get (hle _ _ B);have hlt:b<w.heap.size:=(Array.getElem?_eq_some_iff.1 hb).1;refine ⟨w.heap.size,w.alloc (.mapIter (some b) clock #[] clock),run_range_map w t kt vt b es clock hu hb,Ext.alloc _ _,?_⟩;have hnew:=Hp.of_alloc_new w (.mapIter (some b) clock #[] clock);have hold:=Hp.le_of_alloc w (.mapIter (some b) clock #[] clock);refine hch _ _ (fun y=>if y=w.heap.size then some (.mapIter (some b) clock #[] clock) else E y) ⟨b,es,clock,[],rfl,by omega,by show (if b=w.heap.size then _ else E b)=_;rw [if_neg (by omega)];exact B,by simp,hm,hp,hc,hn,hn,fun k hk=>hk,fun p k hk=>?_,fun k hk=>by cases hk⟩ (fun y o hy=>?_) (fun y o hy _=>hold _ _ hy) (fun y o hy=>?_)
  · have:=List.mem_of_getElem? hk;simp [this]
  · try simp only at hy
    split at hy
    · next e=>subst e;cases hy;exact hnew
    · exact hold _ _ (hle _ _ hy)
  · try simp only at hy
    split at hy
    · next e=>right;omega
    · left;rw [hy];simp
theorem St.rangeM_end (S:St w M F Γ) (i:Nat) (hi:Γ[i]?=some (RangeM enc encv A bi l todo last)):St w M F (Γ.set i (Y3 enc encv A l)):=by
  obtain ⟨H,⟨b,es,clock,seen,E,hne,B,G,hm,hp,hc,_⟩,hle,hch⟩:=S.change i hi;refine hch w _ (Hp.single b (.map es clock)) ⟨b,E,es,clock,by simp [Hp.single],hm,hp,hc⟩ (Hp.single_le.2 (hle _ _ B)) (fun c o h _=>h) (fun c o h=>?_);simp only [Hp.single] at h
  split at h
  · rename_i ec;subst ec;left;rw [B];simp
  · cases h
theorem St.rangeM_seen (S:St w M F Γ) (i:Nat) (hi:Γ[i]?=some (RangeM enc encv A bi l todo last)):St w M F (Γ.set i (RangeM enc encv A bi l todo none)):=by
  obtain ⟨G,⟨b,es,clock,seen,H,hne,B,E,hm,hp,hc,htn,hln,hts,hse,hla⟩,hle,hch⟩:=S.change i hi;exact hch w _ G ⟨b,es,clock,seen,H,hne,B,E,hm,hp,hc,htn,hln,hts,hse,fun k hk=>by cases hk⟩ hle (fun c o h _=>h) (fun c o h=>.inl (by rw [h];simp))
theorem qq (S:St w M F Γ) (i:Nat) {k:κ} {v:ν} (hi:Γ[i]?=some (RangeM enc encv A bi l todo (some k))) (hx:mget l k=some v):(Instr.entry (.pointer (some ⟨bi,0,none⟩))).run P w=.ok (.tuple #[enc k,encv v]) w:=by
  obtain ⟨W,⟨b,es,clock,seen,Y,hne,G,H,hm,hp,hc,htn,hln,hts,hse,hla⟩,hle,hch⟩:=S.change i hi;obtain ⟨p,B,hkp,rfl⟩:=hla k rfl;have hb:w.heap[b]?=some (.map es clock):=Hp.of_get (hle _ _ G);have hlen:es.size=l.length:=by have:=congrArg List.length hm;simpa using this
  have hpl:p<l.length:=by simpa using (List.getElem?_eq_some_iff.1 hkp).1
  have hpe:p<es.size:=by omega
  have hlp:l[p]?=some l[p]:=List.getElem?_eq_getElem hpl;have E:l[p].1=k:=by rw [J9,hlp] at hkp;simpa using hkp
  have K:l[p].2=v:=by
    have:=Kw hln hlp;rw [E,hx] at this;exact (Option.some.inj this).symm
  have hkv:(es[p].key,es[p].val)=(enc k,encv v):=by
    have:=congrArg (fun z:List (Value×Value)=>z[p]?) hm
    simpa [List.getElem?_map,hpe,hpl,E,K] using this
  have hit:w.heap[bi]?=some (.mapIter (some b) clock (B.toArray.push es[p].born) clock):=by
    have O:(B++[bornAt es p]).toArray=B.toArray.push es[p].born:=by simp [bornAt,hpe]
    rw [← O];exact Hp.of_get (hle _ _ H)
  have hnd:(es.toList.map (·.born)).Nodup:=hp.imp (fun h=>by omega);have U:es[p].key=enc k:=congrArg Prod.fst hkv;have V:es[p].val=encv v:=congrArg Prod.snd hkv;rw [run_entry_at (P:=P) w bi b clock B.toArray es clock es[p] hit hb (by simp) hnd,U,V]
theorem QAl (S:St w M F Γ) (i:Nat) (hi:Γ[i]?=some (RangeM enc encv A bi l todo last)) (T:TypeId):∃ w',Ext w w' ∧
    ((∃ k v,k∈todo∧mget l k=some v∧(Instr.next (.pointer (some ⟨bi,0,none⟩)) false T).run P w=.ok (.tuple #[.bool true,enc k,encv v]) w'∧St w' M F (Γ.set i (RangeM enc encv A bi l (todo.erase k) (some k)))) ∨
     (todo=[]∧(Instr.next (.pointer (some ⟨bi,0,none⟩)) false T).run P w=.ok (.tuple #[.bool false]) w'∧St w' M F (Γ.set i (RangeM enc encv A bi l [] none)))):=by
  obtain ⟨Y,⟨b,es,clock,seen,Z,hne,O,G,hm,hp,hc,htn,hln,hts,hse,hla⟩,hle,hch⟩:=S.change i hi;have hb:w.heap[b]?=some (.map es clock):=Hp.of_get (hle _ _ O);have hit:w.heap[bi]?=some (.mapIter (some b) clock seen.toArray clock):=Hp.of_get (hle _ _ G);have hlen:es.size=l.length:=by have:=congrArg List.length hm;simpa using this
  have hold:∀ x∈es.toList,x.born<clock:=fun x hx=>hc _ (List.mem_map_of_mem hx);rcases run_next_at (P:=P) w T bi b clock clock seen.toArray es clock hit hb hold (Nat.le_refl _) with ⟨h0,hrun⟩ | ⟨e,hel,w1,U,hrun⟩
  · have htodo:todo=[]:=by
      apply List.eq_nil_iff_forall_not_mem.2
      intro k hk;obtain ⟨p,hpk⟩:=List.mem_iff_getElem?.1 (hts k hk);have hpl:p<l.length:=by simpa using (List.getElem?_eq_some_iff.1 hpk).1
      have hpe:p<es.size:=by omega
      have hns:bornAt es p ∉ seen:=fun h=>((hse p k hpk).1 h) hk;have hbp:bornAt es p=es[p].born:=by simp [bornAt,hpe]
      have:es[p]∈(leftOf es seen.toArray).toList:=by
        unfold leftOf;simp only [Array.toList_filter,List.mem_filter,Array.getElem_mem_toList,true_and];rw [Bool.not_eq_true',JF,← hbp];exact hns
      have H:=List.length_pos_of_mem this;rw [Array.length_toList,h0] at H;omega
    subst htodo;refine ⟨w,Ext.refl w,.inr ⟨rfl,hrun,?_⟩⟩;exact S.rangeM_seen i hi
  · have hel':=hel;unfold leftOf at hel';simp only [Array.toList_filter,List.mem_filter] at hel';obtain ⟨hee,hns⟩:=hel';obtain ⟨p,hpl,hpe⟩:=List.mem_iff_getElem.1 hee;have hpe':p<es.size:=by simpa using hpl
    have hpx:p<l.length:=by omega
    have hbp:bornAt es p=e.born:=by simp [bornAt,hpe',← hpe]
    have hlp:l[p]?=some l[p]:=List.getElem?_eq_getElem hpx;have hkp:(l.map (·.1))[p]?=some l[p].1:=by rw [J9,hlp];rfl
    have hkv:(e.key,e.val)=(enc l[p].1,encv l[p].2):=by
      have:=congrArg (fun z:List (Value×Value)=>z[p]?) hm
      simpa [List.getElem?_map,hpe',hpx,hpe] using this
    have hnb:bornAt es p ∉ seen:=by rw [Bool.not_eq_true',JF] at hns;rw [hbp];exact hns
    have hkt:l[p].1∈todo:=Classical.byContradiction fun h=>hnb ((hse p _ hkp).2 h);have E:w1.heap=w.heap:=by rcases U with rfl | rfl<;>rfl
    have W:Ext w w1:=by rcases U with rfl | rfl;exact Ext.refl _;exact Ext.drew _ _
    have hpush:seen.toArray.push e.born=(seen++[e.born]).toArray:=by simp
    have hlt:bi<w1.heap.size:=by rw [E];exact (Array.getElem?_eq_some_iff.1 hit).1
    have hb':(setBlock w1 bi (.mapIter (some b) clock (seen.toArray.push e.born) clock)).heap[bi]?=some (.mapIter (some b) clock (seen++[e.born]).toArray clock):=by
      rw [← hpush];simp [setBlock,hlt]
    have hoth:∀ c,c≠bi→(setBlock w1 bi (.mapIter (some b) clock (seen.toArray.push e.born) clock)).heap[c]?=w.heap[c]?:=fun c hcb=>by
      rw [← E];simp only [setBlock];rw [Array.getElem?_setIfInBounds,if_neg (fun e=>hcb e.symm)]
    refine ⟨setBlock w1 bi (.mapIter (some b) clock (seen.toArray.push e.born) clock),W.trans ⟨rfl,rfl,rfl,by simp [setBlock],fun c o hco hdf=>?_,fun c r hcr=>?_,Nat.le_refl _⟩,.inl ⟨l[p].1,l[p].2,hkt,Kw hln hlp,?_,?_⟩⟩
    · by_cases B:c=bi
      · subst B;rw [E,hit] at hco;cases hco;cases hdf
      · have H:w.heap[c]?=some o:=by rw [← E];exact hco
        exact (hoth c B).trans H
    · by_cases B:c=bi
      · subst B;rw [E,hit] at hcr;cases hcr
      · have H:w.heap[c]?=some (.loop r):=by rw [← E];exact hcr
        exact ⟨r,(hoth c B).trans H⟩
    · have h7:e.key=enc l[p].1:=congrArg Prod.fst hkv;have K:e.val=encv l[p].2:=congrArg Prod.snd hkv;rw [hrun,h7,K]
    · refine hch _ _ (fun y=>if y=bi then some (.mapIter (some b) clock (seen++[e.born]).toArray clock) else Y y) ⟨b,es,clock,seen++[e.born],Z,hne,by simp [Ne.symm hne,O],by simp,hm,hp,hc,htn.erase _,hln,fun k hk=>hts k (List.mem_of_mem_erase hk),fun q k hk=>?_,fun k hk=>by cases hk;exact ⟨p,seen,hkp,by rw [hbp]⟩⟩ (fun y o hy=>?_) (fun y o hy hn=>?_) (fun y o hy=>?_)
      · have hql:q<l.length:=by simpa using (List.getElem?_eq_some_iff.1 hk).1
        rw [List.mem_append,List.mem_singleton,htn.mem_erase_iff,hse q k hk,← hbp]
        have hqp:(bornAt es q=bornAt es p)↔(k=l[p].1):=by
          constructor
          · intro h;have:=QBg hp (by omega) hpe' h;subst this;rw [hkp] at hk;cases hk;rfl
          · intro h;subst h;have K:=UZ 0 hln hk;rw [UZ 0 hln hkp] at K
            injection K with K
            have:q=p:=by omega
            rw [this]
        rw [hqp]
        constructor
        · rintro (h | h)
          · exact fun hh=>h hh.2
          · exact fun hh=>hh.1 h
        · intro h
          by_cases V:k=l[p].1
          · exact .inr V
          · exact .inl fun hh=>h ⟨V,hh⟩
      · try simp only at hy
        split at hy
        · next B=>subst B;cases hy;exact Hp.of_mk hb'
        · next B=>exact (Hp.of_congr (hoth y B)).trans (hle _ _ hy)
      · have B:y≠bi:=fun B=>by subst B;rw [G] at hn;cases hn
        exact (Hp.of_congr (hoth y B)).trans hy
      · try simp only at hy
        split at hy
        · next B=>subst B;left;rw [G];simp
        · left;rw [hy];simp
theorem St.rangeM_set (S:St w M F Γ) (i:Nat) (hi:Γ[i]?=some (RangeM enc encv A bi l todo last)):∃ (b:Nat) (es:Array MapEntry) (clock:Nat) (seen:List Nat),A=some ⟨b,0,none⟩∧w.heap[b]?=some (.map es clock)∧es.toList.map (fun e=>(e.key,e.val))=l.map (fun p=>(enc p.1,encv p.2)) ∧
    (es.toList.map fun e:MapEntry=>e.born).Pairwise (fun a b:Nat=>a<b)∧(∀ n∈es.toList.map (fun e:MapEntry=>e.born),n<clock)∧todo.Nodup∧(l.map (·.1)).Nodup∧(∀ k∈todo,k∈l.map (·.1))∧(∀ (p:Nat) (k:κ),(l.map (·.1))[p]?=some k→(bornAt es p∈seen↔k ∉ todo)) ∧
    ∀ (es':Array MapEntry) (l':List (κ×ν)),es'.toList.map (fun e=>(e.key,e.val))=l'.map (fun p=>(enc p.1,encv p.2))→(es'.toList.map fun e:MapEntry=>e.born).Pairwise (fun a b:Nat=>a<b)→(∀ n∈es'.toList.map (fun e:MapEntry=>e.born),n<clock)→(l'.map (·.1)).Nodup→(∀ k∈todo,k∈l'.map (·.1)) →
      (∀ (p:Nat) (k:κ),(l'.map (·.1))[p]?=some k→(bornAt es' p∈seen↔k ∉ todo)) →
      (setObj b (.map es' clock)).run P w=.ok () { w with heap:=w.heap.setIfInBounds b (.map es' clock) }∧St { w with heap:=w.heap.setIfInBounds b (.map es' clock) } M F (Γ.set i (RangeM enc encv A bi l' todo none))∧Ext w { w with heap:=w.heap.setIfInBounds b (.map es' clock) }:=by
  obtain ⟨K,⟨b,es,clock,seen,G,hne,E,H,hm,hp,hc,htn,hln,hts,hse,hla⟩,hle,hch⟩:=S.change i hi;have hb:w.heap[b]?=some (.map es clock):=Hp.of_get (hle _ _ E);have hlt:b<w.heap.size:=(Array.getElem?_eq_some_iff.1 hb).1;refine ⟨b,es,clock,seen,G,hb,hm,hp,hc,htn,hln,hts,hse,fun es' l' hm' hp' hc' hln' hts' hse'=>?_⟩;have hb':(w.heap.setIfInBounds b (.map es' clock))[b]?=some (.map es' clock):=by simp [Array.getElem?_setIfInBounds,hlt]
  have hoth:∀ c,c≠b→(w.heap.setIfInBounds b (.map es' clock))[c]?=w.heap[c]?:=fun c hcb=>by
    rw [Array.getElem?_setIfInBounds,if_neg (fun e=>hcb e.symm)]
  refine ⟨by simp [setObj,Sem.run,hb],?_,?_⟩
  · refine hch _ _ (fun y=>if y=b then some (.map es' clock) else K y) ⟨b,es',clock,seen,G,hne,by simp,by simp [hne,H],hm',hp',hc',htn,hln',hts',hse',fun k hk=>by cases hk⟩ (fun y o hy=>?_) (fun y o hy hn=>?_) (fun y o hy=>?_)
    · try simp only at hy
      split at hy
      · next B=>subst B;cases hy;exact Hp.of_mk hb'
      · next B=>exact (Hp.of_congr (hoth y B)).trans (hle _ _ hy)
    · have B:y≠b:=fun B=>by subst B;rw [E] at hn;cases hn
      exact (Hp.of_congr (hoth y B)).trans hy
    · try simp only at hy
      split at hy
      · next B=>subst B;left;rw [E];simp
      · left;rw [hy];simp
  · refine ⟨rfl,rfl,rfl,by simp,fun c o hco hd=>?_,fun c r hcr=>?_,Nat.le_refl _⟩
    · by_cases e:c=b
      · subst e;rw [hb] at hco;cases hco;cases hd
      · exact (hoth c e).trans hco
    · by_cases e:c=b
      · subst e;rw [hb] at hcr;cases hcr
      · exact ⟨r,(hoth c e).trans hcr⟩
theorem Jy (S:St w M F Γ) (i:Nat) (hi:Γ[i]?=some (RangeM enc encv A bi l todo last)) (hu:P.underlying t=some (.map kt vt)) (K:KeyT P kt enc) (k:κ) (v:ν) (hk:k∈l.map (·.1)) :
    ∃ w',(Instr.mapUpdate t (.map (mb A)) (enc k) (encv v)).run P w=.ok () w'∧Ext w w'∧St w' M F (Γ.set i (RangeM enc encv A bi (mput l k v) todo none)):=by
  obtain ⟨b,es,clock,seen,rfl,hb,B,hp,hc,htn,hln,hts,hse,hset⟩:=S.rangeM_set (P:=P) i hi;have hf:=JH K B k w;have hlen:es.size=l.length:=by have:=congrArg List.length B;simpa using this
  have hkeys:=JT v hk;obtain ⟨j,hjk⟩:=List.mem_iff_getElem?.1 hk;have G:findAt k (l.map (·.1)) 0=some j:=by rw [UZ 0 hln hjk,Nat.zero_add]
  have H:j<l.length:=by simpa using (List.getElem?_eq_some_iff.1 hjk).1
  have E:l[j]?=some l[j]:=List.getElem?_eq_getElem H;have V:l[j].1=k:=by simpa [List.getElem?_map,E] using hjk
  have O:j<es.size:=by omega
  have U:es[j]?=some es[j]:=Array.getElem?_eq_getElem O
  have W:(es[j]).key=enc k:=by
    have:=congrArg (fun z=>z[j]?) (K0 B)
    simpa [List.getElem?_map,E,U,V] using this
  have hmp:mput l k v=l.set j (k,v):=by unfold mput;rw [G]
  rw [G,Option.bind_some,E] at hf;have hml:(es.modify j fun e=>{ e with key:=enc k,val:=encv v }).toList=es.toList.modify j fun e=>{ e with key:=enc k,val:=encv v }:=by simp
  have hbn:(es.modify j fun e=>{ e with key:=enc k,val:=encv v }).toList.map (·.born)=es.toList.map (·.born):=by
    rw [hml]
    apply List.ext_getElem?
    intro m;simp only [List.getElem?_map];rw [List.getElem?_modify]
    cases hx:es.toList[m]? with
    | none=>simp
    | some x=>by_cases e:j=m<;>simp [e]
  have hba:∀ p,bornAt (es.modify j fun e=>{ e with key:=enc k,val:=encv v }) p=bornAt es p:=fun p=>by
    have:=congrArg (fun z:List Nat=>z[p]?) hbn;simp only [List.getElem?_map] at this;unfold bornAt;rw [← Array.getElem?_toList,← Array.getElem?_toList,this]
  obtain ⟨hr,hS,hE⟩:=hset (es.modify j fun e=>{ e with key:=enc k,val:=encv v }) (mput l k v) (by
    rw [hml,hmp]
    apply List.ext_getElem?
    intro m;have hm:=congrArg (fun z=>z[m]?) B;simp only [List.getElem?_map] at hm ⊢;rw [List.getElem?_modify,List.getElem?_set]
    by_cases e:j=m
    · subst e;simp [H,O]
    · simp only [e,if_false,Option.map_eq_map,Option.map_map,Function.comp_def];exact hm) (by rw [hbn];exact hp) (by rw [hbn];exact hc) (by rw [hkeys];exact hln) (by rw [hkeys];exact hts) (fun p k' hk'=>by rw [hba];exact hse p k' (by rw [hkeys] at hk';exact hk'))
  refine ⟨_,?_,hE,hS⟩;simp [Instr.mapUpdate,mb,run_underlying hu,Vw hb,K.chk,hf,Result.andThen,U,W,Instr.keyThatStays,K.bits,hr]
theorem qG (S:St w M F Γ) (i:Nat) (hi:Γ[i]?=some (RangeM enc encv A bi l todo last)) (hu:P.underlying t=some (.map kt vt)) (K:KeyT P kt enc) (k:κ) (hk:k ∉ todo) (T t2:TypeId) :
    ∃ w',(Builtin.delete_ #[t,t2] T #[.map (mb A),enc k]).run P w=.ok (.tuple #[]) w'∧Ext w w'∧St w' M F (Γ.set i (RangeM enc encv A bi (mdel l k) todo none)):=by
  obtain ⟨b,es,clock,seen,rfl,hb,B,hp,hc,htn,hln,hts,hse,hset⟩:=S.rangeM_set (P:=P) i hi;have hf:=JH K B k w;have hlen:es.size=l.length:=by have:=congrArg List.length B;simpa using this
  unfold mdel
  cases E:findAt k (l.map (·.1)) 0 with
  | none =>
    rw [E] at hf;obtain ⟨hr,hS,hE⟩:=hset es l B hp hc hln hts hse;refine ⟨_,?_,hE,hS⟩;simp [Builtin.delete_,mb,run_underlying hu,Vw hb,K.chk,hf,Result.andThen,hr]
  | some j =>
    rw [E] at hf;obtain ⟨_,G,hjk⟩:=UA E;have H:j<l.length:=by simpa using G
    have O:l[j]?=some l[j]:=List.getElem?_eq_getElem H;rw [Option.bind_some,O] at hf;have hel:(es.eraseIdxIfInBounds j).toList=es.toList.eraseIdx j:=by simp
    have hsub:((es.eraseIdxIfInBounds j).toList.map (·.born)).Sublist (es.toList.map (·.born)):=by
      rw [hel];exact (List.eraseIdx_sublist _ _).map _
    have hkl:(l.eraseIdx j).map (·.1)=(l.map (·.1)).eraseIdx j:=by
      apply List.ext_getElem?
      intro m;rw [List.getElem?_map,List.getElem?_eraseIdx,List.getElem?_eraseIdx]
      split<;>rw [List.getElem?_map]
    obtain ⟨hr,hS,hE⟩:=hset (es.eraseIdxIfInBounds j) (l.eraseIdx j) (by
      rw [hel]
      apply List.ext_getElem?
      intro m;have hm:=fun m:Nat=>congrArg (fun z:List (Value×Value)=>z[m]?) B;simp only [List.getElem?_map] at hm ⊢;rw [List.getElem?_eraseIdx,List.getElem?_eraseIdx]
      split<;>exact hm _) (hp.sublist hsub) (fun n hn=>hc n (hsub.subset hn)) (by rw [hkl];exact hln.sublist (List.eraseIdx_sublist _ _)) (fun k' hk'=>by
      rw [hkl,List.mem_eraseIdx_iff_getElem?];obtain ⟨q,hq⟩:=List.mem_iff_getElem?.1 (hts k' hk');refine ⟨q,fun e=>?_,hq⟩;subst e;simp only [Nat.sub_zero] at hjk;rw [hjk] at hq;cases hq;exact hk hk') (fun p k' hk'=>by
      rw [hkl,List.getElem?_eraseIdx] at hk'
      have hba:bornAt (es.eraseIdxIfInBounds j) p=bornAt es (if p<j then p else p+1):=by
        unfold bornAt;rw [← Array.getElem?_toList,hel,List.getElem?_eraseIdx]
        split<;>rw [Array.getElem?_toList]
      rw [hba]
      split at hk'<;>rename_i hlt
      · rw [if_pos hlt];exact hse _ _ hk'
      · rw [if_neg hlt];exact hse _ _ hk')
    refine ⟨_,?_,hE,hS⟩;simp [Builtin.delete_,mb,run_underlying hu,Vw hb,K.chk,hf,Result.andThen,hr]
end
section
variable {rn:Rd} {P:Program} {N:Nat} {ops:Array Oper} {Q:Post} {rest:List Oper} {ρ:Rho} {w:World} {M F:Hp} {Γ:List Asr} {x y u:Operand} {ty:TypeId} {ps:String} {af:Array Edge} {d:Nat}
variable {κ ν:Type} [DecidableEq κ] {enc:κ→Value} {encv:ν→Value} {l:List (κ×ν)} {A:Option Addr} {bi:Nat} {todo:List κ} {last:Option κ} {t kt vt t2:TypeId}
theorem JL (S:St w M F Γ) (i:Nat) (hi:Γ[i]?=some (Y3 enc encv A l)) (hu:P.underlying t=some (.map kt vt)) (hn:(l.map (·.1)).Nodup) (hx:evR ρ x=.map (mb A)) (hd:Nat.blt d N=true)
    (C:∀ bi w',Ext w w'→St w' M F (Γ.set i (RangeM enc encv A bi l (l.map (·.1)) none))→Wl rn P N ops Q rest (upd ρ d (.pointer (some ⟨bi,0,none⟩))) w'):Wl rn P N ops Q (⟨some d,.range t x,ty,ps,af,none⟩::rest) ρ w:=by
  obtain ⟨bi,w',hr,hE,S'⟩:=qp S i hi hu hn;refine UC (.pointer (some ⟨bi,0,none⟩)) rfl rfl hd (w':=w') ?_ hE (C bi w' hE S');simp only [execOp,hx,Sem.run_bind,hr,Result.andThen_ok,Sem.run_pure]
theorem Jp (S:St w M F Γ) (i:Nat) (hi:Γ[i]?=some (RangeM enc encv A bi l todo last)) (hx:evR ρ x=.pointer (some ⟨bi,0,none⟩)) (hd:Nat.blt d N=true)
    (B:∀ k v w',k∈todo→mget l k=some v→Ext w w'→St w' M F (Γ.set i (RangeM enc encv A bi l (todo.erase k) (some k)))→Wl rn P N ops Q rest (upd ρ d (.tuple #[.bool true,enc k,encv v])) w')
    (E:∀ w',todo=[]→Ext w w'→St w' M F (Γ.set i (RangeM enc encv A bi l [] none))→Wl rn P N ops Q rest (upd ρ d (.tuple #[.bool false])) w'):Wl rn P N ops Q (⟨some d,.next x false,ty,ps,af,none⟩::rest) ρ w:=by
  obtain ⟨w',hE,⟨k,v,hp,hn,hr,S'⟩ | ⟨hall,hr,S'⟩⟩:=QAl (P:=P) S i hi ty
  · refine UC (.tuple #[.bool true,enc k,encv v]) rfl rfl hd (w':=w') ?_ hE (B k v w' hp hn hE S');simp only [execOp,hx,Sem.run_bind,hr,Result.andThen_ok,Sem.run_pure]
  · refine UC (.tuple #[.bool false]) rfl rfl hd (w':=w') ?_ hE (E w' hall hE S');simp only [execOp,hx,Sem.run_bind,hr,Result.andThen_ok,Sem.run_pure]
theorem U9 {k:κ} {v:ν} {dst:Option Tmp} {g:Option (Nat×Bool)} (S:St w M F Γ) (i:Nat) (hi:Γ[i]?=some (RangeM enc encv A bi l todo (some k))) (hv:mget l k=some v) (hx:evR ρ x=.pointer (some ⟨bi,0,none⟩)) :
    (execOp (evR ρ) ⟨dst,.entry x,ty,ps,af,g⟩).run P w=.ok (.value (.tuple #[enc k,encv v])) w:=by
  have:=qq (P:=P) S i hi hv;simp only [execOp,hx,Sem.run_bind,this,Result.andThen_ok,Sem.run_pure]
theorem JM (S:St w M F Γ) (i:Nat) (hi:Γ[i]?=some (RangeM enc encv A bi l todo last)) (hu:P.underlying t=some (.map kt vt)) (K:KeyT P kt enc) (k:κ) (v:ν) (hk:k∈l.map (·.1)) {l':List (κ×ν)} (hl':mput l k v=l')
    (hx:evR ρ x=.map (mb A)) (hy:evR ρ y=enc k) (hv:evR ρ u=encv v) (C:∀ w',Ext w w'→St w' M F (Γ.set i (RangeM enc encv A bi l' todo none))→Wl rn P N ops Q rest ρ w'):Wl rn P N ops Q (⟨none,.mapUpdate t x y u,ty,ps,af,none⟩::rest) ρ w:=by
  subst hl';obtain ⟨w',hr,hE,B⟩:=Jy S i hi hu K k v hk;refine JK rfl rfl (w':=w') ?_ hE (C w' hE B);simp only [execOp,hx,hy,hv,Sem.run_bind,hr,Result.andThen_ok,Sem.run_pure]
end
end Go.Proofs.YtnjbjpaiepefoaaGreatDoor
