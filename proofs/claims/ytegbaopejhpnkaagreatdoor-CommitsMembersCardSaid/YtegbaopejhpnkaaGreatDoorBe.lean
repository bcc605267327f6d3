/- Part of the proof that the law CommitsMembers holds. -/
import Derived.Test.YtegbaopejhpnkaaGreatDoorAa
import Derived.Test.YtegbaopejhpnkaaGreatDoorAp
namespace Go.Chx
open Go
variable {C:Ctx} {δ:List Deferred} {ρ:Da} {l:List A9} {I:World→Prop} {K:Act→World→Prop} {Q:Exit→Act→World→Prop} {ops:Array Oper}
variable {isG:Nat→Bool} {Di Fin':Da→List A9→(World→Prop)→Prop} {L:List A9}
theorem Tx.app {P S:List Nat} {ρ:Da} {l:List A9} {I:World→Prop} (h:Tx C ops δ isG Fin' P ρ l I) (hF:∀ ρ l I,Fin' ρ l I→Tx C ops δ isG Di S ρ l I):Tx C ops δ isG Di (P++S) ρ l I:=by
 induction h with
 | nil h=>exact hF _ _ _ h
 | det v r _ ih=>exact .det v r ih
 | gh p v l' J hg r he _ ih=>exact .gh p v l' J hg r he ih
theorem TS.app {D:List Nat} {a:Act} {P S:List Nat} {ρ:Da} {l L:List A9} {I J:World→Prop} (h:TS C ops δ isG Fin' D a P ρ l I L J) (hF:∀ ρ l I,Fin' ρ l I→Tx C ops δ isG Di S ρ l I) (hS:∀ j∈S,j∉D):TS C ops δ isG Di D a (P++S) ρ l I L J:=by
 induction h with
 | stop hn ht=>exact .stop (fun j hj=>(List.mem_append.1 hj).elim (hn j) (hS j)) (ht.app hF)
 | det v r hv _ ih=>exact .det v r hv ih
 | gh v m hg hD hv _ ih=>exact .gh v m hg hD hv ih
def teO (ops:Array Oper) (B:List Nat) (isG:Nat→Bool) (g:Nat):Bool :=
 let m:=mks ops.toList []
 B.all (fun i=>(Bd i B).all (fun j=>(m.getD i 0).testBit j || j == g || (!isG j && !H4 (Bf ops i) (Au ops j) && (match (Bf ops i).guard with | some (g,_)=>!((ops[g]?).bind (·.dst) == some (Au ops j)) | none=>true))))
def teB (ops:Array Oper) (listed:Array Bool) (N:Nat) (P S1 S2:List Nat) (isG:Nat→Bool) (g1 g2:Nat):Bool :=
 let m:=mks ops.toList []
 let all:=List.range ops.size
 let B:=P++S1
 listed.size == ops.size && decide B.Nodup && decide ((B.map (Au ops)).Nodup) &&
 B.all (fun i=>decide (i < ops.size) && !listed.getD i true && (Bf ops i).dst.isSome && (match (Bf ops i).op with | .defer _=>false | .select _ _=>false | _=>true) && decide (Au ops i < N) &&
  (B7 (Bf ops i)).all (fun j=>listed.getD j false || (B.contains j && decide (j < i)))) &&
 (teO ops (P++S1) isG g1 && teO ops (P++S2) isG g2 && P.all (fun i=>!isG i) && decide S2.Nodup && S2.all (fun i=>S1.contains i) && S1.all (fun i=>S2.contains i) && S1.contains g1 && S2.contains g2 && decide (S1.length=S2.length) &&
  S1.all (fun i=>i == g1 || i == g2 || (m.getD i 0).testBit g1 || (m.getD i 0).testBit g2)) &&
 all.all (fun k=>B.contains k || listed.getD k true || B.all (fun b=>(m.getD k 0).testBit b)) &&
 all.all (fun k=>!listed.getD k true || (B7 (Bf ops k)).all (fun j=>listed.getD j false))
theorem mem_before {i:Nat}:∀ {B:List Nat} {j:Nat},j∈Bd i B→j∈B:=by
 intro B
 induction B with
 | nil=>intro j h; cases h
 | cons c B ihB =>
  intro j h
  simp only [Bd] at h
  split at h
  ·cases h
  ·cases h with
   | head=>exact .head _
   | tail _ h=>exact .tail _ (ihB h)
theorem not_before {i:Nat}:∀ {B:List Nat},i∉Bd i B:=by
 intro B
 induction B with
 | nil=>simp [Bd]
 | cons c B ihB =>
  simp only [Bd]
  split
  ·simp
  ·rename_i h; simp only [List.mem_cons,not_or]; exact ⟨fun e=>h e.symm,ihB⟩
theorem before_pre {i:Nat}:∀ {P S:List Nat},i∈P→Bd i (P++S)=Bd i P:=by
 intro P
 induction P with
 | nil=>intro S h; cases h
 | cons c P ih =>
  intro S h
  simp only [List.cons_append,Bd]
  by_cases e:c=i
  ·rw [if_pos e,if_pos e]
  ·rw [if_neg e,if_neg e,ih ((List.mem_cons.1 h).resolve_left (fun h=>e h.symm))]
theorem dj_either {fuel:Nat} {listed:Array Bool} (P S1 S2:List Nat) (isG:Nat→Bool) (g1 g2:Nat) (hchk:teB ops listed C.N P S1 S2 isG g1 g2=true) (hf:Nat.ble (P++S1).length fuel=true) (hfresh:(P++S1).all (fun i=>(lk ρ (Au ops i)).isNone)=true)
  (k:Tx C ops δ isG (fun ρ' l' I'=>Tx C ops δ isG (fun ρ' l' I'=>KJ C (aw C ops Q (fuel-(P++S1).length) ((P++S1).foldl (fun l i=>l.setIfInBounds i true) listed)) δ ρ' l' I') S1 ρ' l' I'∧Tx C ops δ isG (fun ρ' l' I'=>KJ C (aw C ops Q (fuel-(P++S2).length) ((P++S2).foldl (fun l i=>l.setIfInBounds i true) listed)) δ ρ' l' I') S2 ρ' l' I') P ρ l I) :
  KJ C (aw C ops Q fuel listed) δ ρ l I:=by
 have hf:=Nat.le_of_ble_eq_true hf
 have hdo:∀ {B:List Nat} {g:Nat},teO ops B isG g=true→∀ i∈B,∀ j∈Bd i B,((mks ops.toList []).getD i 0).testBit j=true∨j=g∨(isG j=false∧H4 (Bf ops i) (Au ops j)=false)∧(match (Bf ops i).guard with | some (g,_)=>!((ops[g]?).bind (·.dst) == some (Au ops j)) | none=>true)=true:=by
  intro B g h i hi j hj
  simp only [teO,List.all_eq_true,Bool.or_eq_true,Bool.and_eq_true,beq_iff_eq,Bool.not_eq_true'] at h
  have:=h i hi j hj
  rcases this with (h1 | h1) | h1
  ·exact .inl h1
  ·exact .inr (.inl h1)
  ·exact .inr (.inr h1)
 simp only [teB,Bool.and_eq_true,beq_iff_eq,decide_eq_true_eq,List.all_eq_true,Bool.not_eq_true',Bool.or_eq_true,List.contains_iff_mem,List.mem_range] at hchk
 obtain ⟨⟨⟨⟨⟨⟨hsz,hnd⟩,hdst⟩,hB⟩,hS⟩,hout⟩,hdown⟩:=hchk
 obtain ⟨⟨⟨⟨⟨⟨⟨⟨⟨hO1,hO2⟩,hPg⟩,hS2n⟩,hS21⟩,hS12⟩,hg1S⟩,hg2S⟩,hSl⟩,hSg⟩:=hS
 have hPS:(P++S2).length=(P++S1).length:=by rw [List.length_append,List.length_append]; omega
 have hmem2:∀ i,i∈P++S2↔i∈P++S1:=fun i=>by
  rw [List.mem_append,List.mem_append]
  exact ⟨fun h=>h.imp id (hS21 i),fun h=>h.imp id (hS12 i)⟩
 have hdisj:∀ i∈P,i∉S1:=fun i hi hs=>(List.nodup_append.1 hnd).2.2 i hi i hs rfl
 have hnd2:(P++S2).Nodup:=by
  rw [List.nodup_append]
  exact ⟨(List.nodup_append.1 hnd).1,hS2n,fun a ha b hb e=>by subst e; exact hdisj a ha (hS21 a hb)⟩
 have hfresh:∀ i∈P++S1,lk ρ (Au ops i)=none:=fun i hi=>by simpa using List.all_eq_true.1 hfresh i hi
 have hinj:∀ i∈P++S1,∀ j∈P++S1,j≠i→Au ops j≠Au ops i:=by
  intro i hiB j hjB hne e
  have:∀ {B:List Nat},(B.map (Au ops)).Nodup→j∈B→i∈B→False:=by
   intro B
   induction B with
   | nil=>intro _ h; cases h
   | cons c B ihB =>
    intro hnn h1 h2
    simp only [List.map_cons,List.nodup_cons] at hnn
    cases h1 with
    | head=>cases h2 with
     | head=>exact hne rfl
     | tail _ h2=>exact hnn.1 (e ▸ List.mem_map.2 ⟨i,h2,rfl⟩)
    | tail _ h1=>cases h2 with
     | head=>exact hnn.1 (e ▸ List.mem_map.2 ⟨j,h1,rfl⟩)
     | tail _ h2=>exact ihB hnn.2 h1 h2
  exact this hdst hjB hiB
 have hlt:∀ i∈P++S1,i < listed.size:=fun i hi=>by rw [hsz]; exact (hB i hi).1.1.1.1.1
 have hgt:∀ (A:Array Bool) (k:Nat) (h:k < A.size),A.getD k true=A[k]:=fun A k h=>by simp [Array.getD_eq_getD_getElem?,h]
 let F1:Da→List A9→(World→Prop)→Prop:=fun ρ' l' I'=>KJ C (aw C ops Q (fuel-(P++S1).length) ((P++S1).foldl (fun l i=>l.setIfInBounds i true) listed)) δ ρ' l' I'
 let F2:Da→List A9→(World→Prop)→Prop:=fun ρ' l' I'=>KJ C (aw C ops Q (fuel-(P++S2).length) ((P++S2).foldl (fun l i=>l.setIfInBounds i true) listed)) δ ρ' l' I'
 have main:∀ (n:Nat) (D:List Nat) (lst:Array Bool) (a:Act) (w:World) (L:List A9) (J:World→Prop),n+D.length=(P++S1).length→D.Nodup→(∀ j∈D,j∈P++S1)→lst.size=ops.size →
   (∀ k,k < ops.size→(lst.getD k true=true↔listed.getD k true=true∨k∈D))→(∀ k,k < ops.size→lst.getD k true=true→∀ j∈B7 (Bf ops k),lst.getD j false=true) →
   Sim C.N δ ρ a→((∀ j∈D,j∈P)∧TS C ops δ isG (fun ρ' l' I'=>Tx C ops δ isG F1 S1 ρ' l' I'∧Tx C ops δ isG F2 S2 ρ' l' I') D a P ρ l I L J)∨(g1∈D∧TS C ops δ isG F1 D a (P++S1) ρ l I L J)∨(g2∈D∧TS C ops δ isG F2 D a (P++S2) ρ l I L J)→WSat C.X C.M C.w0 L J w →
   wpAnyIn (wf C.ro) 0 C.P .any ops Q (fuel-D.length) lst a w:=by
  intro n
  induction n with
  | zero =>
   intro D lst a w L J hn hDn hDB hls hlst _ hs hts hw
   have hall:∀ j∈P++S1,j∈D:=by
    intro j hj
    by_cases hd:j∈D
    ·exact hd
    ·have:=Ea (l:=j::D) (m:=P++S1) (List.nodup_cons.2 ⟨hd,hDn⟩) (fun y hy=>by cases hy with
      | head=>exact hj
      | tail _ h=>exact hDB y h)
     simp at this hn; omega
   have he:∀ B:List Nat,(∀ i,i∈B↔i∈P++S1)→lst=B.foldl (fun l i=>l.setIfInBounds i true) listed:=by
    intro B hBm
    apply Array.ext
    ·rw [Fz,hls,hsz]
    ·intro k hk1 hk2
     have e1:lst.getD k true=lst[k]:=hgt _ k hk1
     have e2:(B.foldl (fun l i=>l.setIfInBounds i true) listed).getD k true=(B.foldl (fun l i=>l.setIfInBounds i true) listed)[k]:=hgt _ k hk2
     rw [← e1,← e2,Gm B listed (fun i hi=>hlt i ((hBm i).1 hi)) k (by rw [hsz]; omega)]
     rw [Bool.eq_iff_iff,hlst k (by omega)]
     simp only [Bool.or_eq_true,List.contains_iff_mem]
     exact ⟨fun h=>h.imp id (fun h=>(hBm k).2 (hDB k h)),fun h=>h.imp id (fun h=>hall k ((hBm k).1 h))⟩
   have hlen:D.length=(P++S1).length:=by omega
   rcases hts with ⟨hDP,_⟩ | ⟨_,hts⟩ | ⟨_,hts⟩
   ·exact absurd hg1S (hdisj g1 (hDP g1 (hall g1 (List.mem_append_right _ hg1S))))
   ·obtain ⟨ρ',hfin,hs'⟩:=hts.done hall hs hw
    rw [he (P++S1) (fun _=>Iff.rfl),hlen]
    exact hfin a w hs' hw
   ·obtain ⟨ρ',hfin,hs'⟩:=hts.done (fun j hj=>hall j ((hmem2 j).1 hj)) hs hw
    rw [he (P++S2) hmem2,hlen,← hPS]
    exact hfin a w hs' hw
  | succ n ih =>
   intro D lst a w L J hn hDn hDB hls hlst hdn hs hts hw
   have hex:∃ i,i∈P++S1∧i∉D:=by
    refine Classical.byContradiction fun hne=>?_
    have:(P++S1).length≤D.length:=Ea hnd fun i hi=>Classical.byContradiction fun hd=>hne ⟨i,hi,hd⟩
    omega
   have hDown:Down ops (fun k=>k < ops.size∧lst.getD k true=true∨ops.size≤k∧lst.getD k false=true):=by
    intro k hk j hj
    have hjl:lst.getD j false=true:=by
     rcases hk with hk | hk
     ·exact hdn k hk.1 hk.2 j hj
     ·exact absurd hk.2 (by simp [Array.getD_eq_getD_getElem?,Array.getElem?_eq_none (show lst.size≤k by omega)])
    rcases Nat.lt_or_ge j ops.size with h | h
    ·exact .inl ⟨h,by rw [Ci (by omega) true false]; exact hjl⟩
    ·exact .inr ⟨h,hjl⟩
   have hbit:∀ k,k < ops.size→(∀ j∈B7 (Bf ops k),lst.getD j false=true)→∀ j,((mks ops.toList []).getD k 0).testBit j=true→j < ops.size→lst.getD j true=true:=by
    intro k hk hb j hj hjs
    cases hm:(mks ops.toList [])[k]? with
    | none=>simp [List.getD,hm] at hj
    | some m =>
     simp only [List.getD,hm,Option.getD_some] at hj
     have:=mks_in hDown ops.toList [] rfl (fun i m hi=>by simp at hi) k m hm (fun j hj=>by
      rcases Nat.lt_or_ge j ops.size with h | h
      ·exact .inl ⟨h,by rw [Ci (by omega) true false]; exact hb j hj⟩
      ·exact .inr ⟨h,hb j hj⟩) j hj
     rcases this with h | h
     ·exact h.2
     ·omega
   have hlsj:∀ j,listed.getD j false=true→j < ops.size:=fun j h=>by
    rcases Nat.lt_or_ge j ops.size with h' | h'
    ·exact h'
    ·simp [Array.getD_eq_getD_getElem?,Array.getElem?_eq_none (show listed.size≤j by omega)] at h
   have hfu:fuel-D.length=(fuel-(D.length+1))+1:=by omega
   rw [hfu]
   refine ⟨fun h0=>?_,fun i hi=>?_⟩
   ·obtain ⟨i,h1,h2,h3⟩:=Ha hex
    have hBi:=hB i h1
    have:i∈Region.ready .any ops lst:=by
     refine C1.2 ⟨hBi.1.1.1.1.1,?_,fun j hj=>?_⟩
     ·rw [← Bool.not_eq_true]
      intro hl
      rcases (hlst i hBi.1.1.1.1.1).1 hl with h | h
      ·rw [hBi.1.1.1.1.2] at h; cases h
      ·exact h2 h
     ·rcases hBi.2 j hj with h | ⟨h,h'⟩
      ·rw [Ci (by have:=hlsj j h; omega) false true]
       exact (hlst j (hlsj j h)).2 (.inl (by rw [Ci (by have:=hlsj j h; omega) true false]; exact h))
      ·have hjs:j < ops.size:=(hB j h).1.1.1.1.1
       rw [Ci (by omega) false true]
       exact (hlst j hjs).2 (.inr (h3 j h h'))
    rw [h0] at this
    cases this
   ·obtain ⟨his,hil,hib⟩:=C1.1 hi
    have hiB:i∈P++S1:=by
     rcases hout i his with (h | h) | h
     ·exact h
     ·exact absurd ((hlst i his).2 (.inl h)) (by simp [hil])
     ·exfalso
      obtain ⟨j,hj,hjd⟩:=hex
      have hjs:=(hB j hj).1.1.1.1.1
      rcases (hlst j hjs).1 (hbit i his hib j (h j hj) hjs) with h' | h'
      ·rw [(hB j hj).1.1.1.1.2] at h'; cases h'
      ·exact hjd h'
    have hiD:i∉D:=fun h=>by
     have:=(hlst i his).2 (.inr h)
     rw [hil] at this; cases this
    have hBi:=hB i hiB
    have hbd:∀ j,j∈P++S1→((mks ops.toList []).getD i 0).testBit j=true→j∈D:=by
     intro j hjB hb
     have hjs:=(hB j hjB).1.1.1.1.1
     rcases (hlst j hjs).1 (hbit i his hib j hb hjs) with h | h
     ·rw [(hB j hjB).1.1.1.1.2] at h; cases h
     ·exact h
    have ho:ops[i]? = some (Bf ops i):=by simp [Bf,his]
    simp only [wpOpIn,ho]
    have hdi:(Bf ops i).dst=some (Au ops i):=by
     have:=hBi.1.1.1.2
     unfold Au
     cases h:(Bf ops i).dst with
     | none=>rw [h] at this; cases this
     | some d=>rfl
    have step:∀ {Di:Da→List A9→(World→Prop)→Prop} {B:List Nat},TS C ops δ isG Di D a B ρ l I L J→i∈B→B.Nodup→(∀ j∈B,j∈P++S1)→(∀ j∈Bd i B,j∈D∨(isG j=false∧H4 (Bf ops i) (Au ops j)=false)∧(match (Bf ops i).guard with | some (g,_)=>!((ops[g]?).bind (·.dst) == some (Au ops j)) | none=>true)=true) →
      Ax C ops (Bf ops i) (stepQ C ops δ l isG Di D a i B ρ I) Q a w:=by
     intro Di B hts hiB' hndB hBs hbf
     exact TS.step (Q:=Q) hiD hdi hBi.1.2 (fun cs b e=>by have:=hBi.1.1.2; rw [e] at this; cases this) (fun c e=>by have:=hBi.1.1.2; rw [e] at this; cases this) hs.size hs.dfr hts hiB' hndB
      (fun j hj=>(hB j (hBs j hj)).1.2) (fun j hj hne=>hinj i hiB j (hBs j hj) hne)
      (fun g hg hgg=>by
       rcases hbf g hg with h | h
       ·exact h
       ·exact absurd hgg (by simp [h.1.1]))
      (fun j hj hr=>by
       rcases hbf j hj with h | h
       ·exact h
       ·exfalso
        rcases hr with hr | ⟨g,b,hg,hd⟩
        ·rw [H3,h.1.2] at hr; cases hr
        ·have:=h.2
         rw [hg] at this
         simp [hd] at this)
      (fun t v hv=>by
       have:=hs.get t v hv
       have:=(Array.getElem?_eq_some_iff.1 this).1
       have:=hs.size
       omega)
      ⟨fun t _ v hv=>hs.get t v hv,fun _ _ d _ _ v hv=>hs.get d v hv⟩ hw
    have fin:∀ (v:Value) (w':World) (L':List A9) (J':World→Prop),((∀ j∈i::D,j∈P)∧TS C ops δ isG (fun ρ' l' I'=>Tx C ops δ isG F1 S1 ρ' l' I'∧Tx C ops δ isG F2 S2 ρ' l' I') (i::D) (a.put (some (Au ops i)) v) P ρ l I L' J')∨(g1∈i::D∧TS C ops δ isG F1 (i::D) (a.put (some (Au ops i)) v) (P++S1) ρ l I L' J')∨(g2∈i::D∧TS C ops δ isG F2 (i::D) (a.put (some (Au ops i)) v) (P++S2) ρ l I L' J')→WSat C.X C.M C.w0 L' J' w' →
      wpAnyIn (wf C.ro) 0 C.P .any ops Q (fuel-(D.length+1)) (lst.setIfInBounds i true) (a.put (some (Au ops i)) v) w':=by
     intro v w' L' J' hts' hw'
     exact ih (i::D) (lst.setIfInBounds i true) _ w' L' J' (by simp only [List.length_cons]; omega) (List.nodup_cons.2 ⟨hiD,hDn⟩)
      (fun j hj=>by cases hj with
       | head=>exact hiB
       | tail _ h=>exact hDB j h) (by simpa using hls)
      (fun k hk=>by
       rw [Ep (by omega)]
       by_cases h:k=i
       ·subst h; simp
       ·rw [if_neg h,hlst k hk]; simp [h])
      (fun k hk hkl j hj=>by
       rw [Ep (by omega)] at hkl ⊢
       by_cases hji:j=i
       ·rw [if_pos hji]
       ·rw [if_neg hji]
        by_cases h:k=i
        ·subst h; exact hib j hj
        ·rw [if_neg h] at hkl; exact hdn k hk hkl j hj)
      ⟨by simp [Act.put,hs.size],by simp [Act.put,hs.dfr],fun t v' h=>by
       have hne:Au ops i≠t:=by rintro rfl; rw [hfresh i hiB] at h; cases h
       have:=hs.get t v' h
       simp only [Act.put,Array.getElem?_setIfInBounds]
       rw [if_neg hne]; exact this⟩ hts' hw'
    have go1:(g1∈D∨i=g1)→TS C ops δ isG F1 D a (P++S1) ρ l I L J→Ax C ops (Bf ops i) (wpAnyIn (wf C.ro) 0 C.P .any ops Q (fuel-(D.length+1)) (lst.setIfInBounds i true)) Q a w:=by
     intro hg hts
     refine Bs ?_ (step hts hiB hnd (fun _ h=>h) fun j hj=>?_)
     ·rintro a' w' ⟨v,rfl,L',J',hts',hw'⟩
      refine fin v w' L' J' (.inr (.inl ⟨?_,hts'⟩)) hw'
      rcases hg with h | h
      ·exact .tail _ h
      ·rw [h]; exact .head _
     ·rcases hdo hO1 i hiB j hj with h | h | h
      ·exact .inl (hbd j (mem_before hj) h)
      ·rcases hg with h' | h'
       ·exact .inl (h ▸ h')
       ·exfalso; rw [h,← h'] at hj; exact not_before hj
      ·exact .inr h
    have go2:(g2∈D∨i=g2)→TS C ops δ isG F2 D a (P++S2) ρ l I L J→Ax C ops (Bf ops i) (wpAnyIn (wf C.ro) 0 C.P .any ops Q (fuel-(D.length+1)) (lst.setIfInBounds i true)) Q a w:=by
     intro hg hts
     refine Bs ?_ (step hts ((hmem2 i).2 hiB) hnd2 (fun j h=>(hmem2 j).1 h) fun j hj=>?_)
     ·rintro a' w' ⟨v,rfl,L',J',hts',hw'⟩
      refine fin v w' L' J' (.inr (.inr ⟨?_,hts'⟩)) hw'
      rcases hg with h | h
      ·exact .tail _ h
      ·rw [h]; exact .head _
     ·rcases hdo hO2 i ((hmem2 i).2 hiB) j hj with h | h | h
      ·exact .inl (hbd j ((hmem2 j).1 (mem_before hj)) h)
      ·rcases hg with h' | h'
       ·exact .inl (h ▸ h')
       ·exfalso; rw [h,← h'] at hj; exact not_before hj
      ·exact .inr h
    rcases hts with ⟨hDP,hts⟩ | ⟨hg,hts⟩ | ⟨hg,hts⟩
    ·have hSD:∀ j∈S1,j∉D:=fun j hj hd=>hdisj j (hDP j hd) hj
     rcases List.mem_append.1 hiB with hiP | hiS
     ·refine Bs ?_ (step hts hiP (List.nodup_append.1 hnd).1 (fun j h=>List.mem_append_left _ h) fun j hj=>?_)
      ·rintro a' w' ⟨v,rfl,L',J',hts',hw'⟩
       exact fin v w' L' J' (.inl ⟨fun j hj=>by cases hj with
        | head=>exact hiP
        | tail _ h=>exact hDP j h,hts'⟩) hw'
      ·have hj':j∈Bd i (P++S1):=by rw [before_pre hiP]; exact hj
       rcases hdo hO1 i hiB j hj' with h | h | h
       ·exact .inl (hbd j (mem_before hj') h)
       ·exact absurd hg1S (hdisj g1 (h ▸ mem_before hj))
       ·exact .inr h
     ·rcases hSg i hiS with ((h | h) | h) | h
      ·exact go1 (.inr h) (hts.app (fun _ _ _ h=>h.1) hSD)
      ·exact go2 (.inr h) (hts.app (fun _ _ _ h=>h.2) (fun j hj=>hSD j (hS21 j hj)))
      ·exact absurd (hbd g1 (List.mem_append_right _ hg1S) h) (hSD g1 hg1S)
      ·exact absurd (hbd g2 (List.mem_append_right _ (hS21 g2 hg2S)) h) (hSD g2 (hS21 g2 hg2S))
    ·exact go1 (.inl hg) hts
    ·exact go2 (.inl hg) hts
 intro a w ha hw
 have:=main (P++S1).length [] listed a w l I (by simp) (by simp) (by simp) hsz (by simp) (fun k hk hl j hj=>by
  rcases hdown k hk with h | h
  ·rw [h] at hl; cases hl
  ·exact h j hj) ha (.inl ⟨by simp,.stop (by simp) k⟩) hw
 simpa using this
end Go.Chx
