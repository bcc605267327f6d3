/- Part of the proof that the law CommitsMembers holds. -/
import Derived.Laws.Strings
import Derived.Test.YtegbaopejhpnkaaGreatDoorAa
import Derived.Test.YtegbaopejhpnkaaGreatDoorAe
namespace Go.Chx
open Go
variable {C:Ctx} {δ:List Deferred} {ρ:Da} {l:List A9} {I:World→Prop} {K:Act→World→Prop} {Q:Exit→Act→World→Prop} {ops:Array Oper}
inductive Ux (C:Ctx) (ops:Array Oper) (δ:List Deferred) (isG:Nat→Bool) (Di:Da→List A9→List A9→(World→Prop)→Prop):List Nat→Da→List A9→List A9→(World→Prop)→Prop
 | nil {ρ:Da} {l E:List A9} {I:World→Prop}:Di ρ l E I→Ux C ops δ isG Di [] ρ l E I
 | det {i:Nat} {B:List Nat} {ρ:Da} {l E:List A9} {I:World→Prop} (v:Value):Rd C ops δ l i ρ I v→Ux C ops δ isG Di B ((Au ops i,v)::ρ) l E I→Ux C ops δ isG Di (i::B) ρ l E I
 | gh {i:Nat} {B:List Nat} {ρ:Da} {l E:List A9} {I:World→Prop} {γ:Type} (p:γ→Prop) (v:γ→Value) (l' E':γ→List A9) (J:γ→World→Prop):isG i=true→Rg C ops δ (l++E) i ρ I p v (fun x=>l' x++E' x) J→(∀ x,∃ m,l' x=l++m) →
   (∀ x,p x→Ux C ops δ isG Di B ((Au ops i,v x)::ρ) (l' x) (E' x) (fun w=>J x w∧I w))→Ux C ops δ isG Di (i::B) ρ l E I
inductive US (C:Ctx) (ops:Array Oper) (δ:List Deferred) (isG:Nat→Bool) (Di:Da→List A9→List A9→(World→Prop)→Prop) (D:List Nat) (a:Act):List Nat→Da→List A9→List A9→(World→Prop)→List A9→List A9→(World→Prop)→Prop
 | stop {B:List Nat} {ρ:Da} {l E:List A9} {I:World→Prop}:(∀ j∈B,j∉D)→Ux C ops δ isG Di B ρ l E I→US C ops δ isG Di D a B ρ l E I l E I
 | det {i:Nat} {B:List Nat} {ρ:Da} {l L E EE:List A9} {I J:World→Prop} (v:Value):Rd C ops δ l i ρ I v→(i∈D→a.tmps[Au ops i]? = some v)→US C ops δ isG Di D a B ((Au ops i,v)::ρ) l E I L EE J→US C ops δ isG Di D a (i::B) ρ l E I L EE J
 | gh {i:Nat} {B:List Nat} {ρ:Da} {l L E E' EE:List A9} {I J J':World→Prop} (v:Value) (m:List A9):isG i=true→i∈D→a.tmps[Au ops i]? = some v→US C ops δ isG Di D a B ((Au ops i,v)::ρ) (l++m) E' (fun w=>J' w∧I w) L EE J→US C ops δ isG Di D a (i::B) ρ l E I L EE J
variable {isG:Nat→Bool} {Di:Da→List A9→List A9→(World→Prop)→Prop} {L E EE:List A9}
theorem US.ext {D:List Nat} {a:Act} {B:List Nat} {ρ:Da} {I J:World→Prop} (h:US C ops δ isG Di D a B ρ l E I L EE J):∃ m,L=l++m:=by
 induction h with
 | stop _ _=>exact ⟨[],(List.append_nil _).symm⟩
 | det _ _ _ _ ih=>exact ih
 | gh _ m _ _ _ _ ih=>obtain ⟨m',rfl⟩:=ih; exact ⟨m++m',by rw [List.append_assoc]⟩
theorem US.imp {D:List Nat} {a:Act} {B:List Nat} {ρ:Da} {I J:World→Prop} (h:US C ops δ isG Di D a B ρ l E I L EE J):∀ w,J w→I w:=by
 induction h with
 | stop _ _=>exact fun _ h=>h
 | det _ _ _ _ ih=>exact ih
 | gh _ _ _ _ _ _ ih=>exact fun w h=>(ih w h).2
theorem US.mono {D D':List Nat} {a a':Act} {B:List Nat} {ρ:Da} {I J:World→Prop} (h:US C ops δ isG Di D a B ρ l E I L EE J) (hD:∀ j∈B,(j∈D'↔j∈D)) (ha:∀ j∈B,j∈D→a'.tmps[Au ops j]? = a.tmps[Au ops j]?) :
  US C ops δ isG Di D' a' B ρ l E I L EE J:=by
 induction h with
 | stop h1 h2=>exact .stop (fun j hj hd=>h1 j hj ((hD j hj).1 hd)) h2
 | det v h1 h2 _ ih=>exact .det v h1 (fun hd=>by rw [ha _ (.head _) ((hD _ (.head _)).1 hd)]; exact h2 ((hD _ (.head _)).1 hd)) (ih (fun j hj=>hD j (.tail _ hj)) (fun j hj=>ha j (.tail _ hj)))
 | gh v m h1 h2 h3 _ ih=>exact .gh v m h1 ((hD _ (.head _)).2 h2) (by rw [ha _ (.head _) h2]; exact h3) (ih (fun j hj=>hD j (.tail _ hj)) (fun j hj=>ha j (.tail _ hj)))
abbrev stepU (C:Ctx) (ops:Array Oper) (δ:List Deferred) (l E:List A9) (isG:Nat→Bool) (Di:Da→List A9→List A9→(World→Prop)→Prop) (D:List Nat) (a:Act) (i:Nat) (B:List Nat) (ρ:Da) (I:World→Prop) (a':Act) (w':World):Prop :=
 ∃ v,a'=a.put (some (Au ops i)) v∧∃ L' EE' J',US C ops δ isG Di (i::D) a' B ρ l E I L' EE' J'∧WSat C.X C.M C.w0 (L'++EE') J' w'
theorem US.step {i:Nat} {D:List Nat} {a:Act} {w:World} (hiD:i∉D)
  (hdst:(Bf ops i).dst=some (Au ops i)) (hdN:Au ops i < C.N) (hsel:∀ cs b,(Bf ops i).op≠.select cs b) (hndf:∀ c,(Bf ops i).op≠.defer c)
  (hs:a.tmps.size=C.N) (hd:a.defers=δ):∀ {B:List Nat} {ρ:Da} {l L E EE:List A9} {I J:World→Prop},US C ops δ isG Di D a B ρ l E I L EE J→i∈B→B.Nodup →
  (∀ j∈B,Au ops j < C.N)→(∀ j∈B,j≠i→Au ops j≠Au ops i)→(∀ g∈Bd i B,isG g=true→g∈D) →
  (∀ j∈Bd i B,(Hv (Bf ops i) (Au ops j)∨∃ g b,(Bf ops i).guard=some (g,b)∧(ops[g]?).bind (·.dst)=some (Au ops j))→j∈D) →
  (∀ t v,lk ρ t=some v→t < C.N)→Reads ops i ρ a→WSat C.X C.M C.w0 (L++EE) J w →
  Ax C ops (Bf ops i) (stepU C ops δ l E isG Di D a i B ρ I) Q a w:=by
 intro B ρ l L E EE I J h
 have hput:∀ (v:Value) (d:Nat),d≠Au ops i→(a.put (some (Au ops i)) v).tmps[d]? = a.tmps[d]?:=by
  intro v d hne
  simp only [Act.put,Array.getElem?_setIfInBounds]
  rw [if_neg (fun e=>hne e.symm)]
 have hputi:∀ v,(a.put (some (Au ops i)) v).tmps[Au ops i]? = some v:=by
  intro v
  simp only [Act.put,Array.getElem?_setIfInBounds]
  rw [if_pos trivial,if_pos (by omega)]
 have hltc:∀ {ρ:Da} {j:Nat} {v:Value},(∀ t v,lk ρ t=some v→t < C.N)→Au ops j < C.N→∀ t u,lk ((Au ops j,v)::ρ) t=some u→t < C.N:=by
  intro ρ j v h hj t u hu
  simp only [lk] at hu
  cases e:Nat.beq (Au ops j) t with
  | true=>have:=Nat.eq_of_beq_eq_true e; omega
  | false=>rw [e] at hu; exact h t u hu
 have inUx:∀ {B:List Nat} {ρ:Da} {l E:List A9} {I:World→Prop},Ux C ops δ isG Di B ρ l E I→(∀ j∈B,j∉D)→i∈B→B.Nodup →
   (∀ j∈B,Au ops j < C.N)→(∀ j∈B,j≠i→Au ops j≠Au ops i)→(∀ g∈Bd i B,isG g=true→g∈D) →
   (∀ j∈Bd i B,(Hv (Bf ops i) (Au ops j)∨∃ g b,(Bf ops i).guard=some (g,b)∧(ops[g]?).bind (·.dst)=some (Au ops j))→j∈D) →
   (∀ t v,lk ρ t=some v→t < C.N)→Reads ops i ρ a→∀ {J:World→Prop},(∀ w,J w→I w)→WSat C.X C.M C.w0 (l++E) J w→(∀ w,I w→J w) →
   Ax C ops (Bf ops i) (stepU C ops δ l E isG Di D a i B ρ I) Q a w:=by
  intro B ρ l E I ht
  induction ht with
  | nil _=>intro _ hi; cases hi
  | @det j B ρ l E I v rule ht ih =>
   intro hnD hi hnod hN hne hg hrd hlt hR J hJ hw hIJ
   by_cases hji:j=i
   ·subst hji
    have rule':Rg C ops δ (l++E) j ρ I (fun _:Unit=>True) (fun _=>v) (fun _=>l++E) (fun _ _=>True):=fun Q K R k=>by
     have:=rule Q K R E
     exact this (Ae (fun w h=>⟨⟨trivial,h.1⟩,h.2⟩) (k () trivial))
    refine Bs (fun a' w' h=>?_) (Fx hdst hdN hsel hndf hs hd hlt hR rule' hw hJ)
    obtain ⟨_,_,rfl,hw'⟩:=h
    refine ⟨v,rfl,l,E,I,.det v rule (fun _=>hputi v) (.stop (fun k hk hkd=>?_) ht),hw'.imp fun w h=>hJ w h.2⟩
    cases hkd with
    | head=>exact (List.nodup_cons.1 hnod).1 hk
    | tail _ h=>exact hnD k (.tail _ hk) h
   ·have hib:i∈B:=by cases hi with
     | head=>exact absurd rfl hji
     | tail _ h=>exact h
    have hbef:Bd i (j::B)=j::Bd i B:=by simp [Bd,hji]
    have hjD:j∉D:=hnD j (.head _)
    have h2:=ih (fun k hk=>hnD k (.tail _ hk)) hib (List.nodup_cons.1 hnod).2 (fun k hk=>hN k (.tail _ hk)) (fun k hk=>hne k (.tail _ hk))
     (fun g hgm=>hg g (by rw [hbef]; exact .tail _ hgm)) (fun k hk=>hrd k (by rw [hbef]; exact .tail _ hk)) (hltc hlt (hN j (.head _)))
     (hR.cons (fun hr=>absurd (hrd j (by rw [hbef]; exact .head _) (.inl hr)) hjD) (fun g b h1 h2=>absurd (hrd j (by rw [hbef]; exact .head _) (.inr ⟨g,b,h1,h2⟩)) hjD)) hJ hw hIJ
    refine Bs (fun a' w' h=>?_) h2
    obtain ⟨u,rfl,L',EE',J',hts,hw'⟩:=h
    refine ⟨u,rfl,L',EE',J',.det v rule (fun hjd=>?_) hts,hw'⟩
    cases hjd with
    | head=>exact absurd rfl hji
    | tail _ h=>exact absurd h hjD
  | @gh j B ρ l E I γ p v l' E' Jx hgj rule hext ht ih =>
   intro hnD hi hnod hN hne hg hrd hlt hR J hJ hw hIJ
   by_cases hji:j=i
   ·subst hji
    refine Bs (fun a' w' h=>?_) (Fx hdst hdN hsel hndf hs hd hlt hR rule hw hJ)
    obtain ⟨x,hx,rfl,hw'⟩:=h
    obtain ⟨m,hm⟩:=hext x
    rw [hm] at hw'
    have htx:=ht x hx
    rw [hm] at htx
    refine ⟨v x,rfl,_,_,_,.gh (J':=Jx x) (v x) m hgj (.head _) (hputi _) (.stop (fun k hk hkd=>?_) htx),hw'.imp fun w h=>⟨h.1,hJ w h.2⟩⟩
    cases hkd with
    | head=>exact (List.nodup_cons.1 hnod).1 hk
    | tail _ h=>exact hnD k (.tail _ hk) h
   ·have hbef:Bd i (j::B)=j::Bd i B:=by simp [Bd,hji]
    exact absurd (hg j (by rw [hbef]; exact .head _) hgj) (hnD j (.head _))
 induction h with
 | stop hn ht=>intro hi hnod hN hne hg hrd hlt hR hw; exact inUx ht hn hi hnod hN hne hg hrd hlt hR (fun _ h=>h) hw (fun _ h=>h)
 | @det j B ρ l L E EE I J v rule hv hts ih =>
  intro hi hnod hN hne hg hrd hlt hR hw
  by_cases hji:j=i
  ·subst hji
   obtain ⟨m,hLm⟩:=hts.ext
   have rule':Rg C ops δ (L++EE) j ρ I (fun _:Unit=>True) (fun _=>v) (fun _=>L++EE) (fun _ _=>True):=fun Q K R k=>by
    have:=rule Q K R (m++EE)
    rw [← List.append_assoc,← hLm] at this
    exact this (Ae (fun w h=>⟨⟨trivial,h.1⟩,h.2⟩) (k () trivial))
   refine Bs (fun a' w' h=>?_) (Fx hdst hdN hsel hndf hs hd hlt hR rule' hw (US.imp (.det v rule hv hts)))
   obtain ⟨_,_,rfl,hw'⟩:=h
   refine ⟨v,rfl,L,EE,J,.det v rule (fun _=>hputi v) (hts.mono (fun k hk=>?_) (fun k hk _=>hput _ _ (hne k (.tail _ hk) ?_))),hw'.imp fun w h=>h.2⟩
   ·constructor
    ·intro h; cases h with
     | head=>exact absurd hk (List.nodup_cons.1 hnod).1
     | tail _ h=>exact h
    ·exact .tail _
   ·rintro rfl; exact (List.nodup_cons.1 hnod).1 hk
  ·have hib:i∈B:=by cases hi with
    | head=>exact absurd rfl hji
    | tail _ h=>exact h
   have hbef:Bd i (j::B)=j::Bd i B:=by simp [Bd,hji]
   have h2:=ih hib (List.nodup_cons.1 hnod).2 (fun k hk=>hN k (.tail _ hk)) (fun k hk=>hne k (.tail _ hk))
    (fun g hgm=>hg g (by rw [hbef]; exact .tail _ hgm)) (fun k hk=>hrd k (by rw [hbef]; exact .tail _ hk)) (hltc hlt (hN j (.head _)))
    (hR.cons (fun hr=>hv (hrd j (by rw [hbef]; exact .head _) (.inl hr))) (fun g b h1 h2=>hv (hrd j (by rw [hbef]; exact .head _) (.inr ⟨g,b,h1,h2⟩)))) hw
   refine Bs (fun a' w' h=>?_) h2
   obtain ⟨u,rfl,L',EE',J',hts',hw'⟩:=h
   refine ⟨u,rfl,L',EE',J',.det v rule (fun hjd=>?_) hts',hw'⟩
   cases hjd with
   | head=>exact absurd rfl hji
   | tail _ h=>rw [hput _ _ (hne j (.head _) hji)]; exact hv h
 | @gh j B ρ l L E E' EE I J Jx v m hgj hjD hv hts ih =>
  intro hi hnod hN hne hg hrd hlt hR hw
  by_cases hji:j=i
  ·subst hji; exact absurd hjD hiD
  ·have hib:i∈B:=by cases hi with
    | head=>exact absurd rfl hji
    | tail _ h=>exact h
   have hbef:Bd i (j::B)=j::Bd i B:=by simp [Bd,hji]
   have h2:=ih hib (List.nodup_cons.1 hnod).2 (fun k hk=>hN k (.tail _ hk)) (fun k hk=>hne k (.tail _ hk))
    (fun g hgm=>hg g (by rw [hbef]; exact .tail _ hgm)) (fun k hk=>hrd k (by rw [hbef]; exact .tail _ hk)) (hltc hlt (hN j (.head _)))
    (hR.cons (fun _=>hv) (fun _ _ _ _=>hv)) hw
   refine Bs (fun a' w' h=>?_) h2
   obtain ⟨u,rfl,L',EE',J',hts',hw'⟩:=h
   exact ⟨u,rfl,L',EE',J',.gh v m hgj (.tail _ hjD) (by rw [hput _ _ (hne j (.head _) hji)]; exact hv) hts',hw'⟩
theorem US.done {D:List Nat} {a:Act} {w:World}:∀ {B:List Nat} {ρ:Da} {l L E EE:List A9} {I J:World→Prop},US C ops δ isG Di D a B ρ l E I L EE J→(∀ j∈B,j∈D)→Sim C.N δ ρ a→WSat C.X C.M C.w0 (L++EE) J w→∃ ρ',Di ρ' L EE J∧Sim C.N δ ρ' a:=by
 intro B ρ l L E EE I J h
 have hcons:∀ {ρ:Da} {j:Nat} {v:Value},Sim C.N δ ρ a→a.tmps[Au ops j]? = some v→Sim C.N δ ((Au ops j,v)::ρ) a:=by
  intro ρ j v hs hv
  refine ⟨hs.size,hs.dfr,fun t u hu=>?_⟩
  simp only [lk] at hu
  cases e:Nat.beq (Au ops j) t with
  | true=>rw [e] at hu; have:=Nat.eq_of_beq_eq_true e; subst this; simp at hu; subst hu; exact hv
  | false=>rw [e] at hu; exact hs.get t u hu
 induction h with
 | @stop B ρ l E I hn ht =>
  intro hall hs hw
  cases ht with
  | nil hf=>exact ⟨_,hf,hs⟩
  | det v _ _=>exact absurd (hall _ (.head _)) (hn _ (.head _))
  | gh p v l' E' J _ _ _ _=>exact absurd (hall _ (.head _)) (hn _ (.head _))
 | det v rule hv hts ih=>intro hall hs hw; exact ih (fun j hj=>hall j (.tail _ hj)) (hcons hs (hv (hall _ (.head _)))) hw
 | gh v m hg hD hv hts ih=>intro hall hs hw; exact ih (fun j hj=>hall j (.tail _ hj)) (hcons hs hv) hw
theorem dj_upd {fuel:Nat} {listed:Array Bool} (B:List Nat) (isG:Nat→Bool) (hchk:txB ops listed C.N B isG=true) (hf:Nat.ble B.length fuel=true) (hfresh:B.all (fun i=>(lk ρ (Au ops i)).isNone)=true)
  (k:Ux C ops δ isG (fun ρ' l' E' I'=>KJ C (aw C ops Q (fuel-B.length) (B.foldl (fun l i=>l.setIfInBounds i true) listed)) δ ρ' (l'++E') I') B ρ l E I) :
  KJ C (aw C ops Q fuel listed) δ ρ (l++E) I:=by
 have hf:=Nat.le_of_ble_eq_true hf
 simp only [txB,Bool.and_eq_true,beq_iff_eq,decide_eq_true_eq,List.all_eq_true,Bool.not_eq_true',Bool.or_eq_true,List.contains_iff_mem,List.mem_range] at hchk
 obtain ⟨⟨⟨⟨⟨hsz,hnd⟩,hdst⟩,hB⟩,hout⟩,hdown⟩:=hchk
 have hfresh:∀ i∈B,lk ρ (Au ops i)=none:=fun i hi=>by simpa using List.all_eq_true.1 hfresh i hi
 have main:∀ (n:Nat) (D:List Nat) (lst:Array Bool) (a:Act) (w:World) (L EE:List A9) (J:World→Prop),n+D.length=B.length→D.Nodup→(∀ j∈D,j∈B)→lst.size=ops.size →
   (∀ k,k < ops.size→(lst.getD k true=true↔listed.getD k true=true∨k∈D))→(∀ k,k < ops.size→lst.getD k true=true→∀ j∈B7 (Bf ops k),lst.getD j false=true) →
   Sim C.N δ ρ a→US C ops δ isG (fun ρ' l' E' I'=>KJ C (aw C ops Q (fuel-B.length) (B.foldl (fun l i=>l.setIfInBounds i true) listed)) δ ρ' (l'++E') I') D a B ρ l E I L EE J→WSat C.X C.M C.w0 (L++EE) J w →
   wpAnyIn (wf C.ro) 0 C.P .any ops Q (fuel-D.length) lst a w:=by
  intro n
  induction n with
  | zero =>
   intro D lst a w L EE J hn hDn hDB hls hlst _ hs hts hw
   have hall:∀ j∈B,j∈D:=by
    intro j hj
    by_cases hd:j∈D
    ·exact hd
    ·have:=Ea (l:=j::D) (m:=B) (List.nodup_cons.2 ⟨hd,hDn⟩) (fun y hy=>by cases hy with
      | head=>exact hj
      | tail _ h=>exact hDB y h)
     simp at this; omega
   have he:lst=B.foldl (fun l i=>l.setIfInBounds i true) listed:=by
    have hlt:∀ i∈B,i < listed.size:=fun i hi=>by rw [hsz]; exact (hB i hi).1.1.1.1.1.1
    apply Array.ext
    ·rw [Fz,hls,hsz]
    ·intro k hk1 hk2
     have e1:lst.getD k true=lst[k]:=by simp [Array.getD_eq_getD_getElem?,hk1]
     have e2:(B.foldl (fun l i=>l.setIfInBounds i true) listed).getD k true=(B.foldl (fun l i=>l.setIfInBounds i true) listed)[k]:=by simp [Array.getD_eq_getD_getElem?,hk2]
     rw [← e1,← e2,Gm B listed hlt k (by rw [hsz]; omega)]
     rw [Bool.eq_iff_iff,hlst k (by omega)]
     simp only [Bool.or_eq_true,List.contains_iff_mem]
     exact ⟨fun h=>h.imp id (hDB k),fun h=>h.imp id (hall k)⟩
   have hlen:D.length=B.length:=by omega
   obtain ⟨ρ',hfin,hs'⟩:=hts.done hall hs hw
   rw [he,hlen]
   exact hfin a w hs' hw
  | succ n ih =>
   intro D lst a w L EE J hn hDn hDB hls hlst hdn hs hts hw
   have hex:∃ i,i∈B∧i∉D:=by
    refine Classical.byContradiction fun hne=>?_
    have:B.length≤D.length:=Ea hnd fun i hi=>Classical.byContradiction fun hd=>hne ⟨i,hi,hd⟩
    omega
   have hDown:Down ops (fun k=>k < ops.size∧lst.getD k true=true∨ops.size≤k∧lst.getD k false=true):=by
    intro k hk j hj
    have hjl:lst.getD j false=true:=by
     rcases hk with hk | hk
     ·exact hdn k hk.1 hk.2 j hj
     ·exact absurd hk.2 (by simp [Array.getD_eq_getD_getElem?,Array.getElem?_eq_none (show lst.size≤k by omega)])
    rcases Nat.lt_or_ge j ops.size with h | h
    ·exact .inl ⟨h,by rw [Ci (by omega) true false]; exact hjl⟩
    ·exact .inr ⟨h,hjl⟩
   have hbit:∀ k,k < ops.size→(∀ j∈B7 (Bf ops k),lst.getD j false=true)→∀ j,((mks ops.toList []).getD k 0).testBit j=true→j < ops.size→lst.getD j true=true:=by
    intro k hk hb j hj hjs
    cases hm:(mks ops.toList [])[k]? with
    | none=>simp [List.getD,hm] at hj
    | some m =>
     simp only [List.getD,hm,Option.getD_some] at hj
     have:=mks_in hDown ops.toList [] rfl (fun i m hi=>by simp at hi) k m hm (fun j hj=>by
      rcases Nat.lt_or_ge j ops.size with h | h
      ·exact .inl ⟨h,by rw [Ci (by omega) true false]; exact hb j hj⟩
      ·exact .inr ⟨h,hb j hj⟩) j hj
     rcases this with h | h
     ·exact h.2
     ·omega
   have hfu:fuel-D.length=(fuel-(D.length+1))+1:=by omega
   rw [hfu]
   refine ⟨fun h0=>?_,fun i hi=>?_⟩
   ·obtain ⟨i,h1,h2,h3⟩:=Ha hex
    have hBi:=hB i h1
    have:i∈Region.ready .any ops lst:=by
     refine C1.2 ⟨hBi.1.1.1.1.1.1,?_,fun j hj=>?_⟩
     ·rw [← Bool.not_eq_true]
      intro hl
      rcases (hlst i hBi.1.1.1.1.1.1).1 hl with h | h
      ·rw [hBi.1.1.1.1.1.2] at h; cases h
      ·exact h2 h
     ·rcases hBi.1.2 j hj with h | ⟨h,h'⟩
      ·have hjs:j < ops.size:=by
        rcases Nat.lt_or_ge j ops.size with h' | h'
        ·exact h'
        ·simp [Array.getD_eq_getD_getElem?,Array.getElem?_eq_none (show listed.size≤j by omega)] at h
       rw [Ci (by omega) false true]
       exact (hlst j hjs).2 (.inl (by rw [Ci (by omega) true false]; exact h))
      ·have hjs:j < ops.size:=(hB j h).1.1.1.1.1.1
       rw [Ci (by omega) false true]
       exact (hlst j hjs).2 (.inr (h3 j h h'))
    rw [h0] at this
    cases this
   ·obtain ⟨his,hil,hib⟩:=C1.1 hi
    have hiB:i∈B:=by
     rcases hout i his with (h | h) | h
     ·exact h
     ·exact absurd ((hlst i his).2 (.inl h)) (by simp [hil])
     ·exfalso
      obtain ⟨j,hj,hjd⟩:=hex
      have hjs:=(hB j hj).1.1.1.1.1.1
      rcases (hlst j hjs).1 (hbit i his hib j (h j hj) hjs) with h' | h'
      ·rw [(hB j hj).1.1.1.1.1.2] at h'; cases h'
      ·exact hjd h'
    have hiD:i∉D:=fun h=>by
     have:=(hlst i his).2 (.inr h)
     rw [hil] at this; cases this
    have hBi:=hB i hiB
    have hbm:∀ j∈Bd i B,j∈B:=by
     have:∀ {B:List Nat} {j:Nat},j∈Bd i B→j∈B:=by
      intro B
      induction B with
      | nil=>intro j h; cases h
      | cons c B ihB =>
       intro j h
       simp only [Bd] at h
       split at h
       ·cases h
       ·cases h with
        | head=>exact .head _
        | tail _ h=>exact .tail _ (ihB h)
     exact fun j h=>this h
    have hdone:∀ j∈Bd i B,((mks ops.toList []).getD i 0).testBit j=true→j∈D:=by
     intro j hj hb
     have hjB:=hbm j hj
     have hjs:=(hB j hjB).1.1.1.1.1.1
     rcases (hlst j hjs).1 (hbit i his hib j hb hjs) with h | h
     ·rw [(hB j hjB).1.1.1.1.1.2] at h; cases h
     ·exact h
    have ho:ops[i]? = some (Bf ops i):=by simp [Bf,his]
    simp only [wpOpIn,ho]
    have hdi:(Bf ops i).dst=some (Au ops i):=by
     have:=hBi.1.1.1.1.2
     unfold Au
     cases h:(Bf ops i).dst with
     | none=>rw [h] at this; cases this
     | some d=>rfl
    have hinj:∀ j∈B,j≠i→Au ops j≠Au ops i:=by
     intro j hjB hne e
     have:∀ {B:List Nat},(B.map (Au ops)).Nodup→j∈B→i∈B→False:=by
      intro B
      induction B with
      | nil=>intro _ h; cases h
      | cons c B ihB =>
       intro hnn h1 h2
       simp only [List.map_cons,List.nodup_cons] at hnn
       cases h1 with
       | head=>cases h2 with
        | head=>exact hne rfl
        | tail _ h2=>exact hnn.1 (e ▸ List.mem_map.2 ⟨i,h2,rfl⟩)
       | tail _ h1=>cases h2 with
        | head=>exact hnn.1 (e ▸ List.mem_map.2 ⟨j,h1,rfl⟩)
        | tail _ h2=>exact ihB hnn.2 h1 h2
     exact this hdst hjB hiB
    have hst:=US.step (Q:=Q) hiD hdi hBi.1.1.2 (fun cs b e=>by have:=hBi.1.1.1.2; rw [e] at this; cases this) (fun c e=>by have:=hBi.1.1.1.2; rw [e] at this; cases this) hs.size hs.dfr hts hiB hnd
     (fun j hj=>(hB j hj).1.1.2) hinj
     (fun g hg hgg=>by
      rcases hBi.2 g hg with h | h
      ·exact hdone g hg h
      ·exact absurd hgg (by simp [h.1.1]))
     (fun j hj hr=>by
      rcases hBi.2 j hj with h | h
      ·exact hdone j hj h
      ·exfalso
       rcases hr with hr | ⟨g,b,hg,hd⟩
       ·rw [H3,h.1.2] at hr; cases hr
       ·have:=h.2
        rw [hg] at this
        simp [hd] at this)
     (fun t v hv=>by
      have:=hs.get t v hv
      have:=(Array.getElem?_eq_some_iff.1 this).1
      have:=hs.size
      omega)
     ⟨fun t _ v hv=>hs.get t v hv,fun _ _ d _ _ v hv=>hs.get d v hv⟩ hw
    have hst:=Bs (K':=wpAnyIn (wf C.ro) 0 C.P .any ops Q (fuel-(D.length+1)) (lst.setIfInBounds i true)) ?_ hst
    ·exact hst
    ·rintro a' w' ⟨v,rfl,L',EE',J',hts',hw'⟩
     exact ih (i::D) (lst.setIfInBounds i true) _ w' L' EE' J' (by simp only [List.length_cons]; omega) (List.nodup_cons.2 ⟨hiD,hDn⟩)
      (fun j hj=>by cases hj with
       | head=>exact hiB
       | tail _ h=>exact hDB j h) (by simpa using hls)
      (fun k hk=>by
       rw [Ep (by omega)]
       by_cases h:k=i
       ·subst h; simp
       ·rw [if_neg h,hlst k hk]; simp [h])
      (fun k hk hkl j hj=>by
       rw [Ep (by omega)] at hkl ⊢
       by_cases hji:j=i
       ·rw [if_pos hji]
       ·rw [if_neg hji]
        by_cases h:k=i
        ·subst h; exact hib j hj
        ·rw [if_neg h] at hkl; exact hdn k hk hkl j hj)
      ⟨by simp [Act.put,hs.size],by simp [Act.put,hs.dfr],fun t v' h=>by
       have hne:Au ops i≠t:=by rintro rfl; rw [hfresh i hiB] at h; cases h
       have:=hs.get t v' h
       simp only [Act.put,Array.getElem?_setIfInBounds]
       rw [if_neg hne]; exact this⟩ hts' hw'
 intro a w ha hw
 have:=main B.length [] listed a w l E I (by simp) (by simp) (by simp) hsz (by simp) (fun k hk hl j hj=>by
  rcases hdown k hk with h | h
  ·rw [h] at hl; cases hl
  ·exact h j hj) ha (.stop (by simp) k) hw
 simpa using this
theorem Upd.snoc {α:Type} (l:List α) (e e':α):Upd (l++[e]) e e' (l++[e']):=upd_append l .head
theorem Ux.up {i:Nat} {B:List Nat} {ρ:Da} {l E:List A9} {I:World→Prop} {Di:Da→List A9→List A9→(World→Prop)→Prop} {isG:Nat→Bool} {γ:Type} (p:γ→Prop) (v:γ→Value) (E':γ→List A9) (J:γ→World→Prop) (hG:isG i=true)
  (rule:Rg C ops δ (l++E) i ρ I p v (fun x=>l++E' x) J) (cont:∀ x,p x→Ux C ops δ isG Di B ((Au ops i,v x)::ρ) l (E' x) (fun w=>J x w∧I w)):Ux C ops δ isG Di (i::B) ρ l E I :=
 .gh p v (fun _=>l) E' J hG rule (fun _=>⟨[],by simp⟩) cont
variable {t:TypeId} {p:String} {af:Array Edge}
theorem apdE {d n m sz bytes:Nat} {s x:Operand} {st u e:TypeId} {v xv:Value} {xs news:List Value} {en:A9} (hd:Nat.blt d C.N=true) (hv:Bw ρ s=some v) (hx:Bw ρ x=some xv) (hT:ElTy C.P st e sz bytes) (hu:srcTy C.P u=true)
  (ho:Own e sz v n xs en) (hs:∀ w,(∀ r o,some (r,o)∈l++[en]→w.heap[r]? = some o)→I w→Src C.P sz xv m news w) (hb:(n+m)*bytes≤140737488355328) (h63:n+m≤maxLen)
  (k:∀ x:Value × A9,Own e sz x.1 (n+m) (xs++news) x.2→KJ C K δ ((d,x.1)::ρ) (l++[x.2]) I) :
  KJ C (Ax C ops ⟨some d,.call ⟨.builtin .append,#[s,x],#[st,u]⟩,t,p,af,none⟩ K Q) δ ρ (l++[en]) I :=
 Ku hd hv hx hT hu ho (i:=l.length) (by simp) hs hb h63 (fun v' en' h=>by
  have:=k (v',en') h
  have e:(l++[en]).set l.length en'=l++[en']:=by simp
  rw [e]; exact this)
theorem Ks {d:Nat} {f:FuncId} {g:Operand} {fs vs cs:List Value} {os:List Operand} {tys:Array TypeId} {I':World→Prop} {α:Type} {out:α→Out} {e:A9} {e':α→A9} [hne:Nonempty α]
  (hd:Nat.blt d C.N=true) (hg:Bw ρ g=some (.func (.func f) fs.toArray cs.toArray)) (ha:Args ρ os vs) (hfn:Aq C.P f=true)
  (spec:Ay C.P f (fs++vs++cs) [e] I' out) (ho:∀ x,(out x).l=[e' x]) (hI:∀ w,I w→I' w)
  (k:∀ x,(out x).p→KJ C K δ ((d,(out x).v)::ρ) (l++[e' x]) (fun w=>(out x).J w∧I w)):KJ C (Ax C ops ⟨some d,.call ⟨.value g,os.toArray,tys⟩,t,p,af,none⟩ K Q) δ ρ (l++[e]) I :=
 Ce hd hg ha hfn spec (fun x=>Upd.snoc l e (e' x)) ho hI k
theorem Hl {d:Nat} {f:FuncId} {g:Operand} {fs vs cs:List Value} {os:List Operand} {tys:Array TypeId} {lin lrest:List A9} {I':World→Prop} {α:Type} {out:α→Out}
  (hd:Nat.blt d C.N=true) (hg:Bw ρ g=some (.func (.func f) fs.toArray cs.toArray)) (ha:Args ρ os vs) (hfn:Aq C.P f=true)
  (hl:l.Perm (lin++lrest)) (spec:Ay C.P f (fs++vs++cs) lin I' out) (hI:∀ w,I w→I' w)
  (k:∀ x,(out x).p→KJ C K δ ((d,(out x).v)::ρ) ((out x).l++lrest) (fun w=>(out x).J w∧I w)):KJ C (Ax C ops ⟨some d,.call ⟨.value g,os.toArray,tys⟩,t,p,af,none⟩ K Q) δ ρ l I :=
 st_call rfl hd hg ha hfn spec hl hI k
theorem offI_one:∀ {zs:List Seg} (h:zs.all (fun s=>s.n == 1)=true) {i:Nat},i≤zs.length→Hi zs i=i:=by
 intro zs
 induction zs with
 | nil =>
  intro _ i hi
  have:i=0:=by simpa using hi
  subst this; rfl
 | cons z zs ih =>
  intro h i hi
  simp only [List.all_cons,Bool.and_eq_true,beq_iff_eq] at h
  cases i with
  | zero=>rfl
  | succ i=>simp only [Hi,h.1,ih h.2 (by simpa using hi)]; omega
theorem bldA {d len b:Nat} {tt te:TypeId} {ps:List (Nat × Operand)} {zs segs:List Seg} {agg:Bool} (hd:Nat.blt d C.N=true) (hu:C.P.underlying tt=some (.array len te)) (ht:Ty C.P te agg 1 b) (hz:Jq C.P tt zs) (h1:zs.all (fun s=>s.n == 1)=true) (hb:Bld ρ ps zs segs)
  (k:KJ C K δ ((d,av segs)::ρ) l I):KJ C (Ax C ops ⟨some d,.build tt ps.toArray,t,p,af,none⟩ K Q) δ ρ l I :=
 Bm rfl rfl (by simp) hd (fun a w ha hw=>by
  obtain ⟨z,hz,hzc⟩:=hz
  have key:Instr.fill (fun i=>some (i*1,1)) z.cells ((ps.toArray.map fun q=>(q.1,a.eval q.2)).toList)=some (flat segs).toArray:=by
   have:=hb.fill ha (place:=fun i=>some (i*1,1)) (by
    intro i n hn
    obtain ⟨s,hs,rfl⟩:=Option.map_eq_some_iff.1 hn
    have hi:=(List.getElem?_eq_some_iff.1 hs).1
    rw [offI_one h1 (by omega)]
    have:=List.all_eq_true.1 h1 s (List.mem_of_getElem? hs)
    have h:s.n=1:=by simpa using this
    rw [h,Nat.mul_one])
   rw [hzc,← this]
   simp
  simp only [execOp,Instr.build,Sem.run_bind,G6 hz,run_underlying hu,ht.size,Result.andThen_ok,Sem.run_pure,key]) k
theorem bst_eq (s u:List UInt8):((Iq s).toList == (Iq u).toList)=(s == u):=by rw [ByteArray.toList_mk,ByteArray.toList_mk]
theorem G5 {P:Program} {f:FuncId} {args:List Value} {lin:List A9} {I I':World→Prop} {α:Type} {out:α→Out} (h:Ay P f args lin I out) (hi:∀ w,I' w→I w):Ay P f args lin I' out:=fun X w hw=>h X w (hw.imp hi)
theorem B8 {d:Nat} {u v:Value} (h:u=v) (k:KJ C K δ ((d,v)::ρ) l I):KJ C K δ ((d,u)::ρ) l I:=by rw [h]; exact k
theorem fadO {d o i n b:Nat} {tf:TypeId} {x:Operand} {s:TypeId} {agg:Bool} {oa:Option Addr} (hd:Nat.blt d C.N=true) (hx:Bw ρ x=some (.pointer oa)) (hf:D3 C.P s i=some (o,tf)) (hz:Ty C.P tf agg (n+1) b) (hs:∀ w,I w→∃ b,oa=some b)
  (k:KJ C K δ ((d,.pointer (oa.map (·.add o)))::ρ) l I):KJ C (Ax C ops ⟨some d,.fieldAddr s x i,t,p,af,none⟩ K Q) δ ρ l I :=
 Bm rfl rfl (by simp) hd (fun a w ha hw=>by
  obtain ⟨b,rfl⟩:=hs w hw.fr.holds
  simp [execOp,ha.ev hx,run_fieldAt hf hz]) k
theorem Bc.atS {r off:Nat} {segs:List Seg} {te:TypeId} {w:World} {s:Seg} (h:Bc r segs te w) (hs:segAt segs off=some s):At w (some ⟨r,off,none⟩) s.cs:=h.at fun j v hv=>segAt_get hs j v hv
theorem Bc.dig {r off:Nat} {segs:List Seg} {te:TypeId} {w:World} {d:Dig} (h:Bc r segs te w) (hs:segAt segs off=some (sd d)):Sl 1 d.b.length (An d.b) (.slice (some ⟨r,off,none⟩) d.b.length d.b.length) w :=
 Bc.sl h (fun j v hv=>segAt_get hs j v hv) (by simp [Br]) (Co _) (Nat.le_refl _)
theorem Bc.rows {r n sz:Nat} {segs:List Seg} {te:TypeId} {w:World} {cs:List Value} (h:Bc r segs te w) (hc:flat segs=cs) (hn:cs.length=n*sz):Sl sz n cs (.slice (some ⟨r,0,none⟩) n n) w:=by
 subst hc
 exact Bc.sl h (fun j v hv=>by rw [Nat.zero_add]; exact hv) hn (List.all_eq_true.2 (flat_one segs)) (Nat.le_refl _)
theorem Bc.src {P:Program} {r m sz:Nat} {segs:List Seg} {te:TypeId} {w:World} {c:Nat} (h:Bc r segs te w) (hn:(flat segs).length=m*sz):Src P sz (.slice (some ⟨r,0,none⟩) m c) m (flat segs) w :=
 Src.slice (Bc.at h (fun j v hv=>by rw [Nat.zero_add]; exact hv)) hn (List.all_eq_true.2 (flat_one segs))
theorem Do {α:Type} {f:α→List Value} (hf:∀ x,(f x).all (·.oneCell')=true) (xs:List α):(xs.flatMap f).all (·.oneCell')=true:=by
 refine List.all_eq_true.2 fun v hv=>?_
 obtain ⟨x,_,hx⟩:=List.mem_flatMap.1 hv
 exact List.all_eq_true.1 (hf x) v hx
theorem Dj {α:Type} {f:α→List Value} (xs:List α) (x:α):(xs++[x]).flatMap f=xs.flatMap f++f x:=by simp
theorem J1 {L:List A9} {e:A9} (i:Nat) (k:KJ C K δ ρ (L.take i++e::L.drop i) I):KJ C K δ ρ (L++[e]) I :=
 Cn (List.perm_middle.trans (by rw [List.take_append_drop]; exact List.perm_append_comm (l₁:=[e]))) k
theorem Bx {d r n b:Nat} {x:Operand} {tt te:TypeId} {segs:List Seg} (hd:Nat.blt d C.N=true) (hx:Bw ρ x=some (Bg r 0)) (ht:Ty C.P tt true n b) (hI:∀ w,I w→Bc r segs te w) (hn:Ke segs=n)
  (kk:KJ C K δ ((d,av segs)::ρ) l I):KJ C (Ax C ops ⟨some d,.load tt x,t,p,af,none⟩ K Q) δ ρ l I :=
 D4 (cs:=flat segs) hd hx ht ((He segs).trans hn) (fun w h=>Bc.at (hI w h) (fun j v hv=>by rw [Nat.zero_add]; exact hv)) kk
theorem Gl {o:Oper} {j:Nat} {b:Bool} {d e:Nat} (hg:o.guard=some (j,b)) (hj:(ops[j]?).bind (·.dst)=some e) (hb:lk ρ e=some undef)
  (hd:o.dst=some d) (hn:Nat.blt d C.N=true)
  (k:KJ C K δ ((d,undef)::ρ) l I):KJ C (Ax C ops o K Q) δ ρ l I:=by
 intro a w ha hw
 have hy:yielded ops a.tmps j=none:=by
  simp only [yielded,hj,Option.bind_some,ha.get e _ hb]
  rfl
 have hne':((none:Option Bool) == some b)=false:=rfl
 simp only [Ax,Region.wanted,hg,hy,hne',if_false,Bool.false_eq_true]
 exact ⟨fun _ _=>trivial,by rw [hd]; exact k _ w (ha.put hn undef) hw⟩
end Go.Chx
